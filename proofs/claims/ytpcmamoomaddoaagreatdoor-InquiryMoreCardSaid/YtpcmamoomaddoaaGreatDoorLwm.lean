import Derived.Test.YtpcmamoomaddoaaGreatDoorMis
import Derived.Deep.MidRow
import Derived.Great.BuildSlice
set_option maxRecDepth 100000
set_option maxHeartbeats 32000000
namespace Go.Proofs.YtpcmamoomaddoaaGreatDoor
open Go.RowKit
open Go.Proofs.Tryz
open Lib(hid)
/-- what Account hands back, whether there is an account or not -/
def AccU(ks:List Pss)(log:List Int)(is:List Iss)(ss:List Sgt)(e:Ending)(w':World):Prop :=
 ∃(qa:Option Addr) (qn qc:Nat) (ma:Option Addr) (mn mc:Nat) (ua:Option Addr) (un uc:Nat) (va:Option Addr) (vn vc:Nat) (f:Int),e=.returned (.tuple #[.agg #[.slice qa qn qc,.slice ma mn mc,.slice ua un uc],.slice va vn vc,.int .i64 f]) /\
  (f=0->∃(c:Crw) (ns:List Int),accountB ks log is ss=.ok (c,ns)/\ns.length=vn/\CrR w' [.slice qa qn qc,.slice ma mn mc,.slice ua un uc] c/\Row w' 1 (.slice va vn vc) ns.length (ints ns))
theorem xE{ks:List Pss}{log:List Int}{is:List Iss}{ss:List Sgt}{e:Ending}{w':World}(h:AccE e w' (accountB ks log is ss)):AccU ks log is ss e w':=by
 cases hR:accountB ks log is ss with
 |error c =>
  rw[hR]at h;have h:e=.returned (.tuple #[.agg #[.slice none 0 0,.slice none 0 0,.slice none 0 0],.slice none 0 0,.int .i64 c]):=h;exact⟨none,0,0,none,0,0,none,0,0,none,0,0,c,h,fun h0=>absurd h0 (jm hR)⟩
 |ok r =>
  obtain⟨c,i⟩:=r;rw[hR]at h;obtain⟨w,l,rfl,a,f⟩:=h;obtain⟨k,m,j,rfl,d,g,b⟩:=a;obtain⟨q,p,rfl,_,_⟩:=aj.form d;obtain⟨v,u,rfl,_,_⟩:=aj.form g;obtain⟨o,n,rfl,_,_⟩:=aj.form b;obtain⟨t,s,rfl,_,_⟩:=f.form;exact⟨_,_,_,_,_,_,_,_,_,_,_,_,0,rfl,fun _=>⟨c,i,hR,rfl,⟨_,_,_,rfl,d,g,b⟩,f⟩⟩
theorem wV:(prog.info? 42).map (·.size)=some 7:=by kernel_rfl
theorem xZ:Array.range 7=#[0,1,2,3,4,5,6]:=by decide
theorem wn:Array.range 18=#[0,1,2,3,4,5,6,7,8,9,10,11,12,13,14,15,16,17]:=by decide
theorem vf{c:List Value}(h:c.length=7):Instr.fill (fun i=>some (i*7,7)) ((Array.range (1*7)).map ((Value.agg #[.int .i64 0,.slice none 0 0,.int .i64 0,.int .i64 0,.int .i64 0,.int .i64 0,.int .i64 0]).cells[· % (Value.agg #[.int .i64 0,.slice none 0 0,.int .i64 0,.int .i64 0,.int .i64 0,.int .i64 0,.int .i64 0]).cells.size]!)) [(0,.agg c.toArray)]=some c.toArray:=by
 match c,h with
 | [a,b,c,d,e,f,g],_=>simp[Instr.fill,Value.cells,xZ]
theorem qF{c:List Value}(h:c.length=18):Instr.fill (fun i=>some (i*18,18)) ((Array.range (1*18)).map ((Value.agg #[.int .i64 0,.string ⟨#[]⟩,.slice none 0 0,.int .i64 0,.slice none 0 0,.int .i64 0,.int .i64 0,.int .i64 0,.slice none 0 0,.slice none 0 0,.slice none 0 0,.slice none 0 0,.slice none 0 0,.slice none 0 0,.slice none 0 0,.slice none 0 0,.slice none 0 0,.int .i64 0]).cells[· % (Value.agg #[.int .i64 0,.string ⟨#[]⟩,.slice none 0 0,.int .i64 0,.slice none 0 0,.int .i64 0,.int .i64 0,.int .i64 0,.slice none 0 0,.slice none 0 0,.slice none 0 0,.slice none 0 0,.slice none 0 0,.slice none 0 0,.slice none 0 0,.slice none 0 0,.slice none 0 0,.int .i64 0]).cells.size]!)) [(0,.agg c.toArray)]=some c.toArray:=by
 match c,h with
 | [a0,a1,a2,a3,a4,a5,a6,a7,a8,a9,b0,b1,b2,b3,b4,b5,b6,b7],_=>simp[Instr.fill,Value.cells,wn]
theorem sT{w:World}{c:List Value}{x:Iss}(h:IssR w c x):c.length=7:=by
 obtain⟨v,o1,o2,o3,o4,o5,rfl,_⟩:=h
 rfl
theorem sS{w:World}{c:List Value}{x:Sgt}(h:SgtR w c x):c.length=18:=by
 obtain⟨ver,vp,vr,da,qu,ju,k0,k1,vl,k3,k4,k5,k6,k7,k8,rfl,_⟩:=h
 rfl
theorem more_walk{B:Nat}{w:World}{vk vl vi vs:Value}{ks:List Pss}{log:List Int}{is:List Iss}{ss:List Sgt}{ci cy:List Value}{xi:Iss}{xy:Sgt}
  (hE:EnvB B w) (hks:aj PssR 4 w vk ks) (hlog:Row w 1 vl log.length (ints log)) (his:aj IssR 7 w vi is) (hwf:∀x∈is,∀a∈x.attrs,(Lit.int .i64 a).wf=true) (hss:aj SgtR 18 w vs ss)
  (hxi:IssR w ci xi) (hwx:∀a∈xi.attrs,(Lit.int .i64 a).wf=true) (hxy:SgtR w cy xy) (hbi:is.length*72<=140737488351232) (hbs:ss.length*328<=140737488351232)
  (hsane:∀w',Kept [] w w'->Calls prog 7 #[] w' fun e w''=>e=.returned (.bool true)/\Kept [] w' w'') :
  Calls prog 5 #[vk,vl,vi,vs,.agg ci.toArray,.agg cy.toArray] w fun e w'=>e=.returned (.bool true)/\Kept [] w w':=by
 have j4:=sT hxi;have j3:=sS hxy;have e4:=lJ hxi;have e3:=iK hxy;have a1:=fun(w':World) (k:Kept [] w w')=>ji (aj.kept (w':=w') hks (fun _ _ h=>PssR.kept h k) k);obtain⟨ln,ll,rfl,ho,_⟩:=aj.form hks;obtain⟨ga,le,rfl,hn,_⟩:=hlog.form;obtain⟨T,bt,h9,en,el⟩:=id his;obtain⟨R,bs,h7,eg,e9⟩:=id hss;obtain⟨ia,ic,rfl,hp,kc⟩:=aj.form his;obtain⟨sa,sc,rfl,hj,k1⟩:=aj.form hss;obtain⟨b1,g8⟩:∃b,eb ks=b:=⟨_,rfl⟩;rw[g8]at a1;obtain⟨kn,g2⟩:∃n,ks.length=n:=⟨_,rfl⟩;obtain⟨gn,g5⟩:∃n,log.length=n:=⟨_,rfl⟩;obtain⟨iN,g3⟩:∃n,is.length=n:=⟨_,rfl⟩;obtain⟨U,fs⟩:∃n,ss.length=n:=⟨_,rfl⟩;rw[g2]at a1 hks ho ⊢;rw[g5]at hlog hn ⊢;rw[g3]at hp kc his bt el hbi ⊢;rw[fs]at hj k1 hss bs e9 hbs ⊢;have FK:=hid a1;have l3:=hid hks;have j1:=hid his;have i8:=hid hss;have ix:=hid hlog;have gp:=hid hsane;have HE:=hid hE;have km:=hid hwf;have kl:=hid hwx;have gl:=hid hxi;have gf:=hid hxy;have l9:=hid g8;have lv:=hid g2;have j2:=hid g5;have r:=hid g3;have m:=hid fs;have bp:=hid bt;have bo:=hid h9;have bn:=hid en;have i7:=hid el;have bl:=hid bs;have bk:=hid h7;have be:=hid eg;have i6:=hid e9;have gs:Hid (∀u∈T.flatten,u.oneCell'=true):=hid (mP (by rw[r.out];exact bt) en (fun _ _ h=>lJ h));have gr:Hid (∀u∈R.flatten,u.oneCell'=true):=hid (mP (by rw[m.out];exact bs) eg (fun _ _ h=>iK h))
 have J:=hid j4;have I:=hid j3;have gx:=hid e4;have gt:=hid e3;clear a1 hks his hss hlog hsane hE hwf hwx hxi hxy g8 g2 g5 g3 fs bt h9 en el bs h7 eg e9 j4 j3 e4 e3
 go_enter func5,ntmps5
 go_upto_region 1 with(fail);obtain⟨W0,ba⟩:∃y,(w.alloc (.cells ci.toArray 42)).alloc (.cells cy.toArray 61)=y:=⟨_,rfl⟩;obtain⟨bx,d9⟩:∃y,w.heap.size=y:=⟨_,rfl⟩;have hs:Kept [] w W0:=ba▸((Kept.refl _ _).alloc _).alloc _
 have i4:Blk W0 bx 42 ci.toArray:=by rw[<-ba,<-d9];exact(Blk.new _ _ _).alloc _
 have i1:Blk W0 (bx+1) 61 cy.toArray:=by
  have:=Blk.new (w.alloc (.cells ci.toArray 42)) 61 cy.toArray;rw[World.size_alloc,d9,ba]at this;exact this
 rw[ba,d9];have K0:=hid hs;have BX:=hid i4;have BY:=hid i1;clear hs i4 i1 ba d9;go_upto_region 2 with(go_at_call 7;refine(gp.out _ K0.out).mono ?_;rintro e wB ⟨rfl,kB⟩);have KB:=hid (K0.out.trans kB);have lc:=hid (BX.out.kept kB (by simp));have lb:=hid (BY.out.kept kB (by simp));have h5:Hid (Row wB 7 (.slice ia iN ic) iN T.flatten):=hid (i7.out.kept KB.out);clear kB;go_upto_region 2 with(fail);obtain⟨ip,Q,A,f,M⟩:=info_parts wU
 go_cut [14] (fun v wx=>Kept [] wB wx/\∃a c,v=.slice a (iN+1) c/\aj IssR 7 wx v (is++[xi]))
 case first =>
  refine ar [] (fun w'=>Kept [] wB w') (by kernel_rfl) (Kept.refl _ _).drew (fun hH=>?_);obtain⟨wz,fr⟩:∃y,wB.drew=y:=⟨_,rfl⟩;rw[fr]at hH ⊢;refine ah [] (i:=1) (v:=?tv1p) rfl (by kernel_rfl) (by kernel_rfl) (by kernel_rfl) (by kernel_rfl) (fun _ _ _ h=>h) (Or.inl ⟨by rfl,?ty1p⟩) hH ?tr1p
  case ty1p=>intro w' g;(try dsimp only at g);go_simp;first|done|with_reducible rfl
  (try simp only[Act.put,List.setIfInBounds_toArray,List.set_cons_zero,List.set_cons_succ])
  refine ah [] (i:=3) (v:=.agg ci.toArray) rfl (by kernel_rfl) (by kernel_rfl) (by kernel_rfl) (by kernel_rfl) (fun _ _ _ h=>h) (yieldsIf_load_mid (by rfl) 42 (.tmp 10) rfl bx 0 rfl ci _ (fun w' g j v hv=>by
   rw[Nat.zero_add]
   exact((lc.out.kept g (by simp)).cell j).trans (by simpa using hv)) underlying42 rfl (by rw[J.out];exact wV)) hH ?tr3p
  (try simp only[Act.put,List.setIfInBounds_toArray,List.set_cons_zero,List.set_cons_succ])
  refine ai (rs:=[0,4]) (by kernel_rfl) (by simp) ?_;refine ae.cons rfl (fun K hK=>?_) (ae.cons rfl (fun K hK=>?_) ae.nil)
  ·obtain⟨p,Z⟩:∃y,wz=y:=⟨_,rfl⟩;rw[Z]at hH ⊢;go_simp;have N:=dM p 42 7;have sA:wB.heap.size<=p.heap.size:=hH.size;have kA:Kept [] p (p.alloc (.cells #[] 42)):=(Kept.refl _ _).alloc _;refine hK.out _ _ (hH.alloc _) (fun hH=>?_);clear hK K
   (try simp only[Act.put,List.setIfInBounds_toArray,List.set_cons_zero,List.set_cons_succ])
   refine ai (rs:=[2,4]) (by kernel_rfl) (by simp) ?_;refine ae.cons rfl (fun K hK=>?_) (ae.cons rfl (fun K hK=>?_) ae.nil)
   ·refine aD rfl _ _ 24 rfl p.heap.size 42 ip _ 7 72 underlying24 Q A f M rfl (by decide) _ 0 [] rfl N _ iN T.flatten rfl (h5.out.kept hH) gs.out (by have:=hbi;unfold maxLen;omega) (by have:=hbi;omega) (by rw[World.size_alloc];omega) ?_;intro a2 c2 w2 D F s
    change K (Act.put _ (some 30) _) _
    rw[Nat.zero_add,List.nil_append]at D;rw[Nat.zero_add];refine hK.out _ _ (hH.fresh F (fun z hz=>by have:=aA N z hz;omega)) (fun hH=>?_);clear hK K
    (try simp only[Act.put,List.setIfInBounds_toArray,List.set_cons_zero,List.set_cons_succ])
    refine ai (rs:=[4]) (by kernel_rfl) (by simp) ?_;refine ae.cons rfl (fun K hK=>?_) ae.nil;obtain⟨C,o⟩:∃y,w2=y:=⟨_,rfl⟩;rw[o]at hH D ⊢;have bB:=Blk.new C 42 ci.toArray;have kB:Kept [] C (C.alloc (.cells ci.toArray 42)):=(Kept.refl _ _).alloc _;rw[if_pos (by rfl)];refine wp_buildSlice 24 42 1 #[(0,.tmp 31)] rfl ci.toArray ip _ underlying24 Q A (by rw[f];decide) (by rw[f];decide) (by rw[f];simp only[List.map_toArray,List.map_cons,List.map_nil];exact vf J.out) ?_
    change K (Act.put _ (some 32) _) _
    refine hK.out _ _ (hH.alloc _) (fun hH=>?_);clear hK K
    (try simp only[Act.put,List.setIfInBounds_toArray,List.set_cons_zero,List.set_cons_succ])
    have o2':=ax D kB (by simp);refine ai (rs:=[5]) (by kernel_rfl) (by simp) ?_;refine ae.cons rfl (fun K hK=>?_) ae.nil;refine aD rfl _ _ 24 rfl p.heap.size 42 ip _ 7 72 underlying24 Q A f M rfl (by decide) _ iN T.flatten rfl o2' _ 1 ci rfl (al (cs:=ci) bB (J.out) (by decide)) gx.out (by have:=hbi;unfold maxLen;omega) (by have:=hbi;omega) (by have e1:=F.size;simp only[World.size_alloc,<-o]at e1 ⊢;omega) ?_;intro a3 c3 w3 o3 k3 E
    change K (Act.put _ (some 33) _) _
    refine hK.out _ _ (hH.fresh k3 (fun z hz=>by have:=aA o2' z hz;omega)) (fun hH=>?_);clear hK K
    (try simp only[Act.put,List.setIfInBounds_toArray,List.set_cons_zero,List.set_cons_succ])
    refine ah [] (i:=6) (v:=?tv6p1) rfl (by kernel_rfl) (by kernel_rfl) (by kernel_rfl) (by kernel_rfl) (fun _ _ _ h=>h) (Or.inl ⟨by rfl,?ty6p1⟩) hH ?tr6p1
    case ty6p1=>intro w' g;(try dsimp only at g);go_simp;first|done|with_reducible rfl
    (try simp only[Act.put,List.setIfInBounds_toArray,List.set_cons_zero,List.set_cons_succ])
    refine ak (by kernel_rfl) ?_ _;go_wp2_with fail
    go_meet
    exact⟨hH,a3,c3,rfl,fJ (bp.out.trans r.out.symm) bo.out (fun k a h=>by obtain⟨c,G,s⟩:=bn.out k a h;exact⟨c,G,IssR.kept s KB.out⟩) (J.out) (IssR.kept gl.out KB.out) (fun _ _ h=>IssR.kept h hH) (by rw[r.out];exact o3) (by rw[r.out];have:=hbi;omega)⟩
   ·obtain⟨C,o⟩:∃y,p.alloc (.cells #[] 42)=y:=⟨_,rfl⟩;rw[o]at hH N ⊢;have bB:=Blk.new C 42 ci.toArray;have kB:Kept [] C (C.alloc (.cells ci.toArray 42)):=(Kept.refl _ _).alloc _;rw[if_pos (by rfl)];refine wp_buildSlice 24 42 1 #[(0,.tmp 31)] rfl ci.toArray ip _ underlying24 Q A (by rw[f];decide) (by rw[f];decide) (by rw[f];simp only[List.map_toArray,List.map_cons,List.map_nil];exact vf J.out) ?_
    change K (Act.put _ (some 32) _) _
    refine hK.out _ _ (hH.alloc _) (fun hH=>?_);clear hK K
    (try simp only[Act.put,List.setIfInBounds_toArray,List.set_cons_zero,List.set_cons_succ])
    have gA:=aA N;have oA':=ax N kB (by simp);refine ai (rs:=[2]) (by kernel_rfl) (by simp) ?_;refine ae.cons rfl (fun K hK=>?_) ae.nil;refine aD rfl _ _ 24 rfl p.heap.size 42 ip _ 7 72 underlying24 Q A f M rfl (by decide) _ 0 [] rfl oA' _ iN T.flatten rfl (h5.out.kept hH) gs.out (by have:=hbi;unfold maxLen;omega) (by have:=hbi;omega) (by rw[World.size_alloc,<-o,World.size_alloc];omega) ?_;intro a2 c2 w2 D F s
    change K (Act.put _ (some 30) _) _
    rw[Nat.zero_add,List.nil_append]at D;rw[Nat.zero_add];refine hK.out _ _ (hH.fresh F (fun z hz=>by have:=aA oA' z hz;omega)) (fun hH=>?_);clear hK K
    (try simp only[Act.put,List.setIfInBounds_toArray,List.set_cons_zero,List.set_cons_succ])
    have bB':=bB.kept F (fun hm=>by have:=gA _ hm;omega);refine ai (rs:=[5]) (by kernel_rfl) (by simp) ?_;refine ae.cons rfl (fun K hK=>?_) ae.nil;refine aD rfl _ _ 24 rfl p.heap.size 42 ip _ 7 72 underlying24 Q A f M rfl (by decide) _ iN T.flatten rfl D _ 1 ci rfl (al (cs:=ci) bB' (J.out) (by decide)) gx.out (by have:=hbi;unfold maxLen;omega) (by have:=hbi;omega) (by have e1:=F.size;simp only[World.size_alloc,<-o]at e1 ⊢;omega) ?_;intro a3 c3 w3 o3 k3 E
    change K (Act.put _ (some 33) _) _
    refine hK.out _ _ (hH.fresh k3 (fun z hz=>by have:=aA D z hz;omega)) (fun hH=>?_);clear hK K
    (try simp only[Act.put,List.setIfInBounds_toArray,List.set_cons_zero,List.set_cons_succ])
    refine ah [] (i:=6) (v:=?tv6p2) rfl (by kernel_rfl) (by kernel_rfl) (by kernel_rfl) (by kernel_rfl) (fun _ _ _ h=>h) (Or.inl ⟨by rfl,?ty6p2⟩) hH ?tr6p2
    case ty6p2=>intro w' g;(try dsimp only at g);go_simp;first|done|with_reducible rfl
    (try simp only[Act.put,List.setIfInBounds_toArray,List.set_cons_zero,List.set_cons_succ])
    refine ak (by kernel_rfl) ?_ _;go_wp2_with fail
    go_meet
    exact⟨hH,a3,c3,rfl,fJ (bp.out.trans r.out.symm) bo.out (fun k a h=>by obtain⟨c,G,s⟩:=bn.out k a h;exact⟨c,G,IssR.kept s KB.out⟩) (J.out) (IssR.kept gl.out KB.out) (fun _ _ h=>IssR.kept h hH) (by rw[r.out];exact o3) (by rw[r.out];have:=hbi;omega)⟩
  ·obtain⟨C,o⟩:∃y,wz=y:=⟨_,rfl⟩;rw[o]at hH ⊢;have bB:=Blk.new C 42 ci.toArray;have kB:Kept [] C (C.alloc (.cells ci.toArray 42)):=(Kept.refl _ _).alloc _;rw[if_pos (by rfl)];refine wp_buildSlice 24 42 1 #[(0,.tmp 31)] rfl ci.toArray ip _ underlying24 Q A (by rw[f];decide) (by rw[f];decide) (by rw[f];simp only[List.map_toArray,List.map_cons,List.map_nil];exact vf J.out) ?_
   change K (Act.put _ (some 32) _) _
   refine hK.out _ _ (hH.alloc _) (fun hH=>?_);clear hK K
   (try simp only[Act.put,List.setIfInBounds_toArray,List.set_cons_zero,List.set_cons_succ])
   refine ai (rs:=[0]) (by kernel_rfl) (by simp) ?_;refine ae.cons rfl (fun K hK=>?_) ae.nil;have sB:=bB.lt;obtain⟨p,Z⟩:∃y,C.alloc (.cells ci.toArray 42)=y:=⟨_,rfl⟩;rw[Z]at hH bB sB ⊢;go_simp;have N:=dM p 42 7;have sA:wB.heap.size<=p.heap.size:=hH.size;have kA:Kept [] p (p.alloc (.cells #[] 42)):=(Kept.refl _ _).alloc _;refine hK.out _ _ (hH.alloc _) (fun hH=>?_);clear hK K
   (try simp only[Act.put,List.setIfInBounds_toArray,List.set_cons_zero,List.set_cons_succ])
   have g9:=bB.kept kA (by simp);refine ai (rs:=[2]) (by kernel_rfl) (by simp) ?_;refine ae.cons rfl (fun K hK=>?_) ae.nil;refine aD rfl _ _ 24 rfl p.heap.size 42 ip _ 7 72 underlying24 Q A f M rfl (by decide) _ 0 [] rfl N _ iN T.flatten rfl (h5.out.kept hH) gs.out (by have:=hbi;unfold maxLen;omega) (by have:=hbi;omega) (by rw[World.size_alloc];omega) ?_;intro a2 c2 w2 D F s
   change K (Act.put _ (some 30) _) _
   rw[Nat.zero_add,List.nil_append]at D;rw[Nat.zero_add];refine hK.out _ _ (hH.fresh F (fun z hz=>by have:=aA N z hz;omega)) (fun hH=>?_);clear hK K
   (try simp only[Act.put,List.setIfInBounds_toArray,List.set_cons_zero,List.set_cons_succ])
   have bB':=g9.kept F (fun hm=>by have:=aA N _ hm;omega);refine ai (rs:=[5]) (by kernel_rfl) (by simp) ?_;refine ae.cons rfl (fun K hK=>?_) ae.nil;refine aD rfl _ _ 24 rfl p.heap.size 42 ip _ 7 72 underlying24 Q A f M rfl (by decide) _ iN T.flatten rfl D _ 1 ci rfl (al (cs:=ci) bB' (J.out) (by decide)) gx.out (by have:=hbi;unfold maxLen;omega) (by have:=hbi;omega) (by have e1:=F.size;simp only[World.size_alloc]at e1 ⊢;omega) ?_;intro a3 c3 w3 o3 k3 E
   change K (Act.put _ (some 33) _) _
   refine hK.out _ _ (hH.fresh k3 (fun z hz=>by have:=aA D z hz;omega)) (fun hH=>?_);clear hK K
   (try simp only[Act.put,List.setIfInBounds_toArray,List.set_cons_zero,List.set_cons_succ])
   refine ah [] (i:=6) (v:=?tv6p3) rfl (by kernel_rfl) (by kernel_rfl) (by kernel_rfl) (by kernel_rfl) (fun _ _ _ h=>h) (Or.inl ⟨by rfl,?ty6p3⟩) hH ?tr6p3
   case ty6p3=>intro w' g;(try dsimp only at g);go_simp;first|done|with_reducible rfl
   (try simp only[Act.put,List.setIfInBounds_toArray,List.set_cons_zero,List.set_cons_succ])
   refine ak (by kernel_rfl) ?_ _;go_wp2_with fail
   go_meet
   exact⟨hH,a3,c3,rfl,fJ (bp.out.trans r.out.symm) bo.out (fun k a h=>by obtain⟨c,G,s⟩:=bn.out k a h;exact⟨c,G,IssR.kept s KB.out⟩) (J.out) (IssR.kept gl.out KB.out) (fun _ _ h=>IssR.kept h hH) (by rw[r.out];exact o3) (by rw[r.out];have:=hbi;omega)⟩
 case rest =>
 obtain⟨kp,ap,cp,rfl,rp⟩:=hcut;obtain⟨wC,hh⟩:∃y,wc=y:=⟨_,rfl⟩;rw[hh]at kp rp ⊢;have KC:=hid (KB.out.trans kp);have RP:=hid rp;have la:=hid (lb.out.kept kp (by simp));have gm:Hid (Row wC 18 (.slice sa U sc) U R.flatten):=hid (i6.out.kept KC.out);clear hh kp rp;go_upto_region 3 with(fail);obtain⟨iq,O,t,d,L⟩:=info_parts rj
 go_cut [15] (fun v wx=>Kept [] wC wx/\∃a c,v=.slice a (U+1) c/\aj SgtR 18 wx v (ss++[xy]))
 case first =>
  refine ar [] (fun w'=>Kept [] wC w') (by kernel_rfl) (Kept.refl _ _).drew (fun hH=>?_);obtain⟨wz,fr⟩:∃y,wC.drew=y:=⟨_,rfl⟩;rw[fr]at hH ⊢;refine ah [] (i:=1) (v:=?tv1q) rfl (by kernel_rfl) (by kernel_rfl) (by kernel_rfl) (by kernel_rfl) (fun _ _ _ h=>h) (Or.inl ⟨by rfl,?ty1q⟩) hH ?tr1q
  case ty1q=>intro w' g;(try dsimp only at g);go_simp;first|done|with_reducible rfl
  (try simp only[Act.put,List.setIfInBounds_toArray,List.set_cons_zero,List.set_cons_succ])
  refine ah [] (i:=3) (v:=.agg cy.toArray) rfl (by kernel_rfl) (by kernel_rfl) (by kernel_rfl) (by kernel_rfl) (fun _ _ _ h=>h) (yieldsIf_load_mid (by rfl) 61 (.tmp 11) rfl (bx+1) 0 rfl cy _ (fun w' g j v hv=>by
   rw[Nat.zero_add]
   exact((la.out.kept g (by simp)).cell j).trans (by simpa using hv)) underlying61 rfl (by rw[I.out];exact ij)) hH ?tr3q
  (try simp only[Act.put,List.setIfInBounds_toArray,List.set_cons_zero,List.set_cons_succ])
  refine ai (rs:=[0,4]) (by kernel_rfl) (by simp) ?_;refine ae.cons rfl (fun K hK=>?_) (ae.cons rfl (fun K hK=>?_) ae.nil)
  ·obtain⟨p,Z⟩:∃y,wz=y:=⟨_,rfl⟩;rw[Z]at hH ⊢;go_simp;have N:=dM p 61 18;have sA:wC.heap.size<=p.heap.size:=hH.size;have kA:Kept [] p (p.alloc (.cells #[] 61)):=(Kept.refl _ _).alloc _;refine hK.out _ _ (hH.alloc _) (fun hH=>?_);clear hK K
   (try simp only[Act.put,List.setIfInBounds_toArray,List.set_cons_zero,List.set_cons_succ])
   refine ai (rs:=[2,4]) (by kernel_rfl) (by simp) ?_;refine ae.cons rfl (fun K hK=>?_) (ae.cons rfl (fun K hK=>?_) ae.nil)
   ·refine aD rfl _ _ 25 rfl p.heap.size 61 iq _ 18 328 underlying25 O t d L rfl (by decide) _ 0 [] rfl N _ U R.flatten rfl (gm.out.kept hH) gr.out (by have:=hbs;unfold maxLen;omega) (by have:=hbs;omega) (by rw[World.size_alloc];omega) ?_;intro a2 c2 w2 D F s
    change K (Act.put _ (some 36) _) _
    rw[Nat.zero_add,List.nil_append]at D;rw[Nat.zero_add];refine hK.out _ _ (hH.fresh F (fun z hz=>by have:=aA N z hz;omega)) (fun hH=>?_);clear hK K
    (try simp only[Act.put,List.setIfInBounds_toArray,List.set_cons_zero,List.set_cons_succ])
    refine ai (rs:=[4]) (by kernel_rfl) (by simp) ?_;refine ae.cons rfl (fun K hK=>?_) ae.nil;obtain⟨C,o⟩:∃y,w2=y:=⟨_,rfl⟩;rw[o]at hH D ⊢;have bB:=Blk.new C 61 cy.toArray;have kB:Kept [] C (C.alloc (.cells cy.toArray 61)):=(Kept.refl _ _).alloc _;rw[if_pos (by rfl)];refine wp_buildSlice 25 61 1 #[(0,.tmp 37)] rfl cy.toArray iq _ underlying25 O t (by rw[d];decide) (by rw[d];decide) (by rw[d];simp only[List.map_toArray,List.map_cons,List.map_nil];exact qF I.out) ?_
    change K (Act.put _ (some 38) _) _
    refine hK.out _ _ (hH.alloc _) (fun hH=>?_);clear hK K
    (try simp only[Act.put,List.setIfInBounds_toArray,List.set_cons_zero,List.set_cons_succ])
    have o2':=ax D kB (by simp);refine ai (rs:=[5]) (by kernel_rfl) (by simp) ?_;refine ae.cons rfl (fun K hK=>?_) ae.nil;refine aD rfl _ _ 25 rfl p.heap.size 61 iq _ 18 328 underlying25 O t d L rfl (by decide) _ U R.flatten rfl o2' _ 1 cy rfl (al (cs:=cy) bB (I.out) (by decide)) gt.out (by have:=hbs;unfold maxLen;omega) (by have:=hbs;omega) (by have e1:=F.size;simp only[World.size_alloc,<-o]at e1 ⊢;omega) ?_;intro a3 c3 w3 o3 k3 E
    change K (Act.put _ (some 39) _) _
    refine hK.out _ _ (hH.fresh k3 (fun z hz=>by have:=aA o2' z hz;omega)) (fun hH=>?_);clear hK K
    (try simp only[Act.put,List.setIfInBounds_toArray,List.set_cons_zero,List.set_cons_succ])
    refine ah [] (i:=6) (v:=?tv6q1) rfl (by kernel_rfl) (by kernel_rfl) (by kernel_rfl) (by kernel_rfl) (fun _ _ _ h=>h) (Or.inl ⟨by rfl,?ty6q1⟩) hH ?tr6q1
    case ty6q1=>intro w' g;(try dsimp only at g);go_simp;first|done|with_reducible rfl
    (try simp only[Act.put,List.setIfInBounds_toArray,List.set_cons_zero,List.set_cons_succ])
    refine ak (by kernel_rfl) ?_ _;go_wp2_with fail
    go_meet
    exact⟨hH,a3,c3,rfl,fJ (bl.out.trans m.out.symm) bk.out (fun k a h=>by obtain⟨c,G,s⟩:=be.out k a h;exact⟨c,G,SgtR.kept s KC.out⟩) (I.out) (SgtR.kept gf.out KC.out) (fun _ _ h=>SgtR.kept h hH) (by rw[m.out];exact o3) (by rw[m.out];have:=hbs;omega)⟩
   ·obtain⟨C,o⟩:∃y,p.alloc (.cells #[] 61)=y:=⟨_,rfl⟩;rw[o]at hH N ⊢;have bB:=Blk.new C 61 cy.toArray;have kB:Kept [] C (C.alloc (.cells cy.toArray 61)):=(Kept.refl _ _).alloc _;rw[if_pos (by rfl)];refine wp_buildSlice 25 61 1 #[(0,.tmp 37)] rfl cy.toArray iq _ underlying25 O t (by rw[d];decide) (by rw[d];decide) (by rw[d];simp only[List.map_toArray,List.map_cons,List.map_nil];exact qF I.out) ?_
    change K (Act.put _ (some 38) _) _
    refine hK.out _ _ (hH.alloc _) (fun hH=>?_);clear hK K
    (try simp only[Act.put,List.setIfInBounds_toArray,List.set_cons_zero,List.set_cons_succ])
    have gA:=aA N;have oA':=ax N kB (by simp);refine ai (rs:=[2]) (by kernel_rfl) (by simp) ?_;refine ae.cons rfl (fun K hK=>?_) ae.nil;refine aD rfl _ _ 25 rfl p.heap.size 61 iq _ 18 328 underlying25 O t d L rfl (by decide) _ 0 [] rfl oA' _ U R.flatten rfl (gm.out.kept hH) gr.out (by have:=hbs;unfold maxLen;omega) (by have:=hbs;omega) (by rw[World.size_alloc,<-o,World.size_alloc];omega) ?_;intro a2 c2 w2 D F s
    change K (Act.put _ (some 36) _) _
    rw[Nat.zero_add,List.nil_append]at D;rw[Nat.zero_add];refine hK.out _ _ (hH.fresh F (fun z hz=>by have:=aA oA' z hz;omega)) (fun hH=>?_);clear hK K
    (try simp only[Act.put,List.setIfInBounds_toArray,List.set_cons_zero,List.set_cons_succ])
    have bB':=bB.kept F (fun hm=>by have:=gA _ hm;omega);refine ai (rs:=[5]) (by kernel_rfl) (by simp) ?_;refine ae.cons rfl (fun K hK=>?_) ae.nil;refine aD rfl _ _ 25 rfl p.heap.size 61 iq _ 18 328 underlying25 O t d L rfl (by decide) _ U R.flatten rfl D _ 1 cy rfl (al (cs:=cy) bB' (I.out) (by decide)) gt.out (by have:=hbs;unfold maxLen;omega) (by have:=hbs;omega) (by have e1:=F.size;simp only[World.size_alloc,<-o]at e1 ⊢;omega) ?_;intro a3 c3 w3 o3 k3 E
    change K (Act.put _ (some 39) _) _
    refine hK.out _ _ (hH.fresh k3 (fun z hz=>by have:=aA D z hz;omega)) (fun hH=>?_);clear hK K
    (try simp only[Act.put,List.setIfInBounds_toArray,List.set_cons_zero,List.set_cons_succ])
    refine ah [] (i:=6) (v:=?tv6q2) rfl (by kernel_rfl) (by kernel_rfl) (by kernel_rfl) (by kernel_rfl) (fun _ _ _ h=>h) (Or.inl ⟨by rfl,?ty6q2⟩) hH ?tr6q2
    case ty6q2=>intro w' g;(try dsimp only at g);go_simp;first|done|with_reducible rfl
    (try simp only[Act.put,List.setIfInBounds_toArray,List.set_cons_zero,List.set_cons_succ])
    refine ak (by kernel_rfl) ?_ _;go_wp2_with fail
    go_meet
    exact⟨hH,a3,c3,rfl,fJ (bl.out.trans m.out.symm) bk.out (fun k a h=>by obtain⟨c,G,s⟩:=be.out k a h;exact⟨c,G,SgtR.kept s KC.out⟩) (I.out) (SgtR.kept gf.out KC.out) (fun _ _ h=>SgtR.kept h hH) (by rw[m.out];exact o3) (by rw[m.out];have:=hbs;omega)⟩
  ·obtain⟨C,o⟩:∃y,wz=y:=⟨_,rfl⟩;rw[o]at hH ⊢;have bB:=Blk.new C 61 cy.toArray;have kB:Kept [] C (C.alloc (.cells cy.toArray 61)):=(Kept.refl _ _).alloc _;rw[if_pos (by rfl)];refine wp_buildSlice 25 61 1 #[(0,.tmp 37)] rfl cy.toArray iq _ underlying25 O t (by rw[d];decide) (by rw[d];decide) (by rw[d];simp only[List.map_toArray,List.map_cons,List.map_nil];exact qF I.out) ?_
   change K (Act.put _ (some 38) _) _
   refine hK.out _ _ (hH.alloc _) (fun hH=>?_);clear hK K
   (try simp only[Act.put,List.setIfInBounds_toArray,List.set_cons_zero,List.set_cons_succ])
   refine ai (rs:=[0]) (by kernel_rfl) (by simp) ?_;refine ae.cons rfl (fun K hK=>?_) ae.nil;have sB:=bB.lt;obtain⟨p,Z⟩:∃y,C.alloc (.cells cy.toArray 61)=y:=⟨_,rfl⟩;rw[Z]at hH bB sB ⊢;go_simp;have N:=dM p 61 18;have sA:wC.heap.size<=p.heap.size:=hH.size;have kA:Kept [] p (p.alloc (.cells #[] 61)):=(Kept.refl _ _).alloc _;refine hK.out _ _ (hH.alloc _) (fun hH=>?_);clear hK K
   (try simp only[Act.put,List.setIfInBounds_toArray,List.set_cons_zero,List.set_cons_succ])
   have g9:=bB.kept kA (by simp);refine ai (rs:=[2]) (by kernel_rfl) (by simp) ?_;refine ae.cons rfl (fun K hK=>?_) ae.nil;refine aD rfl _ _ 25 rfl p.heap.size 61 iq _ 18 328 underlying25 O t d L rfl (by decide) _ 0 [] rfl N _ U R.flatten rfl (gm.out.kept hH) gr.out (by have:=hbs;unfold maxLen;omega) (by have:=hbs;omega) (by rw[World.size_alloc];omega) ?_;intro a2 c2 w2 D F s
   change K (Act.put _ (some 36) _) _
   rw[Nat.zero_add,List.nil_append]at D;rw[Nat.zero_add];refine hK.out _ _ (hH.fresh F (fun z hz=>by have:=aA N z hz;omega)) (fun hH=>?_);clear hK K
   (try simp only[Act.put,List.setIfInBounds_toArray,List.set_cons_zero,List.set_cons_succ])
   have bB':=g9.kept F (fun hm=>by have:=aA N _ hm;omega);refine ai (rs:=[5]) (by kernel_rfl) (by simp) ?_;refine ae.cons rfl (fun K hK=>?_) ae.nil;refine aD rfl _ _ 25 rfl p.heap.size 61 iq _ 18 328 underlying25 O t d L rfl (by decide) _ U R.flatten rfl D _ 1 cy rfl (al (cs:=cy) bB' (I.out) (by decide)) gt.out (by have:=hbs;unfold maxLen;omega) (by have:=hbs;omega) (by have e1:=F.size;simp only[World.size_alloc]at e1 ⊢;omega) ?_;intro a3 c3 w3 o3 k3 E
   change K (Act.put _ (some 39) _) _
   refine hK.out _ _ (hH.fresh k3 (fun z hz=>by have:=aA D z hz;omega)) (fun hH=>?_);clear hK K
   (try simp only[Act.put,List.setIfInBounds_toArray,List.set_cons_zero,List.set_cons_succ])
   refine ah [] (i:=6) (v:=?tv6q3) rfl (by kernel_rfl) (by kernel_rfl) (by kernel_rfl) (by kernel_rfl) (fun _ _ _ h=>h) (Or.inl ⟨by rfl,?ty6q3⟩) hH ?tr6q3
   case ty6q3=>intro w' g;(try dsimp only at g);go_simp;first|done|with_reducible rfl
   (try simp only[Act.put,List.setIfInBounds_toArray,List.set_cons_zero,List.set_cons_succ])
   refine ak (by kernel_rfl) ?_ _;go_wp2_with fail
   go_meet
   exact⟨hH,a3,c3,rfl,fJ (bl.out.trans m.out.symm) bk.out (fun k a h=>by obtain⟨c,G,s⟩:=be.out k a h;exact⟨c,G,SgtR.kept s KC.out⟩) (I.out) (SgtR.kept gf.out KC.out) (fun _ _ h=>SgtR.kept h hH) (by rw[m.out];exact o3) (by rw[m.out];have:=hbs;omega)⟩
 case rest =>
 obtain⟨kq,aq,cq,rfl,rq⟩:=hcut;obtain⟨wD,hg⟩:∃y,wc=y:=⟨_,rfl⟩;rw[hg]at kq rq ⊢;have KD:=hid (KC.out.trans kq);have RQ:=hid rq;have gb:=hid (aj.kept (w':=wD) RP.out (fun _ _ h=>IssR.kept h kq) kq);clear hg kq rq RP;obtain⟨i2,g4⟩:∃l,is++[xi]=l:=⟨_,rfl⟩;obtain⟨s2,fv⟩:∃l,ss++[xy]=l:=⟨_,rfl⟩;obtain⟨b2,g7⟩:∃b,cP i2 9=b:=⟨_,rfl⟩;obtain⟨b3,g6⟩:∃b,cO s2 6=b:=⟨_,rfl⟩;have d8:=fun(w':World) (k:Kept [] wD w')=>gw 9 (by decide) (aj.kept (w':=w') gb.out (fun _ _ h=>IssR.kept h k) k);have d7:=fun(w':World) (k:Kept [] wD w')=>gv 6 (by decide) (aj.kept (w':=w') RQ.out (fun _ _ h=>SgtR.kept h k) k);have g0:=gb.out;have fz:=RQ.out;rw[g4]at d8 g0;rw[fv]at d7 fz;rw[g7]at d8;rw[g6]at d7;have FI:=hid d8;have FZ:=hid d7;have kv:=hid g0;have kt:=hid fz;have l8:=hid g7;have l7:=hid g6;have dq:=hid g4;have dn:=hid fv;clear d8 d7 g0 fz g7 g6 g4 fv gb RQ
 cases b1 with
 |false =>
  go_wp2_with (go_at_call 8;refine(FK.out _ KD.out).mono ?_;rintro e w6 ⟨rfl,X⟩);go_ret;exact⟨rfl,KD.out.trans X⟩
 |true =>
 by_cases hg18:18 < gn
 ·have hg18':(18:Int) < (gn:Int):=by omega
  go_wp2_with (go_at_call 8;refine(FK.out _ KD.out).mono ?_;rintro e w6 ⟨rfl,X⟩);go_ret;exact⟨rfl,KD.out.trans X⟩
 have hg18':¬(18:Int) < (gn:Int):=by omega
 cases b2 with
 |false =>
  go_wp2_with (first
   |(go_at_call 8;refine(FK.out _ KD.out).mono ?_;rintro e w6 ⟨rfl,X⟩)
   |(go_at_call 9;refine(FI.out _ X).mono ?_;rintro e w7 ⟨rfl,V⟩))
  go_ret;exact⟨rfl,(KD.out.trans X).trans V⟩
 |true =>
 cases b3 with
 |false =>
  go_wp2_with (first
   |(go_at_call 8;refine(FK.out _ KD.out).mono ?_;rintro e w6 ⟨rfl,X⟩)
   |(go_at_call 9;refine(FI.out _ X).mono ?_;rintro e w7 ⟨rfl,V⟩;have an:=X.trans V)
   |(go_at_call 10;refine(FZ.out _ an).mono ?_;rintro e w8 ⟨rfl,k8⟩))
  go_ret;exact⟨rfl,(KD.out.trans an).trans k8⟩
 |true =>
 go_upto_region 6 with(first
  |(go_at_call 8;refine(FK.out _ KD.out).mono ?_;rintro e w6 ⟨rfl,X⟩)
  |(go_at_call 9;refine(FI.out _ X).mono ?_;rintro e w7 ⟨rfl,V⟩;have an:=X.trans V)
  |(go_at_call 10;refine(FZ.out _ an).mono ?_;rintro e w8 ⟨rfl,k8⟩;have f9:=an.trans k8))
 have a1:=rA l9.out;have aa:=rC l8.out;have a9:=rz l7.out
 have ls:iN+1<=9:=by have:=aa.1;rw[<-dq.out,List.length_append,r.out,List.length_singleton]at this;exact this
 have lo:U+1<=6:=by have:=a9.1;rw[<-dn.out,List.length_append,m.out,List.length_singleton]at this;exact this
 have he:∀x∈s2,x.q.length<=300:=a9.2
 have hf:∀x∈i2,(∀a∈x.attrs,(Lit.int .i64 a).wf=true)/\x.attrs.length<=100000:=fun x hx=>⟨by
  rw[<-dq.out]at hx
  rcases List.mem_append.1 hx with h|h
  ·exact km.out x h
  ·rw[List.mem_singleton.1 h];exact kl.out,by have:=aa.2 x hx;omega⟩
 have e2:=fun(w':World) (k:Kept [] w w') (vI vS:Value) (i3:List Iss) (s3:List Sgt) (hv:aj IssR 7 w' vI i3) (hx:∀x∈i3,x∈i2) (hl:i3.length<=9) (hu:aj SgtR 18 w' vS s3) (hy:∀x∈s3,x∈s2) (hm:s3.length<=6) =>
  (fN (HE.out.kept0 k) (aj.kept (w':=w') l3.out (fun _ _ h=>PssR.kept h k) k) a1 (by rw[j2.out];exact ix.out.kept k) hv (fun x h=>hf x (hx x h)) hu (fun x h=>by have:=he x (hy x h);omega) (by have:=j2.out;omega) (by omega) (by omega)).mono fun e w'' h=>(⟨h.1,xE h.2⟩:Kept [] w' w''/\AccU ks log i3 s3 e w'')
 have br:=hid e2;have K8:=hid (KD.out.trans f9);have dc:=hid f9;have it:Hid (∀x∈is,x∈i2):=hid fun x h=>dq.out▸List.mem_append_left _ h;have ih:Hid (∀x∈ss,x∈s2):=hid fun x h=>dn.out▸List.mem_append_left _ h;have a4:Hid (i2.length<=9/\s2.length<=6):=hid ⟨aa.1,a9.1⟩;clear e2 a1 aa a9 he hf X V k8 an f9 FK FI FZ;go_upto_region 7 with(go_at_call 18;refine(br.out _ K8.out _ _ is ss (aj.kept (w':=w8) j1.out (fun _ _ h=>IssR.kept h K8.out) K8.out) it.out (by have:=r.out;have:=a4.out;omega) (aj.kept (w':=w8) i8.out (fun _ _ h=>SgtR.kept h K8.out) K8.out) ih.out (by have:=m.out;have:=a4.out;omega)).mono ?_;rintro e e8 ⟨f8,ey,ev,ex,f5,f0,f4,es,eq,er,j7,h8,j6,f1,rfl,i0⟩);obtain⟨kk,b9⟩:∃y,e8.heap.size=y:=⟨_,rfl⟩;obtain⟨ag,a7⟩:∃y,e8.alloc (.cells #[.slice ey ev ex,.slice f5 f0 f4,.slice es eq er] 67)=y:=⟨_,rfl⟩;have b5:Kept [] e8 ag:=a7▸(Kept.refl _ _).alloc _
 have ad:Blk ag kk 67 #[.slice ey ev ex,.slice f5 f0 f4,.slice es eq er]:=by rw[<-a7,<-b9];exact Blk.new _ _ _
 rw[a7,b9];have bc:=hid ((K8.out.trans f8).trans b5)
 have l6:Hid (f1=0->∃(c:Crw) (ns:List Int),accountB ks log is ss=.ok (c,ns)/\ns.length=h8/\CrR ag [.slice ey ev ex,.slice f5 f0 f4,.slice es eq er] c/\Row ag 1 (.slice j7 h8 j6) ns.length (ints ns)):=hid fun h0=>by
  obtain⟨c,ns,G,s,E,h4⟩:=i0 h0;exact⟨c,ns,G,s,E.kept b5,h4.kept b5⟩
 have A0:=hid (Kept.cellOf (ad.cell 0));have A1:=hid (Kept.cellOf (ad.cell 1));have A2:=hid (Kept.cellOf (ad.cell 2));have da:=hid (f8.trans b5);clear i0 f8 b5 ad b9 a7;go_upto_region 8 with(go_at_call 18;refine(br.out _ bc.out _ _ i2 ss (aj.kept (w':=ag) kv.out (fun _ _ h=>IssR.kept h (dc.out.trans da.out)) (dc.out.trans da.out)) (fun _ h=>h) (by have:=r.out;have:=a4.out;omega) (aj.kept (w':=ag) i8.out (fun _ _ h=>SgtR.kept h bc.out) bc.out) ih.out (by have:=m.out;have:=a4.out;omega)).mono ?_;rintro e e7 ⟨f7,cv,cl,co,d6,cz,d4,c8,c4,c6,hd,ek,hb,f2,rfl,hw⟩);obtain⟨kf,b8⟩:∃y,e7.heap.size=y:=⟨_,rfl⟩;obtain⟨Y,a6⟩:∃y,e7.alloc (.cells #[.slice cv cl co,.slice d6 cz d4,.slice c8 c4 c6] 67)=y:=⟨_,rfl⟩;have b4:Kept [] e7 Y:=a6▸(Kept.refl _ _).alloc _
 have ac:Blk Y kf 67 #[.slice cv cl co,.slice d6 cz d4,.slice c8 c4 c6]:=by rw[<-a6,<-b8];exact Blk.new _ _ _
 rw[a6,b8];have bb:=hid ((bc.out.trans f7).trans b4)
 have l5:Hid (f2=0->∃(c:Crw) (ns:List Int),accountB ks log i2 ss=.ok (c,ns)/\ns.length=ek/\CrR Y [.slice cv cl co,.slice d6 cz d4,.slice c8 c4 c6] c/\Row Y 1 (.slice hd ek hb) ns.length (ints ns)):=hid fun h0=>by
  obtain⟨c,ns,G,s,E,h4⟩:=hw h0;exact⟨c,ns,G,s,E.kept b4,h4.kept b4⟩
 have B0:=hid (Kept.cellOf (ac.cell 0));have B1:=hid (Kept.cellOf (ac.cell 1));have B2:=hid (Kept.cellOf (ac.cell 2));have gc:=hid (f7.trans b4);clear hw f7 b4 ac b8 a6;go_upto_region 9 with(go_at_call 18;refine(br.out _ bb.out _ _ is s2 (aj.kept (w':=Y) j1.out (fun _ _ h=>IssR.kept h bb.out) bb.out) it.out (by have:=r.out;have:=a4.out;omega) (aj.kept (w':=Y) kt.out (fun _ _ h=>SgtR.kept h ((dc.out.trans da.out).trans gc.out)) ((dc.out.trans da.out).trans gc.out)) (fun _ h=>h) (by have:=m.out;have:=a4.out;omega)).mono ?_;rintro e e6 ⟨f6,cu,c9,cm,d5,cx,d3,c7,bv,c5,hc,eh,ha,f3,rfl,ht⟩);obtain⟨kd,b7⟩:∃y,e6.heap.size=y:=⟨_,rfl⟩;obtain⟨af,a5⟩:∃y,e6.alloc (.cells #[.slice cu c9 cm,.slice d5 cx d3,.slice c7 bv c5] 67)=y:=⟨_,rfl⟩;have av:Kept [] e6 af:=a5▸(Kept.refl _ _).alloc _
 have ab:Blk af kd 67 #[.slice cu c9 cm,.slice d5 cx d3,.slice c7 bv c5]:=by rw[<-a5,<-b7];exact Blk.new _ _ _
 rw[a5,b7];have ge:=hid ((bb.out.trans f6).trans av)
 have l4:Hid (f3=0->∃(c:Crw) (ns:List Int),accountB ks log is s2=.ok (c,ns)/\ns.length=eh/\CrR af [.slice cu c9 cm,.slice d5 cx d3,.slice c7 bv c5] c/\Row af 1 (.slice hc eh ha) ns.length (ints ns)):=hid fun h0=>by
  obtain⟨c,ns,G,s,E,h4⟩:=ht h0;exact⟨c,ns,G,s,E.kept av,h4.kept av⟩
 have C0:=hid (Kept.cellOf (ab.cell 0));have C1:=hid (Kept.cellOf (ab.cell 1));have C2:=hid (Kept.cellOf (ab.cell 2));have i5:=hid (f6.trans av);clear ht f6 av ab b7 a5;have bd:=hid i5.out;have dm:=hid (gc.out.trans i5.out)
 by_cases hf1:f1=0
 case neg =>
  have hf1':(f1==0)=false:=by simpa using hf1
  go_wp2_with fail;go_ret;exact⟨rfl,ge.out⟩
 subst hf1;obtain⟨ca,n1,hA,_,e0,hk⟩:=l6.out rfl;have a8:=ef hA (by have:=r.out;omega);have g1:=dx e0 a8 (HE.out.kept0 bc.out) hk;rw[m.out]at g1;have l2:=hid g1;have l0:Hid (∀u,(posN ca n1 u).length<=64):=hid fun u=>fy a8.valid
 have l1:Hid (f2=0->∀w',Kept [] Y w'->∀u,u < U->Calls prog 23 #[.agg #[.slice cv cl co,.slice d6 cz d4,.slice c8 c4 c6],.slice hd ek hb,.int .i64 (u:Int)] w' fun e w''=>Kept [] w' w''/\∃v P,e=.returned v/\Row w'' 1 v P.length (ints P)/\subB (posN ca n1 u) P=true):=hid fun h0=>by
  obtain⟨cb,n2,hB,_,hr,kb⟩:=l5.out h0;have du:=ef hB (by have:=a4.out;omega);have k5:=dx hr du (HE.out.kept0 bb.out) kb;intro w' k u hu;refine(k5 w' k u (by have:=m.out;omega)).mono fun e w'' h=>?_;obtain⟨G,v,s,E⟩:=h;rw[<-dq.out]at hB;exact⟨G,v,_,s,Row.of_own E (by have:=fy (ns:=n2) (u:=u) du.valid;omega),(qo hA hB (by have:=m.out;omega)).1⟩
 have i9:Hid (f3=0->∀w',Kept [] af w'->∀u,u < U->Calls prog 23 #[.agg #[.slice cu c9 cm,.slice d5 cx d3,.slice c7 bv c5],.slice hc eh ha,.int .i64 (u:Int)] w' fun e w''=>Kept [] w' w''/\∃v P,e=.returned v/\Row w'' 1 v P.length (ints P)/\subB P (posN ca n1 u)=true):=hid fun h0=>by
  obtain⟨cc,n3,hC,_,hq,ka⟩:=l4.out h0;have ds:=ef hC (by have:=r.out;omega);have k4:=dx hq ds (HE.out.kept0 ge.out) ka;intro w' k u hu;refine(k4 w' k u (by have:=m.out;rw[<-dn.out,List.length_append];omega)).mono fun e w'' h=>?_;obtain⟨G,v,s,E⟩:=h;rw[<-dn.out]at hC;exact⟨G,v,_,s,Row.of_own E (by have:=fy (ns:=n3) (u:=u) ds.valid;omega),qm hA hC a8.valid (by have:=m.out;omega)⟩
 clear hA e0 hk a8 g1;go_wp2_with fail
 go_loopw [25] (fun v wr=>∃i:Nat,i<=U/\v=.int .i64 i/\Kept [] af wr) (fun v _=>U - (intOf v).toNat)
 case atStart=>exact⟨0,Nat.zero_le _,rfl,Kept.refl _ _⟩
 case round =>
  obtain⟨i,hi,rfl,a0⟩:=hrel;have j0:=hid a0
  by_cases hlt:i < U
  ·have hlt':(i:Int) < (U:Int):=by omega
   have d0:=A0.out _ (dm.out.trans a0);have d1:=A1.out _ (dm.out.trans a0);have d2:=A2.out _ (dm.out.trans a0);have kx:=hid (l2.out wr (dm.out.trans a0) i hlt);clear a0;go_upto_region 15 with(go_at_call 23;refine kx.out.mono ?_;rintro e w6 ⟨X,v6,rfl,o6⟩);have R6:=hid (Row.of_own o6 (by have:=l0.out i;omega));obtain⟨pa,pc,rfl,_,_⟩:=R6.out.form;have K6:=hid (j0.out.trans X);have b0:=fun w' (k:Kept [] w6 w')=>B0.out w' (bd.out.trans (K6.out.trans k));have b1':=fun w' (k:Kept [] w6 w')=>B1.out w' (bd.out.trans (K6.out.trans k));have b2':=fun w' (k:Kept [] w6 w')=>B2.out w' (bd.out.trans (K6.out.trans k));have c0:=fun w' (k:Kept [] w6 w')=>C0.out w' (K6.out.trans k);have c1:=fun w' (k:Kept [] w6 w')=>C1.out w' (K6.out.trans k);have c2:=fun w' (k:Kept [] w6 w')=>C2.out w' (K6.out.trans k);have h6:=hid (And.intro b0 (And.intro b1' b2'));have au:=hid (And.intro c0 (And.intro c1 c2));clear d0 d1 d2 o6 X b0 b1' b2' c0 c1 c2
   by_cases s:f2=0
   ·have e5:=hid (l1.out s);subst s;have x0:=h6.out.1 _ (Kept.refl _ _);have x1:=h6.out.2.1 _ (Kept.refl _ _);have x2:=h6.out.2.2 _ (Kept.refl _ _)
    by_cases E:f3=0
    ·have bq:=hid (i9.out E);subst E
     go_wp2_with (first
      |(go_at_call 23;(with_reducible refine(e5.out _ (bd.out.trans K6.out) i hlt).mono ?_);rintro e w7 ⟨V,v7,P7,rfl,r7,s7⟩;obtain⟨k0,j9,rfl,_,_⟩:=r7.form;have ao:=bP (R6.out.kept V) r7;rw[s7]at ao;clear x0 x1 x2)
      |(go_at_call 24;(with_reducible refine ao.mono ?_);rintro e w8 ⟨rfl,k8⟩;clear ao;have y0:=au.out.1 _ (V.trans k8);have y1:=au.out.2.1 _ (V.trans k8);have y2:=au.out.2.2 _ (V.trans k8))
      |(go_at_call 23;(with_reducible refine(bq.out _ ((K6.out.trans V).trans k8) i hlt).mono ?_);rintro e w9 ⟨k9,v9,P9,rfl,r9,s9⟩;obtain⟨ju,j8,rfl,_,_⟩:=r9.form;have b6:=bP r9 (((R6.out.kept V).kept k8).kept k9);rw[s9]at b6;clear y0 y1 y2)
      |(go_at_call 24;(with_reducible refine b6.mono ?_);rintro e j5 ⟨rfl,fn⟩))
     go_roundw
     case rel=>exact⟨i+1,by omega,by go_num,(((K6.out.trans V).trans k8).trans k9).trans fn⟩
     case measure=>simp[intOf];omega
    ·have h3':(f3==0)=false:=by simpa using E
     go_wp2_with (first
      |(go_at_call 23;(with_reducible refine(e5.out _ (bd.out.trans K6.out) i hlt).mono ?_);rintro e w7 ⟨V,v7,P7,rfl,r7,s7⟩;obtain⟨k0,j9,rfl,_,_⟩:=r7.form;have ao:=bP (R6.out.kept V) r7;rw[s7]at ao;clear x0 x1 x2)
      |(go_at_call 24;(with_reducible refine ao.mono ?_);rintro e w8 ⟨rfl,k8⟩))
     go_roundw
     case rel=>exact⟨i+1,by omega,by go_num,(K6.out.trans V).trans k8⟩
     case measure=>simp[intOf];omega
   ·have h2':(f2==0)=false:=by simpa using s
    by_cases E:f3=0
    ·have bq:=hid (i9.out E);subst E;have y0:=au.out.1 _ (Kept.refl _ _);have y1:=au.out.2.1 _ (Kept.refl _ _);have y2:=au.out.2.2 _ (Kept.refl _ _)
     go_wp2_with (first
      |(go_at_call 23;(with_reducible refine(bq.out _ K6.out i hlt).mono ?_);rintro e w9 ⟨k9,v9,P9,rfl,r9,s9⟩;obtain⟨ju,j8,rfl,_,_⟩:=r9.form;have b6:=bP r9 (R6.out.kept k9);rw[s9]at b6;clear y0 y1 y2)
      |(go_at_call 24;(with_reducible refine b6.mono ?_);rintro e j5 ⟨rfl,fn⟩))
     go_roundw
     case rel=>exact⟨i+1,by omega,by go_num,(K6.out.trans k9).trans fn⟩
     case measure=>simp[intOf];omega
    ·have h3':(f3==0)=false:=by simpa using E
     go_wp2_with fail
     go_roundw
     case rel=>exact⟨i+1,by omega,by go_num,K6.out⟩
     case measure=>simp[intOf];omega
  ·obtain rfl:i=U:=by omega
   clear a0;go_wp2_with fail;go_ret;exact⟨rfl,ge.out.trans j0.out⟩
end Go.Proofs.YtpcmamoomaddoaaGreatDoor
