import Derived.Test.YtpcmamoomaddoaaGreatDoorOrd
set_option maxRecDepth 100000
set_option maxHeartbeats 32000000
namespace Go.Proofs.YtpcmamoomaddoaaGreatDoor
open Go.RowKit
open Go.Proofs.Tryz
open Lib(hid)
/-- what a method that parses a predicate hands back -/
def cH:Value->Bool
 | .bool false=>true
 |_=>false
def cI:Option Value->Nat
 |some (.slice _ n _)=>n
 |_=>0
def PdE(B:Nat)(W0:World)(rb:Nat)(ts:List Tok)(a:Option Addr)(c:Nat)(z:Int)(w:World)(r:Res Pd)(e:Ending)(w':World):Prop :=
 match r with
 | .error k=>kZ [rb] w k e w'
 | .ok (p,j)=>∃v,e=.returned v/\Kept [rb] w w'/\Ps B W0 rb ts a c z w' j/\PdN w.heap.size w' v p
theorem Ps.far{B:Nat}{W0:World}{rb:Nat}{ts:List Tok}{a:Option Addr}{c:Nat}{z:Int}{w w':World}{i:Nat}{S:List Nat}(h:Ps B W0 rb ts a c z w i)(k:Kept S w w')(hS:∀y∈S,rb < y):Ps B W0 rb ts a c z w' i := ⟨h.env,h.kept.fresh k (fun y hy=>by have:=h.lo;have:=hS y hy;omega),h.lo,h.row,h.blk.kept k (fun hm=>by have:=hS rb hm;omega),h.small,h.ok,h.le⟩
theorem eK:(prog.info? 46).map (fun i=>(i.zero,i.size,i.bytes))=some (some (.agg #[.int .i64 0,.string ⟨#[]⟩,.string ⟨#[]⟩,.int .i64 0,.slice none 0 0]),5,72):=by kernel_rfl
theorem ib{w2:World}{tmps:Array Value}{v0 v1 v2 v3 v4 X:Value}{b:Nat}{R:Ending->World->Prop}(hb:Blk w2 b 46 #[v0,v1,v2,v3,v4])(h2:tmps[8]?.getD undef=.pointer (some ⟨b,0,none⟩))
  (hX:.agg #[v0,v1,v2,v3,v4]=X) (hR:R (.returned X) w2) :
  bodyPost prog Tryz.f117 R Exit.ret { tmps:=tmps,defers:=[] } w2:=by
 subst hX;have c0:w2.cell? ⟨b,0,none⟩=some v0:=hb.cell 0;have c1:w2.cell? ⟨b,1,none⟩=some v1:=hb.cell 1;have c2:w2.cell? ⟨b,2,none⟩=some v2:=hb.cell 2;have c3:w2.cell? ⟨b,3,none⟩=some v3:=hb.cell 3;have c4:w2.cell? ⟨b,4,none⟩=some v4:=hb.cell 4;refine bodyPost_ret (v:=.agg #[v0,v1,v2,v3,v4]) ?_ rfl hR;simp only[results,results117]
 simp[go_sem,h2,c0,c1,c2,c3,c4]
theorem sQ{B:Nat}{W0:World}{rb:Nat}{ts:List Tok}{a:Option Addr}{c:Nat}{z:Int}{w:World}{n0:Nat}(E:Nat->Res Pd)(kd:Int)(word:Bs)(h:Ps B W0 rb ts a c z w n0)
  (hE:∀w i,n0<=i->Ps B W0 rb ts a c z w i->Calls prog 153 #[.pointer (some ⟨rb,0,none⟩)] w (PdE B W0 rb ts a c z w (E i))) (hmono:∀i p j,E i=.ok (p,j)->i<=j) (f0:Nat) (hf:ts.length < n0+f0) (hf9:f0<=100000) :
  Calls prog 117 #[.pointer (some ⟨rb,0,none⟩),.int .i64 kd,.string ⟨word.toArray⟩,.func (.func 153) #[.pointer (some ⟨rb,0,none⟩)] #[]] w
   (PdE B W0 rb ts a c z w (bnd (sepP (aI ts word) E f0 n0 []) fun l j=>.ok (one kd l,j))):=by
 obtain⟨i0,hi,c4,c3,c2⟩:=info_parts eK;obtain⟨g,hg⟩:∃g,w.heap.size=g:=⟨_,rfl⟩;obtain⟨W,hW⟩:∃W,(w.alloc (.cells #[.int .i64 0,.string ⟨#[]⟩,.string ⟨#[]⟩,.int .i64 0,.slice none 0 0] 46)).alloc (.cells #[.int .i64 kd,.string ⟨#[]⟩,.string ⟨#[]⟩,.int .i64 0,.slice none 0 0] 46)=W:=⟨_,rfl⟩;have af:Kept [] w W:=hW▸((Kept.refl _ _).alloc _).alloc _;have bd:Blk W w.heap.size 46 #[.int .i64 0,.string ⟨#[]⟩,.string ⟨#[]⟩,.int .i64 0,.slice none 0 0]:=hW▸(Blk.new _ _ _).alloc _;have bc:Blk W (w.heap.size+1) 46 #[.int .i64 kd,.string ⟨#[]⟩,.string ⟨#[]⟩,.int .i64 0,.slice none 0 0]:=hW▸Blk.new1 _ _ _ _;have hw:=h.step af;have ci:rb < w.heap.size:=h.blk.lt;have a6:=hid bd;have a1:=hid bc;have HK:Hid (Kept [rb] w W):=hid (af.mono (by simp));have HW:=hid hW;have HE:=hid hE;have HP:=hid hw;obtain⟨R,hR⟩:∃R,sepP (aI ts word) E f0 n0 []=R:=⟨_,rfl⟩;have HR:=hid hR;rw[hR];clear hW af bd bc h hw hE hR hg
 go_enter func117,ntmps117
 go_upto_region 2 with(fail);have hW':=HW.out;rw[hW'];clear hW';go_wp2_with fail
 go_loopw [10] (fun v wr=>∃(b:Bool) (i f:Nat) (l:List Pd) (kv:Value),v=.bool b/\n0<=i/\Ps B W0 rb ts a c z wr i/\Kept [rb] w wr/\Blk wr (w.heap.size+1) 46 #[.int .i64 kd,.string ⟨#[]⟩,.string ⟨#[]⟩,.int .i64 0,kv] /\
  Blk wr w.heap.size 46 #[.int .i64 0,.string ⟨#[]⟩,.string ⟨#[]⟩,.int .i64 0,.slice none 0 0] /\
  Grow PdR 5 46 (w.heap.size+2) (List.range (w.heap.size+2)++obl kv) wr kv l/\l.length+f<=f0/\w.heap.size+2<=wr.heap.size/\(if b then ts.length < i+f/\sepP (aI ts word) E f i l=R else R=.ok (l,i)))
  (fun v wr=>if cH v then 0 else f0+1 - cI (wr.cell? ⟨w.heap.size+1,4,none⟩))
 case atStart=>exact⟨true,n0,f0,[],_,rfl,Nat.le_refl _,HP.out,HK.out,a1.out,a6.out,Grow.nil_ _ _ _ _ _ _,by simp,by have:=a1.out.lt;omega,by simp only[if_true];exact⟨hf,HR.out⟩⟩
 case round =>
  obtain⟨b,i,f,l,kv,rfl,c5,M,hk,C,d,hg,cl,cb,A⟩:=hrel;obtain⟨J,I,rfl⟩:=hg.form (by decide)
  cases b
  ·simp only[Bool.false_eq_true,if_false]at A;subst A;have t0:wr.cell? ⟨w.heap.size,0,none⟩=some (.int .i64 0):=d.cell 0;have t1:wr.cell? ⟨w.heap.size,1,none⟩=some (.string ⟨#[]⟩):=d.cell 1;have t2:wr.cell? ⟨w.heap.size,2,none⟩=some (.string ⟨#[]⟩):=d.cell 2;have t3:wr.cell? ⟨w.heap.size,3,none⟩=some (.int .i64 0):=d.cell 3;have t4:wr.cell? ⟨w.heap.size,4,none⟩=some (.slice none 0 0):=d.cell 4;have q0:wr.cell? ⟨w.heap.size+1,0,none⟩=some (.int .i64 kd):=C.cell 0;have q1:wr.cell? ⟨w.heap.size+1,1,none⟩=some (.string ⟨#[]⟩):=C.cell 1;have q2:wr.cell? ⟨w.heap.size+1,2,none⟩=some (.string ⟨#[]⟩):=C.cell 2;have q3:wr.cell? ⟨w.heap.size+1,3,none⟩=some (.int .i64 0):=C.cell 3;have q4:wr.cell? ⟨w.heap.size+1,4,none⟩=some (.slice J l.length I):=C.cell 4;have f0:=d.frozen 0;have f1:=d.frozen 1;have f2:=d.frozen 2;have f3:=d.frozen 3;have f4:=d.frozen 4;have ab:=hid (fun v0 v1 v2 v3 v4=>((((d.set_ 0 v0).set_ 1 v1).set_ 2 v2).set_ 3 v3).set_ 4 v4);have KS:=hid (fun(v0 v1 v2 v3 v4:Value)=>(((((Kept.refl [w.heap.size] wr).setCell (p:=⟨w.heap.size,0,none⟩) (Or.inl (by simp)) v0).setCell (p:=⟨w.heap.size,1,none⟩) (Or.inl (by simp)) v1).setCell (p:=⟨w.heap.size,2,none⟩) (Or.inl (by simp)) v2).setCell (p:=⟨w.heap.size,3,none⟩) (Or.inl (by simp)) v3).setCell (p:=⟨w.heap.size,4,none⟩) (Or.inl (by simp)) v4);have ap:=hid M;have bo:=hid hk;have an:=hg.ge
   have b2:l.length<=9223372036854775807:=by omega
   by_cases h1:l.length=1
   ·obtain⟨q,rfl⟩:∃q,l=[q]:=by
     match l,h1 with
     | [q],_=>exact⟨q,rfl⟩
    have O:one kd [q]=q:=rfl;obtain⟨vs,a9,F⟩:=hg
    obtain⟨c1,rfl⟩:∃c1,vs=[c1]:=by
     have:=F.get.1
     match vs,this with
     | [c1],_=>exact⟨c1,rfl⟩
    have u:aw (List.range (w.heap.size+2)) (fun w=>PdR w c1 q) wr:=(F.less (fun z hz=>Or.inl (List.mem_append_left _ hz))).imp fun w' h=>by
     obtain⟨cc,hc,hr⟩:=h.2.2 0 q rfl;simp at hc;exact hc▸hr
    have b8:=u.get;have a8:=Row.of_own a9 b2;obtain⟨b,X,rfl,m⟩:=a8.at_ (by simp);obtain⟨qk,ql,qr,qc,ac⟩:=q;obtain⟨qa,ad,rfl,_⟩:=b8.rows;have u0:wr.cell? ⟨b,X,none⟩=some (.int .i64 qk):=m 0 _ rfl;have u1:wr.cell? ⟨b,X+1,none⟩=some (.string ⟨ql.toArray⟩):=m 1 _ rfl;have u2:wr.cell? ⟨b,X+2,none⟩=some (.string ⟨qr.toArray⟩):=m 2 _ rfl;have u3:wr.cell? ⟨b,X+3,none⟩=some (.int .i64 qc):=m 3 _ rfl;have u4:wr.cell? ⟨b,X+4,none⟩=some (.slice qa ac.length ad):=m 4 _ rfl;have c6:=hid u;clear M hk F a9 u b8 a8 m d C an h1 O HP HR a6 a1 HK HW HE;go_wp2_with fail;refine ib (ab.out _ _ _ _ _) rfl rfl ?_;have kF:=KS.out (.int .i64 qk) (.string ⟨ql.toArray⟩) (.string ⟨qr.toArray⟩) (.int .i64 qc) (.slice qa ac.length ad);refine⟨_,rfl,bo.out.fresh kF (fun y hy=>by rw[List.mem_singleton]at hy;omega),ap.out.far kF (fun y hy=>by rw[List.mem_singleton]at hy;omega),?_⟩;exact⟨[.int .i64 qk,.string ⟨ql.toArray⟩,.string ⟨qr.toArray⟩,.int .i64 qc,.slice qa ac.length ad],rfl,c6.out.step kF (fun y hy _=>by rw[List.mem_singleton]at hy;exact List.mem_range.2 (by omega)) (fun y hy=>Or.inl (List.mem_range.2 (by have:=List.mem_range.1 hy;omega)))⟩
   ·have hb:((l.length:Int)==1)=false:=by simp;omega
    have u:=hid (hg.done (X':=List.range (w.heap.size+2)) (fun z hz=>Or.inl (List.mem_append_left _ hz)) (fun z hz n=>by have:=(an z hz).1;have:=List.mem_range.1 n;omega) b2)
    have O:one kd l=.node kd [] [] 0 l:=by
     match l,h1 with
     | [],_=>rfl
     | [_],h=>exact absurd rfl h
     |_::_::_,_=>rfl
    have HO:=hid O;clear M hk hg d C an h1 O HP HR a6 a1 HK HW HE;go_wp2_with fail;refine ib (ab.out _ _ _ _ _) rfl rfl ?_;have kF:=KS.out (.int .i64 kd) (.string ⟨#[]⟩) (.string ⟨#[]⟩) (.int .i64 0) (.slice J l.length I)
    show PdE B W0 rb ts a c z w (.ok (one kd l,i)) _ _
    rw[HO.out];refine⟨_,rfl,bo.out.fresh kF (fun y hy=>by rw[List.mem_singleton]at hy;omega),ap.out.far kF (fun y hy=>by rw[List.mem_singleton]at hy;omega),?_⟩;exact⟨[.int .i64 kd,.string ⟨#[]⟩,.string ⟨#[]⟩,.int .i64 0,.slice J l.length I],rfl,(u.out.imp fun w' hr=>PdR.of_rows (l:=[]) (r:=[]) hr).step kF (fun y hy _=>by rw[List.mem_singleton]at hy;exact List.mem_range.2 (by omega)) (fun y hy=>Or.inl (List.mem_range.2 (by have:=List.mem_range.1 hy;omega)))⟩
  ·simp only[if_true]at A;obtain⟨co,Y⟩:=A;obtain⟨f,rfl⟩:∃g,f=g+1:=⟨f - 1,by have:=M.le;omega⟩;rw[sepP]at Y;have F:=hid (HE.out wr.drew i c5 (M.step (Kept.refl _ _).drew));have aa:=hid Y;have ap:=hid M;have bq:=hid hk;have a5:=hid C;have c8:=hid d;have HG:=hid hg;clear Y M hk C d hg HK a6 a1 HP HW HR;have b3:∀y∈obl (.slice J l.length I),w.heap.size+2<=y/\y < wr.heap.size:=HG.out.ge;have bn:=hid b3
   have s0:∀w',Kept (rb::obl (.slice J l.length I)) wr w'->w'.cell? ⟨w.heap.size+1,4,none⟩=some (.slice J l.length I):=fun w' k=>(a5.out.kept k (by
    intro n
    rcases List.mem_cons.1 n with n|n
    ·omega
    ·have:=bn.out _ n;omega)).cell 4
   clear b3;go_upto_region 5 with(fail);refine ar [7] (fun w'=>Kept (rb::obl (.slice J l.length I)) wr w') (by kernel_rfl) (Kept.refl _ _).drew (fun hH=>?_);refine ah [1,5,6,7] (i:=0) (v:=?tv1) rfl (by kernel_rfl) (by kernel_rfl) (by kernel_rfl) (by kernel_rfl) (fun _ _ _ h=>h) (Or.inl ⟨by rfl,?ty1⟩) hH ?tr1
   case ty1=>intro w' N;(try dsimp only at N);go_simp;first|done|with_reducible rfl
   simp only[Act.put,List.setIfInBounds_toArray,List.set_cons_zero,List.set_cons_succ];refine ah [5,6,7] (i:=1) (v:=?tv2) rfl (by kernel_rfl) (by kernel_rfl) (by kernel_rfl) (by kernel_rfl) (fun _ _ _ h=>h) (Or.inl ⟨by rfl,?ty2⟩) hH ?tr2
   case ty2=>intro w' N;(try dsimp only at N);go_simp;first|done|with_reducible rfl
   simp only[Act.put,List.setIfInBounds_toArray,List.set_cons_zero,List.set_cons_succ];refine ah [3,4,5,6,7] (i:=2) (v:=?tv3) rfl (by kernel_rfl) (by kernel_rfl) (by kernel_rfl) (by kernel_rfl) (fun _ _ _ h=>h) (Or.inl ⟨by rfl,?ty3⟩) hH ?tr3
   case ty3=>intro w' N;(try dsimp only at N);go_simp;first|done|with_reducible rfl
   simp only[Act.put,List.setIfInBounds_toArray,List.set_cons_zero,List.set_cons_succ];refine ai (rs:=[3]) (by kernel_rfl) (by simp) ?_;refine ae.cons rfl (fun K hK=>?_) ae.nil;go_simp
   cases hr:E i with
   |error k =>
    have G:=aa.out;rw[hr]at G F;simp only[bnd]at G;subst G;refine F.out.mono ?_
    unfold PdE
    rintro e w6 ⟨⟨p,rfl⟩,k6⟩;exact⟨rfl,⟨p,rfl⟩,(bq.out.drew).trans k6⟩
   |ok y =>
    obtain⟨p,j⟩:=y;have cm:=hmono i p j hr;have G:=aa.out;rw[hr]at G F;simp only[bnd]at G;have bk:=hid G;clear G;refine F.out.mono ?_
    unfold PdE
    rintro e w6 ⟨v,rfl,k6,h6,cs,rfl,u⟩;obtain⟨U,T,Q,V,s⟩:=p;obtain⟨pa,L,rfl,_⟩:=u.get.rows;have k6':Kept [rb] wr w6:=(Kept.refl _ _).drew.trans k6;refine hK.out _ _ (k6'.mono (fun _ _ h=>by rw[List.mem_singleton]at h;exact h▸List.mem_cons_self)) (fun hH=>?_);clear hK K
    (try simp only[Act.put,List.setIfInBounds_toArray,List.set_cons_zero,List.set_cons_succ])
    refine ai (rs:=[4]) (by kernel_rfl) (by simp) ?_;refine ae.cons rfl (fun K hK=>?_) ae.nil;go_simp;refine hK.out _ _ (hH.alloc _) (fun hH=>?_);clear hK K
    (try simp only[Act.put,List.setIfInBounds_toArray,List.set_cons_zero,List.set_cons_succ])
    refine ai (rs:=[5]) (by kernel_rfl) (by simp) ?_;refine ae.cons rfl (fun K hK=>?_) ae.nil;have D:=bn.out;have ca:wr.heap.size<=w6.heap.size:=k6'.size;have k7:Kept [rb] wr (w6.alloc (.cells #[.int .i64 U,.string ⟨T.toArray⟩,.string ⟨Q.toArray⟩,.int .i64 V,.slice pa s.length L] 46)):=k6'.alloc _
    have b7:Grow PdR 5 46 (w.heap.size+2) (List.range (w.heap.size+2)++obl (.slice J l.length I)) (w6.alloc (.cells #[.int .i64 U,.string ⟨T.toArray⟩,.string ⟨Q.toArray⟩,.int .i64 V,.slice pa s.length L] 46)) (.slice J l.length I) l :=
     HG.out.step k7 (fun z hz n=>by rw[List.mem_singleton]at n;have:=(D z hz).1;omega) (fun z hz _=>by rw[List.mem_singleton]at hz;exact List.mem_append_left _ (List.mem_range.2 (by omega))) (fun z hz=>Or.inl hz)
    have a7:aw (List.range (w.heap.size+2)++obl (.slice J l.length I)) (fun w=>PdR w [.int .i64 U,.string ⟨T.toArray⟩,.string ⟨Q.toArray⟩,.int .i64 V,.slice pa s.length L] (.node U T Q V s)) (w6.alloc (.cells #[.int .i64 U,.string ⟨T.toArray⟩,.string ⟨Q.toArray⟩,.int .i64 V,.slice pa s.length L] 46)) :=
     (u.step ((Kept.refl [] w6).alloc _) (by simp) (fun z hz=>Or.inl hz)).less (fun z hz=>by
      rcases List.mem_append.1 hz with h|h
      ·exact Or.inl (List.mem_range.2 (by have:=List.mem_range.1 h;show z < wr.heap.size;omega))
      ·exact Or.inl (List.mem_range.2 (D z h).2))
    refine bg rfl _ _ 44 rfl i0 _ 72 underlying44 hi c4 c3 c2 rfl (by decide) (by decide) rfl b7 _ [.int .i64 U,.string ⟨T.toArray⟩,.string ⟨Q.toArray⟩,.int .i64 V,.slice pa s.length L] (.node U T Q V s) rfl (al (cs:=[.int .i64 U,.string ⟨T.toArray⟩,.string ⟨Q.toArray⟩,.int .i64 V,.slice pa s.length L]) (Blk.new _ _ _) rfl (by decide)) a7 (by simp[Value.oneCell']) (by omega) (by simp only[World.size_alloc];omega) (fun z hz=>List.mem_append_right _ hz) ?_;intro a' c' w8 b6 k8 b1;have Z:Kept (rb::obl (.slice J l.length I)) wr w8:=(k7.mono (fun _ _ h=>by rw[List.mem_singleton]at h;exact h▸List.mem_cons_self)).trans (k8.mono (fun _ _ h=>List.mem_cons_of_mem _ h));refine hK.out _ _ Z (fun hH=>?_);clear hK K
    (try simp only[Act.put,List.setIfInBounds_toArray])
    refine ah [7] (i:=6) (v:=?tv4) rfl (by kernel_rfl) (by kernel_rfl) (by kernel_rfl) (by kernel_rfl) (fun _ _ _ h=>h) (Or.inl ⟨by rfl,?ty4⟩) hH ?tr4
    case ty4=>intro w' N;(try dsimp only at N);go_simp;first|done|with_reducible rfl
    simp only[Act.put]
    have av:w.heap.size+1∉rb::obl (.slice J l.length I):=by
     intro n
     rcases List.mem_cons.1 n with n|n
     ·omega
     ·have:=D _ n;omega
    have b0:w.heap.size∉rb::obl (.slice J l.length I):=by
     intro n
     rcases List.mem_cons.1 n with n|n
     ·omega
     ·have:=D _ n;omega
    have a4:=a5.out.kept Z av;have bb:=c8.out.kept Z b0;have x4:w8.cell? ⟨w.heap.size+1,4,none⟩=some (.slice J l.length I):=a4.cell 4;have x5:=a4.frozen 4;have bv:=hid a4;have c0:=hid bb;have bt:=hid b6;have K8:=hid Z;have bl:=hid b1;have H6:=hid h6;have be:=hid k8;have c7:=hid (World.size_alloc w6 (.cells #[.int .i64 U,.string ⟨T.toArray⟩,.string ⟨Q.toArray⟩,.int .i64 V,.slice pa s.length L] 46));clear a4 bb b6 Z b1 h6 k8 b7 a7 u k7 k6 k6' s0 b0 av;refine ai (rs:=[7]) (by kernel_rfl) (by simp) ?_;refine ae.last rfl (by kernel_rfl) (fun K hK=>?_);go_simp;refine hK.out _ _ ?_;clear hK K
    (try simp only[Act.put,List.setIfInBounds_toArray,List.set_cons_zero,List.set_cons_succ])
    refine ak (by kernel_rfl) ?_ _;obtain⟨w9,a2⟩:∃x,w8.setCell ⟨w.heap.size+1,4,none⟩ (.slice a' (l.length+1) c')=x:=⟨_,rfl⟩;rw[a2];have P:Kept [w.heap.size+1] w8 w9:=a2▸(Kept.refl _ _).setCell (Or.inl (by simp)) _;have b9:Blk w9 (w.heap.size+1) 46 #[.int .i64 kd,.string ⟨#[]⟩,.string ⟨#[]⟩,.int .i64 0,.slice a' (l.length+1) c']:=a2▸bv.out.set_ 4 _;have ba:=c0.out.kept P (by simp);have h9:Ps B W0 rb ts a c z w9 j:=((H6.out.step ((Kept.refl [] w6).alloc _)).far be.out (fun y hy=>by have:=(D y hy).1;omega)).far P (fun y hy=>by rw[List.mem_singleton]at hy;omega)
    have ag:∀y∈obl (.slice a' (l.length+1) c'),w.heap.size+2<=y:=fun y hy=>by
     rcases bl.out y hy with h|h
     ·exact(D y h).1
     ·have:=c7.out;omega
    have b5:=bt.out.step (X':=List.range (w.heap.size+2)++obl (.slice a' (l.length+1) c')) P (fun y hy n=>by rw[List.mem_singleton]at n;have:=ag y hy;omega) (fun y hy _=>by rw[List.mem_singleton]at hy;exact List.mem_append_left _ (List.mem_append_left _ (List.mem_range.2 (by omega)))) (fun y hy=>by
     rcases List.mem_append.1 hy with h|h
     ·exact Or.inl (List.mem_append_left _ (List.mem_append_left _ h))
     ·exact Or.inl (List.mem_append_right _ h))
    have b4:Kept [rb] w w9:=(bq.out.then_ K8.out (fun y hy n=>by
     rcases List.mem_cons.1 n with h|h
     ·exact h▸List.mem_singleton.2 rfl
     ·have:=(D y h).1;omega)).fresh P (fun y hy=>by rw[List.mem_singleton]at hy;omega)
    have c9:w.heap.size+2<=w9.heap.size:=by have:=K8.out.size;have:=P.size;omega
    have a3:=hid (aQ h9 word);have aq:=hid b9;have bx:=hid ba;have bs:=hid b5;have bp:=hid b4;have br:=hid ag;have cp:=hid h9.le;clear a2 P b9 ba h9 ag b5 b4 D bv c0 bt K8 bl H6 be x4 x5 hH
    cases hsw:aI ts word j
    ·rw[hsw]at a3;have t:=bk.out;rw[hsw,if_neg (by simp)]at t;have a0:=hid t;clear t;go_wp2_with (go_at_call 115;refine a3.out.mono ?_;rintro e au ⟨rfl,o,ao⟩)
     go_roundw
     case rel =>
      refine⟨false,j,f,l++[.node U T Q V s],.slice a' (l.length+1) c',rfl,by omega,ao,bp.out.trans o,aq.out.kept o (by simp;omega),bx.out.kept o (by simp;omega),?_,?_,by have:=o.size;omega,?_⟩
      ·exact bs.out.step o (fun y hy n=>by rw[List.mem_singleton]at n;have:=br.out y hy;omega) (fun y hy _=>by rw[List.mem_singleton]at hy;exact List.mem_append_left _ (List.mem_range.2 (by omega))) (fun y hy=>Or.inl hy)
      ·rw[List.length_append];simp;omega
      ·simp only[Bool.false_eq_true,if_false];exact a0.out.symm
     case measure =>
      rw[show wr.cell? ⟨w.heap.size+1,4,none⟩=some (.slice J l.length I)from a5.out.cell 4];simp only[cH,cI,if_true,Bool.false_eq_true,if_false];omega
    ·rw[hsw]at a3;have t:=bk.out;rw[hsw,if_pos rfl]at t;have a0:=hid t;clear t;go_wp2_with (go_at_call 115;refine a3.out.mono ?_;rintro e au ⟨rfl,o,ao⟩)
     go_roundw
     case rel =>
      refine⟨true,j+1,f,l++[.node U T Q V s],.slice a' (l.length+1) c',rfl,by omega,ao,bp.out.trans o,aq.out.kept o (by simp;omega),bx.out.kept o (by simp;omega),?_,?_,by have:=o.size;omega,?_⟩
      ·exact bs.out.step o (fun y hy n=>by rw[List.mem_singleton]at n;have:=br.out y hy;omega) (fun y hy _=>by rw[List.mem_singleton]at hy;exact List.mem_append_left _ (List.mem_range.2 (by omega))) (fun y hy=>Or.inl hy)
      ·rw[List.length_append];simp;omega
      ·simp only[if_true];exact⟨by omega,a0.out⟩
     case measure =>
      rw[show wr.cell? ⟨w.heap.size+1,4,none⟩=some (.slice J l.length I)from a5.out.cell 4,show au.cell? ⟨w.heap.size+1,4,none⟩=some (.slice a' (l.length+1) c')from(aq.out.kept o (by simp;omega)).cell 4];simp only[cH,cI,Bool.false_eq_true,if_false];omega
theorem sR{B:Nat}{W0:World}{rb:Nat}{ts:List Tok}{a:Option Addr}{c:Nat}{z:Int}{w:World}{n0:Nat}(E:Nat->Res Pd)(kd:Int)(word:Bs)(h:Ps B W0 rb ts a c z w n0)
  (hE:∀w i,n0<=i->Ps B W0 rb ts a c z w i->Calls prog 118 #[.pointer (some ⟨rb,0,none⟩)] w (PdE B W0 rb ts a c z w (E i))) (hmono:∀i p j,E i=.ok (p,j)->i<=j) (f0:Nat) (hf:ts.length < n0+f0) (hf9:f0<=100000) :
  Calls prog 117 #[.pointer (some ⟨rb,0,none⟩),.int .i64 kd,.string ⟨word.toArray⟩,.func (.func 118) #[.pointer (some ⟨rb,0,none⟩)] #[]] w
   (PdE B W0 rb ts a c z w (bnd (sepP (aI ts word) E f0 n0 []) fun l j=>.ok (one kd l,j))):=by
 obtain⟨i0,hi,c4,c3,c2⟩:=info_parts eK;obtain⟨g,hg⟩:∃g,w.heap.size=g:=⟨_,rfl⟩;obtain⟨W,hW⟩:∃W,(w.alloc (.cells #[.int .i64 0,.string ⟨#[]⟩,.string ⟨#[]⟩,.int .i64 0,.slice none 0 0] 46)).alloc (.cells #[.int .i64 kd,.string ⟨#[]⟩,.string ⟨#[]⟩,.int .i64 0,.slice none 0 0] 46)=W:=⟨_,rfl⟩;have af:Kept [] w W:=hW▸((Kept.refl _ _).alloc _).alloc _;have bd:Blk W w.heap.size 46 #[.int .i64 0,.string ⟨#[]⟩,.string ⟨#[]⟩,.int .i64 0,.slice none 0 0]:=hW▸(Blk.new _ _ _).alloc _;have bc:Blk W (w.heap.size+1) 46 #[.int .i64 kd,.string ⟨#[]⟩,.string ⟨#[]⟩,.int .i64 0,.slice none 0 0]:=hW▸Blk.new1 _ _ _ _;have hw:=h.step af;have ci:rb < w.heap.size:=h.blk.lt;have a6:=hid bd;have a1:=hid bc;have HK:Hid (Kept [rb] w W):=hid (af.mono (by simp));have HW:=hid hW;have HE:=hid hE;have HP:=hid hw;obtain⟨R,hR⟩:∃R,sepP (aI ts word) E f0 n0 []=R:=⟨_,rfl⟩;have HR:=hid hR;rw[hR];clear hW af bd bc h hw hE hR hg
 go_enter func117,ntmps117
 go_upto_region 2 with(fail);have hW':=HW.out;rw[hW'];clear hW';go_wp2_with fail
 go_loopw [10] (fun v wr=>∃(b:Bool) (i f:Nat) (l:List Pd) (kv:Value),v=.bool b/\n0<=i/\Ps B W0 rb ts a c z wr i/\Kept [rb] w wr/\Blk wr (w.heap.size+1) 46 #[.int .i64 kd,.string ⟨#[]⟩,.string ⟨#[]⟩,.int .i64 0,kv] /\
  Blk wr w.heap.size 46 #[.int .i64 0,.string ⟨#[]⟩,.string ⟨#[]⟩,.int .i64 0,.slice none 0 0] /\
  Grow PdR 5 46 (w.heap.size+2) (List.range (w.heap.size+2)++obl kv) wr kv l/\l.length+f<=f0/\w.heap.size+2<=wr.heap.size/\(if b then ts.length < i+f/\sepP (aI ts word) E f i l=R else R=.ok (l,i)))
  (fun v wr=>if cH v then 0 else f0+1 - cI (wr.cell? ⟨w.heap.size+1,4,none⟩))
 case atStart=>exact⟨true,n0,f0,[],_,rfl,Nat.le_refl _,HP.out,HK.out,a1.out,a6.out,Grow.nil_ _ _ _ _ _ _,by simp,by have:=a1.out.lt;omega,by simp only[if_true];exact⟨hf,HR.out⟩⟩
 case round =>
  obtain⟨b,i,f,l,kv,rfl,c5,M,hk,C,d,hg,cl,cb,A⟩:=hrel;obtain⟨J,I,rfl⟩:=hg.form (by decide)
  cases b
  ·simp only[Bool.false_eq_true,if_false]at A;subst A;have t0:wr.cell? ⟨w.heap.size,0,none⟩=some (.int .i64 0):=d.cell 0;have t1:wr.cell? ⟨w.heap.size,1,none⟩=some (.string ⟨#[]⟩):=d.cell 1;have t2:wr.cell? ⟨w.heap.size,2,none⟩=some (.string ⟨#[]⟩):=d.cell 2;have t3:wr.cell? ⟨w.heap.size,3,none⟩=some (.int .i64 0):=d.cell 3;have t4:wr.cell? ⟨w.heap.size,4,none⟩=some (.slice none 0 0):=d.cell 4;have q0:wr.cell? ⟨w.heap.size+1,0,none⟩=some (.int .i64 kd):=C.cell 0;have q1:wr.cell? ⟨w.heap.size+1,1,none⟩=some (.string ⟨#[]⟩):=C.cell 1;have q2:wr.cell? ⟨w.heap.size+1,2,none⟩=some (.string ⟨#[]⟩):=C.cell 2;have q3:wr.cell? ⟨w.heap.size+1,3,none⟩=some (.int .i64 0):=C.cell 3;have q4:wr.cell? ⟨w.heap.size+1,4,none⟩=some (.slice J l.length I):=C.cell 4;have f0:=d.frozen 0;have f1:=d.frozen 1;have f2:=d.frozen 2;have f3:=d.frozen 3;have f4:=d.frozen 4;have ab:=hid (fun v0 v1 v2 v3 v4=>((((d.set_ 0 v0).set_ 1 v1).set_ 2 v2).set_ 3 v3).set_ 4 v4);have KS:=hid (fun(v0 v1 v2 v3 v4:Value)=>(((((Kept.refl [w.heap.size] wr).setCell (p:=⟨w.heap.size,0,none⟩) (Or.inl (by simp)) v0).setCell (p:=⟨w.heap.size,1,none⟩) (Or.inl (by simp)) v1).setCell (p:=⟨w.heap.size,2,none⟩) (Or.inl (by simp)) v2).setCell (p:=⟨w.heap.size,3,none⟩) (Or.inl (by simp)) v3).setCell (p:=⟨w.heap.size,4,none⟩) (Or.inl (by simp)) v4);have ap:=hid M;have bo:=hid hk;have an:=hg.ge
   have b2:l.length<=9223372036854775807:=by omega
   by_cases h1:l.length=1
   ·obtain⟨q,rfl⟩:∃q,l=[q]:=by
     match l,h1 with
     | [q],_=>exact⟨q,rfl⟩
    have O:one kd [q]=q:=rfl;obtain⟨vs,a9,F⟩:=hg
    obtain⟨c1,rfl⟩:∃c1,vs=[c1]:=by
     have:=F.get.1
     match vs,this with
     | [c1],_=>exact⟨c1,rfl⟩
    have u:aw (List.range (w.heap.size+2)) (fun w=>PdR w c1 q) wr:=(F.less (fun z hz=>Or.inl (List.mem_append_left _ hz))).imp fun w' h=>by
     obtain⟨cc,hc,hr⟩:=h.2.2 0 q rfl;simp at hc;exact hc▸hr
    have b8:=u.get;have a8:=Row.of_own a9 b2;obtain⟨b,X,rfl,m⟩:=a8.at_ (by simp);obtain⟨qk,ql,qr,qc,ac⟩:=q;obtain⟨qa,ad,rfl,_⟩:=b8.rows;have u0:wr.cell? ⟨b,X,none⟩=some (.int .i64 qk):=m 0 _ rfl;have u1:wr.cell? ⟨b,X+1,none⟩=some (.string ⟨ql.toArray⟩):=m 1 _ rfl;have u2:wr.cell? ⟨b,X+2,none⟩=some (.string ⟨qr.toArray⟩):=m 2 _ rfl;have u3:wr.cell? ⟨b,X+3,none⟩=some (.int .i64 qc):=m 3 _ rfl;have u4:wr.cell? ⟨b,X+4,none⟩=some (.slice qa ac.length ad):=m 4 _ rfl;have c6:=hid u;clear M hk F a9 u b8 a8 m d C an h1 O HP HR a6 a1 HK HW HE;go_wp2_with fail;refine ib (ab.out _ _ _ _ _) rfl rfl ?_;have kF:=KS.out (.int .i64 qk) (.string ⟨ql.toArray⟩) (.string ⟨qr.toArray⟩) (.int .i64 qc) (.slice qa ac.length ad);refine⟨_,rfl,bo.out.fresh kF (fun y hy=>by rw[List.mem_singleton]at hy;omega),ap.out.far kF (fun y hy=>by rw[List.mem_singleton]at hy;omega),?_⟩;exact⟨[.int .i64 qk,.string ⟨ql.toArray⟩,.string ⟨qr.toArray⟩,.int .i64 qc,.slice qa ac.length ad],rfl,c6.out.step kF (fun y hy _=>by rw[List.mem_singleton]at hy;exact List.mem_range.2 (by omega)) (fun y hy=>Or.inl (List.mem_range.2 (by have:=List.mem_range.1 hy;omega)))⟩
   ·have hb:((l.length:Int)==1)=false:=by simp;omega
    have u:=hid (hg.done (X':=List.range (w.heap.size+2)) (fun z hz=>Or.inl (List.mem_append_left _ hz)) (fun z hz n=>by have:=(an z hz).1;have:=List.mem_range.1 n;omega) b2)
    have O:one kd l=.node kd [] [] 0 l:=by
     match l,h1 with
     | [],_=>rfl
     | [_],h=>exact absurd rfl h
     |_::_::_,_=>rfl
    have HO:=hid O;clear M hk hg d C an h1 O HP HR a6 a1 HK HW HE;go_wp2_with fail;refine ib (ab.out _ _ _ _ _) rfl rfl ?_;have kF:=KS.out (.int .i64 kd) (.string ⟨#[]⟩) (.string ⟨#[]⟩) (.int .i64 0) (.slice J l.length I)
    show PdE B W0 rb ts a c z w (.ok (one kd l,i)) _ _
    rw[HO.out];refine⟨_,rfl,bo.out.fresh kF (fun y hy=>by rw[List.mem_singleton]at hy;omega),ap.out.far kF (fun y hy=>by rw[List.mem_singleton]at hy;omega),?_⟩;exact⟨[.int .i64 kd,.string ⟨#[]⟩,.string ⟨#[]⟩,.int .i64 0,.slice J l.length I],rfl,(u.out.imp fun w' hr=>PdR.of_rows (l:=[]) (r:=[]) hr).step kF (fun y hy _=>by rw[List.mem_singleton]at hy;exact List.mem_range.2 (by omega)) (fun y hy=>Or.inl (List.mem_range.2 (by have:=List.mem_range.1 hy;omega)))⟩
  ·simp only[if_true]at A;obtain⟨co,Y⟩:=A;obtain⟨f,rfl⟩:∃g,f=g+1:=⟨f - 1,by have:=M.le;omega⟩;rw[sepP]at Y;have F:=hid (HE.out wr.drew i c5 (M.step (Kept.refl _ _).drew));have aa:=hid Y;have ap:=hid M;have bq:=hid hk;have a5:=hid C;have c8:=hid d;have HG:=hid hg;clear Y M hk C d hg HK a6 a1 HP HW HR;have b3:∀y∈obl (.slice J l.length I),w.heap.size+2<=y/\y < wr.heap.size:=HG.out.ge;have bn:=hid b3
   have s0:∀w',Kept (rb::obl (.slice J l.length I)) wr w'->w'.cell? ⟨w.heap.size+1,4,none⟩=some (.slice J l.length I):=fun w' k=>(a5.out.kept k (by
    intro n
    rcases List.mem_cons.1 n with n|n
    ·omega
    ·have:=bn.out _ n;omega)).cell 4
   clear b3;go_upto_region 5 with(fail);refine ar [7] (fun w'=>Kept (rb::obl (.slice J l.length I)) wr w') (by kernel_rfl) (Kept.refl _ _).drew (fun hH=>?_);refine ah [1,5,6,7] (i:=0) (v:=?tv1) rfl (by kernel_rfl) (by kernel_rfl) (by kernel_rfl) (by kernel_rfl) (fun _ _ _ h=>h) (Or.inl ⟨by rfl,?ty1⟩) hH ?tr1
   case ty1=>intro w' N;(try dsimp only at N);go_simp;first|done|with_reducible rfl
   simp only[Act.put,List.setIfInBounds_toArray,List.set_cons_zero,List.set_cons_succ];refine ah [5,6,7] (i:=1) (v:=?tv2) rfl (by kernel_rfl) (by kernel_rfl) (by kernel_rfl) (by kernel_rfl) (fun _ _ _ h=>h) (Or.inl ⟨by rfl,?ty2⟩) hH ?tr2
   case ty2=>intro w' N;(try dsimp only at N);go_simp;first|done|with_reducible rfl
   simp only[Act.put,List.setIfInBounds_toArray,List.set_cons_zero,List.set_cons_succ];refine ah [3,4,5,6,7] (i:=2) (v:=?tv3) rfl (by kernel_rfl) (by kernel_rfl) (by kernel_rfl) (by kernel_rfl) (fun _ _ _ h=>h) (Or.inl ⟨by rfl,?ty3⟩) hH ?tr3
   case ty3=>intro w' N;(try dsimp only at N);go_simp;first|done|with_reducible rfl
   simp only[Act.put,List.setIfInBounds_toArray,List.set_cons_zero,List.set_cons_succ];refine ai (rs:=[3]) (by kernel_rfl) (by simp) ?_;refine ae.cons rfl (fun K hK=>?_) ae.nil;go_simp
   cases hr:E i with
   |error k =>
    have G:=aa.out;rw[hr]at G F;simp only[bnd]at G;subst G;refine F.out.mono ?_
    unfold PdE
    rintro e w6 ⟨⟨p,rfl⟩,k6⟩;exact⟨rfl,⟨p,rfl⟩,(bq.out.drew).trans k6⟩
   |ok y =>
    obtain⟨p,j⟩:=y;have cm:=hmono i p j hr;have G:=aa.out;rw[hr]at G F;simp only[bnd]at G;have bk:=hid G;clear G;refine F.out.mono ?_
    unfold PdE
    rintro e w6 ⟨v,rfl,k6,h6,cs,rfl,u⟩;obtain⟨U,T,Q,V,s⟩:=p;obtain⟨pa,L,rfl,_⟩:=u.get.rows;have k6':Kept [rb] wr w6:=(Kept.refl _ _).drew.trans k6;refine hK.out _ _ (k6'.mono (fun _ _ h=>by rw[List.mem_singleton]at h;exact h▸List.mem_cons_self)) (fun hH=>?_);clear hK K
    (try simp only[Act.put,List.setIfInBounds_toArray,List.set_cons_zero,List.set_cons_succ])
    refine ai (rs:=[4]) (by kernel_rfl) (by simp) ?_;refine ae.cons rfl (fun K hK=>?_) ae.nil;go_simp;refine hK.out _ _ (hH.alloc _) (fun hH=>?_);clear hK K
    (try simp only[Act.put,List.setIfInBounds_toArray,List.set_cons_zero,List.set_cons_succ])
    refine ai (rs:=[5]) (by kernel_rfl) (by simp) ?_;refine ae.cons rfl (fun K hK=>?_) ae.nil;have D:=bn.out;have ca:wr.heap.size<=w6.heap.size:=k6'.size;have k7:Kept [rb] wr (w6.alloc (.cells #[.int .i64 U,.string ⟨T.toArray⟩,.string ⟨Q.toArray⟩,.int .i64 V,.slice pa s.length L] 46)):=k6'.alloc _
    have b7:Grow PdR 5 46 (w.heap.size+2) (List.range (w.heap.size+2)++obl (.slice J l.length I)) (w6.alloc (.cells #[.int .i64 U,.string ⟨T.toArray⟩,.string ⟨Q.toArray⟩,.int .i64 V,.slice pa s.length L] 46)) (.slice J l.length I) l :=
     HG.out.step k7 (fun z hz n=>by rw[List.mem_singleton]at n;have:=(D z hz).1;omega) (fun z hz _=>by rw[List.mem_singleton]at hz;exact List.mem_append_left _ (List.mem_range.2 (by omega))) (fun z hz=>Or.inl hz)
    have a7:aw (List.range (w.heap.size+2)++obl (.slice J l.length I)) (fun w=>PdR w [.int .i64 U,.string ⟨T.toArray⟩,.string ⟨Q.toArray⟩,.int .i64 V,.slice pa s.length L] (.node U T Q V s)) (w6.alloc (.cells #[.int .i64 U,.string ⟨T.toArray⟩,.string ⟨Q.toArray⟩,.int .i64 V,.slice pa s.length L] 46)) :=
     (u.step ((Kept.refl [] w6).alloc _) (by simp) (fun z hz=>Or.inl hz)).less (fun z hz=>by
      rcases List.mem_append.1 hz with h|h
      ·exact Or.inl (List.mem_range.2 (by have:=List.mem_range.1 h;show z < wr.heap.size;omega))
      ·exact Or.inl (List.mem_range.2 (D z h).2))
    refine bg rfl _ _ 44 rfl i0 _ 72 underlying44 hi c4 c3 c2 rfl (by decide) (by decide) rfl b7 _ [.int .i64 U,.string ⟨T.toArray⟩,.string ⟨Q.toArray⟩,.int .i64 V,.slice pa s.length L] (.node U T Q V s) rfl (al (cs:=[.int .i64 U,.string ⟨T.toArray⟩,.string ⟨Q.toArray⟩,.int .i64 V,.slice pa s.length L]) (Blk.new _ _ _) rfl (by decide)) a7 (by simp[Value.oneCell']) (by omega) (by simp only[World.size_alloc];omega) (fun z hz=>List.mem_append_right _ hz) ?_;intro a' c' w8 b6 k8 b1;have Z:Kept (rb::obl (.slice J l.length I)) wr w8:=(k7.mono (fun _ _ h=>by rw[List.mem_singleton]at h;exact h▸List.mem_cons_self)).trans (k8.mono (fun _ _ h=>List.mem_cons_of_mem _ h));refine hK.out _ _ Z (fun hH=>?_);clear hK K
    (try simp only[Act.put,List.setIfInBounds_toArray])
    refine ah [7] (i:=6) (v:=?tv4) rfl (by kernel_rfl) (by kernel_rfl) (by kernel_rfl) (by kernel_rfl) (fun _ _ _ h=>h) (Or.inl ⟨by rfl,?ty4⟩) hH ?tr4
    case ty4=>intro w' N;(try dsimp only at N);go_simp;first|done|with_reducible rfl
    simp only[Act.put]
    have av:w.heap.size+1∉rb::obl (.slice J l.length I):=by
     intro n
     rcases List.mem_cons.1 n with n|n
     ·omega
     ·have:=D _ n;omega
    have b0:w.heap.size∉rb::obl (.slice J l.length I):=by
     intro n
     rcases List.mem_cons.1 n with n|n
     ·omega
     ·have:=D _ n;omega
    have a4:=a5.out.kept Z av;have bb:=c8.out.kept Z b0;have x4:w8.cell? ⟨w.heap.size+1,4,none⟩=some (.slice J l.length I):=a4.cell 4;have x5:=a4.frozen 4;have bv:=hid a4;have c0:=hid bb;have bt:=hid b6;have K8:=hid Z;have bl:=hid b1;have H6:=hid h6;have be:=hid k8;have c7:=hid (World.size_alloc w6 (.cells #[.int .i64 U,.string ⟨T.toArray⟩,.string ⟨Q.toArray⟩,.int .i64 V,.slice pa s.length L] 46));clear a4 bb b6 Z b1 h6 k8 b7 a7 u k7 k6 k6' s0 b0 av;refine ai (rs:=[7]) (by kernel_rfl) (by simp) ?_;refine ae.last rfl (by kernel_rfl) (fun K hK=>?_);go_simp;refine hK.out _ _ ?_;clear hK K
    (try simp only[Act.put,List.setIfInBounds_toArray,List.set_cons_zero,List.set_cons_succ])
    refine ak (by kernel_rfl) ?_ _;obtain⟨w9,a2⟩:∃x,w8.setCell ⟨w.heap.size+1,4,none⟩ (.slice a' (l.length+1) c')=x:=⟨_,rfl⟩;rw[a2];have P:Kept [w.heap.size+1] w8 w9:=a2▸(Kept.refl _ _).setCell (Or.inl (by simp)) _;have b9:Blk w9 (w.heap.size+1) 46 #[.int .i64 kd,.string ⟨#[]⟩,.string ⟨#[]⟩,.int .i64 0,.slice a' (l.length+1) c']:=a2▸bv.out.set_ 4 _;have ba:=c0.out.kept P (by simp);have h9:Ps B W0 rb ts a c z w9 j:=((H6.out.step ((Kept.refl [] w6).alloc _)).far be.out (fun y hy=>by have:=(D y hy).1;omega)).far P (fun y hy=>by rw[List.mem_singleton]at hy;omega)
    have ag:∀y∈obl (.slice a' (l.length+1) c'),w.heap.size+2<=y:=fun y hy=>by
     rcases bl.out y hy with h|h
     ·exact(D y h).1
     ·have:=c7.out;omega
    have b5:=bt.out.step (X':=List.range (w.heap.size+2)++obl (.slice a' (l.length+1) c')) P (fun y hy n=>by rw[List.mem_singleton]at n;have:=ag y hy;omega) (fun y hy _=>by rw[List.mem_singleton]at hy;exact List.mem_append_left _ (List.mem_append_left _ (List.mem_range.2 (by omega)))) (fun y hy=>by
     rcases List.mem_append.1 hy with h|h
     ·exact Or.inl (List.mem_append_left _ (List.mem_append_left _ h))
     ·exact Or.inl (List.mem_append_right _ h))
    have b4:Kept [rb] w w9:=(bq.out.then_ K8.out (fun y hy n=>by
     rcases List.mem_cons.1 n with h|h
     ·exact h▸List.mem_singleton.2 rfl
     ·have:=(D y h).1;omega)).fresh P (fun y hy=>by rw[List.mem_singleton]at hy;omega)
    have c9:w.heap.size+2<=w9.heap.size:=by have:=K8.out.size;have:=P.size;omega
    have a3:=hid (aQ h9 word);have aq:=hid b9;have bx:=hid ba;have bs:=hid b5;have bp:=hid b4;have br:=hid ag;have cp:=hid h9.le;clear a2 P b9 ba h9 ag b5 b4 D bv c0 bt K8 bl H6 be x4 x5 hH
    cases hsw:aI ts word j
    ·rw[hsw]at a3;have t:=bk.out;rw[hsw,if_neg (by simp)]at t;have a0:=hid t;clear t;go_wp2_with (go_at_call 115;refine a3.out.mono ?_;rintro e au ⟨rfl,o,ao⟩)
     go_roundw
     case rel =>
      refine⟨false,j,f,l++[.node U T Q V s],.slice a' (l.length+1) c',rfl,by omega,ao,bp.out.trans o,aq.out.kept o (by simp;omega),bx.out.kept o (by simp;omega),?_,?_,by have:=o.size;omega,?_⟩
      ·exact bs.out.step o (fun y hy n=>by rw[List.mem_singleton]at n;have:=br.out y hy;omega) (fun y hy _=>by rw[List.mem_singleton]at hy;exact List.mem_append_left _ (List.mem_range.2 (by omega))) (fun y hy=>Or.inl hy)
      ·rw[List.length_append];simp;omega
      ·simp only[Bool.false_eq_true,if_false];exact a0.out.symm
     case measure =>
      rw[show wr.cell? ⟨w.heap.size+1,4,none⟩=some (.slice J l.length I)from a5.out.cell 4];simp only[cH,cI,if_true,Bool.false_eq_true,if_false];omega
    ·rw[hsw]at a3;have t:=bk.out;rw[hsw,if_pos rfl]at t;have a0:=hid t;clear t;go_wp2_with (go_at_call 115;refine a3.out.mono ?_;rintro e au ⟨rfl,o,ao⟩)
     go_roundw
     case rel =>
      refine⟨true,j+1,f,l++[.node U T Q V s],.slice a' (l.length+1) c',rfl,by omega,ao,bp.out.trans o,aq.out.kept o (by simp;omega),bx.out.kept o (by simp;omega),?_,?_,by have:=o.size;omega,?_⟩
      ·exact bs.out.step o (fun y hy n=>by rw[List.mem_singleton]at n;have:=br.out y hy;omega) (fun y hy _=>by rw[List.mem_singleton]at hy;exact List.mem_append_left _ (List.mem_range.2 (by omega))) (fun y hy=>Or.inl hy)
      ·rw[List.length_append];simp;omega
      ·simp only[if_true];exact⟨by omega,a0.out⟩
     case measure =>
      rw[show wr.cell? ⟨w.heap.size+1,4,none⟩=some (.slice J l.length I)from a5.out.cell 4,show au.cell? ⟨w.heap.size+1,4,none⟩=some (.slice a' (l.length+1) c')from(aq.out.kept o (by simp;omega)).cell 4];simp only[cH,cI,Bool.false_eq_true,if_false];omega
end Go.Proofs.YtpcmamoomaddoaaGreatDoor
