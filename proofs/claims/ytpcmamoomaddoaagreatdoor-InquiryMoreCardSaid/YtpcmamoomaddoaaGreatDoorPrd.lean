import Derived.Test.YtpcmamoomaddoaaGreatDoorNam
import Derived.Test.YtpcmamoomaddoaaGreatDoorPrs
set_option maxRecDepth 100000
set_option maxHeartbeats 32000000
namespace Go.Proofs.YtpcmamoomaddoaaGreatDoor
open Go.RowKit
open Go.Proofs.Tryz
open Lib(hid)
def bH(q:Bs):Pd × Int:=match gJ q with|.error c=>(.node 0 [] [] 0 [],c)|.ok (_,p)=>(p,0)
theorem gq(q:Bs):aP (bH q).1=true:=by
 unfold bH
 split
 ·show aP (.node 0 [] [] 0 [])=true
  decide
 ·next h=>exact nW h
theorem nV(B:Nat)(q:Bs)(w:World)(hq:q.length<=100000000)(hE:EnvB B w) :
  Calls prog 31 #[.string ⟨q.toArray⟩] w fun e w'=>Kept [] w w'/\∃(nm:Bs) (cs:List Value) (at_:Int),e=.returned (.tuple #[.string ⟨nm.toArray⟩,.agg cs.toArray,.int .i64 at_,.int .i64 (bH q).2])/\aw (List.range w.heap.size) (fun w=>PdR w cs (bH q).1) w':=by
 refine(sx B q w hq hE).mono ?_
 unfold qP bH
 rintro e w' ⟨k,h⟩;refine⟨k,?_⟩
 cases hq:gJ q with
 |error c =>
  rw[hq]at h;obtain⟨at_,rfl⟩:=h;exact⟨[],[.int .i64 0,.string ⟨#[]⟩,.string ⟨#[]⟩,.int .i64 0,.slice none 0 0],at_,rfl,fun _ _ _ _=>PdR.of_rows (aj.nil_ _ _ _)⟩
 |ok x =>
  obtain⟨nm,p⟩:=x;rw[hq]at h;obtain⟨cs,rfl,hs⟩:=h;exact⟨nm,cs,0,rfl,hs⟩
def iz(A:List K3)(ns:List Bs):Prop:=ns.Nodup/\ns.Pairwise (fun x y=>x<=y)/\∀s,s∈ns↔s≠[]/\s∈bC A
def allN(p:Pd)(ns:List Bs)(most:Int):Pd:=.node 1 [] [] 0 (p::ns.map fun s=>.node 0 s [] most [])
def jO(p:Pd)(ns:List Bs)(most:Int):Except Int Pd:=if ns=[]then .ok p else if aP (allN p ns most)=true then .ok (allN p ns most)else .error 6
/-- what Predicate says of a question and the greatest value -/
def aU(q:Bs)(most:Int)(r:Except Int Pd):Prop :=
 if(bH q).2≠0 then r=.error (bH q).2 else if most < 0\/65535 < most then r=.error 3 else ∃ns,iz (atomsB (bH q).1) ns/\r=jO (bH q).1 ns most
theorem aU.valid{q:Bs}{most:Int}{p:Pd}(h:aU q most (.ok p)):aP p=true:=by
 unfold aU at h
 split at h
 ·cases h
 ·split at h
  ·cases h
  ·obtain⟨ns,_,h⟩:=h
   unfold jO at h
   split at h
   ·injection h with h;subst h;exact gq q
   ·split at h
    ·next hv=>injection h with h;subst h;exact hv
    ·cases h
theorem jl:∀(m:Nat) (p:Pd),sizeB p<=m->ct p=true->∀x∈atomsB p,x.1.length<=1000/\x.2.1.length<=1000
 |0,.node ..,h,_=>by rw[sizeB]at h;omega
 |m+1,.node k l r c ks,h,hf=>by
  intro x hx;rw[ct]at hf;simp only[Bool.and_eq_true,decide_eq_true_eq]at hf;rw[atomsB]at hx
  by_cases h0:k=0
  ·rw[if_pos h0,List.mem_singleton]at hx;exact hx▸hf.1
  ·rw[if_neg h0,bw,List.mem_flatMap]at hx;obtain⟨q,hq,hx⟩:=hx;rw[sizeB]at h;have:=bh hq;exact jl m q (by omega) ((eV ks).1 hf.2 q hq) x hx
theorem qO{p:Pd}{ns:List Bs}{most:Int}(h:aP p=true)(hn:∀s∈ns,s∈bC (atomsB p)):ct (allN p ns most)=true:=by
 have hf:formedB p=true:=by unfold aP at h;rw[Bool.and_eq_true]at h;exact h.2
 have hp:=cj p hf
 unfold allN
 rw[ct,ez];simp only[Bool.and_eq_true,decide_eq_true_eq];refine⟨⟨by simp,by simp⟩,hp,(eV _).2 fun q hq=>?_⟩;obtain⟨s,hs,rfl⟩:=List.mem_map.1 hq;obtain⟨x,hx,e⟩:=gM.1 (hn s hs);have:=jl (sizeB p) p (Nat.le_refl _) hp x hx;rw[ct,ez];simp only[Bool.and_eq_true,decide_eq_true_eq];refine⟨⟨?_,by simp⟩,trivial⟩
 rcases e with rfl|rfl
 ·exact this.1
 ·exact this.2
theorem Grow.one{α:Type}{R:World->List Value->α->Prop}{m:Nat}{e:TypeId}{B:Nat}{X:List Nat}{w:World}{g:Nat}{c:List Value}{b:α}(hb:Blk w g e c.toArray)(hB:B<=g)(hm:c.length=m)(hR:aw X (fun w=>R w c b) w):Grow R m e B X w (.slice (some ⟨g,0,none⟩) 1 1) [b]:=by
 refine⟨[c],⟨by simp[hm],Or.inr ⟨g,1,c.toArray,rfl,hB,hb,Nat.le_refl _,by unfold maxLen;omega,by simp[hm],?_⟩⟩,?_⟩
 ·simp[<-hm]
 ·exact hR.imp fun w' h=>⟨rfl,fun x hx=>by rw[List.mem_singleton]at hx;exact hx▸hm,fun k a ha=>by
   rcases k with _|k
   ·simp at ha;subst ha;exact⟨c,rfl,h⟩
   ·simp at ha⟩
theorem fW{w2:World}{tmps:Array Value}{v0 v1 v2 v3 v4 u X:Value}{b:Nat}{R:Ending->World->Prop}(hb:Blk w2 b 46 #[v0,v1,v2,v3,v4])(h2:tmps[2]?.getD undef=.pointer (some ⟨b,0,none⟩))(h3:tmps[3]?.getD undef=u)
  (hX:.tuple #[.agg #[v0,v1,v2,v3,v4],u]=X) (hR:R (.returned X) w2) :
  bodyPost prog Tryz.f14 R Exit.ret { tmps:=tmps,defers:=[] } w2:=by
 subst hX;subst h3;have f:w2.cell? ⟨b,0,none⟩=some v0:=hb.cell 0;have e:w2.cell? ⟨b,1,none⟩=some v1:=hb.cell 1;have d:w2.cell? ⟨b,2,none⟩=some v2:=hb.cell 2;have c:w2.cell? ⟨b,3,none⟩=some v3:=hb.cell 3;have a:w2.cell? ⟨b,4,none⟩=some v4:=hb.cell 4;refine bodyPost_ret (v:=.tuple #[.agg #[v0,v1,v2,v3,v4],tmps[3]?.getD undef]) ?_ rfl hR;simp only[results,results14]
 simp[go_sem,h2,f,e,d,c,a]
def PrdE(w:World)(q:Bs)(most:Int)(e:Ending)(w':World):Prop :=
 Kept [] w w'/\∃r,aU q most r/\match r with
  | .error c=>e=.returned (.tuple #[.agg #[.int .i64 0,.string ⟨#[]⟩,.string ⟨#[]⟩,.int .i64 0,.slice none 0 0],.int .i64 c])
  | .ok p=>∃cs:List Value,e=.returned (.tuple #[.agg cs.toArray,.int .i64 0])/\aw (List.range w.heap.size) (fun w=>PdR w cs p) w'
theorem go{B:Nat}{w:World}(q:Bs)(most:Int)(v0 v2 v4 v5 v6 v7:Value)(hq:q.length<=100000000)(hE:EnvB B w) :
  Calls prog 14 #[.agg #[v0,.string ⟨q.toArray⟩,v2,.int .i64 most,v4,v5,v6,v7]] w (PrdE w q most):=by
 obtain⟨W,hW⟩:∃W,(w.alloc (.cells #[v0,.string ⟨q.toArray⟩,v2,.int .i64 most,v4,v5,v6,v7] 50)).alloc (.cells #[.int .i64 0,.string ⟨#[]⟩,.string ⟨#[]⟩,.int .i64 0,.slice none 0 0] 46)=W:=⟨_,rfl⟩;have bo:Kept [] w W:=hW▸((Kept.refl _ _).alloc _).alloc _;have br:Blk W w.heap.size 50 #[v0,.string ⟨q.toArray⟩,v2,.int .i64 most,v4,v5,v6,v7]:=hW▸(Blk.new _ _ _).alloc _;have co:Blk W (w.heap.size+1) 46 #[.int .i64 0,.string ⟨#[]⟩,.string ⟨#[]⟩,.int .i64 0,.slice none 0 0]:=hW▸Blk.new1 _ _ _ _
 have c2:W.heap.size=w.heap.size+2:=by rw[<-hW];simp
 have a1:W.cell? ⟨w.heap.size,1,none⟩=some (.string ⟨q.toArray⟩):=br.cell 1;have HP:=hid (nV B q W hq (hE.kept0 bo));have d5:=hid br;have d3:=hid co;have en:=hid bo;have ag:=hid c2;have HW:=hid hW;have HE:=hid hE;obtain⟨p,hp⟩:∃p,(bH q).1=p:=⟨_,rfl⟩;obtain⟨er,bp⟩:∃c,(bH q).2=c:=⟨_,rfl⟩;have a6:=gq q;rw[hp]at HP a6;rw[bp]at HP;have Y:=hid a6;have bt:=hid hp;have a5:=hid bp;clear hW bo br co c2 hp bp a6 hE
 go_enter func14,ntmps14
 go_upto_region 1 with(fail);have hW':=HW.out;rw[hW'];clear hW' HW;go_upto_region 2 with(go_at_call 31;refine HP.out.mono ?_;rintro e w5 ⟨k5,nm,cs,f8,rfl,a0⟩;obtain⟨D,C,t,E,i⟩:=p;obtain⟨pa,M,rfl,_⟩:=a0.get.rows);obtain⟨g,hg⟩:∃g,w5.heap.size=g:=⟨_,rfl⟩;obtain⟨V,hV⟩:∃V,w5.alloc (.cells #[.int .i64 D,.string ⟨C.toArray⟩,.string ⟨t.toArray⟩,.int .i64 E,.slice pa i.length M] 46)=V:=⟨_,rfl⟩;rw[hV,hg];have bk:Kept [] w5 V:=hV▸(Kept.refl _ _).alloc _;have kV:Kept [] W V:=k5.trans bk;have o:Blk V g 46 #[.int .i64 D,.string ⟨C.toArray⟩,.string ⟨t.toArray⟩,.int .i64 E,.slice pa i.length M]:=hg▸hV▸Blk.new _ _ _;have ao:=a0.step (X':=List.range W.heap.size) bk (by simp) (fun z n=>Or.inl n);have cc:W.heap.size<=g:=hg▸k5.size;have I:=d5.out.kept kV (by simp);have f:=d3.out.kept kV (by simp);have d1:=hid o;have b6:=hid I;have U:=hid f;have aa:=hid ao;have a4:=hid (en.out.trans kV);have e9:=hid kV.size;have fn:=hid cc;have x0:V.cell? ⟨g,0,none⟩=some (.int .i64 D):=o.cell 0;have x1:V.cell? ⟨g,1,none⟩=some (.string ⟨C.toArray⟩):=o.cell 1;have x2:V.cell? ⟨g,2,none⟩=some (.string ⟨t.toArray⟩):=o.cell 2;have x3:V.cell? ⟨g,3,none⟩=some (.int .i64 E):=o.cell 3;have x4:V.cell? ⟨g,4,none⟩=some (.slice pa i.length M):=o.cell 4;have y0:V.cell? ⟨w.heap.size+1,0,none⟩=some (.int .i64 0):=f.cell 0;have y1:V.cell? ⟨w.heap.size+1,1,none⟩=some (.string ⟨#[]⟩):=f.cell 1;have y2:V.cell? ⟨w.heap.size+1,2,none⟩=some (.string ⟨#[]⟩):=f.cell 2
 have y3:V.cell? ⟨w.heap.size+1,3,none⟩=some (.int .i64 0):=f.cell 3;have y4:V.cell? ⟨w.heap.size+1,4,none⟩=some (.slice none 0 0):=f.cell 4;have bc:=f.frozen 0;have ba:=f.frozen 1;have b9:=f.frozen 2;have b8:=f.frozen 3;have b7:=f.frozen 4;have t3:V.cell? ⟨w.heap.size,3,none⟩=some (.int .i64 most):=I.cell 3;clear hV hg bk kV o ao cc I f k5 a0 a1 d5 d3 HP
 by_cases h0:er=0
 ·subst h0
  by_cases h1:most < 0
  ·go_wp2_with fail;refine fW (((((U.out.set_ 0 _).set_ 1 _).set_ 2 _).set_ 3 _).set_ 4 _) rfl rfl rfl ⟨(((((a4.out.setCell (Or.inr (Nat.le_add_right _ 1)) _).setCell (Or.inr (Nat.le_add_right _ 1)) _).setCell (Or.inr (Nat.le_add_right _ 1)) _).setCell (Or.inr (Nat.le_add_right _ 1)) _).setCell (Or.inr (Nat.le_add_right _ 1)) _),.error 3,?_,rfl⟩
   unfold aU
   rw[a5.out,if_neg (by simp),if_pos (Or.inl h1)]
  ·by_cases h2:65535 < most
   ·go_wp2_with fail;refine fW (((((U.out.set_ 0 _).set_ 1 _).set_ 2 _).set_ 3 _).set_ 4 _) rfl rfl rfl ⟨(((((a4.out.setCell (Or.inr (Nat.le_add_right _ 1)) _).setCell (Or.inr (Nat.le_add_right _ 1)) _).setCell (Or.inr (Nat.le_add_right _ 1)) _).setCell (Or.inr (Nat.le_add_right _ 1)) _).setCell (Or.inr (Nat.le_add_right _ 1)) _),.error 3,?_,rfl⟩
    unfold aU
    rw[a5.out,if_neg (by simp),if_pos (Or.inr h2)]
   ·have h1':¬(most < 0\/65535 < most):=fun h=>h.elim h1 h2;go_upto_region 6 with(fail)
    have ab:sizeB (.node D C t E i)<=100000:=by
     have:=Y.out
     unfold aP dG at this
     simp only[Bool.and_eq_true,decide_eq_true_eq]at this;omega
    have HN:=hid (om aa.out.get Y.out ab (HE.out.kept0 a4.out));clear ab;go_upto_region 7 with(go_at_call 32;refine HN.out.mono ?_;rintro e O ⟨u,J,rfl,c9,c4,au,a8,k6⟩;obtain⟨na,nc,rfl⟩:=dX a8);clear HN x0 x1 x2 x3 x4 y0 y1 y2 y3 y4 bc ba b9 b8 b7 t3;have a3:Hid (iz (atomsB (.node D C t E i)) J):=hid ⟨c9,c4,au⟩;have o:=d1.out.kept k6 (by simp);have f:=U.out.kept k6 (by simp);have I:=b6.out.kept k6 (by simp);have aq:=aa.out.step (X':=List.range W.heap.size) k6 (by simp) (fun z n=>Or.inl n);have bx:=hid (a4.out.trans k6);have fr:=hid o;have b4:=hid f;have d4:=hid I;have b2:=hid aq;have b3:=hid a8;have f9:=hid a4.out.size;have eg:=hid k6.size;have x0:O.cell? ⟨g,0,none⟩=some (.int .i64 D):=o.cell 0;have x1:O.cell? ⟨g,1,none⟩=some (.string ⟨C.toArray⟩):=o.cell 1;have x2:O.cell? ⟨g,2,none⟩=some (.string ⟨t.toArray⟩):=o.cell 2;have x3:O.cell? ⟨g,3,none⟩=some (.int .i64 E):=o.cell 3;have x4:O.cell? ⟨g,4,none⟩=some (.slice pa i.length M):=o.cell 4;have y0:O.cell? ⟨w.heap.size+1,0,none⟩=some (.int .i64 0):=f.cell 0;have y1:O.cell? ⟨w.heap.size+1,1,none⟩=some (.string ⟨#[]⟩):=f.cell 1;have y2:O.cell? ⟨w.heap.size+1,2,none⟩=some (.string ⟨#[]⟩):=f.cell 2;have y3:O.cell? ⟨w.heap.size+1,3,none⟩=some (.int .i64 0):=f.cell 3;have y4:O.cell? ⟨w.heap.size+1,4,none⟩=some (.slice none 0 0):=f.cell 4;have bc:=f.frozen 0
    have ba:=f.frozen 1;have b9:=f.frozen 2;have b8:=f.frozen 3;have b7:=f.frozen 4;have t3:O.cell? ⟨w.heap.size,3,none⟩=some (.int .i64 most):=I.cell 3;clear d1 U b6 aa c9 c4 au o f I aq a8 k6
    by_cases hns:J=[]
    ·subst hns;have bv:=hid ((((((Kept.refl [w.heap.size+1] O).setCell (p:=⟨w.heap.size+1,0,none⟩) (Or.inl (by simp)) (.int .i64 D)).setCell (p:=⟨w.heap.size+1,1,none⟩) (Or.inl (by simp)) (.string ⟨C.toArray⟩)).setCell (p:=⟨w.heap.size+1,2,none⟩) (Or.inl (by simp)) (.string ⟨t.toArray⟩)).setCell (p:=⟨w.heap.size+1,3,none⟩) (Or.inl (by simp)) (.int .i64 E)).setCell (p:=⟨w.heap.size+1,4,none⟩) (Or.inl (by simp)) (.slice pa i.length M))
     dsimp only[List.length_nil]
     go_wp2_with fail;refine fW (((((b4.out.set_ 0 _).set_ 1 _).set_ 2 _).set_ 3 _).set_ 4 _) rfl rfl rfl ⟨(((((bx.out.setCell (Or.inr (Nat.le_add_right _ 1)) _).setCell (Or.inr (Nat.le_add_right _ 1)) _).setCell (Or.inr (Nat.le_add_right _ 1)) _).setCell (Or.inr (Nat.le_add_right _ 1)) _).setCell (Or.inr (Nat.le_add_right _ 1)) _),.ok (.node D C t E i),?_,[.int .i64 D,.string ⟨C.toArray⟩,.string ⟨t.toArray⟩,.int .i64 E,.slice pa i.length M],rfl,?_⟩
     ·unfold aU
      rw[a5.out,bt.out,if_neg (by simp),if_neg h1'];exact⟨[],a3.out,by unfold jO;rw[if_pos rfl]⟩
     ·exact b2.out.step bv.out (fun z n _=>by rw[List.mem_singleton]at n;exact List.mem_range.2 (by have:=ag.out;omega)) (fun z n=>Or.inl (List.mem_range.2 (by have:=ag.out;have:=List.mem_range.1 n;omega)))
    ·have e5:J.length≠0:=fun e=>hns (List.eq_nil_of_length_eq_zero e)
     have hnl':(J.length:Int)≠0:=by omega
     obtain⟨nn,c7⟩:∃nn,J.length=nn:=⟨_,rfl⟩;have an:=hid c7
     have d6:nn<=100000:=by
      have h9:=eH J (bC (atomsB (.node D C t E i))) a3.out.1 (fun x hx=>((a3.out.2.2 x).1 hx).2);have h8:=ee (.node D C t E i)
      have h7:(bC (atomsB (.node D C t E i))).length=2*(atomsB (.node D C t E i)).length:=by
       unfold bC
       generalize atomsB (.node D C t E i)=A
       induction A with
       |nil=>rfl
       |cons a A ih=>rw[List.flatMap_cons,List.length_append,ih];simp;omega
      have h6:=Y.out
      unfold aP dG at h6
      simp only[Bool.and_eq_true,decide_eq_true_eq]at h6;omega
     rw[c7]at e5 hnl' b3 ⊢;obtain⟨h,hh⟩:∃h,O.heap.size=h:=⟨_,rfl⟩;obtain⟨V9,a2⟩:∃x,(O.alloc (.cells #[.int .i64 D,.string ⟨C.toArray⟩,.string ⟨t.toArray⟩,.int .i64 E,.slice pa i.length M] 46)).alloc (.cells #[.int .i64 1,.string ⟨#[]⟩,.string ⟨#[]⟩,.int .i64 0,.slice (some ⟨h,0,none⟩) 1 1] 46)=x:=⟨_,rfl⟩;have be:Kept [] O V9:=a2▸((Kept.refl _ _).alloc _).alloc _
     have cl:Blk V9 h 46 #[.int .i64 D,.string ⟨C.toArray⟩,.string ⟨t.toArray⟩,.int .i64 E,.slice pa i.length M]:=by rw[<-a2,<-hh];exact(Blk.new _ _ _).alloc _
     have cm:Blk V9 (h+1) 46 #[.int .i64 1,.string ⟨#[]⟩,.string ⟨#[]⟩,.int .i64 0,.slice (some ⟨h,0,none⟩) 1 1]:=by rw[<-a2,<-hh];exact Blk.new1 _ _ _ _
     have ac:V9.heap.size=h+2:=by rw[<-a2];simp[hh]
     have ap:=b2.out.step (X':=List.range W.heap.size++(h+1)::obl (.slice (some ⟨h,0,none⟩) 1 1)) be (by simp) (fun z n=>by
      rcases List.mem_append.1 n with n|n
      ·exact Or.inl n
      ·rcases List.mem_cons.1 n with n|n
       ·exact Or.inr (by omega)
       ·have:=dr n;simp[Value.ownBlock]at this;exact Or.inr (by omega))
     have b0:Grow PdR 5 46 h (List.range W.heap.size++(h+1)::obl (.slice (some ⟨h,0,none⟩) 1 1)) V9 (.slice (some ⟨h,0,none⟩) 1 1) [.node D C t E i]:=Grow.one (c:=[.int .i64 D,.string ⟨C.toArray⟩,.string ⟨t.toArray⟩,.int .i64 E,.slice pa i.length M]) cl (Nat.le_refl _) rfl ap;have f1:=hid cm;have d0:=hid b0;have ek:=hid ac;have cy:=hid be;have cq:=hid a2;have HH:=hid hh;clear a2 be cl cm ac ap b0 hh;go_upto_region 10 with(fail);have hV9':=cq.out;rw[HH.out];rw[hV9'];clear hV9' cq x0 x1 x2 x3 x4 y0 y1 y2 y3 y4 bc ba b9 b8 b7 t3;go_wp2_with fail
     have c8:((nn:Int)==0)=false:=by simpa using hnl'
     simp only[c8];obtain⟨i0,hi,e3,e2,e1⟩:=info_parts eK
     go_loopw [46] (fun v wr=>∃(j:Nat) (kv:Value),j<=nn/\v=.int .i64 j/\Kept [] O wr/\Blk wr (h+1) 46 #[.int .i64 1,.string ⟨#[]⟩,.string ⟨#[]⟩,.int .i64 0,kv] /\
      Grow PdR 5 46 h (List.range W.heap.size++(h+1)::obl kv) wr kv (.node D C t E i::(J.take j).map fun s=>.node 0 s [] most [])/\h+2<=wr.heap.size/\(h+1)∉obl kv) (fun v _=>nn - (intOf v).toNat)
     case atStart=>exact⟨0,_,Nat.zero_le _,rfl,cy.out,f1.out,by simpa using d0.out,by have:=ek.out;omega,fun hm=>by have:=dr hm;simp[Value.ownBlock]at this⟩
     case round =>
      obtain⟨j,kv,hj,rfl,Q,L,N,ab,ca⟩:=hrel;obtain⟨ka,kc,rfl⟩:=N.form (by decide);obtain⟨G,T⟩:∃G,(.node D C t E i::(J.take j).map fun s=>Pd.node 0 s [] most [])=G:=⟨_,rfl⟩
      have a9:G.length=j+1:=by rw[<-T,List.length_cons,List.length_map,List.length_take];have:=an.out;omega
      rw[T]at L N ca;have ev:=hid T;have f4:=hid a9;have eq:=hid Q;have d2:=hid L;have f0:=hid N;have cu:=hid ab;have cv:=hid ca;have af:=d4.out.kept Q (by simp);have bq:=b4.out.kept Q (by simp);have f6:=hid af;have b5:=hid bq;have t3:wr.cell? ⟨w.heap.size,3,none⟩=some (.int .i64 most):=af.cell 3;have p4:wr.cell? ⟨h+1,4,none⟩=some (.slice ka G.length kc):=L.cell 4;have pf:=L.frozen 4
      by_cases hlt:j < nn
      ·have hlt':(j:Int) < (nn:Int):=by omega
       have c3:=Row.of_own b3.out (by omega);obtain⟨bb,e0,rfl,hc⟩:=c3.at_ (by omega);obtain⟨s,hs⟩:∃s,J[j]?=some s:=⟨_,List.getElem?_eq_getElem (by have:=an.out;omega)⟩;have y0:wr.cell? ⟨bb,e0+j,none⟩=some (.string ⟨s.toArray⟩):=Kept.cellOf (hc j _ (by simp[strs,hs])) _ Q
       have a7:J.take (j+1)=J.take j++[s]:=by
        rw[List.take_succ_eq_append_getElem (by have:=an.out;omega),(List.getElem?_eq_some_iff.1 hs).2]
       have eh:Hid (.node D C t E i::(J.take (j+1)).map (fun s=>Pd.node 0 s [] most [])=G++[.node 0 s [] most []]):=hid (by rw[a7,List.map_append,<-ev.out];rfl);obtain⟨gr,b1⟩:∃gr,wr.heap.size=gr:=⟨_,rfl⟩;have f5:=hid b1;have hz1':∀z,z∈List.range W.heap.size++(h+1)::obl (.slice ka G.length kc)->z∈List.range W.heap.size++(h+1)::obl (.slice ka G.length kc)\/wr.heap.size<=z:=fun z n=>Or.inl n
       have av:Grow PdR 5 46 h (List.range W.heap.size++(h+1)::obl (.slice ka G.length kc)) (wr.alloc (.cells #[.int .i64 0,.string ⟨s.toArray⟩,.string ⟨#[]⟩,.int .i64 most,.slice none 0 0] 46)) (.slice ka G.length kc) G :=
        N.step ((Kept.refl [] wr).alloc _) (fun z _ hm=>by simp at hm) (fun z n=>by simp at n) hz1'
       have cz:=hid av;have ey:Hid (h<=wr.heap.size):=hid (by omega);have es:Hid (G.length<=1000000000):=hid (by omega);clear c3 hc hs a7 av hz1' Q L N af bq T a9 b1;go_upto_region 13 with(fail);clear y0;go_wp2_with (at_builtin;refine cJ (R:=PdR) (v:=.slice ka G.length kc) (X:=List.range W.heap.size++(h+1)::obl (.slice ka G.length kc)) rfl _ _ 44 rfl i0 _ 72 underlying44 hi e3 e2 e1 rfl (by decide) (by decide) rfl cz.out _ [.int .i64 0,.string ⟨s.toArray⟩,.string ⟨#[]⟩,.int .i64 most,.slice none 0 0] (.node 0 s [] most []) rfl (al (cs:=[.int .i64 0,.string ⟨s.toArray⟩,.string ⟨#[]⟩,.int .i64 most,.slice none 0 0]) (Blk.new _ _ _) rfl (by decide)) (fun _ _ _ _=>PdR.of_rows (aj.nil_ _ _ _)) (by simp[Value.oneCell']) es.out (Nat.le_trans ey.out ((Kept.refl [] wr).alloc _).size) (fun z n=>List.mem_append_right _ (List.mem_cons_of_mem _ n)) ?_;intro a' c' w8 ci k8 c6;have ad:=(d2.out.alloc _).kept k8 cv.out;have p8:w8.cell? ⟨h+1,4,none⟩=some (.slice ka G.length kc):=ad.cell 4;have f7:=ad.frozen 4;have f3:=hid ad;have f2:=hid ci;have K8:=hid k8;have el:=hid c6;clear ad ci k8 c6);obtain⟨w9,bl⟩:∃x,w8.setCell ⟨h+1,4,none⟩ (.slice a' (G.length+1) c')=x:=⟨_,rfl⟩;rw[bl];have bd:Kept [h+1] w8 w9:=bl▸(Kept.refl _ _).setCell (Or.inl (by simp)) _;have e8:Blk w9 (h+1) 46 #[.int .i64 1,.string ⟨#[]⟩,.string ⟨#[]⟩,.int .i64 0,.slice a' (G.length+1) c']:=bl▸f3.out.set_ 4 _
       have cb:(h+1)∉obl (.slice a' (G.length+1) c'):=fun hm=>by
        rcases el.out _ hm with e|e
        ·exact cv.out e
        ·have:=cu.out;rw[World.size_alloc]at e;omega
       have e7:=f2.out.step (X':=List.range W.heap.size++(h+1)::obl (.slice a' (G.length+1) c')) bd (fun y hy hm=>by rw[List.mem_singleton]at hm;subst hm;exact cb hy) (fun y hy _=>by rw[List.mem_singleton]at hy;subst hy;exact List.mem_append_left _ (List.mem_append_right _ List.mem_cons_self)) (fun y hy=>by
        rcases List.mem_append.1 hy with e|e
        ·exact Or.inl (List.mem_append_left _ (List.mem_append_left _ e))
        ·rcases List.mem_cons.1 e with e|e
         ·subst e;exact Or.inl (List.mem_append_left _ (List.mem_append_right _ List.mem_cons_self))
         ·exact Or.inl (List.mem_append_right _ e))
       have e6:Kept [] O w9:=(((eq.out.alloc _).fresh K8.out (fun x hx=>by have:=(f0.out.ge x hx).1;have:=HH.out;omega)).fresh bd (fun x hx=>by rw[List.mem_singleton]at hx;have:=HH.out;omega))
       have ac:h+2<=w9.heap.size:=by have h1:=K8.out.size;have h2:=bd.size;have h3:=cu.out;rw[World.size_alloc]at h1;omega
       go_roundw
       case rel=>exact⟨j+1,_,by omega,by go_num,e6,e8,by rw[eh.out];exact e7,ac,cb⟩
       case measure=>simp[intOf];omega
      ·obtain rfl:j=nn:=by omega
       have a7:J.take j=J:=List.take_of_length_le (by have:=an.out;omega);rw[a7]at T
       have c5:PdR wr [.int .i64 1,.string ⟨#[]⟩,.string ⟨#[]⟩,.int .i64 0,.slice ka G.length kc] (allN (.node D C t E i) J most):=by
        have:=PdR.of_rows (k:=1) (l:=[]) (r:=[]) (c:=0) (N.row (by omega));rw[<-T]at this ⊢;exact this
       have a0:=N.done (X':=List.range W.heap.size) (fun z n=>Or.inl (List.mem_append_left _ n)) (fun z n hm=>by have:=(N.ge z n).1;have:=List.mem_range.1 hm;have:=e9.out;have:=eg.out;have:=HH.out;omega) (by omega);have c1:ct (allN (.node D C t E i) J most)=true:=qO Y.out (fun s hs=>((a3.out.2.2 s).1 hs).2);have bs:=hid (cA c5 c1 (HE.out.kept0 (bx.out.trans Q)));have aa:=hid a0;have cx:=hid (bx.out.trans Q);have ex:Hid (G=.node D C t E i::J.map fun s=>Pd.node 0 s [] most []):=hid T.symm;have q0:wr.cell? ⟨h+1,0,none⟩=some (.int .i64 1):=L.cell 0;have q1:wr.cell? ⟨h+1,1,none⟩=some (.string ⟨#[]⟩):=L.cell 1;have q2:wr.cell? ⟨h+1,2,none⟩=some (.string ⟨#[]⟩):=L.cell 2;have q3:wr.cell? ⟨h+1,3,none⟩=some (.int .i64 0):=L.cell 3;clear c5 a0 c1 Q L N af bq T a9 a7;obtain⟨vb,bn⟩:∃b,aP (allN (.node D C t E i) J most)=b:=⟨_,rfl⟩;rw[bn]at bs;have cp:=hid bn;clear bn
       cases vb
       ·go_wp2_with (go_at_call 33;refine bs.out.mono ?_;rintro e m ⟨rfl,P⟩;have d:=b5.out.kept P (by simp);have dc:=d.frozen 0;have da:=d.frozen 1;have d9:=d.frozen 2;have d8:=d.frozen 3;have d7:=d.frozen 4;have du:m.cell? ⟨w.heap.size+1,0,none⟩=some (.int .i64 0):=d.cell 0;have ds:m.cell? ⟨w.heap.size+1,1,none⟩=some (.string ⟨#[]⟩):=d.cell 1;have dq:m.cell? ⟨w.heap.size+1,2,none⟩=some (.string ⟨#[]⟩):=d.cell 2;have dn:m.cell? ⟨w.heap.size+1,3,none⟩=some (.int .i64 0):=d.cell 3;have dm:m.cell? ⟨w.heap.size+1,4,none⟩=some (.slice none 0 0):=d.cell 4;have c0:=hid d;have Z:=hid P;clear d P);refine fW (((((c0.out.set_ 0 _).set_ 1 _).set_ 2 _).set_ 3 _).set_ 4 _) rfl rfl rfl ⟨((((((cx.out.trans Z.out).setCell (Or.inr (Nat.le_add_right _ 1)) _).setCell (Or.inr (Nat.le_add_right _ 1)) _).setCell (Or.inr (Nat.le_add_right _ 1)) _).setCell (Or.inr (Nat.le_add_right _ 1)) _).setCell (Or.inr (Nat.le_add_right _ 1)) _),.error 6,?_,rfl⟩
        unfold aU
        rw[a5.out,bt.out,if_neg (by simp),if_neg h1'];exact⟨J,a3.out,by unfold jO;rw[if_neg hns,if_neg (by rw[cp.out];simp)]⟩
       ·go_wp2_with (go_at_call 33;refine bs.out.mono ?_;rintro e m ⟨rfl,P⟩;have d:=b5.out.kept P (by simp);have dc:=d.frozen 0;have da:=d.frozen 1;have d9:=d.frozen 2;have d8:=d.frozen 3;have d7:=d.frozen 4;have du:m.cell? ⟨w.heap.size+1,0,none⟩=some (.int .i64 0):=d.cell 0;have ds:m.cell? ⟨w.heap.size+1,1,none⟩=some (.string ⟨#[]⟩):=d.cell 1;have dq:m.cell? ⟨w.heap.size+1,2,none⟩=some (.string ⟨#[]⟩):=d.cell 2;have dn:m.cell? ⟨w.heap.size+1,3,none⟩=some (.int .i64 0):=d.cell 3;have dm:m.cell? ⟨w.heap.size+1,4,none⟩=some (.slice none 0 0):=d.cell 4;have F:=d2.out.kept P (by simp);have z0:m.cell? ⟨h+1,0,none⟩=some (.int .i64 1):=F.cell 0;have z1:m.cell? ⟨h+1,1,none⟩=some (.string ⟨#[]⟩):=F.cell 1;have z2:m.cell? ⟨h+1,2,none⟩=some (.string ⟨#[]⟩):=F.cell 2;have z3:m.cell? ⟨h+1,3,none⟩=some (.int .i64 0):=F.cell 3;have z4:m.cell? ⟨h+1,4,none⟩=some (.slice ka G.length kc):=F.cell 4;have c0:=hid d;have Z:=hid P;clear d P F);have bv:=hid ((((((Kept.refl [w.heap.size+1] m).setCell (p:=⟨w.heap.size+1,0,none⟩) (Or.inl (by simp)) (.int .i64 1)).setCell (p:=⟨w.heap.size+1,1,none⟩) (Or.inl (by simp)) (.string ⟨#[]⟩)).setCell (p:=⟨w.heap.size+1,2,none⟩) (Or.inl (by simp)) (.string ⟨#[]⟩)).setCell (p:=⟨w.heap.size+1,3,none⟩) (Or.inl (by simp)) (.int .i64 0)).setCell (p:=⟨w.heap.size+1,4,none⟩) (Or.inl (by simp)) (.slice ka G.length kc));refine fW (((((c0.out.set_ 0 _).set_ 1 _).set_ 2 _).set_ 3 _).set_ 4 _) rfl rfl rfl ⟨((((((cx.out.trans Z.out).setCell (Or.inr (Nat.le_add_right _ 1)) _).setCell (Or.inr (Nat.le_add_right _ 1)) _).setCell (Or.inr (Nat.le_add_right _ 1)) _).setCell (Or.inr (Nat.le_add_right _ 1)) _).setCell (Or.inr (Nat.le_add_right _ 1)) _),.ok (allN (.node D C t E i) J most),?_,[.int .i64 1,.string ⟨#[]⟩,.string ⟨#[]⟩,.int .i64 0,.slice ka G.length kc],rfl,?_⟩
        ·unfold aU
         rw[a5.out,bt.out,if_neg (by simp),if_neg h1'];exact⟨J,a3.out,by unfold jO;rw[if_neg hns,if_pos cp.out]⟩
        ·have e4:aw (List.range W.heap.size) (fun w=>PdR w [.int .i64 1,.string ⟨#[]⟩,.string ⟨#[]⟩,.int .i64 0,.slice ka G.length kc] (allN (.node D C t E i) J most)) wr:=aa.out.imp fun w' hh=>by
          have:=PdR.of_rows (k:=1) (l:=[]) (r:=[]) (c:=0) hh
          unfold allN
          rw[<-ex.out];exact this
         exact(e4.step (X':=List.range W.heap.size) Z.out (by simp) (fun z n=>Or.inl n)).step bv.out (fun z n _=>by rw[List.mem_singleton]at n;exact List.mem_range.2 (by have:=ag.out;omega)) (fun z n=>Or.inl (List.mem_range.2 (by have:=ag.out;have:=List.mem_range.1 n;omega)))
 ·go_wp2_with fail;refine fW (((((U.out.set_ 0 _).set_ 1 _).set_ 2 _).set_ 3 _).set_ 4 _) rfl rfl rfl ⟨(((((a4.out.setCell (Or.inr (Nat.le_add_right _ 1)) _).setCell (Or.inr (Nat.le_add_right _ 1)) _).setCell (Or.inr (Nat.le_add_right _ 1)) _).setCell (Or.inr (Nat.le_add_right _ 1)) _).setCell (Or.inr (Nat.le_add_right _ 1)) _),.error er,?_,rfl⟩
  unfold aU
  rw[a5.out,if_pos h0]
end Go.Proofs.YtpcmamoomaddoaaGreatDoor
