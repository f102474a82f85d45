import Derived.Test.YtcidfldeiklcjaaGreatDoorSnp
set_option maxRecDepth 100000
set_option maxHeartbeats 32000000
namespace Go.Proofs.YtcidfldeiklcjaaGreatDoor
open Go.RowKit Tm
open Go.Proofs.Tryz
open Lib(hid)
def cB(s:Stp)(x:Int)(e:Ent):Ent × Bool:=if sealOk s x e then(bQ s x e,true)else(fI,false)
def SeaF(y:Ent)(sb:Bool)(w:World)(e:Ending)(w':World):Prop:=∃ya yc,e=.returned (.tuple #[.agg #[y.gate,y.no,y.time,y.kind,.slice ya y.nums.length yc,y.text,y.c,y.s],.bool sb]) /\
 (∀X:List Nat,(∀z∈X,z < w.heap.size)->ae X (fun w=>Row w 1 (.slice ya y.nums.length yc) y.nums.length (ints y.nums)) w')/\Kept [] w w'
theorem lw(w:World):Row w 1 () 0 (ints []):=⟨by simp[ints],by simp,_,_,rfl,by simp,fun h=>absurd h (by simp)⟩
theorem fM{f:FuncId}{args:Array Value}{s:Stp}{x:Int}{e:Ent}{w:World}(h:Calls prog f args w (SeaE s x e w)):Calls prog f args w (SeaF (cB s x e).1 (cB s x e).2 w) :=
 h.mono fun en w' hs=>by
  obtain⟨k,⟨h1,rfl⟩|⟨h1,a,c,rfl,h2⟩⟩:=hs
  ·have hz:cB s x e=(fI,false):=by unfold cB;rw[h1];rfl
   rw[hz];exact⟨none,0,rfl,fun _ _ _ _ _ _=>lw _,k⟩
  ·have hz:cB s x e=(bQ s x e,true):=by unfold cB;rw[h1];rfl
   rw[hz];exact⟨a,c,rfl,h2,k⟩
def gk(s:Stp)(xs:List Int)(e:Ent):Ent:=if 0<=e.gate/\e.gate < xs.length then(if sealOk s (nth xs e.gate.toNat) e then bQ s (nth xs e.gate.toNat) e else e)else e
def sealL(s:Stp)(xs:List Int)(l:List Ent):List Ent:=l.map (gk s xs)
theorem zP{W w1:World}(hb:Kept [] W w1):(∀b o,b < W.heap.size->w1.cell? ⟨b,o,none⟩=W.cell? ⟨b,o,none⟩)/\(∀b o,b < W.heap.size->w1.frozen? ⟨b,o,none⟩=W.frozen? ⟨b,o,none⟩) := ⟨fun b o h=>hb.cell (p:=⟨b,o,none⟩) h (by simp),fun b o h=>World.frozen?_of_block (hb.block b h (by simp))⟩
def SlE(L:List Ent)(w:World)(e:Ending)(w':World):Prop:=∃v,e=.returned v/\aU w' v L/\Kept [] w w'
structure SlW (w wr:World) (l:List Ent) (X:List Nat) (v:Value):Prop where
 gr:Grow EntR 8 52 w.heap.size X wr v l
 vX:∀z∈obl v,z∈X
 hX:∀z∈X,z < wr.heap.size
 gX:∀z∈X,w.heap.size<=z
 kb:Kept [] w wr
theorem SlW.keep{w wr w':World}{l:List Ent}{X:List Nat}{v:Value}(h:SlW w wr l X v)(k:Kept [] wr w'):SlW w w' l X v := ⟨h.gr.step k (by simp) (by simp) (fun z hz=>Or.inl hz),h.vX,fun z hz=>Nat.lt_of_lt_of_le (h.hX z hz) k.size,h.gX,h.kb.trans k⟩
theorem SlW.push{w wr wu:World}{l:List Ent}{X:List Nat}{v:Value}{b:Ent}{p:Option Addr}{q:Nat}(h:SlW w wr l X v)(k1:Kept (obl v) wr wu)
  (G:Grow EntR 8 52 w.heap.size (X++obl (.slice p (l.length+1) q)) wu (.slice p (l.length+1) q) (l++[b])):SlW w wu (l++[b]) (X++obl (.slice p (l.length+1) q)) (.slice p (l.length+1) q) := ⟨G,fun z hz=>List.mem_append_right _ hz,fun z hz=>by
  rcases List.mem_append.1 hz with e|e
  ·exact Nat.lt_of_lt_of_le (h.hX z e) k1.size
  ·exact(G.ge z e).2,fun z hz=>by
  rcases List.mem_append.1 hz with e|e
  ·exact h.gX z e
  ·exact(G.ge z e).1,h.kb.fresh k1 (fun z hz=>(h.gr.ge z hz).1)⟩
theorem SlW.keepS{w wr w':World}{l:List Ent}{X X' S:List Nat}{v:Value}(h:SlW w wr l X v)(k:Kept S wr w')(hv:∀z∈obl v,z∉S)(hS:∀z∈S,z < wr.heap.size->z∈X)(hw:∀z∈S,w.heap.size<=z)
  (hX:∀z∈X',z∈X\/wr.heap.size<=z) (hX2:∀z∈X',z < w'.heap.size) (hX3:∀z∈X,z∈X'):SlW w w' l X' v := ⟨h.gr.step k hv hS hX,fun z hz=>hX3 z (h.vX z hz),hX2,fun z hz=>by
  rcases hX z hz with e|e
  ·exact h.gX z e
  ·exact Nat.le_trans h.kb.size e,h.kb.fresh k hw⟩
theorem qR{w wr:World}{X:List Nat}{v:Value}{n:Nat}{xs:List Value}(h:Row w 1 v n xs)(k:Kept [] w wr)(hX:∀z∈X,w.heap.size<=z):ae X (fun w=>Row w 1 v n xs) wr:=fun S w' kk hS =>
 h.kept (k.fresh kk (fun z hz=>by
  rcases Nat.lt_or_ge z wr.heap.size with h1|h1
  ·exact hX z (hS z hz h1)
  ·exact Nat.le_trans k.size h1))
theorem pv(vs vk va:Value)(s:Stp)(xs:List Int)(l:List Ent)(w:World)(hs:StpV w vs s)(hk:Row w 1 vk xs.length (ints xs))(ha:aU w va l)(hl:l.length<=1000)(hI:∀e∈l,EntI e)(hki:∀x∈xs,Wire.I64 x)(hE:Env2 w) :
  Calls prog 9 #[vs,vk,va] w (SlE (sealL s xs l) w):=by
 have hs':=hs;obtain⟨⟨ad,cc,rfl,bs⟩,ip,iq,ig,ib,il⟩:=hs';obtain⟨aa,ca,rfl,cx,_⟩:=ag.form ha;obtain⟨ka,kc,rfl,cy,_⟩:=hk.form;obtain⟨W,hW⟩:=nm ((w.alloc (.cells #[s.P,s.Q,s.G,.slice ad s.bases.length cc,s.blind] 26)).alloc (.cells #[] 52));have hb:Blk W w.heap.size 26 #[s.P,s.Q,s.G,.slice ad s.bases.length cc,s.blind]:=hW▸(Blk.new _ _ _).alloc _
 have b:Blk W (w.heap.size+1) 52 #[]:=by
  have:=Blk.new (w.alloc (.cells #[s.P,s.Q,s.G,.slice ad s.bases.length cc,s.blind] 26)) 52 #[];rw[hW,World.size_alloc]at this;exact this
 have b5:Kept [] w W:=hW▸(kr.alloc _).alloc _
 have SE:Hid (∀(k:Nat) (hk:k < l.length) (E:Int) (ve:Value) (w':World),Wire.I64 E->Kept [] w w'->EntA w' ve l[k]->Calls prog 24 #[.agg #[s.P,s.Q,s.G,.slice ad s.bases.length cc,s.blind],E,ve] w' (SeaF (cB s E l[k]).1 (cB s E l[k]).2 w')):=fun k hk' E ve w' hx0 kk hev =>
  fM (gO _ ve s E l[k] w' (hs.kept kk) hev (hI _ (List.getElem_mem _)) hx0 (hE.kept0 kk))
 have co:Hid (SlW w W [] [w.heap.size+1] (.slice (some ⟨w.heap.size+1,0,none⟩) 0 0)) := ⟨⟨[],⟨by simp,Or.inr ⟨w.heap.size+1,0,#[],rfl,by omega,b,Nat.le_refl _,by simp[maxLen],by simp,by simp⟩⟩,fun _ _ _ _=>ep.nil_ _ _ _⟩,fun z b=>by rw[List.mem_singleton];have h:=cZ b;have h2:some (w.heap.size+1)=some z:=h;injection h2 with h3;exact h3.symm,fun z D=>by obtain rfl:=ms D;exact b.lt,fun z D=>by rw[List.mem_singleton]at D;omega,b5⟩
 have HB:=hid hb;have HA:=hid ha;have cq:=hid hk;have cs:=hid hki;have HW:=hid hW;have d2:=hid b5;obtain⟨i0,hi,ah,ac,D⟩:=info_parts fc;clear hW hb b bs b5 hs hk ha hki hE ib hI
 show Calls _ _ #[.agg #[s.P,s.Q,s.G,.slice ad s.bases.length cc,s.blind],_,_] _ _
 go_enter func9,ntmps9
 go_upto_region 2 with(fail);have hW':(w.alloc (.cells #[s.P,s.Q,s.G,.slice ad s.bases.length cc,s.blind] 26)).alloc (.cells #[] 52)=W:=HW.out;rw[hW'];clear hW';go_wp2_with fail
 go_loopw [7,8] (fun vj vi wr=>∃(k:Nat) (a:Option Addr) (c:Nat) (X:List Nat),k<=l.length/\vi=k/\vj=.slice a k c/\Hid (SlW w wr ((sealL s xs l).take k) X (.slice a k c))/\Hid (Blk wr w.heap.size 26 #[s.P,s.Q,s.G,.slice ad s.bases.length cc,s.blind])/\Hid (∀z∈obl (.slice a k c),z≠w.heap.size)) (fun _ vi _=>l.length - (intOf vi).toNat)
 case atStart=>exact⟨0,_,_,_,by omega,rfl,rfl,co,HB,fun z b=>by have h:=cZ b;have h2:some (w.heap.size+1)=some z:=h;injection h2 with h3;omega⟩
 case round =>
  obtain⟨k,a,c,X,hkl',rfl,rfl,HS,bk,L⟩:=hrel
  by_cases hkn:k < l.length
  ·obtain⟨xb,xo,xc',b2,_,bl⟩:=HA.out.at_ (by omega);injection b2 with b2 _ hx3;subst b2 hx3;obtain⟨u,hu,ao⟩:=bl k hkn;have c7:=hid HS.kb;have ao:=ao.kept c7;obtain⟨J,I,rfl,_,_⟩:=hu.form;have HU:=hid hu;have bc:=hid (SE k hkn)
   have av:(sealL s xs l).length=l.length:=by simp[sealL]
   have a3:Hid ((sealL s xs l).take (k+1)=(sealL s xs l).take k++[gk s xs l[k]]):=by
    show _=_
    rw[List.take_succ_eq_append_getElem (by rw[av];exact hkn)]
    simp[sealL]
   have cm:=hid av
   generalize hx:l[k]=x at bc HU ao a3
   obtain⟨E,x1,x2,x3,x4,x5,x6,x7⟩:=ao;clear hx bl hu av;go_upto_region 6 with(fail);obtain⟨i,ap⟩:=nm (wr.alloc (.cells #[x.gate,x.no,x.time,x.kind,.slice J x.nums.length I,x.text,x.c,x.s] 52));have m:Blk i wr.heap.size 52 #[x.gate,x.no,x.time,x.kind,.slice J x.nums.length I,x.text,x.c,x.s]:=ap▸Blk.new _ _ _;have k5:Kept [] wr i:=ap▸kr.alloc _;rw[ap];have bo:wr.heap.size < i.heap.size:=m.lt;have ab:=HS.hX;have ba:=HS.out.keepS (X':=wr.heap.size::X) k5 (by simp) (by simp) (by simp) (fun z b=>by rcases List.mem_cons.1 b with e|e;exact Or.inr (by omega);exact Or.inl e) (fun z b=>by rcases List.mem_cons.1 b with e|e;omega;have:=ab z e;omega) (fun z b=>List.mem_cons_of_mem _ b)
   have c5:Hid (∀z∈obl (.slice a k c),z≠wr.heap.size):=fun z b=>by have:=ab z (HS.out.vX z b);omega
   generalize b1:(sealL s xs l).take k=acc at a3 ba
   have c4:acc.length=k:=by rw[<-b1,List.length_take,cm.out];omega
   have f:=hid c4;have v:=hid ba;have M:=hid m;have a1:=hid (bk.out.kept k5 (by simp));have cb:w.heap.size < wr.heap.size:=bk.lt;have bm:w.heap.size<=wr.heap.size:=c7.size
   generalize c2:wr.heap.size=bx at M bm v c5 bo cb ⊢
   obtain⟨F,b9⟩:=nm (bx::X)
   have c3:bx∈F:=by rw[<-b9];exact List.mem_cons_self
   rw[b9]at v;have b7:Hid (∀z∈F,z < i.heap.size):=v.hX;clear ap m k5 ba b1 c4 c2 b9 ab E x1 x2 x3 x4 x5 x6 x7 HS bk;have c6:Hid (∀V,Kept [] i V->ae F (fun w=>Row w 1 (.slice J x.nums.length I) x.nums.length (ints x.nums)) V):=fun V kk=>qR HU (v.kb.trans kk) v.gX
   by_cases hin:0<=x.gate/\x.gate < (xs.length:Int)
   ·obtain⟨h0,h1⟩:=hin
    have b0:Hid (gk s xs x=if(cB s (nth xs x.gate.toNat) x).2 then(cB s (nth xs x.gate.toNat) x).1 else x):=by
     show _=_
     unfold gk cB
     rw[if_pos ⟨h0,h1⟩]
     cases sealOk s (nth xs x.gate.toNat) x <;> rfl
    have an:x.gate.toNat < xs.length:=by omega
    obtain⟨kb,ko,rfl,a0⟩:=cq.out.at_ (by omega);have b4:=a0 x.gate.toNat _ (aL an)
    have a7:nth xs x.gate.toNat=xs[x.gate.toNat]:=by unfold nth;rw[List.getD_eq_getElem?_getD,List.getElem?_eq_getElem an];rfl
    have b6:Wire.I64 xs[x.gate.toNat]:=cs _ (List.getElem_mem an)
    generalize cd:xs[x.gate.toNat]=n0 at b4 a7 b6
    rw[a7]at b0;have bb:Hid (∀w',Kept [] w w'->Calls prog 24 #[.agg #[s.P,s.Q,s.G,.slice ad s.bases.length cc,s.blind],n0,.agg #[x.gate,x.no,x.time,x.kind,.slice J x.nums.length I,x.text,x.c,x.s]] w' (SeaF (cB s n0 x).1 (cB s n0 x).2 w')):=fun w' kk=>bc n0 _ w' b6 kk ⟨_,rfl,HU.kept kk⟩;obtain⟨y,hy⟩:=nm ((cB s n0 x).1);obtain⟨sb,bq⟩:=nm ((cB s n0 x).2);rw[hy,bq]at bb b0;have cg:Hid (∀w',Kept [] i w'->Calls prog 24 #[.agg #[s.P,s.Q,s.G,.slice ad s.bases.length cc,s.blind],n0,.agg #[x.gate,x.no,x.time,x.kind,.slice J x.nums.length I,x.text,x.c,x.s]] w' (SeaF y sb w')):=fun w' kk=>bb w' (v.kb.trans kk);have cp:=hid b4;have E:i.cell? ⟨bx,0,none⟩=some (.int .i64 x.gate):=M.cell 0;clear a0 a7 b6 cd hy bq bb bc an b4;go_upto_region 7 with(fail);clear E
    go_cut [10,11] (fun v10 v11 wx=>∃(yb:Nat) (t:Option Addr) (r:Nat),v10=.pointer (some ⟨yb,0,none⟩)/\v11=.bool sb/\yb≠bx/\Hid (Blk wx yb 52 #[y.gate,y.no,y.time,y.kind,.slice t y.nums.length r,y.text,y.c,y.s])/\Hid (ae F (fun w=>Row w 1 (.slice t y.nums.length r) y.nums.length (ints y.nums)) wx)/\Hid (Kept [] i wx))
    case first =>
     obtain⟨s0,s1,s2,s3,s4⟩:=bk5 a1 rfl;obtain⟨E,x1,x2,x3,x4,x5,x6,x7⟩:=bk8 M rfl;have q0:∀w',Kept [] i w'->w'.cell? ⟨kb,ko+x.gate.toNat,none⟩=some (.int .i64 n0):=Kept.cellOf (Kept.cellOf cp _ v.kb)
     go_region_held3 (fun w'=>Kept [] i w') (repeat (first|(with_reducible assumption)|(with_reducible exact kr)|(with_reducible refine Kept.drew ?_)|(with_reducible refine Kept.alloc ?_ _)|(with_reducible refine Kept.setCell ?_ (Or.inr (by first|(simp;done)|(have:=kC.size;simp;omega))) _)))
      (first
       |(go_at_call 24;(with_reducible refine(cg.out _ (by first|assumption|exact kr.drew|exact(kr.drew.alloc _))).mono ?_);(rintro en wC ⟨t,r,rfl,al,kC⟩);(have c9:Kept [] i wC:=Kept.trans (by first|assumption|exact kr.drew|exact(kr.drew.alloc _)) kC);(obtain⟨c0,bv⟩:=zP kC);first|(have D:i.heap.size < wC.heap.size:=by(have:=kC.size;simp at this;omega))|skip)
       |fail)
     ·rename_i q;have cv:i.heap.size<=wC.heap.size:=c9.size;have KH:=hid q;have bh:Hid (Blk (wC.alloc (.cells #[y.gate,y.no,y.time,y.kind,.slice t y.nums.length r,y.text,y.c,y.s] 52)) wC.heap.size 52 #[y.gate,y.no,y.time,y.kind,.slice t y.nums.length r,y.text,y.c,y.s]):=Blk.new _ _ _;have bd:Hid (ae F (fun w=>Row w 1 (.slice t y.nums.length r) y.nums.length (ints y.nums)) (wC.alloc (.cells #[y.gate,y.no,y.time,y.kind,.slice t y.nums.length r,y.text,y.c,y.s] 52))):=(al F (fun z b=>b7.out z b)).step ((Kept.refl [] wC).alloc _) (by simp) (fun z b=>Or.inl b)
      have am:wC.heap.size≠bx:=by omega
      clear al kC c0 bv q s0 s1 s2 s3 s4 E x1 x2 x3 x4 x5 x6 x7 q0;go_wp2_with fail
      go_meet
      case rel=>exact⟨wC.heap.size,t,r,rfl,rfl,am,bh,bd,KH⟩
     ·rename_i q;have KH:=hid q;obtain⟨Z,hZ⟩:=nm ((((((((wC.setCell ⟨i.heap.size,0,none⟩ y.gate).setCell ⟨i.heap.size,1,none⟩ y.no).setCell ⟨i.heap.size,2,none⟩ y.time).setCell ⟨i.heap.size,3,none⟩ y.kind).setCell ⟨i.heap.size,4,none⟩ (.slice t y.nums.length r)).setCell ⟨i.heap.size,5,none⟩ y.text).setCell ⟨i.heap.size,6,none⟩ y.c).setCell ⟨i.heap.size,7,none⟩ y.s)
      have bh:Hid (Blk Z i.heap.size 52 #[y.gate,y.no,y.time,y.kind,.slice t y.nums.length r,y.text,y.c,y.s]):=by
       have:=((((((((Blk.kept (w:=(i.alloc (.cells #[.int .i64 0,.int .i64 0,.int .i64 0,.int .i64 0,(),.string ⟨#[]⟩,.int .i64 0,.int .i64 0] 52)).drew) (Blk.new i 52 #[.int .i64 0,.int .i64 0,.int .i64 0,.int .i64 0,(),.string ⟨#[]⟩,.int .i64 0,.int .i64 0]) kC (by simp)).set_ 0 y.gate).set_ 1 y.no).set_ 2 y.time).set_ 3 y.kind).set_ 4 (.slice t y.nums.length r)).set_ 5 y.text).set_ 6 y.c).set_ 7 y.s;rw[hZ]at this;exact this
      have bt:Kept [i.heap.size] wC Z:=by
       rw[<-hZ]
       repeat (refine Kept.setCell ?_ (Or.inl (by simp)) _)
       exact kr
      have bd:Hid (ae F (fun w=>Row w 1 (.slice t y.nums.length r) y.nums.length (ints y.nums)) Z) :=
       (al (i.heap.size::F) (fun z b=>by
        show z < (i.alloc (.cells #[.int .i64 0,.int .i64 0,.int .i64 0,.int .i64 0,(),.string ⟨#[]⟩,.int .i64 0,.int .i64 0] 52)).heap.size
        rw[World.size_alloc]
        rcases List.mem_cons.1 b with e|e
        ·omega
        ·have:=b7.out z e;omega)).step bt (fun z b _=>by obtain rfl:=ms b;exact List.mem_cons_self) (fun z b=>Or.inl (List.mem_cons_of_mem _ b))
      have am:i.heap.size≠bx:=by omega
      rw[hZ]at KH ⊢;clear al kC c0 bv q bt hZ s0 s1 s2 s3 s4 E x1 x2 x3 x4 x5 x6 x7 q0;go_wp2_with fail
      go_meet
      case rel=>exact⟨i.heap.size,t,r,rfl,rfl,am,bh,bd,KH⟩
    case rest =>
     obtain⟨yb,t,r,rfl,rfl,am,cu,cl,KC⟩:=hcut
     cases sb
     ·have a2:Hid (gk s xs x=x):=b0.out;have a6:=hid (M.out.kept KC.out (by simp));have a4:=hid (c6 _ KC);have a5:=hid (v.keep KC);have A:=hid (a1.out.kept KC.out (by simp));have o:=a6.out;obtain⟨e0,e1,e2,e3,e4,e5,e6,e7⟩:=bc8 o rfl;have ka:Kept [] wc (wc.alloc (.cells #[x.gate,x.no,x.time,x.kind,.slice J x.nums.length I,x.text,x.c,x.s] 52)):=kr.alloc _;have d:=hid (a5.keep ka);have j:Hid (ae F (fun w=>EntR w (entC x (.slice J x.nums.length I)) x) (wc.alloc (.cells #[x.gate,x.no,x.time,x.kind,.slice J x.nums.length I,x.text,x.c,x.s] 52))):=((a4.out.step ka (by simp) (fun z b=>Or.inl b)).imp fun _ h=>⟨_,rfl,h⟩);have n:=hid (show w.heap.size<=_ from d.out.kb.size);have Y:=hid (A.out.kept ka (by simp))
      have p:acc.length<=1000000000:=by rw[f.out];omega
      clear o ka;go_wp2_with (at_builtin;refine aq rfl _ _ 27 rfl i0 bN 88 underlying27 hi ah ac D rfl (by decide) (by decide) rfl d.out.gr _ (entC x (.slice J x.nums.length I)) x rfl (rowS rfl _ _ _ rfl) j.out (by simp[entC,Value.oneCell']) p n.out d.out.vX ?_);intro C B y9 G9 N t9;have g:=d.out.push N (by rw[f.out]at G9 ⊢;exact G9);rw[f.out]at g
      generalize O:F++obl (.slice C (k+1) B)=X9 at g
      have R:Hid (SlW w y9 ((sealL s xs l).take (k+1)) X9 (.slice C (k+1) B)):=by
       rw[a3.out,a2.out];exact g
      have U:=hid (Y.kept N (fun hm=>L _ hm rfl))
      have T:Hid (∀z∈obl (.slice C (k+1) B),z≠w.heap.size):=fun z b=>by
       rw[<-f.out]at b
       rcases t9 z b with h|h
       ·exact L z h
       ·have:=A.lt;omega
      rw[f.out];clear G9 N t9 j g O n d e0 e1 e2 e3 e4 e5 e6 e7;go_wp2_with fail
      go_roundw
      case rel=>exact⟨k+1,C,B,X9,by omega,by go_num,rfl,R,U,T⟩
      case measure=>simp[intOf];omega
     ·have a2:Hid (gk s xs x=y):=b0.out;have c1:=cu.out;have m:=M.out.kept KC.out (by simp);obtain⟨y0,y1,y2,y3,y4,y5,y6,y7⟩:=bc8 c1 rfl;obtain⟨E,x1,x2,x3,x4,x5,x6,x7⟩:=bc8 m rfl;have f0:wc.frozen? ⟨bx,0,none⟩=false:=m.frozen 0;have f1:wc.frozen? ⟨bx,1,none⟩=false:=m.frozen 1;have f2:wc.frozen? ⟨bx,2,none⟩=false:=m.frozen 2;have f3:wc.frozen? ⟨bx,3,none⟩=false:=m.frozen 3;have f4:wc.frozen? ⟨bx,4,none⟩=false:=m.frozen 4;have f5:wc.frozen? ⟨bx,5,none⟩=false:=m.frozen 5;have f6:wc.frozen? ⟨bx,6,none⟩=false:=m.frozen 6;have f7:wc.frozen? ⟨bx,7,none⟩=false:=m.frozen 7;clear c1 m;go_upto_region 10 with(fail);obtain⟨V,hV⟩:=nm ((((((((wc.setCell ⟨bx,0,none⟩ y.gate).setCell ⟨bx,1,none⟩ y.no).setCell ⟨bx,2,none⟩ y.time).setCell ⟨bx,3,none⟩ y.kind).setCell ⟨bx,4,none⟩ (.slice t y.nums.length r)).setCell ⟨bx,5,none⟩ y.text).setCell ⟨bx,6,none⟩ y.c).setCell ⟨bx,7,none⟩ y.s)
      have a6:Hid (Blk V bx 52 #[y.gate,y.no,y.time,y.kind,.slice t y.nums.length r,y.text,y.c,y.s]):=by
       have:=(((((((((M.out.kept KC.out (by simp)).set_ 0 y.gate).set_ 1 y.no).set_ 2 y.time).set_ 3 y.kind).set_ 4 (.slice t y.nums.length r)).set_ 5 y.text).set_ 6 y.c).set_ 7 y.s);rw[hV]at this;exact this
      have a9:Kept [bx] wc V:=by
       rw[<-hV]
       repeat (refine Kept.setCell ?_ (Or.inl (by simp)) _)
       exact kr
      have b3:∀z∈[bx],z∈F:=fun z b=>by obtain rfl:=ms b;exact c3
      have a4:=hid (cl.step a9 (fun z b _=>b3 z b) (fun z b=>Or.inl b));have a5:=hid ((v.out.keep KC.out).keepS (X':=F) a9 (fun z b hm=>by rw[List.mem_singleton]at hm;exact c5.out z b hm) (fun z b _=>b3 z b) (fun z b=>by obtain rfl:=ms b;exact bm) (fun z b=>Or.inl b) (fun z b=>Nat.lt_of_lt_of_le (b7.out z b) (Nat.le_trans KC.out.size a9.size)) (fun z b=>b));have A:=hid ((a1.out.kept KC.out (by simp)).kept a9 (by rw[List.mem_singleton];omega));rw[hV];clear hV a9 b3 y0 y1 y2 y3 y4 y5 y6 y7 E x1 x2 x3 x4 x5 x6 x7 f0 f1 f2 f3 f4 f5 f6 f7;have o:=a6.out;obtain⟨e0,e1,e2,e3,e4,e5,e6,e7⟩:=bc8 o rfl;have ka:Kept [] V (V.alloc (.cells #[y.gate,y.no,y.time,y.kind,.slice t y.nums.length r,y.text,y.c,y.s] 52)):=kr.alloc _;have d:=hid (a5.keep ka);have j:Hid (ae F (fun w=>EntR w (entC y (.slice t y.nums.length r)) y) (V.alloc (.cells #[y.gate,y.no,y.time,y.kind,.slice t y.nums.length r,y.text,y.c,y.s] 52))):=((a4.out.step ka (by simp) (fun z b=>Or.inl b)).imp fun _ h=>⟨_,rfl,h⟩);have n:=hid (show w.heap.size<=_ from d.out.kb.size);have Y:=hid (A.out.kept ka (by simp))
      have p:acc.length<=1000000000:=by rw[f.out];omega
      clear o ka;go_wp2_with (at_builtin;refine aq rfl _ _ 27 rfl i0 bN 88 underlying27 hi ah ac D rfl (by decide) (by decide) rfl d.out.gr _ (entC y (.slice t y.nums.length r)) y rfl (rowS rfl _ _ _ rfl) j.out (by simp[entC,Value.oneCell']) p n.out d.out.vX ?_);intro C B y9 G9 N t9;have g:=d.out.push N (by rw[f.out]at G9 ⊢;exact G9);rw[f.out]at g
      generalize O:F++obl (.slice C (k+1) B)=X9 at g
      have R:Hid (SlW w y9 ((sealL s xs l).take (k+1)) X9 (.slice C (k+1) B)):=by
       rw[a3.out,a2.out];exact g
      have U:=hid (Y.kept N (fun hm=>L _ hm rfl))
      have T:Hid (∀z∈obl (.slice C (k+1) B),z≠w.heap.size):=fun z b=>by
       rw[<-f.out]at b
       rcases t9 z b with h|h
       ·exact L z h
       ·have:=A.lt;omega
      rw[f.out];clear G9 N t9 j g O n d e0 e1 e2 e3 e4 e5 e6 e7;go_wp2_with fail
      go_roundw
      case rel=>exact⟨k+1,C,B,X9,by omega,by go_num,rfl,R,U,T⟩
      case measure=>simp[intOf];omega
   ·have a2:Hid (gk s xs x=x):=by
     show _=_
     unfold gk
     rw[if_neg hin]
    have a6:=M;have a4:=hid (c6 i kr);have a5:=v;have A:=a1;have E:i.cell? ⟨bx,0,none⟩=some (.int .i64 x.gate):=M.cell 0
    by_cases h0:0<=x.gate
    ·have h1:¬x.gate < (xs.length:Int):=fun h=>hin ⟨h0,h⟩
     have d0:decide (0<=x.gate)=true:=by simpa using h0
     have d1:decide (x.gate < (xs.length:Int))=false:=by simpa using h1
     clear hin;go_upto_region 10 with(fail);clear E;have o:=a6.out;obtain⟨e0,e1,e2,e3,e4,e5,e6,e7⟩:=bc8 o rfl;have ka:Kept [] i (i.alloc (.cells #[x.gate,x.no,x.time,x.kind,.slice J x.nums.length I,x.text,x.c,x.s] 52)):=kr.alloc _;have d:=hid (a5.keep ka);have j:Hid (ae F (fun w=>EntR w (entC x (.slice J x.nums.length I)) x) (i.alloc (.cells #[x.gate,x.no,x.time,x.kind,.slice J x.nums.length I,x.text,x.c,x.s] 52))):=((a4.out.step ka (by simp) (fun z b=>Or.inl b)).imp fun _ h=>⟨_,rfl,h⟩);have n:=hid (show w.heap.size<=_ from d.out.kb.size);have Y:=hid (A.out.kept ka (by simp))
     have p:acc.length<=1000000000:=by rw[f.out];omega
     clear o ka;go_wp2_with (at_builtin;refine aq rfl _ _ 27 rfl i0 bN 88 underlying27 hi ah ac D rfl (by decide) (by decide) rfl d.out.gr _ (entC x (.slice J x.nums.length I)) x rfl (rowS rfl _ _ _ rfl) j.out (by simp[entC,Value.oneCell']) p n.out d.out.vX ?_);intro C B y9 G9 N t9;have g:=d.out.push N (by rw[f.out]at G9 ⊢;exact G9);rw[f.out]at g
     generalize O:F++obl (.slice C (k+1) B)=X9 at g
     have R:Hid (SlW w y9 ((sealL s xs l).take (k+1)) X9 (.slice C (k+1) B)):=by
      rw[a3.out,a2.out];exact g
     have U:=hid (Y.kept N (fun hm=>L _ hm rfl))
     have T:Hid (∀z∈obl (.slice C (k+1) B),z≠w.heap.size):=fun z b=>by
      rw[<-f.out]at b
      rcases t9 z b with h|h
      ·exact L z h
      ·have:=A.lt;omega
     rw[f.out];clear G9 N t9 j g O n d e0 e1 e2 e3 e4 e5 e6 e7;go_wp2_with fail
     go_roundw
     case rel=>exact⟨k+1,C,B,X9,by omega,by go_num,rfl,R,U,T⟩
     case measure=>simp[intOf];omega
    ·have d0:decide (0<=x.gate)=false:=by simpa using h0
     clear hin;go_upto_region 10 with(fail);clear E;have o:=a6.out;obtain⟨e0,e1,e2,e3,e4,e5,e6,e7⟩:=bc8 o rfl;have ka:Kept [] i (i.alloc (.cells #[x.gate,x.no,x.time,x.kind,.slice J x.nums.length I,x.text,x.c,x.s] 52)):=kr.alloc _;have d:=hid (a5.keep ka);have j:Hid (ae F (fun w=>EntR w (entC x (.slice J x.nums.length I)) x) (i.alloc (.cells #[x.gate,x.no,x.time,x.kind,.slice J x.nums.length I,x.text,x.c,x.s] 52))):=((a4.out.step ka (by simp) (fun z b=>Or.inl b)).imp fun _ h=>⟨_,rfl,h⟩);have n:=hid (show w.heap.size<=_ from d.out.kb.size);have Y:=hid (A.out.kept ka (by simp))
     have p:acc.length<=1000000000:=by rw[f.out];omega
     clear o ka;go_wp2_with (at_builtin;refine aq rfl _ _ 27 rfl i0 bN 88 underlying27 hi ah ac D rfl (by decide) (by decide) rfl d.out.gr _ (entC x (.slice J x.nums.length I)) x rfl (rowS rfl _ _ _ rfl) j.out (by simp[entC,Value.oneCell']) p n.out d.out.vX ?_);intro C B y9 G9 N t9;have g:=d.out.push N (by rw[f.out]at G9 ⊢;exact G9);rw[f.out]at g
     generalize O:F++obl (.slice C (k+1) B)=X9 at g
     have R:Hid (SlW w y9 ((sealL s xs l).take (k+1)) X9 (.slice C (k+1) B)):=by
      rw[a3.out,a2.out];exact g
     have U:=hid (Y.kept N (fun hm=>L _ hm rfl))
     have T:Hid (∀z∈obl (.slice C (k+1) B),z≠w.heap.size):=fun z b=>by
      rw[<-f.out]at b
      rcases t9 z b with h|h
      ·exact L z h
      ·have:=A.lt;omega
     rw[f.out];clear G9 N t9 j g O n d e0 e1 e2 e3 e4 e5 e6 e7;go_wp2_with fail
     go_roundw
     case rel=>exact⟨k+1,C,B,X9,by omega,by go_num,rfl,R,U,T⟩
     case measure=>simp[intOf];omega
  ·obtain rfl:k=l.length:=by omega
   have av:(sealL s xs l).length=l.length:=by simp[sealL]
   have HR:Hid (aU wr (.slice a l.length c) (sealL s xs l)):=by
    have h:=HS.gr;rw[List.take_of_length_le (by omega)]at h;exact h.row (by omega)
   have ct:=hid HS.kb;go_wp2_with fail;go_ret;exact⟨_,rfl,HR,ct⟩
end Go.Proofs.YtcidfldeiklcjaaGreatDoor
