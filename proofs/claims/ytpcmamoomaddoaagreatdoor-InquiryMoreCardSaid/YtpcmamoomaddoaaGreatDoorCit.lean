import Derived.Test.YtpcmamoomaddoaaGreatDoorIdq
set_option maxRecDepth 100000
set_option maxHeartbeats 32000000
namespace Go.Proofs.YtpcmamoomaddoaaGreatDoor
open Go.RowKit
open Go.Proofs.Tryz
open Lib(hid)
theorem mU{w:World}{v:Value}{ks:List Pss}{t:Pss}{cs:List Value}(h:aj PssR 4 w v ks)(ht:PssR w cs t) :
  Calls prog 90 #[v,.agg cs.toArray] w fun e w'=>e=.returned (.int .i64 (idxV (ks.findIdx? (ig t))))/\Kept [] w w':=by
 obtain⟨W,j⟩:∃W,w.alloc (.cells cs.toArray 36)=W:=⟨_,rfl⟩;have f:Kept [] w W:=j▸(Kept.refl _ _).alloc _;have d:Blk W w.heap.size 36 cs.toArray:=j▸Blk.new _ _ _;have b:=wR (cb:=w.heap.size) (ig t) (h.kept (fun _ _ h=>PssR.kept h f) f) (fun a _ ds w' k hd=>ym (d.kept k (by simp)) (ht.kept (f.trans k)) hd);obtain⟨E,o,rfl,i,_⟩:=ht;obtain⟨q,p,rfl,_,_⟩:=i.form;obtain⟨a,c,rfl,_,_⟩:=h.form;obtain⟨r,s⟩:∃r,ks.findIdx? (ig t)=r:=⟨_,rfl⟩;rw[s]at b ⊢;obtain⟨m,g⟩:∃n,t.attrs.length=n:=⟨_,rfl⟩;rw[g]at d j ⊢;have l:=hid b;have x:=hid j;have y:=hid f;have C:W.cell? ⟨w.heap.size,0,none⟩=some (.string ⟨t.name.toArray⟩):=d.cell 0;have B:W.cell? ⟨w.heap.size,1,none⟩=some (.int .i64 t.pub):=d.cell 1;have A:W.cell? ⟨w.heap.size,2,none⟩=some (.slice q m p):=d.cell 2;have z:W.cell? ⟨w.heap.size,3,none⟩=some o:=d.cell 3;clear b j f d h i s g
 show Calls _ _ #[_,.agg #[.string ⟨t.name.toArray⟩,.int .i64 t.pub,.slice q m p,o]] _ _
 go_enter func90,ntmps90
 go_upto_region 1 with(fail);have hW':=x.out;rw[hW'];clear hW';go_wp2_with (go_at_call 138;refine l.out.mono ?_;rintro e D ⟨rfl,u⟩);go_ret;exact⟨rfl,y.out.trans u⟩
/-! ### the crowd that grows -/
def snsC(us:List Sn):List Value:=us.flatMap fun x=>[.int .i64 x.q,.int .i64 x.win,.int .i64 x.asof,.int .i64 x.hold]
structure CrG (B5:Nat) (w:World) (gc:Nat) (vm:Value) (qs:List Pd) (us:List Sn) (vq vu:Value):Prop where
 blk:Blk w gc 67 #[vq,vm,vu]
 q:Grow PdR 5 46 B5 (gc::(obl vq++obl vu)) w vq qs
 u:w.ownsRow B5 84 4 vu us.length (snsC us)
 dis:∀z∈obl vq,z∉obl vu
 low:gc < B5/\B5<=w.heap.size
theorem CrG.kept{B5:Nat}{w w':World}{gc:Nat}{vm:Value}{qs:List Pd}{us:List Sn}{vq vu:Value}(h:CrG B5 w gc vm qs us vq vu)(k:Kept [] w w'):CrG B5 w' gc vm qs us vq vu := ⟨h.blk.kept k (by simp),h.q.step k (by simp) (by simp) (fun z hz=>Or.inl hz),ax h.u k (by simp),h.dis,h.low.1,Nat.le_trans h.low.2 k.size⟩
theorem uI{w:World}{B:Nat}{e:TypeId}{size n c:Nat}{a:Option Addr}{xs:List Value}(h:w.ownsRow B e size (.slice a n c) n xs)(hn:0 < n):∃g,a=some ⟨g,0,none⟩:=by
 rcases h.2 with⟨h1,_⟩|⟨g,cap,cur,hv,_⟩
 ·injection h1 with _ h2 _;omega
 ·injection hv with h1 _ _;exact⟨g,h1⟩
theorem ft(l:List Value)(k:Nat)(u:Value)(t:List Value)(i:Nat)(hi:i=l.length+k):(l++t).set i u=l++t.set k u:=by
 subst hi;rw[List.set_append_right _ _ (by omega)]
 congr 2
 omega
/-- an element of five cells is laid over the last one -/
theorem sy{w:World}{B:Nat}{e:TypeId}{g n c:Nat}{xs:List Value}{z0 z1 z2 z3 z4:Value}(u0 u1 u2 u3 u4:Value)(hl:xs.length=n*5)(h:w.ownsRow B e 5 (.slice (some ⟨g,0,none⟩) (n+1) c) (n+1) (xs++[z0,z1,z2,z3,z4])) :
  (((((w.setCell ⟨g,n*5,none⟩ u0).setCell ⟨g,n*5+1,none⟩ u1).setCell ⟨g,n*5+2,none⟩ u2).setCell ⟨g,n*5+3,none⟩ u3).setCell ⟨g,n*5+4,none⟩ u4).ownsRow B e 5 (.slice (some ⟨g,0,none⟩) (n+1) c) (n+1) (xs++[u0,u1,u2,u3,u4]):=by
 have i:=(h.stored (n*5) u0).1;rw[ft xs 0 u0 _ _ (by omega)]at i;have f:=(i.stored (n*5+1) u1).1;rw[ft xs 1 u1 _ _ (by omega)]at f;have d:=(f.stored (n*5+2) u2).1;rw[ft xs 2 u2 _ _ (by omega)]at d;have b:=(d.stored (n*5+3) u3).1;rw[ft xs 3 u3 _ _ (by omega)]at b;have a:=(b.stored (n*5+4) u4).1;rw[ft xs 4 u4 _ _ (by omega)]at a;exact a
theorem fh{P:Program}{w:World}{ops:Array Oper}{o:Oper}{a:Act}{K:Act->World->Prop}{Q:Exit->Act->World->Prop}{E:Prop}(hgd:o.guard=none)(d:Tmp)(hd:o.dst=some d)(s x:Operand)(t:TypeId)
  (ho:o.op=.call { callee:=.builtin .append,args:=#[s,x],argTypes:=#[t,t] })
  (base:Nat) (e:TypeId) (i:TypeInfo) (z:Value) (size bytes:Nat) (ht:P.underlying t=some (.slice e)) (hi:P.info? e=some i) (hz:i.zero=some z)
  (hsize:i.size=size) (hby:i.bytes=bytes) (hzs:z.cells.size=size) (hsz:0 < size)
  (v:Value) (n:Nat) (xs:List Value) (hs:a.eval s=v) (hown:w.ownsRow base e size v n xs)
  (u:Value) (m:Nat) (news:List Value) (hx:a.eval x=u) (hrow:Row w size u m news) (h1:∀u∈news,u.oneCell'=true)
  (h63:n+m<=maxLen) (hbytes:(n+m)*bytes<=140737488355328) (hbase:base<=w.heap.size)
  (h:∀a' c' w',w'.ownsRow base e size (.slice a' (n+m) c') (n+m) (xs++news)->Kept (obl v) w w'->(∀k∈obl (.slice a' (n+m) c'),k∈obl v\/k=w.heap.size)->K (a.put (some d) (.slice a' (n+m) c')) w') :
  if Region.wanted o (yielded ops a.tmps)=true then Oper.wp P o a w K Q else E:=by
 rw[if_pos (by simp[Region.wanted,hgd])];exact bL s x t ho base e i z size bytes ht hi hz hsize hby hzs hsz v n xs hs hown u m news hx hrow h1 h63 hbytes hbase (fun a' c' w' h2 h3 h4=>by rw[hd];exact h a' c' w' h2 h3 h4)
def QstR(B5:Nat)(gc:Nat)(vm:Value)(qs:List Pd)(us:List Sn)(vq vu:Value)(p:Pd)(e:Ending)(w':World):Prop :=
 match qs.findIdx? (cC p)with
 |some i=>e=.returned (.tuple #[.int .i64 (i:Int),.bool true])/\CrG B5 w' gc vm qs us vq vu
 |none=>if 128<=qs.length then e=.returned (.tuple #[.int .i64 0,.bool false])else e=.returned (.tuple #[.int .i64 (qs.length:Int),.bool true])/\∃vq',CrG B5 w' gc vm (qs++[p]) us vq' vu
theorem info5:(prog.info? 46).map (fun i=>(i.zero,i.size,i.bytes))=some (some (.agg #[.int .i64 0,.string ⟨#[]⟩,.string ⟨#[]⟩,.int .i64 0,.slice none 0 0]),5,72):=by kernel_rfl
theorem mJ{B5:Nat}{w:World}{gc:Nat}{vm:Value}{qs:List Pd}{us:List Sn}{vq vu:Value}{cs:List Value}{p:Pd}(hC:CrG B5 w gc vm qs us vq vu)(hp:aw (gc::(obl vq++obl vu)) (fun w=>PdR w cs p) w)(hlq:qs.length<=1000000) :
  Calls prog 92 #[.pointer (some ⟨gc,0,none⟩),.agg cs.toArray] w fun e w'=>Kept (gc::obl vq) w w'/\QstR B5 gc vm qs us vq vu p e w':=by
 obtain⟨i0,hi,av,au,aq⟩:=info_parts info5;obtain⟨W,hW⟩:∃W,w.alloc (.cells cs.toArray 46)=W:=⟨_,rfl⟩;have kW:Kept [] w W:=hW▸(Kept.refl _ _).alloc _;have hB:Blk W w.heap.size 46 cs.toArray:=hW▸Blk.new _ _ _;have Z:=hC.kept kW;have X:aw (gc::(obl vq++obl vu)) (fun w=>PdR w cs p) W:=hp.step kW (by simp) (fun z j=>Or.inl j);obtain⟨R,hR⟩:∃R,qs.findIdx? (cC p)=R:=⟨_,rfl⟩;have M:=si (cb:=w.heap.size) (cC p) (Z.q.row (by omega)) (fun a _ ds w' k hd=>yd (hB.kept k (by simp)) (PdR.kept k X.get) hd)
 unfold QstR
 rw[hR]at M ⊢;obtain⟨f,d,rfl⟩:=hC.q.form (by decide);obtain⟨nq,ac⟩:∃n,qs.length=n:=⟨_,rfl⟩;rw[ac]at hC Z hp X M hlq ⊢;obtain⟨E,D,C,F,a0⟩:=p;obtain⟨U,l,rfl,_⟩:=hp.get.rows;obtain⟨T,aa⟩:∃n,a0.length=n:=⟨_,rfl⟩;rw[aa]at hB hW hp X ⊢;obtain⟨B,Y⟩:∃b,w.heap.size=b:=⟨_,rfl⟩;rw[Y]at hB M;have c0:=hid Y;have a3:=hid M;have HC:=hid Z;have HP:=hid X;have HW:=hid hW;have HK:=hid kW;have HB:=hid hB;have b8:=hid ac;have c6:=hid aa;have m0:W.cell? ⟨gc,0,none⟩=some (.slice f nq d):=Z.blk.cell 0
 have c5:gc < B:=by rw[<-Y];exact hC.blk.lt
 have b6:Hid (∀z∈obl (.slice f nq d),z < B):=hid (fun z j=>by rw[<-Y];exact(hC.q.ge z j).2);clear M Z X hW kW hB ac aa Y hp hR hC
 show Calls _ _ #[_,.agg #[.int .i64 E,.string ⟨D.toArray⟩,.string ⟨C.toArray⟩,.int .i64 F,.slice U T l]] _ _
 go_enter func92,ntmps92
 go_upto_region 1 with(fail);have hW':=HW.out;rw[hW',c0.out];clear hW'
 cases R with
 |some i =>
  have bl:(0:Int)<=(i:Int):=by omega
  have G:Hid (Calls prog 95 #[.slice f nq d,.func (.func 140) #[] #[.pointer (some ⟨B,0,none⟩)]] W fun e w'=>e=.returned (.int .i64 (i:Int))/\Kept [] W w'):=a3;clear a3;go_wp2_with (go_at_call 95;refine G.out.mono ?_;rintro e w5 ⟨rfl,P⟩)
  go_ret2
  refine⟨(HK.out.trans P).mono (fun _ _ h=>by simp at h),rfl,?_⟩;exact HC.out.kept P
 |none =>
  have G:Hid (Calls prog 95 #[.slice f nq d,.func (.func 140) #[] #[.pointer (some ⟨B,0,none⟩)]] W fun e w'=>e=.returned (.int .i64 (-1))/\Kept [] W w'):=a3;clear a3
  by_cases h128:128<=nq
  ·have h128':(128:Int)<=(nq:Int):=by omega
   go_wp2_with (go_at_call 95;refine G.out.mono ?_;rintro e w5 ⟨rfl,P⟩;have m5:w5.cell? ⟨gc,0,none⟩=some (.slice f nq d):=Kept.cellOf m0 _ P)
   go_ret2
   exact⟨(HK.out.trans P).mono (fun _ _ h=>by simp at h),rfl⟩
  ·have h128':¬(128:Int)<=(nq:Int):=by omega
   go_upto_region 6 with(go_at_call 95;refine G.out.mono ?_;rintro e w5 ⟨rfl,P⟩;have m5:w5.cell? ⟨gc,0,none⟩=some (.slice f nq d):=Kept.cellOf m0 _ P);have bc:=hid (HC.out.kept P);have b7:=hid ((HP.out.step P (by simp) (fun z j=>Or.inl j):aw (gc::(obl (.slice f nq d)++obl vu)) _ w5));have be:=hid (HB.out.kept P (by simp));have ba:=hid (HK.out.trans P);clear P m0 m5
   go_cut [23] (fun v wx=>∃b,v=.bool b/\Kept [] w5 wx)
   case first =>
    go_region
    all_goals (go_wp2_with fail;go_meet;exact⟨_,rfl,((Kept.refl _ _).alloc _).drew⟩)
   case rest =>
   obtain⟨b,hv,k6⟩:=hcut;subst hv;have c:=hid (bc.out.kept k6);have bo:=hid ((b7.out.step k6 (by simp) (fun z j=>Or.inl j):aw (gc::(obl (.slice f nq d)++obl vu)) _ wc));have O:=hid (be.out.kept k6 (by simp));have bt:=hid (ba.out.trans k6);clear k6 bc b7 be ba
   apply_assumption
   go_cut [23] (fun _ wx=>Kept (gc::obl (.slice f nq d)) wc wx/\∃qa' qc',CrG B5 wx gc vm (qs++[.node E D C F a0]) us (.slice qa' (nq+1) qc') vu)
   case first =>
    obtain⟨vs,s,b0⟩:=c.out.q;rw[b8.out]at s
    have b2:vs.flatten.length=nq*5:=by have:=s.1;rw[this]
    have m0:wc.cell? ⟨gc,0,none⟩=some (.slice f nq d):=c.out.blk.cell 0
    have a7:gc∉obl (.slice f nq d):=fun o=>by have:=(aA s gc o).1;have:=c.out.low.1;omega
    have a4:∀(w':World) (a':Option Addr) (c':Nat),Kept (gc::obl (.slice f nq d)) wc w'->(∀k∈obl (.slice a' (nq+1) c'),k∈obl (.slice f nq d)\/wc.heap.size<=k)->Blk w' gc 67 #[.slice a' (nq+1) c',vm,vu] ->
      w'.ownsRow B5 46 5 (.slice a' (nq+1) c') (nq+1) (vs.flatten++[.int .i64 E,.string ⟨D.toArray⟩,.string ⟨C.toArray⟩,.int .i64 F,.slice U T l])->CrG B5 w' gc vm (qs++[.node E D C F a0]) us (.slice a' (nq+1) c') vu:=fun w' a' c' k hn hb ho=>by
     have b3:∀z∈obl vu,z∉gc::obl (.slice f nq d):=fun z j o=>by
      rcases List.mem_cons.1 o with rfl|o
      ·have:=(aA c.out.u z j).1;have:=c.out.low.1;omega
      ·exact c.out.dis z o j
     refine⟨hb,⟨vs++[[.int .i64 E,.string ⟨D.toArray⟩,.string ⟨C.toArray⟩,.int .i64 F,.slice U T l]],?_,?_⟩,ax c.out.u k b3,fun z j o=>?_,c.out.low.1,Nat.le_trans c.out.low.2 k.size⟩
     ·rw[List.length_append,b8.out,List.length_singleton]
      simpa using ho
     ·have h4:=(b0.and bo.out).imp (Q:=fO PdR 5 (vs++[[.int .i64 E,.string ⟨D.toArray⟩,.string ⟨C.toArray⟩,.int .i64 F,.slice U T l]]) (qs++[.node E D C F a0])) fun _ h=>h.1.snoc rfl h.2;refine h4.step k (fun z j _=>?_) (fun z j=>?_)
      ·rcases List.mem_cons.1 j with rfl|j
       ·exact List.mem_cons_self
       ·exact List.mem_cons_of_mem _ (List.mem_append_left _ j)
      ·rcases List.mem_cons.1 j with rfl|j
       ·exact Or.inl List.mem_cons_self
       ·rcases List.mem_append.1 j with j|j
        ·rcases hn z j with h|h
         ·exact Or.inl (List.mem_cons_of_mem _ (List.mem_append_left _ h))
         ·exact Or.inr h
        ·exact Or.inl (List.mem_cons_of_mem _ (List.mem_append_right _ j))
     ·rcases hn z j with h|h
      ·exact c.out.dis z h o
      ·have:=(aA c.out.u z o).2;omega
    have a6:=hid a4;have a5:=hid s;have ad:B5<=wc.heap.size:=c.out.low.2;clear a4 s b0
    cases b with
    |true =>
     go_upto_region 8 with(first
      |(at_builtin;refine aH rfl _ _ _ rfl B5 46 i0 _ 5 72 underlying44 hi av au aq rfl (by decide) (.slice f nq d) nq vs.flatten rfl (ax a5.out (S:=[]) ((Kept.refl [] wc).alloc _) (by simp)) _ 1 [.int .i64 0,.string ⟨#[]⟩,.string ⟨#[]⟩,.int .i64 0,.slice none 0 0] rfl (al (cs:=[.int .i64 0,.string ⟨#[]⟩,.string ⟨#[]⟩,.int .i64 0,.slice none 0 0]) (Blk.new _ _ _) rfl (by decide)) (by simp[Value.oneCell']) (by unfold maxLen;omega) (by omega) (by rw[World.size_alloc];omega) ?_;intro a' c' w6 m L a2;have x:=(c.out.blk.alloc (.cells #[.int .i64 0,.string ⟨#[]⟩,.string ⟨#[]⟩,.int .i64 0,.slice none 0 0] 46)).kept L a7;have m6:w6.cell? ⟨gc,0,none⟩=some (.slice f nq d):=x.cell 0;have f6:=x.frozen 0;have c1:=hid x;have ag:=hid m;have bs:=hid L;have b9:=hid a2;clear m L a2 x)
      |go_in)
     obtain⟨g',rfl⟩:=uI ag.out (by omega);obtain⟨A,a1⟩:∃y,w6.setCell ⟨gc,0,none⟩ (.slice (some ⟨g',0,none⟩) (nq+1) c')=y:=⟨_,rfl⟩;rw[a1];have a8:Kept [gc] w6 A:=a1▸(Kept.refl _ _).setCell (Or.inl (by simp)) _;have b4:Blk A gc 67 #[.slice (some ⟨g',0,none⟩) (nq+1) c',vm,vu]:=a1▸c1.out.set_ 0 _;have t:=ax ag.out a8 (fun z j o=>by rw[List.mem_singleton]at o;have:=(aA ag.out z j).1;have:=c.out.low.1;omega);have ap:Kept (obl (.slice f nq d)) wc w6:=((Kept.refl [] wc).alloc (.cells #[.int .i64 0,.string ⟨#[]⟩,.string ⟨#[]⟩,.int .i64 0,.slice none 0 0] 46) |>.mono (fun _ _ h=>by simp at h)).trans bs.out;have a9:Kept (gc::obl (.slice f nq d)) wc A:=(ap.mono (fun _ _ h=>List.mem_cons_of_mem _ h)).trans (a8.mono (fun _ _ h=>by rw[List.mem_singleton]at h;rw[h];exact List.mem_cons_self))
     have r:=O.out.kept a9 (fun o=>by
      rcases List.mem_cons.1 o with h|h
      ·omega
      ·have:=b6.out _ h;omega)
     have N:∀(k:Nat) u,[.int .i64 0,.string ⟨#[]⟩,.string ⟨#[]⟩,.int .i64 0,.slice none 0 0][k]?=some u->A.cell? ⟨g',nq*5+k,none⟩=some u:=fun k u hu=>by
      have hk:k < 5:=(List.getElem?_eq_some_iff.1 hu).1;rw[t.cellAt (nq*5+k) (by omega),List.getElem?_append_right (by omega),show nq*5+k - vs.flatten.length=k by omega];exact hu
     have e0:A.cell? ⟨g',nq*5,none⟩=some (.int .i64 0):=N 0 _ rfl;have e1:A.cell? ⟨g',nq*5+1,none⟩=some (.string ⟨#[]⟩):=N 1 _ rfl;have e2:A.cell? ⟨g',nq*5+2,none⟩=some (.string ⟨#[]⟩):=N 2 _ rfl;have e3:A.cell? ⟨g',nq*5+3,none⟩=some (.int .i64 0):=N 3 _ rfl;have e4:A.cell? ⟨g',nq*5+4,none⟩=some (.slice none 0 0):=N 4 _ rfl;have f0:=t.frozenAt (nq*5);have f1:=t.frozenAt (nq*5+1);have f2:=t.frozenAt (nq*5+2);have f3:=t.frozenAt (nq*5+3);have f4:=t.frozenAt (nq*5+4);have p0:A.cell? ⟨B,0,none⟩=some (.int .i64 E):=r.cell 0;have p1:A.cell? ⟨B,1,none⟩=some (.string ⟨D.toArray⟩):=r.cell 1;have p2:A.cell? ⟨B,2,none⟩=some (.string ⟨C.toArray⟩):=r.cell 2;have p3:A.cell? ⟨B,3,none⟩=some (.int .i64 F):=r.cell 3;have p4:A.cell? ⟨B,4,none⟩=some (.slice U T l):=r.cell 4
     have M:(nq:Int) < (nq:Int)+1:=by omega
     have bq:=hid t;have bd:=hid b4;have bb:=hid a9;have bv:=hid b2;clear t b4 a8 ap a9 r N a1 b2;go_wp2_with fail
     go_meet
     case rel =>
      have ab:=sy (.int .i64 E) (.string ⟨D.toArray⟩) (.string ⟨C.toArray⟩) (.int .i64 F) (.slice U T l) bv.out bq.out;obtain⟨w9,I⟩:∃y,(((((A.setCell ⟨g',nq*5,none⟩ (.int .i64 E)).setCell ⟨g',nq*5+1,none⟩ (.string ⟨D.toArray⟩)).setCell ⟨g',nq*5+2,none⟩ (.string ⟨C.toArray⟩)).setCell ⟨g',nq*5+3,none⟩ (.int .i64 F)).setCell ⟨g',nq*5+4,none⟩ (.slice U T l))=y:=⟨_,rfl⟩;rw[I]at ab ⊢;have an:Kept [g'] A w9:=I▸((((((Kept.refl _ _).setCell (Or.inl (by simp)) _).setCell (Or.inl (by simp)) _).setCell (Or.inl (by simp)) _).setCell (Or.inl (by simp)) _).setCell (Or.inl (by simp)) _);have b1:g'∈obl (.slice (some ⟨g',0,none⟩) (nq+1) c'):=cD rfl;have bl:B5<=g':=(aA ab g' b1).1
      have kf:Kept (gc::obl (.slice f nq d)) wc w9:=bb.out.then_ an (fun z j o=>by
       rw[List.mem_singleton]at o;subst o
       rcases b9.out z b1 with h|h
       ·exact List.mem_cons_of_mem _ h
       ·rw[World.size_alloc]at h;omega)
      refine⟨kf,_,_,a6.out w9 _ _ kf (fun k hk=>?_) (bd.out.kept an (fun o=>by rw[List.mem_singleton]at o;have:=c.out.low.1;omega)) ab⟩
      rcases b9.out k hk with h|h
      ·exact Or.inl h
      ·rw[World.size_alloc]at h;exact Or.inr (by omega)
    |false =>
     have s0:∀w',Kept (obl (.slice f nq d)) wc w'->w'.cell? ⟨gc,0,none⟩=some (.slice f nq d):=fun w' k=>(c.out.blk.kept k a7).cell 0
     have V:B∉obl (.slice f nq d):=fun o=>by have:=b6.out _ o;omega
     have p0:∀w',Kept (obl (.slice f nq d)) wc w'->w'.cell? ⟨B,0,none⟩=some (.int .i64 E):=fun w' k=>(O.out.kept k V).cell 0;have p1:∀w',Kept (obl (.slice f nq d)) wc w'->w'.cell? ⟨B,1,none⟩=some (.string ⟨D.toArray⟩):=fun w' k=>(O.out.kept k V).cell 1;have p2:∀w',Kept (obl (.slice f nq d)) wc w'->w'.cell? ⟨B,2,none⟩=some (.string ⟨C.toArray⟩):=fun w' k=>(O.out.kept k V).cell 2;have p3:∀w',Kept (obl (.slice f nq d)) wc w'->w'.cell? ⟨B,3,none⟩=some (.int .i64 F):=fun w' k=>(O.out.kept k V).cell 3;have p4:∀w',Kept (obl (.slice f nq d)) wc w'->w'.cell? ⟨B,4,none⟩=some (.slice U T l):=fun w' k=>(O.out.kept k V).cell 4;clear m0;go_upto_region 9 with(fail);refine ar [10] (fun w'=>Kept (obl (.slice f nq d)) wc w') (by kernel_rfl) (Kept.refl _ _).drew (fun hH=>?_);obtain⟨w8,J⟩:∃y,wc.drew=y:=⟨_,rfl⟩;have bk:w8.ownsRow B5 46 5 (.slice f nq d) nq vs.flatten:=J▸ax a5.out (S:=[]) (Kept.refl [] wc).drew (by simp);have bn:Blk w8 gc 67 #[.slice f nq d,vm,vu]:=J▸c.out.blk.drew;have c4:B5<=w8.heap.size:=J▸ad;have c2:wc.heap.size<=w8.heap.size:=J▸Nat.le_refl _;rw[J]at hH ⊢;clear J;refine ah [10] (i:=0) (v:=?tv0q) rfl (by kernel_rfl) (by kernel_rfl) (by kernel_rfl) (by kernel_rfl) (fun _ _ _ h=>h) (Or.inl ⟨by rfl,?ty0q⟩) hH ?tr0q
     case ty0q=>intro w' g;(try dsimp only at g);go_simp;first|done|with_reducible rfl
     (try simp only[Act.put,List.setIfInBounds_toArray,List.set_cons_zero,List.set_cons_succ])
     refine ah [10] (i:=1) (v:=?tv1q) rfl (by kernel_rfl) (by kernel_rfl) (by kernel_rfl) (by kernel_rfl) (fun _ _ _ h=>h) (Or.inl ⟨by rfl,?ty1q⟩) hH ?tr1q
     case ty1q=>intro w' g;(try dsimp only at g);go_simp;first|done|with_reducible rfl
     (try simp only[Act.put,List.setIfInBounds_toArray,List.set_cons_zero,List.set_cons_succ])
     refine ah [10] (i:=2) (v:=?tv2q) rfl (by kernel_rfl) (by kernel_rfl) (by kernel_rfl) (by kernel_rfl) (fun _ _ _ h=>h) (Or.inl ⟨by rfl,?ty2q⟩) hH ?tr2q
     case ty2q=>intro w' g;(try dsimp only at g);go_simp;first|done|with_reducible rfl
     (try simp only[Act.put,List.setIfInBounds_toArray,List.set_cons_zero,List.set_cons_succ])
     refine ah [10] (i:=3) (v:=?tv3q) rfl (by kernel_rfl) (by kernel_rfl) (by kernel_rfl) (by kernel_rfl) (fun _ _ _ h=>h) (Or.inl ⟨by rfl,?ty3q⟩) hH ?tr3q
     case ty3q=>intro w' g;(try dsimp only at g);go_simp;first|done|with_reducible rfl
     (try simp only[Act.put,List.setIfInBounds_toArray,List.set_cons_zero,List.set_cons_succ])
     refine ah [10] (i:=4) (v:=?tv4q) rfl (by kernel_rfl) (by kernel_rfl) (by kernel_rfl) (by kernel_rfl) (fun _ _ _ h=>h) (Or.inl ⟨by rfl,?ty4q⟩) hH ?tr4q
     case ty4q=>intro w' g;(try dsimp only at g);go_simp;first|done|with_reducible rfl
     (try simp only[Act.put,List.setIfInBounds_toArray,List.set_cons_zero,List.set_cons_succ])
     refine ah [10] (i:=5) (v:=?tv5q) rfl (by kernel_rfl) (by kernel_rfl) (by kernel_rfl) (by kernel_rfl) (fun _ _ _ h=>h) (Or.inl ⟨by rfl,?ty5q⟩) hH ?tr5q
     case ty5q=>intro w' g;(try dsimp only at g);go_simp;first|done|with_reducible rfl
     (try simp only[Act.put,List.setIfInBounds_toArray,List.set_cons_zero,List.set_cons_succ])
     refine ai (rs:=[6]) (by kernel_rfl) (by simp) ?_;refine ae.cons rfl (fun K hK=>?_) ae.nil;go_simp;refine hK.out _ _ (hH.alloc _) (fun hH=>?_);clear hK K
     (try simp only[Act.put,List.setIfInBounds_toArray,List.set_cons_zero,List.set_cons_succ])
     refine ai (rs:=[7]) (by kernel_rfl) (by simp) ?_;refine ae.cons rfl (fun K hK=>?_) ae.nil;refine fh rfl 42 rfl _ _ 44 rfl B5 46 i0 _ 5 72 underlying44 hi av au aq rfl (by decide) (.slice f nq d) nq vs.flatten rfl (ax bk (S:=[]) ((Kept.refl [] w8).alloc _) (by simp)) _ 1 [.int .i64 E,.string ⟨D.toArray⟩,.string ⟨C.toArray⟩,.int .i64 F,.slice U T l] rfl (al (cs:=[.int .i64 E,.string ⟨D.toArray⟩,.string ⟨C.toArray⟩,.int .i64 F,.slice U T l]) (Blk.new _ _ _) rfl (by decide)) (by simp[Value.oneCell']) (by unfold maxLen;omega) (by omega) (by rw[World.size_alloc];omega) ?_;intro a' c' w6 m L a2;have x:=(bn.alloc (.cells #[.int .i64 E,.string ⟨D.toArray⟩,.string ⟨C.toArray⟩,.int .i64 F,.slice U T l] 46)).kept L a7;have m6:w6.cell? ⟨gc,0,none⟩=some (.slice f nq d):=x.cell 0;have f6:=x.frozen 0;have b5:Kept (obl (.slice f nq d)) wc w6:=hH.trans L;refine hK.out _ _ b5 (fun hH=>?_);clear hK K
     (try simp only[Act.put,List.setIfInBounds_toArray,List.set_cons_zero,List.set_cons_succ])
     refine ah [9,10] (i:=8) (v:=?tv8r) rfl (by kernel_rfl) (by kernel_rfl) (by kernel_rfl) (by kernel_rfl) (fun _ _ _ h=>h) (Or.inl ⟨by rfl,?ty8r⟩) hH ?tr8r
     case ty8r=>intro w' g;(try dsimp only at g);go_simp;first|done|with_reducible rfl
     (try simp only[Act.put,List.setIfInBounds_toArray,List.set_cons_zero,List.set_cons_succ])
     refine ah [10] (i:=9) (v:=?tv9r) rfl (by kernel_rfl) (by kernel_rfl) (by kernel_rfl) (by kernel_rfl) (fun _ _ _ h=>h) (Or.inl ⟨by rfl,?ty9r⟩) hH ?tr9r
     case ty9r=>intro w' g;(try dsimp only at g);go_simp;first|done|with_reducible rfl
     (try simp only[Act.put,List.setIfInBounds_toArray,List.set_cons_zero,List.set_cons_succ])
     refine ai (rs:=[10]) (by kernel_rfl) (by simp) ?_;refine ae.last rfl (by kernel_rfl) (fun K hK=>?_);go_simp;refine hK.out _ _ ?_;clear hK K
     (try simp only[Act.put,List.setIfInBounds_toArray,List.set_cons_zero,List.set_cons_succ])
     refine ak (by kernel_rfl) ?_ _;go_wp2_with fail
     go_meet
     case rel =>
      obtain⟨w9,I⟩:∃y,w6.setCell ⟨gc,0,none⟩ (.slice a' (nq+1) c')=y:=⟨_,rfl⟩;rw[I];have ao:Kept [gc] w6 w9:=I▸(Kept.refl _ _).setCell (Or.inl (by simp)) _;have kf:Kept (gc::obl (.slice f nq d)) wc w9:=(b5.mono (fun _ _ h=>List.mem_cons_of_mem _ h)).trans (ao.mono (fun _ _ h=>by rw[List.mem_singleton]at h;rw[h];exact List.mem_cons_self));refine⟨kf,_,_,a6.out w9 _ _ kf (fun k hk=>?_) (I▸x.set_ 0 _) (ax m ao (fun z j o=>by rw[List.mem_singleton]at o;have:=(aA m z j).1;have:=c.out.low.1;omega))⟩
      rcases a2 k hk with h|h
      ·exact Or.inl h
      ·rw[World.size_alloc]at h;exact Or.inr (by omega)
   case rest =>
   obtain⟨kr,qa',qc',af⟩:=hcut;have m9:wc.cell? ⟨gc,0,none⟩=some (.slice qa' (nq+1) qc'):=af.blk.cell 0;have bx:=hid af;have br:=hid ((bt.out.mono (fun _ _ h=>by simp at h)).trans kr)
   have c3:IntKind.i64.wrap ((nq:Int)+1 - 1)=(nq:Int):=by rw[IntWalk.i64_left];unfold wrap64;omega
   clear af kr;go_wp2_with fail
   go_ret2
   exact⟨br.out,rfl,_,bx.out⟩
end Go.Proofs.YtpcmamoomaddoaaGreatDoor
namespace Go.Proofs.YtpcmamoomaddoaaGreatDoor
open Go.Maps Go.RowKit
section
variable {P:Program} {kt:TypeId} {α:Type} {E:KeyEnc P kt α} {w:World} {b n:Nat} {f:α->Option Value}
theorem sW(es:List (Lit × DV))(h:∀p∈es,∃x,E.ok x/\p.1=E.kl x):∃xs:List α,xs.map E.kl=es.map Prod.fst/\∀x∈xs,E.ok x:=by
 induction es with
 |nil=>exact⟨[],rfl,by simp⟩
 |cons p es ih =>
  obtain⟨xs,h1,h2⟩:=ih fun q hq=>h q (by simp[hq]);obtain⟨x,h3,h4⟩:=h p (by simp);exact⟨x::xs,by rw[List.map_cons,List.map_cons,h1,h4],fun y hy=>by rcases List.mem_cons.1 hy with rfl|hy;exact h3;exact h2 y hy⟩
theorem am.size_eq(h:am E w b n f){L:List α}(hn:L.Nodup)(hok:∀x∈L,E.ok x)(hL:∀x,E.ok x->((f x).isSome=true↔x∈L)):∃D:DV,w.ownsMap P kt rawV b n D/\Maps.size D=L.length:=by
 obtain⟨D,r,B⟩:=h;refine⟨D,r,?_⟩;obtain⟨g,u,o,_⟩:=r.entries E.keyed;obtain⟨es',hD',q⟩:=r.keysOf
 obtain rfl:g=es':=by rw[u]at hD';simpa using hD'
 subst u
 have G:∀p∈g,∃x,E.ok x/\p.1=E.kl x:=fun p d=>by
  obtain⟨v,C⟩:=q p d;obtain⟨x,a,_,e⟩:=E.inv C;exact⟨x,a,e⟩
 obtain⟨i,l,j⟩:=sW g G
 have m:i.Nodup:=by
  have:(i.map E.kl).Pairwise (·≠·):=by rw[l];exact List.pairwise_map.2 o
  exact(List.pairwise_map.1 this).imp fun h e=>h (by rw[e])
 have c:∀x,E.ok x->(x∈i↔has (DataW.map g) (E.kl x)=true):=fun x a=>by
  rw[has_eq,List.any_eq_true]
  constructor
  ·intro F;have:E.kl x∈g.map Prod.fst:=l▸List.mem_map.2 ⟨x,F,rfl⟩;obtain⟨p,d,e⟩:=List.mem_map.1 this;exact⟨p,d,by rw[e];exact WideAt.sameKey_self (E.lit a)⟩
  ·rintro⟨p,d,t⟩;have:p.1∈i.map E.kl:=l▸List.mem_map.2 ⟨p,d,rfl⟩;obtain⟨y,s,e⟩:=List.mem_map.1 this
   by_cases e2:y=x
   ·exact e2▸s
   ·rw[<-e,E.same (j y s) a e2]at t
    cases t
 have d:L.Perm i:=(List.perm_ext_iff_of_nodup hn m).2 fun x=>by
  constructor
  ·intro a;have hx':=hok x a;have A:=(hL x hx').2 a;have k:=B x hx'
   cases hf:f x with
   |none=>rw[hf]at A;cases A
   |some v=>rw[hf]at k;exact(c x hx').2 (has_true_of_atKey k)
  ·intro a;have hx':=j x a;have k:=B x hx';refine(hL x hx').1 ?_
   cases hf:f x with
   |none =>
    rw[hf]at k;have z:has (DataW.map g) (E.kl x)=false:=k;rw[(c x hx').1 a]at z
    cases z
   |some v=>rfl
 rw[d.length_eq,<-List.length_map (f:=E.kl),l,List.length_map]
 rfl
end
def valV(l:List Bnd):Bs->Option Value:=fun s=>(valOf l s).map (Value.int .i64)
def upd(F:Int->Option Cz)(n:Int)(c:Cz):Int->Option Cz:=fun x=>if x=n then some c else F x
theorem qT(F:Int->Option Cz)(n:Int)(c d:Cz):upd (upd F n c) n d=upd F n d:=by
 funext x
 unfold upd
 by_cases e:x=n <;> simp[e]
theorem tQ{F:Int->Option Cz}{n:Int}{c:Cz}(h:F n=some c):upd F n c=F:=by
 funext x
 unfold upd
 by_cases e:x=n
 ·rw[if_pos e,e,h]
 ·rw[if_neg e]
theorem vR(P:List Cz)(c:Cz):upd (findC P) c.num c=findC (setC P c):=by
 funext x
 rw[lZ]
 rfl
theorem am.ne_blk{P:Program}{kt:TypeId}{α:Type}{E:KeyEnc P kt α}{w:World}{b n:Nat}{f:α->Option Value}{g:Nat}{T:TypeId}{cs:Array Value}(h:am E w b n f)(k:Blk w g T cs):b≠g:=by
 rintro rfl;obtain⟨D,⟨es,clock,hb,_⟩,_⟩:=h
 unfold Blk at k
 rw[k]at hb
 cases hb
structure Cit (B:Nat) (w:World) (g bv bt N K:Nat) (V T:Int->Nat) (F:Int->Option Cz):Prop where
 blk:Blk w g 97 #[.map (some bv),.map (some bt)]
 mv:am aM w bv N fun x=>(F x).map fun _=>.map (some (V x))
 mt:am aM w bt N fun x=>(F x).map fun _=>.slice (some ⟨T x,0,none⟩) K K
 own:∀x c,F x=some c->am aC w (V x) N (valV c.vals)
 tick:∀x c,F x=some c->Blk w (T x) 3 (ints c.tick).toArray/\c.tick.length=K
 low:B<=g/\B<=bv/\B<=bt/\bv≠bt
 lowc:∀x c,F x=some c->B<=V x/\V x≠bv/\V x≠bt/\B<=T x/\T x≠g
 inj:∀x y c d,F x=some c->F y=some d->(V x=V y->x=y)/\(T x=T y->x=y)
section
variable {B:Nat} {w w':World} {g bv bt N N' K:Nat} {V T:Int->Nat} {F:Int->Option Cz} {n:Int} {c:Cz}
theorem Cit.kept(h:Cit B w g bv bt N K V T F)(k:Kept [] w w'):Cit B w' g bv bt N K V T F := ⟨h.blk.kept k (by simp),h.mv.kept k (by simp),h.mt.kept k (by simp),fun x c hx=>(h.own x c hx).kept k (by simp),fun x c hx=>⟨(h.tick x c hx).1.kept k (by simp),(h.tick x c hx).2⟩,h.low,h.lowc,h.inj⟩
theorem Cit.mono(h:Cit B w g bv bt N K V T F)(hN:N<=N'):Cit B w g bv bt N' K V T F := ⟨h.blk,h.mv.mono hN,h.mt.mono hN,fun x c hx=>(h.own x c hx).mono hN,h.tick,h.low,h.lowc,h.inj⟩
theorem jt{β:Type}{F:Int->Option Cz}{n:Int}{c d:Cz}(hn:F n=some c)(f:Int->β)(x:Int):(upd F n d x).map (fun _=>f x)=(F x).map fun _=>f x:=by
 unfold upd
 by_cases e:x=n
 ·subst e;rw[if_pos rfl,hn];rfl
 ·rw[if_neg e]
theorem upd_some{F:Int->Option Cz}{n x:Int}{c d:Cz}(h:upd F n c x=some d):(x=n/\d=c)\/(x≠n/\F x=some d):=by
 unfold upd at h
 by_cases e:x=n
 ·rw[if_pos e]at h;injection h with h;exact Or.inl ⟨e,h.symm⟩
 ·rw[if_neg e]at h;exact Or.inr ⟨e,h⟩
/-- facts about whom there is do not ask what they have -/
theorem fQ{F:Int->Option Cz}{n x:Int}{c d e:Cz}(hn:F n=some e)(h:upd F n c x=some d):∃d',F x=some d':=by
 rcases upd_some h with⟨rfl,_⟩|⟨_,h⟩
 ·exact⟨e,hn⟩
 ·exact⟨d,h⟩
theorem Cit.put(h:Cit B w g bv bt N K V T F)(hn:F n=some c)(k:Kept [V n] w w'){vals:List Bnd}(hm:am aC w' (V n) N' (valV vals))(hN:N<=N'):Cit B w' g bv bt N' K V T (upd F n ⟨c.num,vals,c.tick⟩):=by
 have i:=h.lowc n c hn
 have f:∀(x:Int) d,F x=some d->T x∉[V n]:=fun x d hx hm=>by
  rw[List.mem_singleton]at hm;exact(h.own n c hn).ne_blk (h.tick x d hx).1 hm.symm
 refine⟨h.blk.kept k ?_,((h.mv.kept k ?_).mono hN).congr fun x _=>jt hn (fun x=>Value.map (some (V x))) x,((h.mt.kept k ?_).mono hN).congr fun x _=>jt hn (fun x=>Value.slice (some ⟨T x,0,none⟩) K K) x,fun x d hx=>?_,fun x d hx=>?_,h.low,fun x d hx=>?_,fun x y d e hx hy=>?_⟩
 ·simpa using Ne.symm ((h.own n c hn).ne_blk h.blk)
 ·simpa using Ne.symm i.2.1
 ·simpa using Ne.symm i.2.2.1
 ·rcases upd_some hx with⟨rfl,rfl⟩|⟨b,a⟩
  ·exact hm
  ·exact((h.own x d a).kept k (by simpa using fun e=>b ((h.inj x n d c a hn).1 e))).mono hN
 ·rcases upd_some hx with⟨rfl,rfl⟩|⟨b,a⟩
  ·exact⟨(h.tick x c hn).1.kept k (f x c hn),(h.tick x c hn).2⟩
  ·exact⟨(h.tick x d a).1.kept k (f x d a),(h.tick x d a).2⟩
 ·obtain⟨d',b⟩:=fQ hn hx;exact h.lowc x d' b
 ·obtain⟨d',b⟩:=fQ hn hx;obtain⟨e',a⟩:=fQ hn hy;exact h.inj x y d' e' b a
theorem Cit.ticked(h:Cit B w g bv bt N K V T F)(hn:F n=some c)(k:Kept [T n] w w'){t:List Int}(hb:Blk w' (T n) 3 (ints t).toArray)(hl:t.length=K):Cit B w' g bv bt N K V T (upd F n ⟨c.num,c.vals,t⟩):=by
 have i:=h.lowc n c hn;have f:=(h.tick n c hn).1;refine⟨h.blk.kept k ?_,(h.mv.kept k ?_).congr fun x _=>jt hn (fun x=>Value.map (some (V x))) x,(h.mt.kept k ?_).congr fun x _=>jt hn (fun x=>Value.slice (some ⟨T x,0,none⟩) K K) x,fun x d hx=>?_,fun x d hx=>?_,h.low,fun x d hx=>?_,fun x y d e hx hy=>?_⟩
 ·simpa using Ne.symm i.2.2.2.2
 ·simpa using h.mv.ne_blk f
 ·simpa using h.mt.ne_blk f
 ·rcases upd_some hx with⟨rfl,rfl⟩|⟨b,a⟩
  ·exact(h.own x c hn).kept k (by simpa using(h.own x c hn).ne_blk f)
  ·exact(h.own x d a).kept k (by simpa using(h.own x d a).ne_blk f)
 ·rcases upd_some hx with⟨rfl,rfl⟩|⟨b,a⟩
  ·exact⟨hb,hl⟩
  ·exact⟨(h.tick x d a).1.kept k (by simpa using fun e=>b ((h.inj x n d c a hn).2 e)),(h.tick x d a).2⟩
 ·obtain⟨d',b⟩:=fQ hn hx;exact h.lowc x d' b
 ·obtain⟨d',b⟩:=fQ hn hx;obtain⟨e',a⟩:=fQ hn hy;exact h.inj x y d' e' b a
theorem Cit.new(h:Cit B w g bv bt N K V T F)(hB:B<=w.heap.size)(k:Kept [bv,bt] w w'){v t:Nat}(hv:w.heap.size<=v)(ht:w.heap.size<=t)
  (h1:am aM w' bv N' fun y=>if y=n then some (.map (some v))else(F y).map fun _=>.map (some (V y)))
  (h2:am aM w' bt N' fun y=>if y=n then some (.slice (some ⟨t,0,none⟩) K K)else(F y).map fun _=>.slice (some ⟨T y,0,none⟩) K K)
  (h3:am aC w' v N' (fun _=>none)) (h4:Blk w' t 3 (ints (List.replicate K 0)).toArray) (hN:N<=N') :
  Cit B w' g bv bt N' K (fun x=>if x=n then v else V x) (fun x=>if x=n then t else T x) (upd F n ⟨n,[],List.replicate K 0⟩):=by
 have f:∀x d,F x=some d->V x < w.heap.size/\T x < w.heap.size:=fun x d hx=>⟨(h.own x d hx).lt,(h.tick x d hx).1.lt⟩
 have m:=h.mv.lt;have l:=h.mt.lt;have j:=h.blk.lt
 have i:g∉[bv,bt]:=by
  have c:=h.mv.ne_blk h.blk;have b:=h.mt.ne_blk h.blk;simp only[List.mem_cons,List.not_mem_nil,or_false,not_or];exact⟨Ne.symm c,Ne.symm b⟩
 have a:∀ {x d},upd F n ⟨n,[],List.replicate K 0⟩ x=some d->x≠n->F x=some d:=fun hx hne=>by
  rcases upd_some hx with⟨e,_⟩|⟨_,h⟩
  ·exact absurd e hne
  ·exact h
 refine⟨h.blk.kept k i,h1.congr fun x _=>?_,h2.congr fun x _=>?_,fun x d hx=>?_,fun x d hx=>?_,h.low,fun x d hx=>?_,fun x y d e hx hy=>?_⟩
 ·unfold upd;by_cases e:x=n <;> simp[e]
 ·unfold upd;by_cases e:x=n <;> simp[e]
 ·by_cases e:x=n
  ·rcases upd_some hx with⟨_,rfl⟩|⟨h,_⟩
   ·rw[if_pos e];exact h3.congr fun y _=>rfl
   ·exact absurd e h
  ·rw[if_neg e];have hx':=a hx e;have:=h.lowc x d hx';exact((h.own x d hx').kept k (by simp only[List.mem_cons,List.not_mem_nil,or_false,not_or];exact⟨this.2.1,this.2.2.1⟩)).mono hN
 ·by_cases e:x=n
  ·rcases upd_some hx with⟨_,rfl⟩|⟨h,_⟩
   ·rw[if_pos e];exact⟨h4,by simp⟩
   ·exact absurd e h
  ·rw[if_neg e];have hx':=a hx e;have ht:=h.tick x d hx';have c:=h.mv.ne_blk ht.1;have b:=h.mt.ne_blk ht.1;exact⟨ht.1.kept k (by simp only[List.mem_cons,List.not_mem_nil,or_false,not_or];exact⟨Ne.symm c,Ne.symm b⟩),ht.2⟩
 ·by_cases e:x=n
  ·rw[if_pos e,if_pos e];exact⟨by omega,by omega,by omega,by omega,by omega⟩
  ·rw[if_neg e,if_neg e];exact h.lowc x d (a hx e)
 ·by_cases c:x=n
  ·by_cases b:y=n
   ·exact⟨fun _=>by rw[c,b],fun _=>by rw[c,b]⟩
   ·have:=f y e (a hy b);rw[if_pos c,if_neg b,if_pos c,if_neg b];exact⟨fun h=>by omega,fun h=>by omega⟩
  ·by_cases b:y=n
   ·have:=f x d (a hx c);rw[if_neg c,if_pos b,if_neg c,if_pos b];exact⟨fun h=>by omega,fun h=>by omega⟩
   ·rw[if_neg c,if_neg b,if_neg c,if_neg b];exact h.inj x y d e (a hx c) (a hy b)
end
end Go.Proofs.YtpcmamoomaddoaaGreatDoor
