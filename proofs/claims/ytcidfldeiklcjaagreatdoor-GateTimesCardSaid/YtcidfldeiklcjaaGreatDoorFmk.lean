import Derived.Test.YtcidfldeiklcjaaGreatDoorDecT
set_option maxRecDepth 100000
set_option maxHeartbeats 32000000
namespace Go.Proofs.YtcidfldeiklcjaaGreatDoor
open Go.RowKit Tape
open Go.Proofs.Tryz
open Lib(hid)
def bT:Array Value:=#[.int .i64 0,.string ⟨#[]⟩,(),.int .i64 0,(),.int .i64 0,.int .i64 0,.int .i64 0]
theorem qj:(prog.info? 123).map (fun i=>(i.zero,i.size,i.bytes))=some (some (.agg #[.string ⟨#[]⟩,.int .i64 0,(),()]),4,72):=by kernel_rfl
structure Dk (w wr:World) (b tb B:Nat) (X:List Nat) (Fin:World->Prop) (q:List UInt8) (rvv:Value) (a:Option Addr) (n c:Nat) (l:List Pss) (r:Wire.Rd):Prop where
 rd:RdAt wr b r
 bp:Blk wr tb 88 #[.int .i64 0,q,.slice a n c,.int .i64 0,rvv,.int .i64 0,.int .i64 0,.int .i64 0]
 gr:Grow PssR 4 123 B X wr (.slice a n c) l
 fin:ae X Fin wr
 nl:n=l.length
 vX:∀z∈obl (.slice a n c),z∈X
 bX:b∈X
 tX:tb∈X
 hX:∀z∈X,z < wr.heap.size
 lb:b < B
 lt:tb < B
 lB:B<=wr.heap.size
 bt:b≠tb
 wb:w.heap.size < b
 wt:w.heap.size < tb
 zq:Blk wr w.heap.size 88 bT
 k0:Kept [] w wr
 fit:Fits r
section
variable {w wr w1 y u:World} {b tb B:Nat} {X:List Nat} {Fin:World->Prop} {q:List UInt8} {rvv:Value} {a:Option Addr} {n c:Nat} {l:List Pss} {r r':Wire.Rd}
theorem Dk.ge(h:Dk w wr b tb B X Fin q rvv a n c l r):∀z∈obl (.slice a n c),B<=z/\z < wr.heap.size:=h.gr.ge
theorem Dk.read(h:Dk w wr b tb B X Fin q rvv a n c l r)(k:Kept [b] wr w1)(rd:RdAt w1 b r')(hf:Fits r'):Dk w w1 b tb B X Fin q rvv a n c l r':=by
 have h1:=h.bt;have h2:=h.wb;have hs:=k.size
 have hk1:∀z∈[b],z < wr.heap.size->z∈X:=fun z hz _=>by obtain rfl:=ms hz;exact h.bX
 exact⟨rd,h.bp.kept k (by simp;omega),h.gr.step k (fun z hz hm=>by have:=h.ge z hz;have:=h.lb;rw[List.mem_singleton]at hm;omega) hk1 (fun z hz=>Or.inl hz),h.fin.step k hk1 (fun z hz=>Or.inl hz),h.nl,h.vX,h.bX,h.tX,
  fun z hz=>Nat.lt_of_lt_of_le (h.hX z hz) hs,h.lb,h.lt,Nat.le_trans h.lB hs,h1,h2,h.wt,h.zq.kept k (by simp;omega),h.k0.fresh k (by simp;omega),hf⟩
theorem Dk.cell(h:Dk w wr b tb B X Fin q rvv a n c l r):∀w',Kept (b::obl (.slice a n c)) wr w'->w'.cell? ⟨tb,2,none⟩=some (.slice a n c):=fun w' k=>by
 have h1:=h.bt;have h2:=h.lt
 rw[(h.bp.kept k (fun hm=>by
  rcases List.mem_cons.1 hm with e|e
  ·omega
  ·have:=h.ge _ e;omega)).cell 2]
 rfl
theorem Dk.frozen(h:Dk w wr b tb B X Fin q rvv a n c l r):∀w',Kept (b::obl (.slice a n c)) wr w'->w'.frozen? ⟨tb,2,none⟩=false:=fun w' k=>by
 have h1:=h.bt;have h2:=h.lt
 exact(h.bp.kept k (fun hm=>by
  rcases List.mem_cons.1 hm with e|e
  ·omega
  ·have:=h.ge _ e;omega)).frozen 2
theorem Dk.pushed{p:Option Addr}{m:Nat}{d:Pss}(D:Dk w w1 b tb B X Fin q rvv a n c l r')(ku:Kept [] w1 u)(G:Grow PssR 4 123 B (X++obl (.slice p (l.length+1) m)) y (.slice p (l.length+1) m) (l++[d]))(k:Kept (obl (.slice a n c)) u y)
  (t:∀z∈obl (.slice p (l.length+1) m),z∈obl (.slice a n c)\/z=u.heap.size) :
  Kept (obl (.slice a n c)) w1 y/\∃X',Dk w (y.setCell ⟨tb,2,none⟩ (.slice p (l.length+1) m)) b tb B X' Fin q rvv p (l.length+1) m (l++[d]) r':=by
 have J:=D.lB;have I:=ku.size;have x:=D.lb;have v:=D.lt;have r:=D.wb;have o:=D.wt;have A:=D.bt;have f:=D.ge;have g:Kept (obl (.slice a n c)) w1 y:=(ku.mono (by simp)).trans k;have F:=k.size
 have E:∀z∈X++obl (.slice p (l.length+1) m),z∈X\/w1.heap.size<=z:=fun z hz=>by
  rcases List.mem_append.1 hz with e|e
  ·exact Or.inl e
  ·rcases t z e with e|e
   ·exact Or.inl (D.vX z e)
   ·exact Or.inr (by omega)
 refine⟨g,X++obl (.slice p (l.length+1) m),?_⟩;have j:Kept [tb] y (y.setCell ⟨tb,2,none⟩ (.slice p (l.length+1) m)):=kr.setCell (by simp) _
 have s:(y.setCell ⟨tb,2,none⟩ (.slice p (l.length+1) m)).heap.size=y.heap.size:=by simp[World.setCell]
 have C:=(D.bp.kept g (fun hm=>by have:=f _ hm;omega)).set_ 2 (.slice p (l.length+1) m)
 have h:∀z∈[tb],z < y.heap.size->z∈X++obl (.slice p (l.length+1) m):=fun z hz _=>by obtain rfl:=ms hz;exact List.mem_append_left _ D.tX
 have i:ae (X++obl (.slice p (l.length+1) m)) Fin y:=D.fin.step g (fun z hz _=>D.vX z hz) E
 exact⟨⟨D.rd.1,(D.rd.2.kept g (fun hm=>by have:=f _ hm;omega)).kept j (by simp;omega)⟩,C,G.step j (fun z hz hm=>by have:=G.ge z hz;rw[List.mem_singleton]at hm;omega) h (fun z hz=>Or.inl hz),
  i.step j h (fun z hz=>Or.inl hz),by simp,fun z hz=>List.mem_append_right _ hz,List.mem_append_left _ D.bX,List.mem_append_left _ D.tX,
  fun z hz=>by
   rw[s]
   rcases List.mem_append.1 hz with e|e
   ·have:=D.hX z e;omega
   ·exact(G.ge z e).2,x,v,by omega,A,r,o,(D.zq.kept g (fun hm=>by have:=f _ hm;omega)).kept j (by simp;omega),(D.k0.fresh g (fun z hz=>by have:=f z hz;omega)).setCell (Or.inr (by simp;omega)) _,D.fit⟩
theorem tt{ops:Array Oper}{o:Oper}{ac:Act}{K:Act->World->Prop}{Q:Exit->Act->World->Prop}{E:Prop}(D:Dk w w1 b tb B X Fin q rvv a n c l r')(hgd:o.guard=none)(s x:Operand)
  (ho:o.op=.call { callee:=.builtin .append,args:=#[s,x],argTypes:=#[86,86] })
  (hs:ac.eval s=.slice a n c) (v:Value) (hx:ac.eval x=v) (el:List Value) (d:Pss) (hrow:Row u 4 v 1 el) (ku:Kept [] w1 u) (hR:ae X (fun w=>PssR w el d) w1) (h1:∀u∈el,u.oneCell'=true) (hn:l.length<=1000000000)
  (h:∀p m y,Kept (obl (.slice a n c)) w1 y->(∃X',Dk w (y.setCell ⟨tb,2,none⟩ (.slice p (l.length+1) m)) b tb B X' Fin q rvv p (l.length+1) m (l++[d]) r')->K (ac.put o.dst (.slice p (l.length+1) m)) y) :
  if Region.wanted o (yielded ops ac.tmps)=true then Oper.wp prog o ac u K Q else E:=by
 have A:=D.lB;have r:=ku.size;obtain⟨j,C,g,f,e⟩:=info_parts qj;refine aO hgd s x 86 ho j _ 72 underlying86 C g f e rfl (by decide) (by decide) hs (D.gr.step (X':=X) ku (by simp) (by simp) (fun z hz=>Or.inl hz)) v el d hx hrow (hR.step ku (by simp) (fun z hz=>Or.inl hz)) h1 hn (by omega) D.vX ?_;intro p m y G k t;obtain⟨i,X',F⟩:=D.pushed ku G k t;exact h p m y i ⟨X',F⟩
end
def DtE(s:List UInt8)(w:World)(e:Ending)(w':World):Prop:=∃(i0 i3 i6 i7:Int) (q:List UInt8) (pa ra:Option Addr) (pn pc rn rc:Nat),
 e=.returned (.tuple #[.agg #[i0,q,.slice pa pn pc,i3,.slice ra rn rc,.int .i64 (Dt.xr s),i6,i7],.bool (Dt.okT s)])/\Kept [] w w'
def DkRel(w:World)(b tb B:Nat)(Fin:World->Prop)(q:List UInt8)(rvv:Value)(fin:List Pss × Wire.Rd)(M:Nat)(v:Value)(wr:World):Prop :=
 ∃(k:Nat) (r:Wire.Rd) (acc:List Pss) (X:List Nat) (a:Option Addr) (n c:Nat),v=k/\k<=M/\acc.length+r.rest.length<=100000000/\Dt.cL k r acc=fin/\Dk w wr b tb B X Fin q rvv a n c acc r
theorem rD{n:Nat}{r:Wire.Rd}{acc:List Pss}(h:r.rest=[]):Dt.cL n r acc=(acc,r):=by
 cases n
 ·rfl
 ·unfold Dt.cL;rw[h];rfl
theorem wj{n:Nat}{r:Wire.Rd}{acc:List Pss}(h:r.rest≠[]):Dt.cL (n+1) r acc=Dt.cL n (Dt.rdP r).2 (acc++[(Dt.rdP r).1]):=by
 rw[Dt.cL,if_neg (by simpa using h)]
theorem qA(s:List UInt8)(w:World)(hs:s.length<=1000000)(hE:Env w):Calls prog 82 #[s] w (DtE s w):=by
 obtain⟨hd,r1,h1⟩:∃a b,Wire.nums ⟨s,false⟩=(a,b):=⟨_,_,rfl⟩;obtain⟨q,r2,h2⟩:∃a b,Wire.text r1=(a,b):=⟨_,_,rfl⟩;obtain⟨rv,r3,h3⟩:∃a b,Wire.nums r2=(a,b):=⟨_,_,rfl⟩;obtain⟨N,r4,h4⟩:∃a b,Wire.ar 59 0 r3=(a,b):=⟨_,_,rfl⟩;obtain⟨ps,r5,h5⟩:∃a b,Dt.cL N.toNat r4 []=(a,b):=⟨_,_,rfl⟩;have PT:Hid (Dt.Parts s hd q rv N ps r1 r2 r3 r4 r5):=⟨h1,h2,h3,h4,h5⟩
 have f0:Fits ⟨s,false⟩:=by unfold Fits;simp only;omega
 have f1:=ce h1 f0;have f2:=fe h2 f1;have f3:=ce h3 f2;have f4:=aP h4 f3
 have dk:0<=N:=by have:=Wire.yt 59 0 (by omega) r3;rw[h4]at this;exact this
 have ek:N<=9223372036854775807:=by have:=Wire.xM 59 0 r3;rw[h4]at this;exact this.2
 obtain⟨M,rfl⟩:=Int.eq_ofNat_of_zero_le dk;rw[Int.toNat_natCast]at h5;have H1:=hid h1;have H2:=hid h2;have H3:=hid h3;have H4:=hid h4;have H5:=hid h5;have HS:=hid hs;have de:=dt ⟨s,false⟩ f0;rw[h1]at de;have d7:=dt r2 f2;rw[h3]at d7;obtain⟨W,hW⟩:=nm (w.alloc (.cells bT 88));have hq:Blk W w.heap.size 88 bT:=hW▸Blk.new _ _ _;have bx:Kept [] w W:=hW▸kr.alloc _;have c7:=hE.kept0 bx
 have cu:w.heap.size < W.heap.size:=by rw[<-hW];simp
 have HW:=hid hW;clear h1 h2 h3 h4 h5 hW hs
 go_enter func82,ntmps82
 go_wp2_with fail;have hW':w.alloc (.cells #[.int .i64 0,.string ⟨#[]⟩,(),.int .i64 0,(),.int .i64 0,.int .i64 0,.int .i64 0] 88)=W:=HW.out;rw[hW'];clear hW' HW;have OP:=hid (ow s W c7)
 generalize hb:W.heap.size=b at OP cu
 have e6:=hid hb;clear hb;go_wp2_with (go_at_call 124;refine OP.mono ?_);rintro e w1 ⟨rfl,L,k1⟩;have C1:=hid (gS b ⟨s,false⟩ H1 w1 L (c7.kept0 k1) f0);have K1:=hid k1;have ca:=hid L;clear OP k1 L;go_wp2_with (go_at_call 125;refine C1.out.mono ?_);rintro e w2 ⟨hv,rfl,a9,J,k2⟩;have da:=k2.size;have db:b < w1.heap.size:=ca.2.lt;have E2:Hid (Env w2):=hid ((c7.kept0 K1).keptR ca k2);have C2:=hid (ly b r1 H2 w2 J E2.out f1);obtain⟨ha,hc,rfl⟩:=aG a9;have an:=hid a9;have cy:=hid J;have K2:=hid k2;clear C1 a9 J k2;go_wp2_with (go_at_call 126;refine C2.out.mono ?_);rintro e w3 ⟨rfl,I,k3⟩;have d9:=k3.size;have E3:Hid (Env w3):=hid (E2.out.keptR cy k3);have C3:=hid (gS b r2 H3 w3 I E3.out f2);have cx:=hid I;have K3:=hid k3;clear C2 I k3;go_wp2_with (go_at_call 125;refine C3.out.mono ?_);rintro e w4 ⟨eb,rfl,o,a7,k4⟩;have cp:=k4.size;obtain⟨V,U,rfl⟩:=aG o;have cb:=hid o;have c9:=hid a7;have K4:=hid k4;clear C3 o a7 k4;go_upto_region 4 with(fail);obtain⟨w5,ab⟩:=nm (w4.alloc (.cells #[.int .i64 0,q,(),.int .i64 0,.slice V rv.length U,.int .i64 0,.int .i64 0,.int .i64 0] 88));rw[ab];have O:Kept [] w4 w5:=ab▸kr.alloc _
 have co:w4.heap.size < w5.heap.size:=by rw[<-ab];simp
 have al:Blk w5 w4.heap.size 88 #[.int .i64 0,q,(),.int .i64 0,.slice V rv.length U,.int .i64 0,.int .i64 0,.int .i64 0]:=ab▸Blk.new _ _ _;obtain⟨l,bs⟩:=nm w4.heap.size
 have b7:w.heap.size≠b:=by omega
 have ac:ae [b,l] (fun w=>Row w 1 (.slice ha hd.length hc) hd.length (ints hd)/\Row w 1 (.slice V rv.length U) rv.length (ints rv)) w5:=by
  have o2:=af (af (af an.out K3.out (fun z g hm=>by have:=ak an.out z g;rw[List.mem_singleton]at hm;omega)) K4.out (fun z g hm=>by have:=ak an.out z g;rw[List.mem_singleton]at hm;omega)) O (by simp);have o4:=af cb.out O (by simp);refine(ae.row o2 (fun z g hm=>?_) (by omega)).and (ae.row o4 (fun z g hm=>?_) (by omega))
  ·have:=ak an z g;simp only[List.mem_cons,List.not_mem_nil,or_false]at hm
   rcases hm with rfl|rfl <;> omega
  ·have:=ak cb z g;simp only[List.mem_cons,List.not_mem_nil,or_false]at hm
   rcases hm with rfl|rfl <;> omega
 obtain⟨a6,am⟩:∃F:World->Prop,(fun w=>Row w 1 (.slice ha hd.length hc) hd.length (ints hd)/\Row w 1 (.slice V rv.length U) rv.length (ints rv))=F:=⟨_,rfl⟩;rw[am]at ac
 have FI:Hid (∀w,a6 w->Row w 1 (.slice ha hd.length hc) hd.length (ints hd)/\Row w 1 (.slice V rv.length U) rv.length (ints rv)):=fun w h=>by rw[<-am]at h;exact h
 rw[bs]at al cp co ⊢;have bc:Kept [] w w5:=((((bx.trans K1.out).fresh K2.out (by simp;omega)).fresh K3.out (by simp;omega)).fresh K4.out (by simp;omega)).trans O;have cq:Blk w5 w.heap.size 88 bT:=((((hq.kept K1.out (by simp)).kept K2.out (by simpa using b7)).kept K3.out (by simpa using b7)).kept K4.out (by simpa using b7)).kept O (by simp);have bk:RdAt w5 b r3:=⟨c9.out.1,c9.out.2.kept O (by simp)⟩;have E5:Hid (Env w5):=hid ((E3.out.keptR cx K4).kept0 O);have C5:=hid (zA b r3 H4 w5 bk E5.out f3);have bb:=hid al;have d2:=hid ac;have d5:=hid bc;have d3:=hid cq;have dm:=hid bk;have dr:=hid bs;clear am ac al bc cq bk ab O K1 K2 K3 K4 ca cy cx c9 an cb E2 E3 bs bx hq e6 b7;go_wp2_with (go_at_call 127;refine C5.out.mono ?_);rintro e w6 ⟨rfl,cm,k6⟩;have d8:=k6.size
 have ct:b≠l:=by omega
 have D6:Hid (Dk w w6 b l w6.heap.size [b,l] a6 q (.slice V rv.length U) none 0 0 [] r4):=hid ⟨cm,bb.out.kept k6 (by simpa using fun h=>ct h.symm),Grow.nil_ _ _ _ _ _ _,d2.out.step k6 (fun z g _=>by obtain rfl:=ms g;simp) (fun z g=>Or.inl g),rfl,by simp[obl,Value.ownBlock],by simp,by simp,
   fun z g=>by simp only[List.mem_cons,List.not_mem_nil,or_false]at g;rcases g with rfl|rfl <;> omega,by omega,by omega,Nat.le_refl _,ct,cu,by omega,d3.out.kept k6 (by simp;omega),d5.out.fresh k6 (by simp;omega),f4⟩
 generalize hB:w6.heap.size=B at D6
 clear cm k6 hB C5 dm bb d2 d5 d3 d8 co cp d9 da db dr;go_wp2_with fail
 go_loopw [7] (fun v wr=>DkRel w b l B a6 q (.slice V rv.length U) (ps,r5) M v wr) (fun v _=>(intOf v).toNat)
 case atStart=>exact⟨M,r4,[],[b,l],none,0,0,rfl,Nat.le_refl _,by have:r4.rest.length<=100000000:=f4;simpa using this,H5,D6.out⟩
 case round =>
  obtain⟨k,r,f,X,a,n,c,rfl,eg,ej,bh,hD⟩:=hrel;have t:=hid hD;have cc:=hid bh;clear hD bh D6
  by_cases hgo:k≠0/\r.rest≠[]
  ·obtain⟨k,rfl⟩:∃j,k=j+1:=⟨k - 1,by omega⟩;have bv:=hgo.2;obtain⟨xn,bl,g1⟩:∃x a,Wire.text r=(x,a):=⟨_,_,rfl⟩;obtain⟨yp,av,g2⟩:∃x b,Wire.ar 59 (-9223372036854775808) bl=(x,b):=⟨_,_,rfl⟩;obtain⟨za,ap,g3⟩:∃x c,Wire.texts av=(x,c):=⟨_,_,rfl⟩;obtain⟨ug,r',g4⟩:∃x d,Wire.nums ap=(x,d):=⟨_,_,rfl⟩;have ad:=Dt.vL g1 g2 g3 g4;have ah:=Dt.rdP_less bv;rw[ad]at ah
   simp only at ah
   have e5:Hid (Dt.cL k r' (f++[⟨xn,yp,za,ug⟩])=(ps,r5)):=by
    have:=cc.out;rw[wj bv,ad]at this;exact this
   have f1:=fe g1 t.fit;have f2:=aP g2 f1;have f3:=eo g3 f2;have f4:=ce g4 f3;have EW:Hid (Env wr.drew):=hid ((hE.kept0 t.k0).drew);have LF:=hid (sq b r wr t.rd)
   have dc:decide ((0:Int) < (r.rest.length:Int))=true:=by
    have:0 < r.rest.length:=List.length_pos_iff.2 bv
    simpa using this
   have c0:decide ((0:Int) < (k:Int)+1)=true:=decide_eq_true (by omega);go_wp2_with (go_at_call 128;refine LF.mono ?_;rintro e w' ⟨rfl,rfl⟩);clear dc c0 LF;have q0:=t.cell;have qf:=hid t.frozen;have c5:RdAt wr.drew b r:=t.rd;have C1:=hid (ly b r g1 wr.drew c5 EW t.fit);have C2:Hid (∀y,RdAt y b bl->Env y->Calls prog 129 #[.pointer (some ⟨b,0,none⟩)] y fun en w'=>en=.returned yp/\RdAt w' b av/\Kept [b] y w'):=fun y h E=>yl b bl g2 y h E f1;have C3:Hid (∀y,RdAt y b av->Env y->Calls prog 130 #[.pointer (some ⟨b,0,none⟩)] y fun en w'=>∃v,en=.returned v/\w'.ownsRow y.heap.size 9 1 v za.length (strs za)/\RdAt w' b ap/\Kept [b] y w'):=fun y h E=>mR b av g3 y h E f2;have C4:Hid (∀y,RdAt y b ap->Env y->Calls prog 125 #[.pointer (some ⟨b,0,none⟩)] y fun en w'=>∃v,en=.returned v/\w'.ownsRow y.heap.size 3 1 v ug.length (ints ug)/\RdAt w' b r'/\Kept [b] y w'):=fun y h E=>gS b ap g4 y h E f3;have e0:=hid c5;clear g1 g2 g3 g4 c5 ad;go_upto_region 7 with(fail);refine aJ [13,14] (fun w'=>Kept (b::obl (.slice a n c)) wr w') (by kernel_rfl) kr.drew (fun hH=>?_);refine tk [1,12,13,14] 0 rfl hH ?_;simp only[Act.put,sA,s0_,s1_];refine tk [12,13,14] 1 rfl hH ?_;simp only[Act.put,sA,s0_,s1_];refine tk [3,5,7,9,10,11,12,13,14] 2 rfl hH ?_;simp only[Act.put,sA,s0_,s1_];refine tk [5,7,9,10,11,12,13,14] 4 rfl hH ?_;simp only[Act.put,sA,s0_,s1_];refine tk [7,9,10,11,12,13,14] 6 rfl hH ?_;simp only[Act.put,sA,s0_,s1_];refine tk [9,10,11,12,13,14] 8 rfl hH ?_
   simp only[Act.put,sA,s0_,s1_];refine YtcidfldeiklcjaaGreatDoor.r1 3 rfl fun K hK=>?_;go_simp;refine C1.out.mono ?_;rintro e y1 ⟨rfl,L,bm⟩;have b4:Kept [b] wr y1:=(Kept.refl [b] wr).drew.trans bm
   have up:∀y,Kept [b] wr y->Kept (b::obl (.slice a n c)) wr y:=fun y k=>k.mono fun z _ g=>by obtain rfl:=ms g;exact List.mem_cons_self
   have E1:Env y1:=EW.keptR e0 bm;refine hK.out _ _ (up _ b4) (fun hH=>?_);clear hK K
   (try simp only[Act.put,sA,s0_,s1_])
   refine YtcidfldeiklcjaaGreatDoor.r1 5 rfl fun K hK=>?_;go_simp;refine(C2.out y1 L E1).mono ?_;rintro e y2 ⟨rfl,J,b1⟩;have bq:Kept [b] wr y2:=b4.trans b1;have E2:Env y2:=E1.keptR L b1;refine hK.out _ _ (up _ bq) (fun hH=>?_);clear hK K
   (try simp only[Act.put,sA,s0_,s1_])
   refine YtcidfldeiklcjaaGreatDoor.r1 7 rfl fun K hK=>?_;go_simp;refine(C3.out y2 J E2).mono ?_;rintro e y3 ⟨v3,rfl,G,I,b0⟩;have bo:Kept [b] wr y3:=bq.trans b0;have E3:Env y3:=E2.keptR J b0;obtain⟨R,c3,rfl⟩:=aG G;refine hK.out _ _ (up _ bo) (fun hH=>?_);clear hK K
   (try simp only[Act.put,sA,s0_,s1_])
   refine YtcidfldeiklcjaaGreatDoor.r1 9 rfl fun K hK=>?_;go_simp;refine(C4.out y3 I E3).mono ?_;rintro e y4 ⟨v4,rfl,o,a7,aa⟩;have b3:Kept [b] wr y4:=bo.trans aa;have E4:Env y4:=E3.keptR I aa;obtain⟨Q,c4,rfl⟩:=aG o;refine hK.out _ _ (up _ b3) (fun hH=>?_);clear hK K
   (try simp only[Act.put,sA,s0_,s1_])
   have di:=t.hX b t.bX;have t1:=b4.size;have t2:=b1.size;have t3:=b0.size;have t4:=aa.size
   have cv:ae X (fun w=>PssR w [xn,yp,.slice R za.length c3,.slice Q ug.length c4] ⟨xn,yp,za,ug⟩) y4:=by
    have o3:=af G aa (fun z g hm=>by have:=ak G z g;rw[List.mem_singleton]at hm;omega)
    exact((ae.row o3 (fun z g hm=>by have:=ak G z g;have:=t.out.hX z hm;omega) (eV o3 (by decide))).and (ae.row o (fun z g hm=>by have:=ak o z g;have:=t.out.hX z hm;omega) (eV o (by decide)))).imp fun w h=>⟨_,_,rfl,h.1,h.2⟩
   have ds:=hid cv;have HY:Hid (Dk w y4 b l B X a6 q (.slice V rv.length U) a n c f r'):=hid (t.read b3 a7 f4);have e8:=hid (up _ b3);clear cv G o L J I a7 bm b1 b0 aa E1 E2 E3 E4 b4 bq bo b3 t1 t2 t3 t4 di;refine tk [11,12,13,14] 10 rfl hH ?_;simp only[Act.put,sA,s0_,s1_];refine YtcidfldeiklcjaaGreatDoor.r1 11 rfl fun K hK=>?_;go_simp;refine hK.out _ _ (hH.alloc _) (fun hH=>?_);clear hK K
   (try simp only[Act.put,sA,s0_,s1_])
   refine YtcidfldeiklcjaaGreatDoor.r1 12 rfl fun K hK=>?_;refine tt HY.out rfl _ _ rfl rfl _ rfl [xn,yp,.slice R za.length c3,.slice Q ug.length c4] ⟨xn,yp,za,ug⟩ (rowS rfl _ _ _ rfl) (kr.alloc _) ds.out (by simp[Value.oneCell']) (by omega) ?_;intro p m yy ks HX;have ba:Kept (b::obl (.slice a n c)) wr yy:=e8.trans (ks.mono fun z _ g=>List.mem_cons_of_mem _ g);have z0:=q0 _ ba;have z1:=qf.out _ ba;refine hK.out _ _ ba (fun hH=>?_);clear hK K
   (try simp only[Act.put,List.setIfInBounds_toArray])
   refine YtcidfldeiklcjaaGreatDoor.r2 13 rfl fun K hK=>?_;go_simp;refine hK.out _ _ ?_;clear hK K
   (try simp only[Act.put,sA,s0_,s1_])
   refine YtcidfldeiklcjaaGreatDoor.r2 14 rfl fun K hK=>?_;go_simp;refine hK.out _ _ ?_;clear hK K
   (try simp only[Act.put,sA,s0_,s1_])
   refine aD (by kernel_rfl) ?_ _;have ao:Hid (∃X',Dk w (yy.setCell ⟨l,2,none⟩ (.slice p (f.length+1) m)) b l B X' a6 q (.slice V rv.length U) p (f.length+1) m (f++[⟨xn,yp,za,ug⟩]) r'):=hid HX;clear HX ba z0 z1 q0 hH up
   have e9:IntKind.i64.wrap ((k:Int)+1 - 1)=(k:Int):=by rw[IntKind.wrap_i64];omega
   go_wp2_with fail
   go_roundw
   case rel =>
    obtain⟨X',hX'⟩:=ao.out;exact⟨k,r',f++[⟨xn,yp,za,ug⟩],X',p,f.length+1,m,by go_num,by omega,by rw[List.length_append,List.length_singleton];omega,e5.out,hX'⟩
   case measure=>simp[intOf]
  ·have d1:Hid (f=ps/\r=r5):=by
    have g:=cc.out
    have:Dt.cL k r f=(f,r):=by
     by_cases C:k=0
     ·subst C;rfl
     ·exact rD (Classical.byContradiction fun h=>hgo ⟨C,h⟩)
    rw[this]at g;exact⟨(Prod.mk.inj g).1,(Prod.mk.inj g).2⟩
   have LF:=hid (sq b r wr t.rd);have DN:=hid (oy b r wr t.rd)
   have bd:Hid (k=0\/r.rest=[]):=by
    by_cases C:k=0
    ·exact Or.inl C
    ·exact Or.inr (Classical.byContradiction fun h=>hgo ⟨C,h⟩)
   clear hgo;obtain⟨lf,b9⟩:=nm r.rest.length;obtain⟨dn,c2⟩:=nm ((!r.bad&&r.rest.isEmpty));rw[b9]at LF;rw[c2]at DN;have ao:=hid c2;have el:=hid b9
   have cs:(k=0)\/(k≠0/\lf=0):=by
    by_cases C:k=0
    ·exact Or.inl C
    ·rcases bd.out with h|h
     ·exact Or.inl h
     ·exact Or.inr ⟨C,by rw[<-b9,h];rfl⟩
   clear c2 b9 bd;have e3:=d1.out;obtain⟨rfl,rfl⟩:=e3;have u:=hid (Dt.rx PT);clear cc d1 H1 H2 H3 H4 H5
   rcases cs with rfl|⟨C,rfl⟩
   case' inr =>
    have c0:decide ((0:Int) < (k:Int))=true:=decide_eq_true (by omega);go_wp2_with (go_at_call 128;refine LF.mono ?_;rintro e w' ⟨rfl,rfl⟩);clear c0
   case' inl=>go_wp2_with fail
   all_goals
    refine DN.mono ?_;rintro e T ⟨rfl,k8⟩;have ZQ:=hid (t.out.zq.kept k8 (by simp));have K8:=hid (t.k0.trans k8)
    cases dn
    ·have D:Hid (Dt.okT s=false):=by show _=_;rw[u.out.1];unfold Dt.okP Dt.endB;rw[ao.out];rfl
     obtain⟨z0,z1,z2,z3,z4,z5,z6,z7⟩:=bc8 ZQ rfl;obtain⟨y0,y1,y2,y3,y4,y5,y6,y7⟩:=bf8 ZQ;go_wp2_with fail;refine bodyPost_ret (v:=.tuple #[.agg bT,.bool false]) (by simp[results,results82,go_sem,bT,z0,z1,z2,z3,z4,z5,z6,z7]) rfl ?_;refine⟨0,0,0,0,[],none,none,0,0,0,0,?_,?_⟩
     ·rw[u.out.2,<-u.out.1,D.out];rfl
     ·repeat (refine Kept.setCell ?_ (Or.inr (Nat.le_refl _)) _)
      exact K8
    ·by_cases h5:hd.length=5
     rotate_left
     ·have D:Hid (Dt.okT s=false):=by show _=_;rw[u.out.1];unfold Dt.okP;rw[decide_eq_false h5];simp
      have h5':((hd.length:Int) != 5)=true:=by simp;omega
      clear h5;obtain⟨z0,z1,z2,z3,z4,z5,z6,z7⟩:=bc8 ZQ rfl;obtain⟨y0,y1,y2,y3,y4,y5,y6,y7⟩:=bf8 ZQ;go_wp2_with fail;refine bodyPost_ret (v:=.tuple #[.agg bT,.bool false]) (by simp[results,results82,go_sem,bT,z0,z1,z2,z3,z4,z5,z6,z7]) rfl ?_;refine⟨0,0,0,0,[],none,none,0,0,0,0,?_,?_⟩
      ·rw[u.out.2,<-u.out.1,D.out];rfl
      ·repeat (refine Kept.setCell ?_ (Or.inr (Nat.le_refl _)) _)
       exact K8
     ·obtain⟨a0,a1,a2,R,Q,P⟩:∃a0 a1 a2 R Q,hd=[a0,a1,a2,R,Q]:=by
       match hd,h5 with
       | [a0,a1,a2,R,Q],_=>exact⟨_,_,_,_,_,rfl⟩
      have bb:Hid (Dt.TkB hd q rv f):=hid (Dt.tkB_of PT.out (by have:=HS.out;omega) (by have:=ao.out;simp at this;exact this.1))
      have D:Hid (Dt.okT s=decide (Dt.ph hd q rv f=s)):=by show _=_;rw[u.out.1];unfold Dt.okP Dt.endB;rw[ao.out,decide_eq_true h5];simp
      have kX:∀w',Kept [l] T w'->Kept [l] wr w':=fun w' k=>(k8.mono (by simp)).trans k
      have bt:∀z∈[l],z < wr.heap.size->z∈X:=fun z g _=>by obtain rfl:=ms g;exact t.tX
      have cd:Hid (∀w',Kept [l] T w'->a6 w'):=hid fun w' k=>t.fin [l] w' (kX w' k) bt
      have e4:Hid (∀w',Kept [l] T w'->ag PssR 4 w' (.slice a n c) f):=hid fun w' k =>
       (t.out.gr.step (X':=X) (kX w' k) (fun z g hm=>by have:=t.out.ge z g;have:=t.out.lt;rw[List.mem_singleton]at hm;omega) bt (fun z g=>Or.inl g)).row (by omega)
      have cl:=hid (t.out.bp.kept k8 (by simp));rw[h5]at FI;obtain⟨hb,ho,dj,c1⟩:=(FI.out T (cd.out T kr)).1.at_ (by omega);subst dj;clear c1
      have a5:∀w',Kept [l] T w'->∀i v,(ints hd)[i]?=some v->w'.cell? ⟨hb,ho+i,none⟩=some v:=fun w' k i v hv=>by
       obtain⟨b2,o2,e,dg⟩:=(FI.out w' (cd.out w' k)).1.at_ (by omega);injection e with e;injection e with e1 e2;subst e1;subst e2;exact dg i v hv
      have p0:∀w',Kept [l] T w'->w'.cell? ⟨hb,ho,none⟩=some (.int .i64 a0):=fun w' k=>a5 w' k 0 _ (by rw[P];rfl);have p1:∀w',Kept [l] T w'->w'.cell? ⟨hb,ho+1,none⟩=some (.int .i64 a1):=fun w' k=>a5 w' k 1 _ (by rw[P];rfl);have p2:∀w',Kept [l] T w'->w'.cell? ⟨hb,ho+2,none⟩=some (.int .i64 a2):=fun w' k=>a5 w' k 2 _ (by rw[P];rfl);have p3:∀w',Kept [l] T w'->w'.cell? ⟨hb,ho+3,none⟩=some (.int .i64 R):=fun w' k=>a5 w' k 3 _ (by rw[P];rfl);have p4:∀w',Kept [l] T w'->w'.cell? ⟨hb,ho+4,none⟩=some (.int .i64 Q):=fun w' k=>a5 w' k 4 _ (by rw[P];rfl);obtain⟨t0,-,-,t3,-,t5,t6,t7⟩:=bc8 cl rfl;obtain⟨y0,-,-,y3,-,y5,y6,y7⟩:=bf8 cl;have cg:=hid P;simp only[h5];clear a5 kX bt P h5 k8;go_upto_region 10 with(fail)
      go_region_held3 (fun w'=>Kept [l] T w') (repeat (first|(with_reducible assumption)|(with_reducible exact kr)|(with_reducible refine Kept.drew ?_)|(with_reducible refine Kept.setCell ?_ (Or.inl (by simp)) _))) (fail)
      all_goals
       rename_i c6;clear c6;obtain⟨w9,b6⟩:=nm ((((((T.setCell ⟨l,0,none⟩ a0).setCell ⟨l,3,none⟩ a1).setCell ⟨l,5,none⟩ a2).setCell ⟨l,6,none⟩ R).setCell ⟨l,7,none⟩ Q).drew);rw[b6]
       have Z:Kept [l] T w9:=by
        rw[<-b6];exact(((((kr.setCell (Or.inl (by simp)) _).setCell (Or.inl (by simp)) _).setCell (Or.inl (by simp)) _).setCell (Or.inl (by simp)) _).setCell (Or.inl (by simp)) _).drew
       have A:Blk w9 l 88 #[a0,q,.slice a n c,a1,.slice V rv.length U,a2,R,Q]:=by
        rw[<-b6];exact((((cl.set_ 0 a0).set_ 3 a1).set_ 5 a2).set_ 6 R).set_ 7 Q
       have hT:TskS w9 (.slice a n c) (.slice V rv.length U) ⟨a0,q,f,a1,rv,a2,R,Q⟩:=⟨e4 w9 Z,(FI w9 (cd w9 Z)).2⟩;have E9:Env w9:=hE.kept0 (K8.out.fresh Z (by have:=t.out.wt;simp;omega))
       have ET:Hid (Calls prog 132 #[.agg #[a0,q,.slice a n c,a1,.slice V rv.length U,a2,R,Q]] w9 fun e w'=>e=.returned (.string ⟨(Dt.ph hd q rv f).toArray⟩)/\Kept [] w9 w'):=by
        rw[cg.out];exact qx ⟨a0,q,f,a1,rv,a2,R,Q⟩ _ _ w9 hT (by have:=bb.out;rw[cg.out]at this;exact this) E9
       generalize dd:Dt.ph hd q rv f=ot at ET D
       have x0:=A.cell 0;have x1:=A.cell 1;have x2:=A.cell 2;have x3:=A.cell 3;have x4:=A.cell 4;have x5:=A.cell 5;have x6:=A.cell 6;have x7:=A.cell 7;have e7:=hid A;have K9:Hid (Kept [] w w9):=hid (K8.out.fresh Z (by have:=t.out.wt;simp;omega));have dl:=hid (ZQ.out.kept Z (by have:=t.out.wt;simp;omega));clear b6 Z A hT E9 dd p0 p1 p2 p3 p4 t0 t3 t5 t6 t7 y0 y3 y5 y6 y7;simp only[List.getElem?_toArray,List.getElem?_cons_zero,List.getElem?_cons_succ]at x0 x1 x2 x3 x4 x5 x6 x7;go_wp2_with (go_at_call 132;with_reducible refine ET.out.mono ?_);rintro e ea ⟨rfl,b5⟩;have d0:=hid (K9.trans b5);have Y:=hid (dl.out.kept b5 (by simp));have d6:=hid (e7.out.kept b5 (by simp));clear x0 x1 x2 x3 x4 x5 x6 x7 b5
       by_cases heq:ot=s
       ·have d4:Hid (Dt.okT s=true):=D.trans (decide_eq_true heq);obtain rfl:=heq;obtain⟨x0,x1,x2,x3,x4,x5,x6,x7⟩:=bc8 d6 rfl;obtain⟨z0,z1,z2,z3,z4,z5,z6,z7⟩:=bc8 Y rfl;obtain⟨y0,y1,y2,y3,y4,y5,y6,y7⟩:=bf8 Y;go_wp2_with fail;refine bodyPost_ret (v:=.tuple #[.agg #[a0,q,.slice a n c,a1,.slice V rv.length U,a2,R,Q],.bool true]) (by simp[results,results82,go_sem,z0,z1,z2,z3,z4,z5,z6,z7]) rfl ?_;refine⟨a0,a1,R,Q,q,a,V,n,c,rv.length,U,?_,?_⟩
        ·rw[u.out.2,<-u.out.1,d4.out,cg.out];rfl
        ·repeat (refine Kept.setCell ?_ (Or.inr (Nat.le_refl _)) _)
         exact d0
       ·have D:Hid (Dt.okT s=false):=D.trans (decide_eq_false heq)
        have ed:(ot==s)=false:=by simpa using heq
        have ec:((⟨ot.toArray⟩:ByteArray).toList==(⟨s.toArray⟩:ByteArray).toList)=false:=by simpa using heq
        clear heq;obtain⟨z0,z1,z2,z3,z4,z5,z6,z7⟩:=bc8 Y rfl;obtain⟨y0,y1,y2,y3,y4,y5,y6,y7⟩:=bf8 Y;go_wp2_with fail;refine bodyPost_ret (v:=.tuple #[.agg bT,.bool false]) (by simp[results,results82,go_sem,bT,z0,z1,z2,z3,z4,z5,z6,z7]) rfl ?_;refine⟨0,0,0,0,[],none,none,0,0,0,0,?_,?_⟩
        ·rw[u.out.2,<-u.out.1,D.out];rfl
        ·repeat (refine Kept.setCell ?_ (Or.inr (Nat.le_refl _)) _)
         exact d0
open Tm
theorem ev{P:Program}{f:FuncId}{args:Array Value}{w:World}{n:Nat}{v:Value}
  (h:Calls P f args (w.drewN n) fun e w'=>e=.returned v/\w.drewN n=w'):Calls P f args (w.drewN n) fun e w''=>e=.returned v/\∃m,w''=w.drewN m :=
 h.mono fun _ _ ⟨he,hm⟩=>⟨he,n,hm.symm⟩
theorem fp{w:World}{ua:Option Addr}{n uc:Nat}{l:List Int}{x y:Int}(h:Row w 1 (.slice ua n uc) n (ints l))(hl:l=[x,y])(hn:n=2):∃b off,ua=some ⟨b,off,none⟩/\w.cell? ⟨b,off,none⟩=some (.int .i64 x)/\w.cell? ⟨b,off+1,none⟩=some (.int .i64 y):=by
 obtain⟨b,off,h1,h2⟩:=h.at_ (by omega);exact⟨b,off,h1,by have:=h2 0 x (by rw[hl];rfl);simpa using this,h2 1 y (by rw[hl];rfl)⟩
theorem uQ{l:List Int}(h:l.length=2):∃x y,l=[x,y]:=by
 match l,h with
 | [x,y],_=>exact⟨x,y,rfl⟩
theorem sf{l:List Int}{a b c d:Int}(h:l.length≠2):twoB l a b c d=false:=by unfold twoB;rw[decide_eq_false h];rfl
theorem si(x y a b c d:Int):twoB [x,y] a b c d=(inB x a b&&inB y c d):=by unfold twoB nth;simp
theorem sS(a b c d:Int)(bk n uc:Nat)(ua:Option Addr)(e:Ent)(w:World)(hb:w.cell? ⟨bk,4,none⟩=some (.slice ua n uc))(hn:e.nums.length=n)(hr:Row w 1 (.slice ua n uc) n (ints e.nums)) :
  Calls prog 121 #[a,b,c,d,.pointer (some ⟨bk,0,none⟩)] w fun en w'=>en=.returned (.bool (twoB e.nums a b c d))/\w=w':=by
 by_cases h2:n=2
 ·obtain⟨x,y,f⟩:=uQ (hn.trans h2);obtain⟨r,q,rfl,o,m⟩:=fp hr f h2;subst h2;rw[f,si];have i:=hid (aV x a b w);have k:=hid (aV y c d w);obtain⟨l,h⟩:=nm (inB x a b);obtain⟨p,g⟩:=nm (inB y c d);rw[h]at i ⊢;rw[g]at k ⊢;clear h g f hn hr
  cases l
  ·go_enter func121,ntmps121
   go_wp2_with (go_at_call 37;with_reducible refine i.out.mono ?_;rintro e j ⟨rfl,rfl⟩);go_ret;exact⟨rfl,rfl⟩
  ·go_enter func121,ntmps121
   go_wp2_with (go_at_call 37;with_reducible refine i.out.mono ?_);rintro e j ⟨rfl,rfl⟩;go_wp2_with (go_at_call 37;with_reducible refine k.out.mono ?_);rintro e j ⟨rfl,rfl⟩;go_wp2_with fail;go_ret;exact⟨rfl,rfl⟩
 ·have h2':((n:Int)==2)=false:=by simp;omega
  rw[sf (by rw[hn];exact h2)];clear h2 hr hn
  go_enter func121,ntmps121
  go_wp2_with fail;go_ret;exact⟨rfl,rfl⟩
theorem qT(vs ve:Value)(s:Stp)(q:Nat)(e:Ent)(w:World)(hs:StpV w vs s)(hok:GrpOk s.P s.Q s.G q)(hgn:cH q s.G=true)(he:EntA w ve e)(hi:EntI e)(hno:0<=e.no)(hE:Env2 w) :
  Calls prog 81 #[vs,ve] w fun en w'=>en=.returned (.bool (bB s e))/\Kept [] w w':=by
 have hs':=hs;obtain⟨⟨C,c,rfl,F⟩,ip,iq,ig,ib,il⟩:=hs';obtain⟨u,rfl,l⟩:=he;obtain⟨z,v,rfl,_,_⟩:=l.form;obtain⟨W,L⟩:=nm ((w.alloc (.cells (stpA s (.slice C s.bases.length c)) 26)).alloc (.cells (entC e (.slice z e.nums.length v)).toArray 52));have hb:Blk W w.heap.size 26 (stpA s (.slice C s.bases.length c)):=L▸(Blk.new _ _ _).alloc _
 have E:Blk W (w.heap.size+1) 52 (entC e (.slice z e.nums.length v)).toArray:=by
  have:=Blk.new (w.alloc (.cells (stpA s (.slice C s.bases.length c)) 26)) 52 (entC e (.slice z e.nums.length v)).toArray;rw[L,World.size_alloc]at this;exact this
 have h:Kept [] w W:=L▸(kr.alloc _).alloc _;have a1:=hok.h5;have a0:=hok.hq;have hQ:=hok.hQ;have a3:=hi.l4
 have LE:Hid (Calls prog 122 #[.agg (stpA s (.slice C s.bases.length c)),.slice z e.nums.length v] W fun en w'=>en=.returned (.bool (dD s e.nums))/\Kept [] W w') :=
  rE _ s q _ e.nums W (hs.kept h) hok hgn (l.kept h) (by omega) hi.h4 (hE.kept0 h)
 have MA:Hid (Calls prog 123 #[.agg (stpA s (.slice C s.bases.length c)),.slice z e.nums.length v] W fun en w'=>en=.returned (.bool (dA s e.nums))/\Kept [] W w') :=
  rB _ s q _ e.nums W (hs.kept h) hok hgn (l.kept h) (by omega) hi.h4 (hE.kept0 h)
 have TW:Hid (∀(a b c d:Int) (k:Nat),Calls prog 121 #[a,b,c,d,.pointer (some ⟨w.heap.size+1,0,none⟩)] (W.drewN k) fun en w'=>en=.returned (.bool (twoB e.nums a b c d))/\W.drewN k=w') :=
  fun a b c d k=>sS a b c d (w.heap.size+1) e.nums.length v z e (W.drewN k) (E.cell 4) rfl ((l.kept h).drewN k)
 have M:Hid (∀(a b c d:Int),Calls prog 121 #[a,b,c,d,.pointer (some ⟨w.heap.size+1,0,none⟩)] W fun en w'=>en=.returned (.bool (twoB e.nums a b c d))/\W=w') :=
  fun a b c d=>sS a b c d (w.heap.size+1) e.nums.length v z e W (E.cell 4) rfl (l.kept h)
 have a2:∀(fn:Fn) (first cap:Array Value) (w:World),(Instr.makeFunc fn first cap).run prog w=.ok (.func fn first cap) w:=fun _ _ _ _=>rfl;obtain⟨s0,s1,s2,s3,s4⟩:=bc5 hb rfl;obtain⟨c0,c1,-,c3,c4⟩:=bc5 E rfl
 have wq:IntKind.i64.wrap (s.Q - 1)=s.Q - 1:=by rw[IntKind.wrap_i64];omega
 have I:=hi.h1
 have wn:IntKind.i64.wrap (e.no - 1)=e.no - 1:=by rw[IntKind.wrap_i64];unfold Wire.I64 at I;omega
 have X:=hid (l.kept h);have HW:=hid L
 have r:Hid (bB s e=if e.kind=0 then dD s e.nums else if e.kind=1 then twoB e.nums 0 2147483648 0 2147483648&&decide (nth e.nums 0<=nth e.nums 1)
  else if e.kind=2 then twoB e.nums 0 23 0 4095&&!decide (nth e.nums 0=e.gate)else if e.kind=3 then twoB e.nums 0 15 1 (s.Q - 1)else if e.kind=4 then decide (e.nums.length=1)&&inB (nth e.nums 0) 0 (e.no - 1)
  else if e.kind=5 then twoB e.nums 0 (e.no - 1) 1 100 else if e.kind=6 then dA s e.nums else false):=rfl
 generalize f:bB s e=R at r ⊢
 generalize hK:e.kind=K at r c3
 have i:=hid h;have a4:=hid l;have HZ:=hid E;clear L hb E F l hE hi hs hok hgn f ib h I hQ;have HG:Hid (e.kind=K):=hid hK;clear hK;have J:Array Value->Prop:=fun _=>True;clear J
 show Calls _ _ #[.agg #[s.P,s.Q,s.G,.slice C s.bases.length c,s.blind],.agg #[e.gate,e.no,e.time,e.kind,.slice z e.nums.length v,e.text,e.c,e.s]] _ _
 go_enter func81,ntmps81
 go_upto_region 1 with(fail);have hW':(w.alloc (.cells #[s.P,s.Q,s.G,.slice C s.bases.length c,s.blind] 26)).alloc (.cells #[e.gate,e.no,e.time,e.kind,.slice z e.nums.length v,e.text,e.c,e.s] 52)=W:=HW.out;rw[hW'];clear hW'
 by_cases k0:K=0
 ·subst k0;have f:=r.out;rw[if_pos rfl]at f;have g:=LE.out;rw[<-f]at g;have m:=hid g;clear f g;go_wp2_with (go_at_call 122;with_reducible refine m.out.mono ?_;rintro V N ⟨rfl,n⟩);go_ret;exact⟨rfl,i.trans n⟩
 by_cases k1:K=1
 ·subst k1;have f:=r.out;rw[if_neg (by decide)]at f;rw[if_pos rfl]at f;clear k0;have D:Hid (∀k,Calls prog 121 #[.int .i64 0,.int .i64 2147483648,.int .i64 0,.int .i64 2147483648,.pointer (some ⟨w.heap.size+1,0,none⟩)] (W.drewN k) fun en w'=>en=.returned (.bool (twoB e.nums 0 2147483648 0 2147483648))/\W.drewN k=w'):=fun k=>TW 0 2147483648 0 2147483648 k
  generalize A:twoB e.nums 0 2147483648 0 2147483648=t at D f
  cases t
  ·rw[Bool.false_and]at f;subst f;clear A;go_wp2_with fail
   go_quiet ((go_at_call 121;exact ev (D _)))
   go_wp2_with fail;go_ret;exact⟨rfl,i.drewN _⟩
  ·rw[Bool.true_and]at f;obtain⟨x,y,j,_,_⟩:=dh A
   have o:e.nums.length=2:=by rw[j];rfl
   obtain⟨T,O,rfl,Y,x1⟩:=fp X j o;rw[j]at f
   have B:Hid ((decide (x<=y))=R):=by show _=_;rw[f];rfl
   have Z:(0:Nat) < e.nums.length:=by omega
   have l1:(1:Nat) < e.nums.length:=by omega
   clear A j o f;go_wp2_with fail
   go_quiet ((go_at_call 121;exact ev (D _)))
   go_wp2_with fail;go_ret;refine⟨?_,i.drewN _⟩;rw[<-B.out]
   first|(simp;done)|(simp;rfl)
 by_cases n:K=2
 ·subst n;have f:=r.out;rw[if_neg (by decide)]at f;rw[if_neg (by decide)]at f;rw[if_pos rfl]at f;clear k0;clear k1;have D:Hid (∀k,Calls prog 121 #[.int .i64 0,.int .i64 23,.int .i64 0,.int .i64 4095,.pointer (some ⟨w.heap.size+1,0,none⟩)] (W.drewN k) fun en w'=>en=.returned (.bool (twoB e.nums 0 23 0 4095))/\W.drewN k=w'):=fun k=>TW 0 23 0 4095 k
  generalize A:twoB e.nums 0 23 0 4095=t at D f
  cases t
  ·rw[Bool.false_and]at f;subst f;clear A;go_wp2_with fail
   go_quiet ((go_at_call 121;exact ev (D _)))
   go_wp2_with fail;go_ret;exact⟨rfl,i.drewN _⟩
  ·rw[Bool.true_and]at f;obtain⟨x,y,j,_,_⟩:=dh A
   have o:e.nums.length=2:=by rw[j];rfl
   obtain⟨T,O,rfl,Y,x1⟩:=fp X j o;rw[j]at f
   have B:Hid ((!decide (x=e.gate))=R):=by show _=_;rw[f];rfl
   have Z:(0:Nat) < e.nums.length:=by omega
   have l1:(1:Nat) < e.nums.length:=by omega
   clear A j o f;go_wp2_with fail
   go_quiet ((go_at_call 121;exact ev (D _)))
   go_wp2_with fail;go_ret;refine⟨?_,i.drewN _⟩;rw[<-B.out]
   first|(simp;done)|(simp;rfl)
 by_cases k3:K=3
 ·subst k3;have f:=r.out;rw[if_neg (by decide)]at f;rw[if_neg (by decide)]at f;rw[if_neg (by decide)]at f;rw[if_pos rfl]at f;clear k0;clear k1;clear n;have g:=M 0 15 1 (s.Q - 1);rw[<-f]at g;have m:=hid g;clear f g;go_wp2_with (go_at_call 121;with_reducible refine m.out.mono ?_;rintro V N ⟨rfl,rfl⟩);go_ret;exact⟨rfl,i⟩
 by_cases k4:K=4
 ·subst k4;have f:=r.out;rw[if_neg (by decide)]at f;rw[if_neg (by decide)]at f;rw[if_neg (by decide)]at f;rw[if_neg (by decide)]at f;rw[if_pos rfl]at f;clear k0;clear k1;clear n;clear k3
  by_cases h1:e.nums.length=1
  ·rw[decide_eq_true h1,Bool.true_and]at f
   obtain⟨x,U⟩:∃x,e.nums=[x]:=by
    match hm:e.nums,h1 with
    | [x],_=>exact⟨x,rfl⟩
   obtain⟨T,O,rfl,p⟩:=X.out.at_ (by omega)
   have Y:W.cell? ⟨T,O,none⟩=some (.int .i64 x):=by have:=p 0 x (by rw[U];rfl);simpa using this
   have WI:Hid (∀k,Calls prog 37 #[x,.int .i64 0,.int .i64 (e.no - 1)] (W.drewN k) fun en w'=>en=.returned R/\W.drewN k=w'):=fun k=>by
    have:=aV x 0 (e.no - 1) (W.drewN k);rw[U]at f;rw[f];exact this
   have d1:((e.nums.length:Int)==1)=true:=by rw[h1];rfl
   have Z:(0:Nat) < e.nums.length:=by omega
   clear p U f h1;go_wp2_with fail
   go_quiet ((go_at_call 37;exact ev (WI _)))
   go_wp2_with fail;go_ret;exact⟨rfl,i.drewN _⟩
  ·rw[decide_eq_false h1,Bool.false_and]at f;subst f
   have d1:((e.nums.length:Int)==1)=false:=by simp;omega
   clear h1;go_wp2_with fail
   go_quiet (fail)
   go_wp2_with fail;go_ret;exact⟨rfl,i.drewN _⟩
 by_cases k5:K=5
 ·subst k5;have f:=r.out;rw[if_neg (by decide)]at f;rw[if_neg (by decide)]at f;rw[if_neg (by decide)]at f;rw[if_neg (by decide)]at f;rw[if_neg (by decide)]at f;rw[if_pos rfl]at f;clear k0;clear k1;clear n;clear k3;clear k4;have g:=M 0 (e.no - 1) 1 100;rw[<-f]at g;have m:=hid g;clear f g;go_wp2_with (go_at_call 121;with_reducible refine m.out.mono ?_;rintro V N ⟨rfl,rfl⟩);go_ret;exact⟨rfl,i⟩
 by_cases k6:K=6
 ·subst k6;have f:=r.out;rw[if_neg (by decide)]at f;rw[if_neg (by decide)]at f;rw[if_neg (by decide)]at f;rw[if_neg (by decide)]at f;rw[if_neg (by decide)]at f;rw[if_neg (by decide)]at f;rw[if_pos rfl]at f;clear k0;clear k1;clear n;clear k3;clear k4;clear k5;have g:=MA.out;rw[<-f]at g;have m:=hid g;clear f g;go_wp2_with (go_at_call 123;with_reducible refine m.out.mono ?_;rintro V N ⟨rfl,n⟩);go_ret;exact⟨rfl,i.trans n⟩
 ·have f:=r.out;rw[if_neg k0,if_neg k1,if_neg n,if_neg k3,if_neg k4,if_neg k5,if_neg k6]at f;subst f
  have d0:(K==0)=false:=by simpa using k0
  have d1:(K==1)=false:=by simpa using k1
  have d2:(K==2)=false:=by simpa using n
  have d3:(K==3)=false:=by simpa using k3
  have d4:(K==4)=false:=by simpa using k4
  have d5:(K==5)=false:=by simpa using k5
  have d6:(K==6)=false:=by simpa using k6
  clear k0 k1 n k3 k4 k5 k6;go_wp2_with fail;go_ret;exact⟨rfl,i⟩
end Go.Proofs.YtcidfldeiklcjaaGreatDoor
