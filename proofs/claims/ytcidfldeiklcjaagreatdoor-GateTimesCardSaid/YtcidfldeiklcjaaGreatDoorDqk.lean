import Derived.Test.YtcidfldeiklcjaaGreatDoorFmk
import Derived.Test.YtcidfldeiklcjaaGreatDoorRr6
set_option maxRecDepth 100000
set_option maxHeartbeats 32000000
namespace Go.Proofs.YtcidfldeiklcjaaGreatDoor
open Go.RowKit Tape
open Go.Proofs.Tryz
open Lib(hid)
theorem pB{l:List UInt8}{r':Wire.Rd}(b:Nat)(r:Wire.Rd)(hq:Wire.text r=(l,r'))(w:World)(h:RrAt w b r)(ho:Wire.Ok r)(hs:Fits r) :
  Calls prog 194 #[.pointer (some ⟨b,0,none⟩)] w fun en w'=>en=.returned (.string ⟨l.toArray⟩)/\RrAt w' b r'/\Kept [b] w w':=by
 have:=nY b r w h ho hs
 rwa [hq]at this
theorem ll{l:List Int}{r':Wire.Rd}(b:Nat)(r:Wire.Rd)(hq:Wire.nums r=(l,r'))(w:World)(h:RrAt w b r)(ho:Wire.Ok r)(hs:Fits r) :
  Calls prog 193 #[.pointer (some ⟨b,0,none⟩)] w fun en w'=>∃v,en=.returned v/\w'.ownsRow w.heap.size 3 1 v l.length (ints l)/\RrAt w' b r'/\Kept [b] w w':=by
 have:=sn b r w h ho hs
 rwa [hq]at this
theorem tA{l:List (List UInt8)}{r':Wire.Rd}(b:Nat)(r:Wire.Rd)(hq:Wire.texts r=(l,r'))(w:World)(h:RrAt w b r)(ho:Wire.Ok r)(hs:Fits r) :
  Calls prog 197 #[.pointer (some ⟨b,0,none⟩)] w fun en w'=>∃v,en=.returned v/\w'.ownsRow w.heap.size 9 1 v l.length (strs l)/\RrAt w' b r'/\Kept [b] w w':=by
 have:=pA b r w h ho hs
 rwa [hq]at this
theorem zw{n:Int}{r1:Wire.Rd}(b:Nat)(r:Wire.Rd)(hq:Wire.ar 59 0 r=(n,r1))(w:World)(h:RrAt w b r)(ho:Wire.Ok r)(hs:Fits r) :
  Calls prog 195 #[.pointer (some ⟨b,0,none⟩)] w fun en w'=>en=.returned (.int .i64 n)/\RrAt w' b r1/\Kept [b] w w':=by
 have C:Hid (Calls prog 218 #[.pointer (some ⟨b,0,none⟩),.int .u8 59] w fun en w'=>en=.returned (.int .i64 n)/\RrAt w' b r1/\Kept [b] w w'):=fN b r 59 hq w h Wire.not59 ho hs;clear hq
 go_enter func195,ntmps195
 go_wp2_with (go_at_call 218;refine C.out.mono ?_);rintro e w1 ⟨rfl,h1,hk1⟩;go_wp2;go_ret;exact⟨rfl,h1,hk1⟩
structure Dq (w wr:World) (b tb B:Nat) (X:List Nat) (Fin:World->Prop) (q:List UInt8) (rvv:Value) (a:Option Addr) (n c:Nat) (l:List Pss) (r:Wire.Rd):Prop where
 rd:RrAt wr b r
 bp:Blk wr tb 88 #[.int .i64 0,.string ⟨q.toArray⟩,.slice a n c,.int .i64 0,rvv,.int .i64 0,.int .i64 0,.int .i64 0]
 gr:Grow PssR 4 123 B X wr (.slice a n c) l
 fin:ae X Fin wr
 nl:n=l.length
 vX:∀z∈obl (.slice a n c),z∈X
 bX:b∈X
 tX:tb∈X
 hX:∀z∈X,z < wr.heap.size
 lb:b < B
 lt:tb < B
 lB:B<=wr.heap.size
 bt:b≠tb
 wb:w.heap.size < b
 wt:w.heap.size < tb
 zq:Blk wr w.heap.size 88 bT
 k0:Kept [] w wr
 fit:Fits r
section
variable {w wr w1 y u:World} {b tb B:Nat} {X:List Nat} {Fin:World->Prop} {q:List UInt8} {rvv:Value} {a:Option Addr} {n c:Nat} {l:List Pss} {r r':Wire.Rd}
theorem Dq.ge(h:Dq w wr b tb B X Fin q rvv a n c l r):∀z∈obl (.slice a n c),B<=z/\z < wr.heap.size:=h.gr.ge
theorem Dq.read(h:Dq w wr b tb B X Fin q rvv a n c l r)(k:Kept [b] wr w1)(rd:RrAt w1 b r')(hf:Fits r'):Dq w w1 b tb B X Fin q rvv a n c l r':=by
 have h1:=h.bt;have h2:=h.wb;have hs:=k.size
 have hk1:∀z∈[b],z < wr.heap.size->z∈X:=fun z hz _=>by obtain rfl:=ms hz;exact h.bX
 exact⟨rd,h.bp.kept k (by simp;omega),h.gr.step k (fun z hz hm=>by have:=h.ge z hz;have:=h.lb;rw[List.mem_singleton]at hm;omega) hk1 (fun z hz=>Or.inl hz),h.fin.step k hk1 (fun z hz=>Or.inl hz),h.nl,h.vX,h.bX,h.tX,
  fun z hz=>Nat.lt_of_lt_of_le (h.hX z hz) hs,h.lb,h.lt,Nat.le_trans h.lB hs,h1,h2,h.wt,h.zq.kept k (by simp;omega),h.k0.fresh k (by simp;omega),hf⟩
theorem Dq.cell(h:Dq w wr b tb B X Fin q rvv a n c l r):∀w',Kept (b::obl (.slice a n c)) wr w'->w'.cell? ⟨tb,2,none⟩=some (.slice a n c):=fun w' k=>by
 have h1:=h.bt;have h2:=h.lt
 rw[(h.bp.kept k (fun hm=>by
  rcases List.mem_cons.1 hm with e|e
  ·omega
  ·have:=h.ge _ e;omega)).cell 2]
 rfl
theorem Dq.frozen(h:Dq w wr b tb B X Fin q rvv a n c l r):∀w',Kept (b::obl (.slice a n c)) wr w'->w'.frozen? ⟨tb,2,none⟩=false:=fun w' k=>by
 have h1:=h.bt;have h2:=h.lt
 exact(h.bp.kept k (fun hm=>by
  rcases List.mem_cons.1 hm with e|e
  ·omega
  ·have:=h.ge _ e;omega)).frozen 2
theorem Dq.pushed{p:Option Addr}{m:Nat}{d:Pss}(D:Dq w w1 b tb B X Fin q rvv a n c l r')(ku:Kept [] w1 u)(G:Grow PssR 4 123 B (X++obl (.slice p (l.length+1) m)) y (.slice p (l.length+1) m) (l++[d]))(k:Kept (obl (.slice a n c)) u y)
  (t:∀z∈obl (.slice p (l.length+1) m),z∈obl (.slice a n c)\/z=u.heap.size) :
  Kept (obl (.slice a n c)) w1 y/\∃X',Dq w (y.setCell ⟨tb,2,none⟩ (.slice p (l.length+1) m)) b tb B X' Fin q rvv p (l.length+1) m (l++[d]) r':=by
 have J:=D.lB;have I:=ku.size;have x:=D.lb;have v:=D.lt;have r:=D.wb;have o:=D.wt;have A:=D.bt;have f:=D.ge;have g:Kept (obl (.slice a n c)) w1 y:=(ku.mono (by simp)).trans k;have F:=k.size
 have E:∀z∈X++obl (.slice p (l.length+1) m),z∈X\/w1.heap.size<=z:=fun z hz=>by
  rcases List.mem_append.1 hz with e|e
  ·exact Or.inl e
  ·rcases t z e with e|e
   ·exact Or.inl (D.vX z e)
   ·exact Or.inr (by omega)
 refine⟨g,X++obl (.slice p (l.length+1) m),?_⟩;have j:Kept [tb] y (y.setCell ⟨tb,2,none⟩ (.slice p (l.length+1) m)):=kr.setCell (by simp) _
 have s:(y.setCell ⟨tb,2,none⟩ (.slice p (l.length+1) m)).heap.size=y.heap.size:=by simp[World.setCell]
 have C:=(D.bp.kept g (fun hm=>by have:=f _ hm;omega)).set_ 2 (.slice p (l.length+1) m)
 have h:∀z∈[tb],z < y.heap.size->z∈X++obl (.slice p (l.length+1) m):=fun z hz _=>by obtain rfl:=ms hz;exact List.mem_append_left _ D.tX
 have i:ae (X++obl (.slice p (l.length+1) m)) Fin y:=D.fin.step g (fun z hz _=>D.vX z hz) E
 exact⟨⟨D.rd.1,(D.rd.2.kept g (fun hm=>by have:=f _ hm;omega)).kept j (by simp;omega)⟩,C,G.step j (fun z hz hm=>by have:=G.ge z hz;rw[List.mem_singleton]at hm;omega) h (fun z hz=>Or.inl hz),
  i.step j h (fun z hz=>Or.inl hz),by simp,fun z hz=>List.mem_append_right _ hz,List.mem_append_left _ D.bX,List.mem_append_left _ D.tX,
  fun z hz=>by
   rw[s]
   rcases List.mem_append.1 hz with e|e
   ·have:=D.hX z e;omega
   ·exact(G.ge z e).2,x,v,by omega,A,r,o,(D.zq.kept g (fun hm=>by have:=f _ hm;omega)).kept j (by simp;omega),(D.k0.fresh g (fun z hz=>by have:=f z hz;omega)).setCell (Or.inr (by simp;omega)) _,D.fit⟩
theorem qQ{ops:Array Oper}{o:Oper}{ac:Act}{K:Act->World->Prop}{Q:Exit->Act->World->Prop}{E:Prop}(D:Dq w w1 b tb B X Fin q rvv a n c l r')(hgd:o.guard=none)(s x:Operand)
  (ho:o.op=.call { callee:=.builtin .append,args:=#[s,x],argTypes:=#[86,86] })
  (hs:ac.eval s=.slice a n c) (v:Value) (hx:ac.eval x=v) (el:List Value) (d:Pss) (hrow:Row u 4 v 1 el) (ku:Kept [] w1 u) (hR:ae X (fun w=>PssR w el d) w1) (h1:∀u∈el,u.oneCell'=true) (hn:l.length<=1000000000)
  (h:∀p m y,Kept (obl (.slice a n c)) w1 y->(∃X',Dq w (y.setCell ⟨tb,2,none⟩ (.slice p (l.length+1) m)) b tb B X' Fin q rvv p (l.length+1) m (l++[d]) r')->K (ac.put o.dst (.slice p (l.length+1) m)) y) :
  if Region.wanted o (yielded ops ac.tmps)=true then Oper.wp prog o ac u K Q else E:=by
 have A:=D.lB;have r:=ku.size;obtain⟨j,C,g,f,e⟩:=info_parts qj;refine aO hgd s x 86 ho j _ 72 underlying86 C g f e rfl (by decide) (by decide) hs (D.gr.step (X':=X) ku (by simp) (by simp) (fun z hz=>Or.inl hz)) v el d hx hrow (hR.step ku (by simp) (fun z hz=>Or.inl hz)) h1 hn (by omega) D.vX ?_;intro p m y G k t;obtain⟨i,X',F⟩:=D.pushed ku G k t;exact h p m y i ⟨X',F⟩
end
def DqRel(w:World)(b tb B:Nat)(Fin:World->Prop)(q:List UInt8)(rvv:Value)(fin:List Pss × Wire.Rd)(M:Nat)(v:Value)(wr:World):Prop :=
 ∃(k:Nat) (r:Wire.Rd) (acc:List Pss) (X:List Nat) (a:Option Addr) (n c:Nat),v=.int .i64 k/\k<=M/\((r.bad=false->acc.length+r.rest.length<=100000000)/\acc.length<=100000001)/\Wire.Ok r/\Dt.fx (M - k) r acc=fin/\Dq w wr b tb B X Fin q rvv a n c acc r
theorem ou(s:List UInt8)(w:World)(hs:s.length<=1000000)(hE:Env w):Calls prog 152 #[.string ⟨s.toArray⟩] w (DtE s w):=by
 obtain⟨hd,r1,D⟩:∃a b,Wire.nums ⟨s,false⟩=(a,b):=⟨_,_,rfl⟩;obtain⟨q,r2,h2⟩:∃a b,Wire.text r1=(a,b):=⟨_,_,rfl⟩;obtain⟨rv,r3,h3⟩:∃a b,Wire.nums r2=(a,b):=⟨_,_,rfl⟩;obtain⟨N,r4,h4⟩:∃a b,Wire.ar 59 0 r3=(a,b):=⟨_,_,rfl⟩;obtain⟨ps,r5,h5⟩:∃a b,Dt.fx N.toNat r4 []=(a,b):=⟨_,_,rfl⟩;have PT:Hid (Dt.PartsQ s hd q rv N ps r1 r2 r3 r4 r5):=⟨D,h2,h3,h4,h5⟩
 have f0:Fits ⟨s,false⟩:=by unfold Fits;simp only;omega
 have f1:=ce D f0;have f2:=fe h2 f1;have f3:=ce h3 f2;have f4:=aP h4 f3
 have o1:Wire.Ok r1:=by have:=Wire.ok_nums _ (Wire.ok_fresh s);rwa [D]at this
 have o2:Wire.Ok r2:=by have:=Wire.yr _ o1;rwa [h2]at this
 have o3:Wire.Ok r3:=by have:=Wire.ok_nums _ o2;rwa [h3]at this
 have o4:Wire.Ok r4:=by have:=Wire.fR 59 0 _ o3;rwa [h4]at this
 have dk:0<=N:=by have:=Wire.yt 59 0 (by omega) r3;rw[h4]at this;exact this
 have ek:N<=9223372036854775807:=by have:=Wire.xM 59 0 r3;rw[h4]at this;exact this.2
 obtain⟨M,rfl⟩:=Int.eq_ofNat_of_zero_le dk;rw[Int.toNat_natCast]at h5;have H1:=hid D;have H2:=hid h2;have H3:=hid h3;have H4:=hid h4;have H5:=hid h5;have O1:=hid o1;have O2:=hid o2;have O3:=hid o3;have O4:=hid o4;have de:=dt ⟨s,false⟩ f0;rw[D]at de;have d9:=dt r2 f2;rw[h3]at d9;obtain⟨W,hW⟩:=nm (w.alloc (.cells bT 88));have hq:Blk W w.heap.size 88 bT:=hW▸Blk.new _ _ _;have bv:Kept [] w W:=hW▸kr.alloc _;have dl:=hE.kept0 bv
 have cy:w.heap.size < W.heap.size:=by rw[<-hW];simp
 have HW:=hid hW;clear D h2 h3 h4 h5 hW hs o1 o2 o3 o4
 go_enter func152,ntmps152
 go_wp2_with fail;have hW':w.alloc (.cells #[.int .i64 0,.string ⟨#[]⟩,.slice none 0 0,.int .i64 0,.slice none 0 0,.int .i64 0,.int .i64 0,.int .i64 0] 88)=W:=HW.out;rw[hW'];clear hW' HW;have OP:=hid (nZ s W dl);obtain⟨b,R⟩:=nm W.heap.size;rw[R]at OP cy;have e8:=hid R;clear R;go_wp2_with (go_at_call 192;refine OP.out.mono ?_);rintro e w1 ⟨rfl,Z,k1⟩;have C1:=hid (ll b ⟨s,false⟩ H1.out w1 Z (Wire.ok_fresh s) f0);have K1:=hid k1;have d3:=hid Z;clear OP k1 Z;go_wp2_with (go_at_call 193;refine C1.out.mono ?_);rintro e w2 ⟨hv,rfl,ab,Y,k2⟩;have dc:=k2.size;have dd:b < w1.heap.size:=d3.out.2.lt;have C2:=hid (pB b r1 H2.out w2 Y O1.out f1);obtain⟨ha,hc,rfl⟩:=aG ab;have an:=hid ab;have ds:=hid Y;have K2:=hid k2;clear C1 ab Y k2;go_wp2_with (go_at_call 194;refine C2.out.mono ?_);rintro e w3 ⟨rfl,V,k3⟩;have db:=k3.size;have C3:=hid (ll b r2 H3.out w3 V O2.out f2);have dr:=hid V;have K3:=hid k3;clear C2 V k3;go_wp2_with (go_at_call 193;refine C3.out.mono ?_);rintro e w4 ⟨eb,rfl,j,a7,k4⟩;have cs:=k4.size;obtain⟨J,I,rfl⟩:=aG j;have c7:=hid j;have c6:=hid a7;have K4:=hid k4;clear C3 j a7 k4;go_upto_region 4 with(fail);obtain⟨w5,ac⟩:=nm (w4.alloc (.cells #[.int .i64 0,.string ⟨q.toArray⟩,.slice none 0 0,.int .i64 0,.slice J rv.length I,.int .i64 0,.int .i64 0,.int .i64 0] 88));rw[ac];have a5:Kept [] w4 w5:=ac▸kr.alloc _
 have cq:w4.heap.size < w5.heap.size:=by rw[<-ac];simp
 have al:Blk w5 w4.heap.size 88 #[.int .i64 0,.string ⟨q.toArray⟩,.slice none 0 0,.int .i64 0,.slice J rv.length I,.int .i64 0,.int .i64 0,.int .i64 0]:=ac▸Blk.new _ _ _;obtain⟨f,bt⟩:=nm w4.heap.size
 have b4:w.heap.size≠b:=by omega
 have ad:ae [b,f] (fun w=>Row w 1 (.slice ha hd.length hc) hd.length (ints hd)/\Row w 1 (.slice J rv.length I) rv.length (ints rv)) w5:=by
  have o2:=af (af (af an.out K3.out (fun z g hm=>by have:=ak an.out z g;rw[List.mem_singleton]at hm;omega)) K4.out (fun z g hm=>by have:=ak an.out z g;rw[List.mem_singleton]at hm;omega)) a5 (by simp);have o4:=af c7.out a5 (by simp);refine(ae.row o2 (fun z g hm=>?_) (by omega)).and (ae.row o4 (fun z g hm=>?_) (by omega))
  ·have:=ak an.out z g;simp only[List.mem_cons,List.not_mem_nil,or_false]at hm
   rcases hm with rfl|rfl <;> omega
  ·have:=ak c7.out z g;simp only[List.mem_cons,List.not_mem_nil,or_false]at hm
   rcases hm with rfl|rfl <;> omega
 obtain⟨a6,am⟩:∃F:World->Prop,(fun w=>Row w 1 (.slice ha hd.length hc) hd.length (ints hd)/\Row w 1 (.slice J rv.length I) rv.length (ints rv))=F:=⟨_,rfl⟩;rw[am]at ad
 have FI:Hid (∀w,a6 w->Row w 1 (.slice ha hd.length hc) hd.length (ints hd)/\Row w 1 (.slice J rv.length I) rv.length (ints rv)):=fun w h=>by rw[<-am]at h;exact h
 rw[bt]at al cs cq ⊢;have b9:Kept [] w w5:=((((bv.trans K1.out).fresh K2.out (by simp;omega)).fresh K3.out (by simp;omega)).fresh K4.out (by simp;omega)).trans a5;have ct:Blk w5 w.heap.size 88 bT:=((((hq.kept K1.out (by simp)).kept K2.out (by simpa using b4)).kept K3.out (by simpa using b4)).kept K4.out (by simpa using b4)).kept a5 (by simp);have bd:RrAt w5 b r3:=⟨c6.out.1,c6.out.2.kept a5 (by simp)⟩;have C5:=hid (zw b r3 H4.out w5 bd O3.out f3);have d8:=hid al;have d5:=hid ad;have d7:=hid b9;have d6:=hid ct;have dm:=hid bd;have e3:=hid bt;clear am ad al b9 ct bd ac a5 K1 K2 K3 K4 d3 ds dr c6 an c7 bt bv hq e8 b4;go_wp2_with (go_at_call 195;refine C5.out.mono ?_);rintro e w6 ⟨rfl,ca,k6⟩;have da:=k6.size
 have cx:b≠f:=by omega
 have D6:Hid (Dq w w6 b f w6.heap.size [b,f] a6 q (.slice J rv.length I) none 0 0 [] r4):=hid ⟨ca,d8.out.kept k6 (by simpa using fun h=>cx h.symm),Grow.nil_ _ _ _ _ _ _,d5.out.step k6 (fun z g _=>by obtain rfl:=ms g;simp) (fun z g=>Or.inl g),rfl,by simp[obl,Value.ownBlock],by simp,by simp,
   fun z g=>by simp only[List.mem_cons,List.not_mem_nil,or_false]at g;rcases g with rfl|rfl <;> omega,by omega,by omega,Nat.le_refl _,cx,cy,by omega,d6.out.kept k6 (by simp;omega),d7.out.fresh k6 (by simp;omega),f4⟩
 obtain⟨B,hB⟩:=nm w6.heap.size;rw[hB]at D6;clear ca k6 hB C5 dm d8 d5 d7 d6 da cq cs db dc dd e3;go_wp2_with fail
 go_loopw [8] (fun v wr=>DqRel w b f B a6 q (.slice J rv.length I) (ps,r5) M v wr) (fun v _=>M - (intOf v).toNat)
 case atStart=>exact⟨0,r4,[],[b,f],none,0,0,rfl,Nat.zero_le _,⟨fun _=>by have:r4.rest.length<=100000000:=f4;simpa using this,by simp⟩,O4.out,H5.out,D6.out⟩
 case round =>
  obtain⟨k,r,l,X,a,n,c,rfl,eg,c5,cu,ba,hD⟩:=hrel;have E:=hid hD;have b6:=hid ba;have o:=hid cu;clear hD ba cu D6;have e1:wr.cell? ⟨b,1,none⟩=some (.bool r.bad):=E.out.rd.c1
  by_cases hgo:k < M/\r.bad=false
  ·obtain⟨ed,u⟩:=hgo;rw[u]at e1;obtain⟨xn,av,g1⟩:∃x a,Wire.text r=(x,a):=⟨_,_,rfl⟩;obtain⟨yp,aa,g2⟩:∃x b,Wire.ar 59 (-9223372036854775808) av=(x,b):=⟨_,_,rfl⟩;obtain⟨za,a9,g3⟩:∃x c,Wire.texts aa=(x,c):=⟨_,_,rfl⟩;obtain⟨ug,r',g4⟩:∃x d,Wire.nums a9=(x,d):=⟨_,_,rfl⟩;have Q:=Dt.vL g1 g2 g3 g4
   have bb:(r'.bad=false->l.length+1+r'.rest.length<=100000000)/\l.length+1<=100000001:=by
    have h0:=c5.1 u;refine⟨fun hb'=>?_,by omega⟩
    by_cases hr0:r.rest=[]
    ·have D:=Dt.sr r hr0;rw[Q]at D
     simp only at D
     rw[D]at hb';cases hb'
    ·have D:=Dt.rdP_less hr0;rw[Q]at D
     simp only at D
     omega
   have e6:Hid (Dt.fx (M - (k+1)) r' (l++[⟨xn,yp,za,ug⟩])=(ps,r5)):=by
    have D:=b6.out;rw[show M - k=M - (k+1)+1 by omega,Dt.qd u,Q]at D;exact D
   have bl:Wire.Ok av:=by have:=Wire.yr _ o.out;rwa [g1]at this
   have bk:Wire.Ok aa:=by have:=Wire.fR 59 (-9223372036854775808) _ bl;rwa [g2]at this
   have bh:Wire.Ok a9:=by have:=Dt.okTx _ bk;rwa [g3]at this
   have cb:Wire.Ok r':=by have:=Wire.ok_nums _ bh;rwa [g4]at this
   have f1:=fe g1 E.out.fit;have f2:=aP g2 f1;have f3:=eo g3 f2;have f4:=ce g4 f3;have ah:decide ((k:Int) < (M:Int))=true:=decide_eq_true (by omega);go_wp2_with fail;clear ah e1;have q0:=E.out.cell;have qf:=hid E.out.frozen;have d0:RrAt wr.drew b r:=E.out.rd;have C1:=hid (pB b r g1 wr.drew d0 o.out E.out.fit);have C2:Hid (∀y,RrAt y b av->Calls prog 196 #[.pointer (some ⟨b,0,none⟩)] y fun en w'=>en=.returned (.int .i64 yp)/\RrAt w' b aa/\Kept [b] y w'):=fun y h=>vE b av g2 y h bl f1;have C3:Hid (∀y,RrAt y b aa->Calls prog 197 #[.pointer (some ⟨b,0,none⟩)] y fun en w'=>∃v,en=.returned v/\w'.ownsRow y.heap.size 9 1 v za.length (strs za)/\RrAt w' b a9/\Kept [b] y w'):=fun y h=>tA b aa g3 y h bk f2;have C4:Hid (∀y,RrAt y b a9->Calls prog 193 #[.pointer (some ⟨b,0,none⟩)] y fun en w'=>∃v,en=.returned v/\w'.ownsRow y.heap.size 3 1 v ug.length (ints ug)/\RrAt w' b r'/\Kept [b] y w'):=fun y h=>ll b a9 g4 y h bh f3;have e0:=hid cb;have bc:=hid bb;have ej:=c5.2;clear g1 g2 g3 g4 d0 Q bl bk bh cb c5 bb b6 o;go_upto_region 8 with(fail);refine aJ [13,14] (fun w'=>Kept (b::obl (.slice a n c)) wr w') (by kernel_rfl) kr.drew (fun hH=>?_);refine tk [1,12,13,14] 0 rfl hH ?_;simp only[Act.put,sA,s0_,s1_];refine tk [12,13,14] 1 rfl hH ?_;simp only[Act.put,sA,s0_,s1_];refine tk [3,5,7,9,10,11,12,13,14] 2 rfl hH ?_;simp only[Act.put,sA,s0_,s1_];refine tk [5,7,9,10,11,12,13,14] 4 rfl hH ?_
   simp only[Act.put,sA,s0_,s1_];refine tk [7,9,10,11,12,13,14] 6 rfl hH ?_;simp only[Act.put,sA,s0_,s1_];refine tk [9,10,11,12,13,14] 8 rfl hH ?_;simp only[Act.put,sA,s0_,s1_];refine YtcidfldeiklcjaaGreatDoor.r1 3 rfl fun K hK=>?_;go_simp;refine C1.out.mono ?_;rintro e y1 ⟨rfl,Z,cc⟩;have b3:Kept [b] wr y1:=(Kept.refl [b] wr).drew.trans cc
   have up:∀y,Kept [b] wr y->Kept (b::obl (.slice a n c)) wr y:=fun y k=>k.mono fun z _ g=>by obtain rfl:=ms g;exact List.mem_cons_self
   refine hK.out _ _ (up _ b3) (fun hH=>?_);clear hK K
   (try simp only[Act.put,sA,s0_,s1_])
   refine YtcidfldeiklcjaaGreatDoor.r1 5 rfl fun K hK=>?_;go_simp;refine(C2.out y1 Z).mono ?_;rintro e y2 ⟨rfl,Y,bo⟩;have bs:Kept [b] wr y2:=b3.trans bo;refine hK.out _ _ (up _ bs) (fun hH=>?_);clear hK K
   (try simp only[Act.put,sA,s0_,s1_])
   refine YtcidfldeiklcjaaGreatDoor.r1 7 rfl fun K hK=>?_;go_simp;refine(C3.out y2 Y).mono ?_;rintro e y3 ⟨v3,rfl,G,V,bm⟩;have bq:Kept [b] wr y3:=bs.trans bm;obtain⟨O,c3,rfl⟩:=aG G;refine hK.out _ _ (up _ bq) (fun hH=>?_);clear hK K
   (try simp only[Act.put,sA,s0_,s1_])
   refine YtcidfldeiklcjaaGreatDoor.r1 9 rfl fun K hK=>?_;go_simp;refine(C4.out y3 V).mono ?_;rintro e y4 ⟨v4,rfl,j,a7,b0⟩;have b1:Kept [b] wr y4:=bq.trans b0;obtain⟨T,c4,rfl⟩:=aG j;refine hK.out _ _ (up _ b1) (fun hH=>?_);clear hK K
   (try simp only[Act.put,sA,s0_,s1_])
   have di:=E.out.hX b E.out.bX;have t1:=b3.size;have t2:=bo.size;have t3:=bm.size;have t4:=b0.size
   have d1:ae X (fun w=>PssR w [.string ⟨xn.toArray⟩,.int .i64 yp,.slice O za.length c3,.slice T ug.length c4] ⟨xn,yp,za,ug⟩) y4:=by
    have o3:=af G b0 (fun z g hm=>by have:=ak G z g;rw[List.mem_singleton]at hm;omega)
    exact((ae.row o3 (fun z g hm=>by have:=ak G z g;have:=E.out.hX z hm;omega) (eV o3 (by decide))).and (ae.row j (fun z g hm=>by have:=ak j z g;have:=E.out.hX z hm;omega) (eV j (by decide)))).imp fun w h=>⟨_,_,rfl,h.1,h.2⟩
   have e4:=hid d1;have HY:Hid (Dq w y4 b f B X a6 q (.slice J rv.length I) a n c l r'):=hid (E.out.read b1 a7 f4);have ea:=hid (up _ b1);clear d1 G j Z Y V a7 cc bo bm b0 b3 bs bq b1 t1 t2 t3 t4 di;refine tk [11,12,13,14] 10 rfl hH ?_;simp only[Act.put,sA,s0_,s1_];refine YtcidfldeiklcjaaGreatDoor.r1 11 rfl fun K hK=>?_;go_simp;refine hK.out _ _ (hH.alloc _) (fun hH=>?_);clear hK K
   (try simp only[Act.put,sA,s0_,s1_])
   refine YtcidfldeiklcjaaGreatDoor.r1 12 rfl fun K hK=>?_;refine qQ HY.out rfl _ _ rfl rfl _ rfl [.string ⟨xn.toArray⟩,.int .i64 yp,.slice O za.length c3,.slice T ug.length c4] ⟨xn,yp,za,ug⟩ (rowS rfl _ _ _ rfl) (kr.alloc _) e4.out (by simp[Value.oneCell']) (by omega) ?_;intro p m yy ks HX;have b5:Kept (b::obl (.slice a n c)) wr yy:=ea.out.trans (ks.mono fun z _ g=>List.mem_cons_of_mem _ g);have z0:=q0 _ b5;have z1:=qf.out _ b5;refine hK.out _ _ b5 (fun hH=>?_);clear hK K
   (try simp only[Act.put,List.setIfInBounds_toArray])
   refine YtcidfldeiklcjaaGreatDoor.r2 13 rfl fun K hK=>?_;go_simp;refine hK.out _ _ ?_;clear hK K
   (try simp only[Act.put,sA,s0_,s1_])
   refine YtcidfldeiklcjaaGreatDoor.r2 14 rfl fun K hK=>?_;go_simp;refine hK.out _ _ ?_;clear hK K
   (try simp only[Act.put,sA,s0_,s1_])
   refine aD (by kernel_rfl) ?_ _;have b7:Hid (∃X',Dq w (yy.setCell ⟨f,2,none⟩ (.slice p (l.length+1) m)) b f B X' a6 q (.slice J rv.length I) p (l.length+1) m (l++[⟨xn,yp,za,ug⟩]) r'):=hid HX;clear HX b5 z0 z1 q0 hH up;go_wp2_with fail
   go_roundw
   case rel =>
    obtain⟨X',hX'⟩:=b7.out;exact⟨k+1,r',l++[⟨xn,yp,za,ug⟩],X',p,l.length+1,m,by go_num,by omega,⟨fun h=>by rw[List.length_append,List.length_singleton];exact bc.out.1 h,by rw[List.length_append,List.length_singleton];exact bc.out.2⟩,e0.out,e6.out,hX'⟩
   case measure=>simp[intOf];omega
  ·have d4:Hid (l=ps/\r=r5):=by
    have g:=b6.out
    have D:Dt.fx (M - k) r l=(l,r):=by
     by_cases L:k < M
     ·exact Dt.lN (by cases R:r.bad;exact absurd ⟨L,R⟩ hgo;rfl)
     ·rw[show M - k=0 by omega];rfl
    rw[D]at g;exact⟨(Prod.mk.inj g).1,(Prod.mk.inj g).2⟩
   have DN:=hid (oe b r wr E.out.rd);obtain⟨dn,c0⟩:=nm ((!r.bad&&r.rest.isEmpty));rw[c0]at DN;have b7:=hid c0
   have cv:¬k < M\/(k < M/\r.bad=true):=by
    by_cases L:k < M
    ·right;exact⟨L,by cases R:r.bad;exact absurd ⟨L,R⟩ hgo;rfl⟩
    ·exact Or.inl L
   clear hgo c0;have e5:=d4.out;obtain⟨rfl,rfl⟩:=e5;have A:=hid (Dt.okQ PT.out);clear b6 d4 H1 H2 H3 H4 H5 o
   rcases cv with L|⟨L,u⟩
   case' inr =>
    rw[u]at e1;have ah:decide ((k:Int) < (M:Int))=true:=decide_eq_true (by omega);clear u;go_wp2_with fail;clear ah
   case' inl =>
    have ah:decide ((k:Int) < (M:Int))=false:=decide_eq_false (by omega);go_wp2_with fail;clear ah
   all_goals
    refine DN.out.mono ?_;rintro e C ⟨rfl,k8⟩;have ZQ:=hid (E.out.zq.kept k8 (by simp));have K8:=hid (E.out.k0.trans k8);clear e1
    cases dn
    ·have o:Hid (Dt.okT s=false):=by show _=_;rw[A.out.1];unfold Dt.endB;rw[b7.out];rfl
     obtain⟨z0,z1,z2,z3,z4,z5,z6,z7⟩:=bc8 ZQ.out rfl;obtain⟨y0,y1,y2,y3,y4,y5,y6,y7⟩:=bf8 ZQ.out;go_wp2_with fail;refine bodyPost_ret (v:=.tuple #[.agg bT,.bool false]) (by simp[results,results152,go_sem,bT,z0,z1,z2,z3,z4,z5,z6,z7]) rfl ?_;refine⟨0,0,0,0,[],none,none,0,0,0,0,?_,?_⟩
     ·rw[A.out.2,<-A.out.1,o.out];rfl
     ·repeat (refine Kept.setCell ?_ (Or.inr (Nat.le_refl _)) _)
      exact K8.out
    ·by_cases h5:hd.length=5
     rotate_left
     ·have o:Hid (Dt.okT s=false):=by show _=_;rw[A.out.1,decide_eq_false h5];simp
      have h5':((hd.length:Int) != 5)=true:=by simp;omega
      clear h5;obtain⟨z0,z1,z2,z3,z4,z5,z6,z7⟩:=bc8 ZQ.out rfl;obtain⟨y0,y1,y2,y3,y4,y5,y6,y7⟩:=bf8 ZQ.out;go_wp2_with fail;refine bodyPost_ret (v:=.tuple #[.agg bT,.bool false]) (by simp[results,results152,go_sem,bT,z0,z1,z2,z3,z4,z5,z6,z7]) rfl ?_;refine⟨0,0,0,0,[],none,none,0,0,0,0,?_,?_⟩
      ·rw[A.out.2,<-A.out.1,o.out];rfl
      ·repeat (refine Kept.setCell ?_ (Or.inr (Nat.le_refl _)) _)
       exact K8.out
     ·obtain⟨P,U,a2,O,T,c2⟩:∃P U a2 O T,hd=[P,U,a2,O,T]:=by
       match hd,h5 with
       | [P,U,a2,O,T],_=>exact⟨_,_,_,_,_,rfl⟩
      have o:Hid (Dt.okT s=true):=by show _=_;rw[A.out.1];unfold Dt.endB;rw[b7.out,decide_eq_true h5];rfl
      have e7:Hid (Dt.xr s=a2):=by show _=_;rw[A.out.2,<-A.out.1,o.out,c2];rfl
      have kX:∀w',Kept [f] C w'->Kept [f] wr w':=fun w' k=>(k8.mono (by simp)).trans k
      have cp:∀z∈[f],z < wr.heap.size->z∈X:=fun z g _=>by obtain rfl:=ms g;exact E.out.tX
      have c9:Hid (∀w',Kept [f] C w'->a6 w'):=hid fun w' k=>E.out.fin [f] w' (kX w' k) cp;have e9:=hid (E.out.bp.kept k8 (by simp));have ec:=E.out.wt;rw[h5]at FI;obtain⟨R,ho,dj,bx⟩:=(FI.out C (c9.out C kr)).1.at_ (by omega);subst dj;clear bx
      have ap:Hid (∀w',Kept [f] C w'->∀i v,(ints hd)[i]?=some v->w'.cell? ⟨R,ho+i,none⟩=some v):=fun w' k i v hv=>by
       obtain⟨b2,o2,e,dg⟩:=(FI.out w' (c9.out w' k)).1.at_ (by omega);injection e with e;injection e with e1 e2;subst e1;subst e2;exact dg i v hv
      have ao:=hid c2;have B0:=e9;have V0:Hid (Kept [f] C C):=kr;simp only[h5];clear kX cp c2 h5 k8 c9;have p:C.cell? ⟨R,ho,none⟩=some (.int .i64 P):=ap.out C V0.out 0 _ (by rw[ao.out];rfl);have t:C.cell? ⟨f,0,none⟩=some (.int .i64 0):=B0.out.cell 0;have tf:=B0.out.frozen 0;go_upto_region 12 with(fail);have B1:Hid (Blk (C.setCell ⟨f,0,none⟩ (.int .i64 P)) f 88 #[.int .i64 P,.string ⟨q.toArray⟩,.slice a n c,.int .i64 0,.slice J rv.length I,.int .i64 0,.int .i64 0,.int .i64 0]):=B0.out.set_ 0 (.int .i64 P);have V1:Hid (Kept [f] C (C.setCell ⟨f,0,none⟩ (.int .i64 P))):=V0.out.setCell (Or.inl (by simp)) _;obtain⟨v1,co⟩:=nm (C.setCell ⟨f,0,none⟩ (.int .i64 P));rw[co]at B1 V1 ⊢;clear p t tf co B0 V0;have p:v1.cell? ⟨R,ho+1,none⟩=some (.int .i64 U):=ap.out v1 V1.out 1 _ (by rw[ao.out];rfl);have t:v1.cell? ⟨f,3,none⟩=some (.int .i64 0):=B1.out.cell 3;have tf:=B1.out.frozen 3;go_upto_region 13 with(fail);have B2:Hid (Blk (v1.setCell ⟨f,3,none⟩ (.int .i64 U)) f 88 #[.int .i64 P,.string ⟨q.toArray⟩,.slice a n c,.int .i64 U,.slice J rv.length I,.int .i64 0,.int .i64 0,.int .i64 0]):=B1.out.set_ 3 (.int .i64 U);have V2:Hid (Kept [f] C (v1.setCell ⟨f,3,none⟩ (.int .i64 U))):=V1.out.setCell (Or.inl (by simp)) _;obtain⟨v2,cm⟩:=nm (v1.setCell ⟨f,3,none⟩ (.int .i64 U));rw[cm]at B2 V2 ⊢;clear p t tf cm B1 V1;have p:v2.cell? ⟨R,ho+2,none⟩=some (.int .i64 a2):=ap.out v2 V2.out 2 _ (by rw[ao.out];rfl);have t:v2.cell? ⟨f,5,none⟩=some (.int .i64 0):=B2.out.cell 5
      have tf:=B2.out.frozen 5;go_upto_region 14 with(fail);have B3:Hid (Blk (v2.setCell ⟨f,5,none⟩ (.int .i64 a2)) f 88 #[.int .i64 P,.string ⟨q.toArray⟩,.slice a n c,.int .i64 U,.slice J rv.length I,.int .i64 a2,.int .i64 0,.int .i64 0]):=B2.out.set_ 5 (.int .i64 a2);have V3:Hid (Kept [f] C (v2.setCell ⟨f,5,none⟩ (.int .i64 a2))):=V2.out.setCell (Or.inl (by simp)) _;obtain⟨v3,cl⟩:=nm (v2.setCell ⟨f,5,none⟩ (.int .i64 a2));rw[cl]at B3 V3 ⊢;clear p t tf cl B2 V2;have p:v3.cell? ⟨R,ho+3,none⟩=some (.int .i64 O):=ap.out v3 V3.out 3 _ (by rw[ao.out];rfl);have t:v3.cell? ⟨f,6,none⟩=some (.int .i64 0):=B3.out.cell 6;have tf:=B3.out.frozen 6;go_upto_region 15 with(fail);have B4:Hid (Blk (v3.setCell ⟨f,6,none⟩ (.int .i64 O)) f 88 #[.int .i64 P,.string ⟨q.toArray⟩,.slice a n c,.int .i64 U,.slice J rv.length I,.int .i64 a2,.int .i64 O,.int .i64 0]):=B3.out.set_ 6 (.int .i64 O);have V4:Hid (Kept [f] C (v3.setCell ⟨f,6,none⟩ (.int .i64 O))):=V3.out.setCell (Or.inl (by simp)) _;obtain⟨v4,cg⟩:=nm (v3.setCell ⟨f,6,none⟩ (.int .i64 O));rw[cg]at B4 V4 ⊢;clear p t tf cg B3 V3;have p:v4.cell? ⟨R,ho+4,none⟩=some (.int .i64 T):=ap.out v4 V4.out 4 _ (by rw[ao.out];rfl);have t:v4.cell? ⟨f,7,none⟩=some (.int .i64 0):=B4.out.cell 7;have tf:=B4.out.frozen 7;go_upto_region 16 with(fail);have B5:Hid (Blk (v4.setCell ⟨f,7,none⟩ (.int .i64 T)) f 88 #[.int .i64 P,.string ⟨q.toArray⟩,.slice a n c,.int .i64 U,.slice J rv.length I,.int .i64 a2,.int .i64 O,.int .i64 T]):=B4.out.set_ 7 (.int .i64 T)
      have V5:Hid (Kept [f] C (v4.setCell ⟨f,7,none⟩ (.int .i64 T))):=V4.out.setCell (Or.inl (by simp)) _;obtain⟨v5,cd⟩:=nm (v4.setCell ⟨f,7,none⟩ (.int .i64 T));rw[cd]at B5 V5 ⊢;clear p t tf cd B4 V4;obtain⟨x0,x1,x2,x3,x4,x5,x6,x7⟩:=bc8 B5.out rfl;have d2:=hid (ZQ.out.kept V5.out (by simp;omega));have KE:Hid (Kept [] w v5):=K8.out.fresh V5.out (by simp;omega);obtain⟨z0,z1,z2,z3,z4,z5,z6,z7⟩:=bc8 d2.out rfl;obtain⟨y0,y1,y2,y3,y4,y5,y6,y7⟩:=bf8 d2.out;go_wp2_with fail;refine bodyPost_ret (v:=.tuple #[.agg #[.int .i64 P,.string ⟨q.toArray⟩,.slice a n c,.int .i64 U,.slice J rv.length I,.int .i64 a2,.int .i64 O,.int .i64 T],.bool true]) (by simp[results,results152,go_sem,z0,z1,z2,z3,z4,z5,z6,z7]) rfl ?_;refine⟨P,U,O,T,q,a,J,n,c,rv.length,I,?_,?_⟩
      ·rw[e7.out,o.out]
      ·repeat (refine Kept.setCell ?_ (Or.inr (Nat.le_refl _)) _)
       exact KE.out
end Go.Proofs.YtcidfldeiklcjaaGreatDoor
