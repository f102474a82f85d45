import Derived.Test.YtcidfldeiklcjaaGreatDoorRdt
set_option maxRecDepth 100000
set_option maxHeartbeats 32000000
namespace Go.Proofs.YtcidfldeiklcjaaGreatDoor
open Go.RowKit Tm
open Go.Proofs.Tryz
open Lib(hid)
def EntF(W:World)(_:World)(c:List Value)(e:Ent):Prop:=∃v,c=entC e v/\Row W 1 v e.nums.length (ints e.nums)
def LstF(W:World)(B:Nat)(w:World)(v:Value)(l:List Ent):Prop:=B<=w.heap.size/\Grow (EntF W) 8 52 B (obl v) w v l
section
variable {W w w':World} {B:Nat} {v:Value} {l:List Ent} {S X:List Nat}
theorem LstF.any(hB:B<=w.heap.size)(h:Grow (EntF W) 8 52 B X w v l):LstF W B w v l:=by
 obtain⟨vs,h1,h2⟩:=h;exact⟨hB,vs,h1,fun _ _ _ _=>h2.get⟩
theorem LstF.keep(h:LstF W B w v l)(k:Kept S w w')(hv:∀z∈obl v,z∉S):LstF W B w' v l:=by
 obtain⟨hB,vs,h1,h2⟩:=h;exact⟨Nat.le_trans hB k.size,vs,af h1 k hv,fun _ _ _ _=>h2.get⟩
theorem LstF.ge(h:LstF W B w v l):∀z∈obl v,B<=z/\z < w.heap.size:=h.2.ge
theorem LstF.lt_(h:LstF W B w v l):B<=w.heap.size:=h.1
theorem LstF.form(h:LstF W B w v l):∃a c,v=.slice a l.length c:=h.2.form (by decide)
theorem LstF.ents(h:LstF W B w v l)(k:Kept [] W w)(hl:l.length<=1000000):aU w v l:=by
 obtain⟨_,vs,h1,h2⟩:=h;have h3:=h2.get;refine ag.of_own h1 h3.1 h3.2.1 (fun j a hj=>?_) (by omega);obtain⟨c,hc,u,e,hr⟩:=h3.2.2 j a hj;exact⟨c,hc,u,e,hr.kept k⟩
theorem LstF.at_(h:LstF W B w v l)(hp:0 < l.length):∃g cap,v=.slice (some ⟨g,0,none⟩) l.length cap/\l.length<=cap/\B<=g /\
  ∀(k:Nat) (hk:k < l.length),∃u,Row W 1 u l[k].nums.length (ints l[k].nums)/\Cells8 w g (k*8) l[k] u:=by
 obtain⟨_,m,A,z⟩:=h;have i:=z.get
 rcases A.2 with⟨_,p⟩|⟨g,cap,f,n,y,q,d,_,r,b⟩
 ·omega
 refine⟨g,cap,n,d,y,fun k hk=>?_⟩;obtain⟨c,s,u,rfl,o⟩:=i.2.2 k _ (List.getElem?_eq_getElem hk)
 have a:∀(j:Nat) x,j < 8->(entC l[k] u)[j]?=some x->w.cell? ⟨g,k*8+j,none⟩=some x:=fun j x hj hx=>by
  have e:=cM m 8 k j _ i.2.1 s hj;rw[hx,<-b,List.getElem?_take]at e;have t:Blk w g 52 f:=q;rw[t.cell];rw[if_pos (by omega)]at e
  simpa using e
 exact⟨u,o,a 0 _ (by omega) rfl,a 1 _ (by omega) rfl,a 2 _ (by omega) rfl,a 3 _ (by omega) rfl,a 4 _ (by omega) rfl,a 5 _ (by omega) rfl,a 6 _ (by omega) rfl,a 7 _ (by omega) rfl⟩
end
theorem pH(w:World)(T:TypeId):(w.alloc (.cells #[] T)).ownsRow w.heap.size T 8 (.slice (some ⟨w.heap.size,0,none⟩) 0 0) 0 [] := ⟨rfl,.inr ⟨w.heap.size,0,#[],rfl,Nat.le_refl _,heap_alloc_new w _,Nat.le_refl _,by simp[maxLen],rfl,rfl⟩⟩
theorem LstF.start(W wr:World):LstF W wr.heap.size (wr.alloc (.cells #[] 52)) (.slice (some ⟨wr.heap.size,0,none⟩) 0 0) [] := ⟨by simp,[],pH _ _,fun _ _ _ _=>ep.nil_ _ _ _⟩
theorem bD{W w:World}{B:Nat}{v:Value}{l:List Ent}{ops:Array Oper}{rest:List Oper}{o:Oper}{a:Act}{Q:Exit->Act->World->Prop}(hgd:o.guard=none)(s x:Operand)
  (ho:o.op=.call { callee:=.builtin .append,args:=#[s,x],argTypes:=#[27,27] })
  (hs:a.eval s=v) (h:LstF W B w v l) {u:Value} (hx:a.eval x=u) {c:List Value} (hrow:Row w 8 u 1 c) {e:Ent} {z:Value} (hz:Row W 1 z e.nums.length (ints e.nums)) (hc:c=entC e z) (hn:l.length<=1000) (_hB:B<=w.heap.size)
  (hK:∀a' c' w',LstF W B w' (.slice a' (l.length+1) c') (l++[e])->Kept (obl v) w w'->wpList prog ops Q rest (a.put o.dst (.slice a' (l.length+1) c')) w') :
  wpList prog ops Q (o::rest) a w:=by
 obtain⟨g,i,f,d,b⟩:=info_parts fc;subst hc;obtain⟨k,j,rfl,_,_⟩:=hz.form
 exact aq hgd s x 27 ho g bN 88 underlying27 i f d b rfl (by decide) (by decide) hs h.2 u (entC e _) e hx hrow (fun _ _ _ _=>⟨_,rfl,hz⟩) (by simp[entC,Value.oneCell']) (by omega) h.1 (fun _ h=>h)
  fun a' c' w' hG hk _=>hK a' c' w' (LstF.any (Nat.le_trans h.1 hk.size) hG) hk
theorem jS{W w:World}{B:Nat}{v:Value}{ops:Array Oper}{rest:List Oper}{o:Oper}{a:Act}{Q:Exit->Act->World->Prop}(hgd:o.guard=none)(s x:Operand)
  (ho:o.op=.call { callee:=.builtin .append,args:=#[s,x],argTypes:=#[27,27] })
  (hs:a.eval s=v) (h:LstF W B w v []) {u:Value} (hx:a.eval x=u) {l:List Ent} (hW:aU W u l) (hkw:Kept [] W w) (hn:l.length<=1000)
  (hK:∀a' c' w',LstF W B w' (.slice a' l.length c') l->Kept (obl v) w w'->wpList prog ops Q rest (a.put o.dst (.slice a' l.length c')) w') :
  wpList prog ops Q (o::rest) a w:=by
 obtain⟨E,F,k,i,g⟩:=info_parts fc;obtain⟨e,L,J,C,I⟩:=hW;obtain⟨A,D,f,O⟩:=h;have m:D.flatten=[]:=List.eq_nil_of_length_eq_zero (by rw[f.1];rfl);rw[m]at f
 have G:∀u∈e.flatten,u.oneCell'=true:=fun z hz=>by
  obtain⟨c,r,d⟩:=List.mem_flatten.1 hz;obtain⟨j,p,rfl⟩:=List.mem_iff_getElem.1 r;obtain⟨c',hc',y,t,n⟩:=C j _ (List.getElem?_eq_getElem (by omega));rw[List.getElem?_eq_getElem p]at hc';have q:=Option.some.inj hc';rw[q,t]at d;obtain⟨N,M,rfl,_,_⟩:=n.form;simp only[entC,List.mem_cons,List.not_mem_nil,or_false]at d
  rcases d with rfl|rfl|rfl|rfl|rfl|rfl|rfl|rfl <;> rfl
 refine wpList_plain hgd fun _ hKK=>bG s x 27 ho B 52 E bN 8 88 underlying27 F k i g rfl (by decide) v 0 [] hs f u l.length e.flatten hx (I.kept hkw) G (by unfold maxLen;omega) (by omega) A fun a' c' w' h2 h3 h4=>hKK _ _ ?_;rw[Nat.zero_add]at h2 ⊢;rw[List.nil_append]at h2
 exact hK a' c' w' ⟨Nat.le_trans A h3.size,e,h2,fun _ _ _ _=>⟨L,J,fun j b p=>by
  obtain⟨c,r,y,t,n⟩:=C j b p
  exact⟨c,r,y,t,n⟩⟩⟩ h3
theorem jR{W w:World}{B:Nat}{v:Value}{l:List Ent}{ops:Array Oper}{rest:List Oper}{o:Oper}{a:Act}{Q:Exit->Act->World->Prop}(hgd:o.guard=none)(s x:Operand)
  (ho:o.op=.call { callee:=.builtin .append,args:=#[s,x],argTypes:=#[27,27] })
  (hs:a.eval s=v) (h:LstF W B w v l) (hx:a.eval x=()) (hn:l.length<=1000)
  (hK:∀a' c' w',LstF W B w' (.slice a' l.length c') l->Kept (obl v) w w'->wpList prog ops Q rest (a.put o.dst (.slice a' l.length c')) w') :
  wpList prog ops Q (o::rest) a w:=by
 obtain⟨j,k,d,c,b⟩:=info_parts fc;obtain⟨f,e,i,g⟩:=h;refine wpList_plain hgd fun _ hKK=>bG s x 27 ho B 52 j bN 8 88 underlying27 k d c b rfl (by decide) v l.length e.flatten hs i () 0 [] hx (show Row w 8 () 0 []from⟨by simp,by simp,_,_,rfl,by simp,fun h=>absurd h (by simp)⟩) (by simp) (by unfold maxLen;omega) (by omega) f fun a' c' w' h2 h3 h4=>hKK _ _ ?_;rw[Nat.add_zero]at h2 ⊢;rw[List.append_nil]at h2;exact hK a' c' w' ⟨Nat.le_trans f h3.size,e,h2,fun _ _ _ _=>g.get⟩ h3
theorem jj(vs vk va:Value)(s:Stp)(keys:List Int)(l:List Ent)(w:World)(hs:StpV w vs s)(hk:Row w 1 vk keys.length (ints keys))(ha:aU w va l)(hl:l.length<=12)(hI:∀e∈l,EntI e)(hki:∀x∈keys,Wire.I64 x)(hE:Env2 w) :
  Calls prog 31 #[vs,vk,va,()] w (jQ s keys l w):=by
 have hs':=hs;obtain⟨⟨ad,cc,rfl,c0⟩,ip,iq,ig,ib,il⟩:=hs';obtain⟨aa,ca,rfl,_,_⟩:=ag.form ha;obtain⟨ka,kc,rfl,_,_⟩:=hk.form;obtain⟨W,hW⟩:=nm (w.alloc (.cells #[s.P,s.Q,s.G,.slice ad s.bases.length cc,s.blind] 26));have hb:Blk W w.heap.size 26 #[s.P,s.Q,s.G,.slice ad s.bases.length cc,s.blind]:=hW▸Blk.new _ _ _;have E:Kept [] w W:=hW▸kr.alloc _
 have SG:Hid (∀(k:Nat) (hk:k < l.length) (ve:Value) (w':World),Kept [] W w'->EntA w' ve l[k]->Calls prog 65 #[.agg #[s.P,s.Q,s.G,.slice ad s.bases.length cc,s.blind],.slice ka keys.length kc,ve] w' fun en w2=>en=.returned (.bool (aN s keys l[k]))/\Kept [] w' w2):=fun k hk' ve w' hkk hev =>
  om _ _ ve s keys l[k] w' (hs.kept (E.trans hkk)) (hk.kept (E.trans hkk)) hev (hI _ (List.getElem_mem hk')) hki (hE.kept0 (E.trans hkk))
 obtain⟨S0,S1,S2,S3,S4⟩:=bH5 hb rfl;have HA:=hid (ha.kept E);have HI:=hid hI;have HW:=hid hW;have d6:=hid E;obtain⟨sg,bx⟩:=nm (aN s keys)
 unfold jQ
 rw[bx]at SG ⊢;obtain⟨L,hL⟩:=nm l.length;have HL:=hid hL;clear hW hb E c0 hs ha hk hki hE ib hI bx;rw[hL]at hl ⊢;clear hL
 show Calls _ _ #[.agg #[s.P,s.Q,s.G,.slice ad s.bases.length cc,s.blind],_,_,_] _ _
 go_enter func31,ntmps31
 go_upto_region 1 with(fail);have hW':w.alloc (.cells #[s.P,s.Q,s.G,.slice ad s.bases.length cc,s.blind] 26)=W:=HW.out;rw[hW'];clear hW';go_upto_region 2 with(fail);have O1:=hid (LstF.start W W);obtain⟨W1,al⟩:=nm (W.alloc (.cells #[] 52));have K1:Hid (Kept [] W W1):=al▸kr.alloc _;rw[al]at O1 ⊢
 have cv:W.heap.size < W1.heap.size:=by rw[<-al];simp
 clear al;have O2:=hid (LstF.start W W1)
 have cm:Hid (aU W (.slice aa L ca) l):=by have:=HA.out;rw[HL.out]at this;exact this
 have b3:l.length<=1000:=by have:=HL.out;omega
 go_wp2_with (at_builtin;refine jS (W:=W) (l:=l) rfl _ _ rfl rfl O2.out (u:=.slice aa L ca) rfl cm (K1.alloc _) b3 ?_);intro a2 c2 W2 h2 k2;have H2:=hid h2;have K2:=hid k2;clear h2 k2;go_wp2_with (at_builtin;refine jR rfl _ _ rfl rfl H2 rfl b3 ?_);intro a3 c3 W3 h3 k3;have H3:=hid h3
 have K3:Hid (Kept [] W1 W3):=by
  have J:Kept [] W1 W2:=((Kept.refl [] W1).alloc (.cells #[] 52)).fresh K2 (fun z hz=>(O2.out.ge z hz).1);exact J.fresh k3 (fun z hz=>(H2.ge z hz).1)
 have O3:Hid (LstF W W.heap.size W3 (.slice (some ⟨W.heap.size,0,none⟩) 0 0) []):=O1.out.keep K3.out (by simp);have cy:=hid (K1.trans K3);have cx:=hid (rG sg l);rw[HL.out]at H3 ⊢;clear h3 k3 O1 O2 H2 K2 b3 HA cm cv;go_wp2_with fail
 go_loopw [9,11] (fun vo vi wr=>∃(k:Nat) (o:List Ent) (B:Nat),k<=L/\vi=k/\o.length<=k/\Hid (bA sg (l.take k) o)/\Hid (LstF W B wr vo o)/\Hid (Kept [] W3 wr)) (fun _ vi _=>L - (intOf vi).toNat)
 case atStart=>exact⟨0,[],W.heap.size,by omega,rfl,by simp,cx,O3,kr⟩
 case round =>
  obtain⟨k,o,B,di,rfl,cs,HJ,HO,HK⟩:=hrel;obtain⟨oa,oc,rfl⟩:=HO.form;have KR:=hid (cy.trans HK)
  by_cases hkn:k < L
  ·have Y:k < l.length:=by have:=HL.out;omega
   obtain⟨xb,xc,ac,cp,_,bt⟩:=H3.out.at_ (by omega);rw[HL.out]at ac;injection ac with ac _ hx3;subst ac hx3;rw[HL.out]at cp;obtain⟨u,hu,I⟩:=bt k Y;have I:=I.kept HK;obtain⟨ga,gc,rfl,_,_⟩:=hu.form;have b7:=HI _ (List.getElem_mem Y);have av:Hid (sg l[k]=false->bA sg (l.take (k+1)) o):=fun h=>uh HJ Y h;have b0:Hid (sg l[k]=true->bA sg (l.take (k+1)) (insE l[k] o)):=fun h=>wG HJ HI Y h;have d4:Hid (∀e∈o,EntI e):=fun e he=>HI e (List.mem_of_mem_take ((HJ.2 e).1 he).1);have ba:=hid (SG k Y)
   generalize hx:l[k]=x at ba av b0 b7 hu I
   have cg:=hid b7;have HU:=hid hu;have cl:=hid I;clear hx bt b7 hu
   have b9:Hid (∀z:KW wr,Calls prog 65 #[.agg #[s.P,s.Q,s.G,.slice ad s.bases.length cc,s.blind],.slice ka keys.length kc,.agg #[x.gate,x.no,x.time,x.kind,.slice ga x.nums.length gc,x.text,x.c,x.s]] z.val fun en w2=>en=.returned (.bool (sg x))/\Kept [] z.val w2):=fun z =>
    ba (.agg (entC x (.slice ga x.nums.length gc)).toArray) z.val (KR.trans z.property) ⟨_,rfl,HU.kept (KR.trans z.property)⟩
   generalize cq:sg x=sb at b9 av b0
   clear cq ba;have s0:∀z:KW wr,z.val.cell? ⟨w.heap.size,0,none⟩=some (.int .i64 s.P):=fun z=>z.cell (S0.out _ KR);have s1:∀z:KW wr,z.val.cell? ⟨w.heap.size,1,none⟩=some (.int .i64 s.Q):=fun z=>z.cell (S1.out _ KR);have s2:∀z:KW wr,z.val.cell? ⟨w.heap.size,2,none⟩=some (.int .i64 s.G):=fun z=>z.cell (S2.out _ KR);have s3:∀z:KW wr,z.val.cell? ⟨w.heap.size,3,none⟩=some (.slice ad s.bases.length cc):=fun z=>z.cell (S3.out _ KR);have s4:∀z:KW wr,z.val.cell? ⟨w.heap.size,4,none⟩=some (.int .i64 s.blind):=fun z=>z.cell (S4.out _ KR);obtain⟨x0,x1,x2,x3,x4,x5,x6,x7⟩:=Cells8.kw I;clear I;go_wp2_with fail;refine ax wr kr (by kernel_rfl) (by kernel_rfl) ?_
   repeat (go_big_quiet_step (first|(go_at_call 65;exact aA (b9 _))))
   refine wpQuiet_nil ?_;rintro q ⟨⟨_,c6⟩,rfl⟩;have K4:Hid (Kept [] wr q):=c6;clear x0 x1 x2 x3 x4 x5 x6 x7;clear s0 s1 s2 s3 s4;clear c6 b9
   cases sb
   ·have p:=hid (av rfl);have a7:=hid (HO.out.keep K4.out (by simp));have d7:=hid (HK.trans K4);go_wp2_with fail
    go_roundw
    case rel=>exact⟨k+1,o,B,by omega,by go_num,by omega,p,a7,d7⟩
    case measure=>simp[intOf];omega
   have b1:=hid (b0 rfl);have a7:=hid (HO.out.keep K4.out (by simp));have db:=hid (cl.kept K4);have c7:=hid (HK.trans K4);have d0:=hid (KR.trans K4);obtain⟨n,hn⟩:=nm o.length;have N:=hid hn;rw[hn]at a7 cs ⊢;clear hn av b0 K4 cl KR HK HJ HO;have L0:=hid (LstF.start W q);have d1:Hid (Kept [] q (q.alloc (.cells #[] 52))):=kr.alloc _;simp only[Bool.not_true];go_wp2_with fail
   go_loopw [12,13,14] (fun vl vd vj wr2=>∃(j:Nat) (i:List Ent) (d:Bool),j<=n/\vj=j/\vd=.bool d/\Hid (d=false->InA x o i j)/\Hid (d=true->InB x o i j)/\i.length<=n+1/\Hid (LstF W q.heap.size wr2 vl i)/\Hid (Kept [] q wr2)) (fun _ _ vj _=>n - (intOf vj).toNat)
   case atStart=>exact⟨0,[],false,by omega,rfl,rfl,fun _=>InA.start x o,(fun h=>by cases h),by simp,L0,d1⟩
   case round =>
    obtain⟨j,i,d,dj,rfl,rfl,U,bo,dg,C,D⟩:=hrel;obtain⟨la,lc,rfl⟩:=C.form;have HC:=hid (db.kept D)
    by_cases hjlt:j < n
    ·have F:j < o.length:=by have:=N.out;omega
     obtain⟨yb,yc,ab,co,_,bs⟩:=a7.out.at_ (by omega);rw[N.out]at ab co;injection ab with ab _ hy3;subst ab hy3;obtain⟨u2,ah,b5⟩:=bs j F;obtain⟨ha,hc,rfl,_,_⟩:=ah.form;have b6:=d4 _ (List.getElem_mem F);have V:d=false->ltB o[j] x=true->InA x o (i++[o[j]]) (j+1):=fun J h2=>(U J).lt F h2;have a4:d=false->ltB o[j] x=false->encE o[j]=encE x->InB x o (i++[o[j]]) (j+1):=fun J h2 h3=>(U J).eq F h2 h3;have a1:d=false->ltB o[j] x=false->¬encE o[j]=encE x->InB x o (i++[x]++[o[j]]) (j+1):=fun J h2 h3=>(U J).gt F h2 h3;have a5:d=true->InB x o (i++[o[j]]) (j+1):=fun J=>(bo J).next F
     have dd:yb < q.heap.size:=by
      have:=a7.out.ge yb (by simp[obl,Value.ownBlock]);omega
     generalize hy:o[j]=y at ah b5 b6 V a4 a1 a5
     have cd:=hid b6;have M:=hid ah;have O:=hid V;have T:=hid a4;have R:=hid a1;have bm:=hid a5;have HD:=hid b5
     have X:∀l2:List Ent,InB x o l2 (j+1)->l2.length<=n+1:=fun l2 h=>by
      have J:=congrArg List.length h.goes;rw[List.length_append]at J;have h2:=lS x o;have h3:=N.out;omega
     have a9:=hid X;have ao:=hid (d0.trans D);clear hy bs b6 ah b5 V a4 a1 a5 X
     cases d
     ·have BF:Hid (∀z:KW wr,Calls prog 66 #[.agg #[y.gate,y.no,y.time,y.kind,.slice ha y.nums.length hc,y.text,y.c,y.s],.agg #[x.gate,x.no,x.time,x.kind,.slice ga x.nums.length gc,x.text,x.c,x.s]] z.val fun en w2=>en=.returned (.bool (ltB y x))/\Kept [] z.val w2):=fun z =>
       pP _ _ y x z.val ⟨_,rfl,M.kept (ao.trans z.property)⟩ ⟨_,rfl,HU.kept (ao.trans z.property)⟩ cd cg
      have SE:Hid (∀w',Kept [] wr w'->∀z:KW w',Calls prog 67 #[.agg #[y.gate,y.no,y.time,y.kind,.slice ha y.nums.length hc,y.text,y.c,y.s],.agg #[x.gate,x.no,x.time,x.kind,.slice ga x.nums.length gc,x.text,x.c,x.s]] z.val fun en w2=>en=.returned (.bool (decide (encE y=encE x)))/\Kept [] z.val w2):=fun w' kk z =>
       lj _ _ y x z.val ⟨_,rfl,M.kept (ao.trans (kk.trans z.property))⟩ ⟨_,rfl,HU.kept (ao.trans (kk.trans z.property))⟩ cd cg
      generalize cu:ltB y x=bl at BF O T R
      clear cu bm;obtain⟨x0,x1,x2,x3,x4,x5,x6,x7⟩:=Cells8.kw HC;obtain⟨y0,y1,y2,y3,y4,y5,y6,y7⟩:=Cells8.kw ((HD.kept D));go_wp2_with fail;refine ax wr kr (by kernel_rfl) (by kernel_rfl) ?_
      repeat (go_big_quiet_step (first|(go_at_call 66;exact aA (BF _))))
      refine wpQuiet_nil ?_;rintro w5 ⟨⟨_,c5⟩,rfl⟩;have K5:Hid (Kept [] wr w5):=c5;clear x0 x1 x2 x3 x4 x5 x6 x7;clear y0 y1 y2 y3 y4 y5 y6 y7;clear c5 BF;have m:=hid (C.out.keep K5.out (by simp));have t:=hid (D.trans K5);have ap:=hid (HC.kept K5);have v:=hid (HD.kept t)
      cases bl
      ·by_cases he:encE y=encE x
       ·have IB:=hid (T (by trivial) (by trivial) he);have r:=SE w5 K5;rw[decide_eq_true he]at r;have a6:=hid r;clear he r SE T R O;obtain⟨x0,x1,x2,x3,x4,x5,x6,x7⟩:=Cells8.kw ap;obtain⟨y0,y1,y2,y3,y4,y5,y6,y7⟩:=Cells8.kw v;go_wp2_with fail;refine ax w5 kr (by kernel_rfl) (by kernel_rfl) ?_
        repeat (go_big_quiet_step (first|(go_at_call 67;exact aA (a6 _))))
        refine wpQuiet_nil ?_;rintro w6 ⟨⟨_,Z⟩,rfl⟩;have K6:Hid (Kept [] w5 w6):=Z;clear x0 x1 x2 x3 x4 x5 x6 x7;clear y0 y1 y2 y3 y4 y5 y6 y7;clear Z a6;have A:=hid (m.out.keep K6.out (by simp));have bb:=hid (t.trans K6);have cb:=hid (ap.kept K6);have c9:=hid (v.kept K6);obtain⟨e0,e1,e2,e3,e4,e5,e6,e7⟩:=c9.out;go_wp2_with (at_builtin;refine bD rfl _ _ rfl rfl (A.out.keep ((Kept.refl [] _).alloc (.cells #[y.gate,y.no,y.time,y.kind,.slice ha y.nums.length hc,y.text,y.c,y.s] 52)) (by simp)) rfl (rowS rfl _ _ _ rfl) M.out rfl (by omega) (by have:=A.out.lt_;simp only[World.size_alloc];omega) ?_);intro an am w7 b a;have f:=hid b;have g:Hid (Kept [] q w7):=(bb.alloc _).fresh a (fun z hz=>(A.ge z hz).1);clear e0 e1 e2 e3 e4 e5 e6 e7 b a;go_wp2_with fail
        go_roundw
        case rel=>exact⟨j+1,i++[y],true,by omega,by go_num,rfl,fun h=>(by cases h),fun _=>IB.out,a9.out _ IB.out,f,g⟩
        case measure=>simp[intOf];omega
       ·have IB:=hid (R (by trivial) (by trivial) he)
        have ct:(i++[x]).length<=n+2:=by rw[List.length_append,List.length_singleton];omega
        generalize c1:i++[x]=ls2 at IB ct
        have r:=SE w5 K5;rw[decide_eq_false he]at r;have a6:=hid r;clear he r SE T R O;obtain⟨x0,x1,x2,x3,x4,x5,x6,x7⟩:=Cells8.kw ap;obtain⟨y0,y1,y2,y3,y4,y5,y6,y7⟩:=Cells8.kw v;go_wp2_with fail;refine ax w5 kr (by kernel_rfl) (by kernel_rfl) ?_
        repeat (go_big_quiet_step (first|(go_at_call 67;exact aA (a6 _))))
        refine wpQuiet_nil ?_;rintro w6 ⟨⟨_,Z⟩,rfl⟩;have K6:Hid (Kept [] w5 w6):=Z;clear x0 x1 x2 x3 x4 x5 x6 x7;clear y0 y1 y2 y3 y4 y5 y6 y7;clear Z a6;have A:=hid (m.out.keep K6.out (by simp));have bb:=hid (t.trans K6);have cb:=hid (ap.kept K6);have c9:=hid (v.kept K6);obtain⟨e0,e1,e2,e3,e4,e5,e6,e7⟩:=cb.out;go_wp2_with (at_builtin;refine bD rfl _ _ rfl rfl (A.out.keep ((Kept.refl [] _).alloc (.cells #[x.gate,x.no,x.time,x.kind,.slice ga x.nums.length gc,x.text,x.c,x.s] 52)) (by simp)) rfl (rowS rfl _ _ _ rfl) HU.out rfl (by omega) (by have:=A.out.lt_;simp only[World.size_alloc];omega) ?_);intro an am w7 b a;have f:=hid b;have g:Hid (Kept [] q w7):=(bb.alloc _).fresh a (fun z hz=>(A.ge z hz).1);clear e0 e1 e2 e3 e4 e5 e6 e7 b a;have d3:=hid (HD.kept g)
        try rw[c1]at f
        obtain⟨e0,e1,e2,e3,e4,e5,e6,e7⟩:=d3.out;go_wp2_with (at_builtin;refine bD rfl _ _ rfl rfl (f.out.keep ((Kept.refl [] _).alloc (.cells #[y.gate,y.no,y.time,y.kind,.slice ha y.nums.length hc,y.text,y.c,y.s] 52)) (by simp)) rfl (rowS rfl _ _ _ rfl) M.out rfl (by omega) (by have:=f.out.lt_;simp only[World.size_alloc];omega) ?_);intro dl dk w8 bv bq;have d5:=hid bv;have d2:Hid (Kept [] q w8):=(g.alloc _).fresh bq (fun z hz=>(f.ge z hz).1);clear e0 e1 e2 e3 e4 e5 e6 e7 bv bq;go_wp2_with fail
        go_roundw
        case rel=>exact⟨j+1,ls2++[y],true,by omega,by go_num,rfl,fun h=>(by cases h),fun _=>IB.out,a9.out _ IB.out,d5,d2⟩
        case measure=>simp[intOf];omega
      ·have IA:=hid (O (by trivial) (by trivial))
       have dc:i.length<=n:=by
        have J:=(U (by trivial)).l_;have h2:=N.out;rw[J,List.length_take];omega
       clear O T R SE;obtain⟨e0,e1,e2,e3,e4,e5,e6,e7⟩:=v.out;go_wp2_with (at_builtin;refine bD rfl _ _ rfl rfl (m.out.keep ((Kept.refl [] _).alloc (.cells #[y.gate,y.no,y.time,y.kind,.slice ha y.nums.length hc,y.text,y.c,y.s] 52)) (by simp)) rfl (rowS rfl _ _ _ rfl) M.out rfl (by omega) (by have:=m.out.lt_;simp only[World.size_alloc];omega) ?_);intro an am w7 b a;have f:=hid b;have g:Hid (Kept [] q w7):=(t.alloc _).fresh a (fun z hz=>(m.ge z hz).1);clear e0 e1 e2 e3 e4 e5 e6 e7 b a;go_wp2_with fail
       go_roundw
       case rel=>exact⟨j+1,i++[y],false,by omega,by go_num,rfl,fun _=>IA.out,fun h=>(by cases h),by rw[List.length_append,List.length_singleton];omega,f,g⟩
       case measure=>simp[intOf];omega
     ·have IB:=hid (bm (by trivial));clear O T R bm;go_wp2_with fail
      go_quiet (fail)
      obtain⟨w5,b2⟩:=nm (wr.drewN nq);rw[b2];have K5:Hid (Kept [] wr w5):=b2▸kr.drewN nq;have m:=hid (C.out.keep K5.out (by simp));have t:=hid (D.trans K5);have v:=hid (HD.kept t);clear b2;obtain⟨e0,e1,e2,e3,e4,e5,e6,e7⟩:=v.out;go_wp2_with (at_builtin;refine bD rfl _ _ rfl rfl (m.out.keep ((Kept.refl [] _).alloc (.cells #[y.gate,y.no,y.time,y.kind,.slice ha y.nums.length hc,y.text,y.c,y.s] 52)) (by simp)) rfl (rowS rfl _ _ _ rfl) M.out rfl (by omega) (by have:=m.out.lt_;simp only[World.size_alloc];omega) ?_);intro an am w7 b a;have f:=hid b;have g:Hid (Kept [] q w7):=(t.alloc _).fresh a (fun z hz=>(m.ge z hz).1);clear e0 e1 e2 e3 e4 e5 e6 e7 b a;go_wp2_with fail
      go_roundw
      case rel=>exact⟨j+1,i++[y],true,by omega,by go_num,rfl,fun h=>(by cases h),fun _=>IB.out,a9.out _ IB.out,f,g⟩
      case measure=>simp[intOf];omega
    ·have a0:o.length<=j:=by have:=N.out;omega
     have bk:Hid (d=false->i++[x]=insE x o):=fun h=>(U h).end_ a0;have bh:Hid (d=true->i=insE x o):=fun h=>(bo h).end_ a0;have b4:=lS x o;have de:=N.out;clear a0 U bo
     cases d
     ·have hE:=bk (by trivial);have p:=b1.out;rw[<-hE]at p b4;rw[List.length_append,List.length_singleton]at b4;have bd:=hid p;clear hE bk bh p;obtain⟨e0,e1,e2,e3,e4,e5,e6,e7⟩:=HC.out;go_wp2_with (at_builtin;refine bD rfl _ _ rfl rfl (C.out.keep ((Kept.refl [] _).alloc (.cells #[x.gate,x.no,x.time,x.kind,.slice ga x.nums.length gc,x.text,x.c,x.s] 52)) (by simp)) rfl (rowS rfl _ _ _ rfl) HU.out rfl (by omega) (by have:=C.out.lt_;simp only[World.size_alloc];omega) ?_);intro an am w7 b a;have f:=hid b;have g:Hid (Kept [] q w7):=(D.alloc _).fresh a (fun z hz=>(C.ge z hz).1);clear e0 e1 e2 e3 e4 e5 e6 e7 b a;have bc:=hid (c7.trans g);go_wp2_with fail
      go_roundw
      case rel=>exact⟨k+1,i++[x],q.heap.size,by omega,by go_num,by rw[List.length_append,List.length_singleton];omega,bd,f,bc⟩
      case measure=>simp[intOf];omega
     ·have hE:=bh (by trivial);have p:=b1.out;rw[<-hE]at p b4;have bd:=hid p;have bc:=hid (c7.trans D);clear hE bk bh p;go_wp2_with fail
      go_roundw
      case rel=>exact⟨k+1,i,q.heap.size,by omega,by go_num,by omega,bd,C,bc⟩
      case measure=>simp[intOf];omega
  ·have c4:k=L:=by omega
   have d9:Hid (bA sg l o):=by have:=HJ.out;rwa [c4,<-HL,List.take_length]at this
   have da:=hid (HO.out.ents KR.out (by omega));have d8:=hid (d6.trans KR);go_wp2_with fail;go_ret;exact⟨_,o,rfl,da.out,d9.out,by omega,d8.out⟩
end Go.Proofs.YtcidfldeiklcjaaGreatDoor
namespace Go.Proofs.YtcidfldeiklcjaaGreatDoor.Bf
variable {G:Gf} {n:Nat}
theorem uK:∀l:List Nat,wt (turn G) l.reverse=wt G l
 | []=>rfl
 | [a]=>rfl
 |a::b::l=>by
  have ih:=uK (b::l);rw[List.reverse_cons]at ih;rw[List.reverse_cons,List.reverse_cons,List.append_assoc]
  show wt (turn G) (l.reverse++b::[a])=_
  have h2:wt (turn G) (b::[a])=G a b:=by simp[wt,turn]
  have h3:wt G (a::b::l)=G a b+wt G (b::l):=rfl;rw[cf,ih,h2,h3];omega
theorem mL:∀l:List Nat,du G l->du (turn G) l.reverse
 | [],_=>trivial
 | [a],_=>trivial
 |a::b::l,h=>by
  have ih:=mL (b::l) h.2;rw[List.reverse_cons]at ih;rw[List.reverse_cons,List.reverse_cons,List.append_assoc]
  show du (turn G) (l.reverse++b::[a])
  rw[bf];exact⟨ih,h.1,trivial⟩
theorem uM{a b:Nat}{l:List Nat}(h:Walk G n a b l):Walk (turn G) n b a l.reverse := ⟨by rw[List.head?_reverse];exact h.last,by rw[List.getLast?_reverse];exact h.head,fun x hx=>h.lt x (List.mem_reverse.1 hx),mL l h.steps⟩
theorem ux{s:Nat}{B:Int}{D:Gf}(h:Dst G n n B D)(hs:s < n)(hout:∀b,b < n->b≠s->G s b < far)(hin:∀b,b < n->b≠s->turn G s b < far) :
  Top G n s (fun v=>D s v)/\Top (turn G) n s (fun v=>D v s):=by
 have f:∀v,v < n->D s v < far:=fun v hv=>by
  by_cases e:v=s
  ·subst e;have:=h.di v hv;unfold far;omega
  ·have:=h.ed s v hs hv;have:=hout v hv e;omega
 have d:∀v,v < n->D v s < far:=fun v hv=>by
  by_cases e:v=s
  ·subst e;have:=h.di v hv;unfold far;omega
  ·have j:=h.ed v s hv hs;have i:G v s < far:=hin v hv e;omega
 refine⟨⟨fun v hv=>?_,fun u v hu hv he h0=>?_,f,h.di s hs⟩,⟨fun v hv=>?_,fun u v hu hv he h0=>?_,d,h.di s hs⟩⟩
 ·rcases h.snd s v hs hv with g|⟨g,l,c,a⟩
  ·exact Or.inl g
  ·exact Or.inr ⟨g,l,c,a.symm⟩
 ·have j:=h.ed u v hu hv;have i:=h.tri u hu s v hs hv h0 (by omega)
  show D s v<=D s u+G u v
  omega
 ·rcases h.snd v s hv hs with g|⟨g,l,c,a⟩
  ·exact Or.inl g
  ·exact Or.inr ⟨g,l.reverse,uM c,by rw[uK];exact a.symm⟩
 ·have he':G v u < far:=he;have j:=h.ed v u hv hu;have i:=h.tri u hu v s hv hs (by omega) h0
  show D v s<=D u s+G v u
  omega
end Go.Proofs.YtcidfldeiklcjaaGreatDoor.Bf
namespace Go.Proofs.YtcidfldeiklcjaaGreatDoor
open Go.RowKit Tm Bf
open Go.Proofs.Tryz
open Lib(hid)
theorem Bo.far{w wr:World}{l:List (Int × Int)}{X:List Nat}{v:Value}(h:Bo w wr l X v){p:Addr}{x:Value}(hp:w.cell? p=some x):∀w',Kept (obl v) wr w'->w'.cell? p=some x:=fun w' kk=>by
 have hl:=World.block_lt_of_cell? _ _ hp;exact(kk.cell (Nat.lt_of_lt_of_le hl h.kb.size) (fun hm=>by have:=(h.gr.ge _ hm).1;omega)).trans ((h.kb.cell hl (by simp)).trans hp)
theorem pG(w:World)(T:TypeId)(n:Nat):(w.alloc (.cells #[] T)).ownsRow w.heap.size T n (.slice (some ⟨w.heap.size,0,none⟩) 0 0) 0 [] := ⟨by simp,.inr ⟨w.heap.size,0,#[],rfl,Nat.le_refl _,heap_alloc_new w _,Nat.le_refl _,by simp[maxLen],by simp,by simp⟩⟩
theorem pO(vs vk va:Value)(s:Stp)(keys:List Int)(l:List Ent)(dr:Int)(w:World)(hs:StpV w vs s)(hk:Row w 1 vk keys.length (ints keys))(ha:aU w va l)(hl:l.length<=12)(hI:∀e∈l,EntI e)(hki:∀x∈keys,Wire.I64 x)(hE:Env2 w) :
  Calls prog 11 #[vs,vk,va,dr] w (BdsE s keys l dr w):=by
 have hs':=hs;obtain⟨⟨ad,Z,rfl,a0⟩,ip,iq,ig,ib,il⟩:=hs';obtain⟨aa,ca,rfl,_,_⟩:=ag.form ha;obtain⟨ka,kc,rfl,_,_⟩:=hk.form;obtain⟨W,hW⟩:=nm (w.alloc (.cells (stpA s (.slice ad s.bases.length Z)) 26));have hb:Blk W w.heap.size 26 (stpA s (.slice ad s.bases.length Z)):=hW▸Blk.new _ _ _;have d:Kept [] w W:=hW▸kr.alloc _
 have VS:Hid (∀w',Kept [] W w'->Calls prog 28 #[.agg #[s.P,s.Q,s.G,.slice ad s.bases.length Z,s.blind]] w' fun e w2=>e=.returned (.bool (aw s))/\Kept [] w' w2):=fun w' k =>
  bR _ s w' (hs.kept (d.trans k))
 have WI:Hid (∀w',Kept [] W w'->Calls prog 29 #[dr,.int .i64 0,.int .i64 1000] w' fun e w2=>e=.returned (.bool (inB dr 0 1000))/\Kept [] w' w2):=fun w' _ =>
  (bF dr 0 1000 w').mono fun e w' ⟨h1,h2⟩=>⟨h1,h2▸kr⟩
 have JN:Hid (∀w',Kept [] W w'->Calls prog 31 #[.agg #[s.P,s.Q,s.G,.slice ad s.bases.length Z,s.blind],.slice ka keys.length kc,.slice aa l.length ca,()] w' (jQ s keys l w')):=fun w' k =>
  jj _ _ _ s keys l w' (hs.kept (d.trans k)) (hk.kept (d.trans k)) (ha.kept (d.trans k)) hl hI hki (hE.kept0 (d.trans k))
 obtain⟨S0,S1,S2,S3,S4⟩:=bH5 hb rfl;have HW:=hid hW;have U:=hid d
 have am:Hid (inB dr 0 1000=true->0<=dr/\dr<=1000):=fun h=>by unfold inB at h;simpa using h
 unfold BdsE
 obtain⟨b1,i⟩:=nm (aw s);obtain⟨b2,a5⟩:=nm (inB dr 0 1000);rw[i]at VS ⊢;rw[a5]at WI am ⊢;clear hW hb a0 i a5 d hs hk ha hki hE ib hI
 show Calls _ _ #[.agg #[s.P,s.Q,s.G,.slice ad s.bases.length Z,s.blind],_,_,_] _ _
 go_enter func11,ntmps11
 go_upto_region 1 with(fail);have hW':w.alloc (.cells #[s.P,s.Q,s.G,.slice ad s.bases.length Z,s.blind] 26)=W:=HW.out;rw[hW'];clear hW';have s0:=S0.out _ kr;have s1:=S1.out _ kr;have s2:=S2.out _ kr;have s3:=S3.out _ kr;have s4:=S4.out _ kr;go_wp2_with (go_at_call 28;with_reducible refine(VS.out _ kr).mono ?_);rintro e w5 ⟨rfl,k5⟩;have a:Kept [] W w5:=k5;clear k5
 cases b1
 ·go_wp2_with fail
  go_ret2
  exact⟨U.trans a,Or.inl ⟨rfl,rfl⟩⟩
 have a7:=hid (WI w5 a);go_wp2_with (go_at_call 29;with_reducible refine a7.out.mono ?_);rintro e w6 ⟨rfl,Y⟩;replace a:=a.trans Y;clear Y a7
 cases b2
 ·go_wp2_with fail
  go_ret2
  exact⟨U.trans a,Or.inl ⟨rfl,rfl⟩⟩
 have hd:=am (by trivial);have E:=hid hd;have K5:Hid (Kept [] W _):=a;clear s0 s1 s2 s3 s4 hd;have s0:=S0.out _ a;have s1:=S1.out _ a;have s2:=S2.out _ a;have s3:=S3.out _ a;have s4:=S4.out _ a;have ab:=hid (JN _ a);clear a;go_wp2_with (go_at_call 31;with_reducible refine ab.out.mono ?_);rintro e w6 ⟨vj,o,rfl,M,L,J,Y⟩;obtain⟨ja,jc,rfl,_,_⟩:=ag.form M;have ah:=hid L;have u:Hid (∀x∈o,WF x):=hid (iy L);have GO:=hid (fC _ o dr w6 M u.out E.out.1 E.out.2 (by omega));have K6:=hid (U.trans (K5.trans Y));have a9:=hid (K5.trans Y);clear s0 s1 s2 s3 s4 M L Y JN ab VS WI;go_wp2_with (go_at_call 30;with_reducible refine GO.out.mono ?_);rintro e w7 ⟨gp,wb,gc,rfl,a4,k7,b6,b3⟩;have c:FlW w7 gp wb (o.length+1) gc (Gl o dr):=a4;have K7:=hid (K6.trans k7);have bt:=hid (a9.trans k7);have C:=hid (nz o dr E.1 E.2 u);have A:=hid (oF o dr);have B:=hid (sL o dr);obtain⟨G,hG⟩:=nm (Gl o dr);have V:=hid hG;rw[hG]at c C A B;obtain⟨m,hm⟩:=nm o.length;have HM:=hid hm;rw[hm]at c C A B J;obtain⟨N,hN⟩:=nm (m+1);have HN:=hid hN;rw[hN]at c C A B
 have bs:1<=N:=by omega
 have a6:N<=13:=by omega
 have g:m < N:=by omega
 have bm:(N:Int) - 1=(m:Int):=by omega
 have wm:IntKind.i64.wrap (m:Int)=(m:Int):=by rw[IntKind.wrap_i64];omega
 have al:=hid c;clear a4 c hG hm hN b6 b3 k7 GO a9 S0 S1 S2 S3 S4;have DI:=hid (mD gp wb N gc G w7 al.out C.out (by omega) (by omega));obtain⟨i0,hi,b0,av,ap⟩:=info_parts sI;go_wp2_with (go_at_call 32;with_reducible refine DI.out.mono ?_);rintro e F ⟨k8,⟨db,dc,D,rfl,R,O,b4,b7⟩|⟨rfl,a1⟩⟩
 rotate_left
 ·have bb:=hid a1;have K8:=hid (K7.trans k8);clear a1 k8;go_wp2_with fail
  go_ret2
  exact⟨K8.out,Or.inr ⟨by trivial,o,ah.out,by rw[HM.out];exact J,u.out,E.out.1,E.out.2,Or.inr ⟨rfl,by rw[HM.out,HN.out,V.out];exact bb.out⟩⟩⟩
 have ac:=hid (ux O g A B);have bc:=hid O.bd;have an:=hid R;have K8:=hid (K7.trans k8);have ao:=hid (al.kept k8);have bq:=zk (m:=N) (by omega);obtain⟨q,hq⟩:=nm (N*N);have HQ:=hid hq;have b9:=R.cc;rw[hq]at b9 ⊢
 have B0:Hid (Bo F (F.alloc (.cells #[] 42)) (bndL (fun v=>D v m) (fun v=>D m v) 0) (obl (.slice (some ⟨F.heap.size,0,none⟩) 0 0)) (.slice (some ⟨F.heap.size,0,none⟩) 0 0)) := ⟨⟨[],pG _ _ _,fun _ _ _ _=>ep.nil_ _ _ _⟩,fun _ h=>h,fun z hz=>by have:=cZ hz;injection this with h;subst h;simp,kr.alloc _⟩
 clear k8 O b4 R b7 hq DI;go_wp2_with fail
 go_loopw [13,14] (fun vj vi wr=>∃(k:Nat) (X:List Nat),k<=m/\vi=k/\Hid (Bo F wr (bndL (fun v=>D v m) (fun v=>D m v) k) X vj)) (fun _ vi _=>m - (intOf vi).toNat)
 case atStart=>exact⟨0,_,by omega,rfl,B0⟩
 case round =>
  obtain⟨k,X,bo,rfl,j⟩:=hrel;clear B0;obtain⟨ja,jc,rfl⟩:=j.out.gr.form (by decide);rw[cO];have n0:=Kept.cellOf ao.n0 _ j.kb
  by_cases hkn:k < m
  ·have dl:decide ((k:Int)+1 < (N:Int))=true:=decide_eq_true (by omega)
   have n:k < N:=by omega
   obtain⟨im,t⟩:=nm (k*N);obtain⟨mm,I⟩:=nm (m*N);obtain⟨f1,f2,f3,f4,f5,f6,f7⟩:=ixf t HQ.out n g (by omega);obtain⟨g1,g2,g3,g4,g5,g6,g7⟩:=ixf I HQ.out g n (by omega)
   have h1:IntKind.i64.wrap ((im:Int)+(N:Int))=(im:Int)+(N:Int):=by
    rw[IntKind.wrap_i64]
    have:im<=169:=by rw[<-t];exact Nat.le_trans (Nat.mul_le_mul (show k<=13 by omega) a6) (by decide)
    omega
   have h2:(im:Int)+(N:Int) - 1=(im:Int)+(m:Int):=by omega
   have p0:∀w',Kept (obl (.slice ja (bndL (fun v=>D v m) (fun v=>D m v) k).length jc)) wr w'->w'.cell? ⟨gp,0,none⟩=some (.int .i64 N):=j.far ao.n0;have l0:=j.far (an.cell k m n g);have u0:=j.far (an.cell m k g n);have i:=bc k m n g;rw[t]at l0;rw[I]at u0;have HS:=hid (nL (fun v=>D v m) (fun v=>D m v) k);have b5:Hid (F.heap.size<=wr.heap.size):=j.kb.size;have f:=cO (fun v=>D v m) (fun v=>D m v) k;obtain⟨x,hx⟩:=nm (D k m);obtain⟨y,hy⟩:=nm (D m k);rw[hx]at l0 i HS;rw[hy]at u0 HS
   have wx:IntKind.i64.wrap (-x)=-x:=by rw[IntKind.wrap_i64];unfold far at i;omega
   obtain⟨bl,T⟩:=nm (bndL (fun v=>D v m) (fun v=>D m v) k);have bv:=hid T;rw[T]at j HS f p0 l0 u0;rw[f]at j p0 l0 u0;have bk:Hid (bl.length=k):=hid f;clear hx hy i T t I;go_wp2_with fail;clear n0
   go_region_held3 (fun w'=>Kept (obl (.slice ja k jc)) wr w') (repeat (first|(with_reducible assumption)|(with_reducible exact kr)|(with_reducible refine Kept.drew ?_)|(with_reducible refine Kept.alloc ?_ _)|(refine Kept.trans ?_ a3)))
    (first
     |(refine aO rfl _ _ 32 rfl i0 (.agg #[.int .i64 0,.int .i64 0]) 16 underlying32 hi b0 av ap rfl (by decide) (by decide) rfl (j.out.gr.step (S:=[]) (X':=X) (by(repeat (first|(with_reducible assumption)|(with_reducible exact kr)|(with_reducible refine Kept.drew ?_)|(with_reducible refine Kept.alloc ?_ _)))) (by simp) (by simp) (fun z hz=>Or.inl hz)) _ [.int .i64 (-x),y] (-x,y) rfl (rowS rfl _ _ _ rfl) (fun _ _ _ _=>rfl) (by simp[Value.oneCell']) (by omega) (Nat.le_trans b5.out (Kept.size (S:=[]) (by(repeat (first|(with_reducible assumption)|(with_reducible exact kr)|(with_reducible refine Kept.drew ?_)|(with_reducible refine Kept.alloc ?_ _)))))) j.out.vX ?_;intro p9 q9 y9 G9 a3 t9)
     |fail)
   rename_i r
   have bh:Hid (Bo F y9 (bndL (fun v=>D v m) (fun v=>D m v) (k+1)) (X++obl (.slice p9 (k+1) q9)) (.slice p9 (k+1) q9)):=by
    rw[HS.out];have h:=j.push (p:=p9) (q:=q9) (b:=(-x,y)) r G9;rw[f]at h;exact h
   clear r G9 a3 t9 u0 l0 p0 h2;go_wp2_with fail
   go_roundw
   case rel=>exact⟨k+1,_,by omega,by go_num,bh⟩
   case measure=>simp[intOf];omega
  ·have a2:k=m:=by omega
   have dl:decide ((k:Int)+1 < (N:Int))=false:=decide_eq_false (by have:=HN.out;omega)
   have ba:Hid (ag BndR 2 wr (.slice ja k jc) (bndL (fun v=>D v m) (fun v=>D m v) m)):=by
    have h:=j.out.gr.row (by rw[cO];omega);rw[cO]at h;rw[a2]at h ⊢;exact h
   have KE:=hid (K8.trans j.kb);clear a2;go_wp2_with fail
   go_ret2
   refine⟨KE.out,Or.inr ⟨by trivial,o,ah.out,by rw[HM.out];exact J,u.out,E.out.1,E.out.2,Or.inl ⟨_,(fun v=>D m v),(fun v=>D v m),rfl,?_,?_,?_⟩⟩⟩
   ·rw[HM.out,HN.out,V.out];exact ac.out.1
   ·rw[HM.out,HN.out,V.out];exact ac.out.2
   ·rw[HM.out];exact ba.out
end Go.Proofs.YtcidfldeiklcjaaGreatDoor
