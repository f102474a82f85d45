import Derived.Test.YtcidfldeiklcjaaGreatDoorPub
set_option maxRecDepth 100000
set_option maxHeartbeats 32000000
namespace Go.Proofs.YtcidfldeiklcjaaGreatDoor
open Go.RowKit
open Lib(hid)
theorem jI{w:World}{g:Nat}{T:TypeId}{cs:List Value}(h:Blk w g T cs.toArray)(hn:cs.length<=maxLen):w.ownsRow g T 1 (.slice (some ⟨g,0,none⟩) cs.length cs.length) cs.length cs := ⟨by simp,Or.inr ⟨g,cs.length,cs.toArray,rfl,Nat.le_refl _,h,Nat.le_refl _,hn,by simp,by simp⟩⟩
theorem Kept.join{S T:List Nat}{w w' w'':World}(h:Kept S w w')(k:Kept T w' w'')(hT:∀z∈T,z < w.heap.size->z∈S):Kept S w w'' := ⟨k.os.trans h.os,k.tape.trans h.tape,k.output.trans h.output,Nat.le_trans h.size k.size,
  fun i hi hS=>(k.block i (Nat.lt_of_lt_of_le hi h.size) (fun hm=>hS (hT i hm hi))).trans (h.block i hi hS)⟩
def pubL(s:Stp)(keys:List Int):List Int:=keys.map (pubN s)
def PbE(L:List Int)(w:World)(e:Ending)(w':World):Prop:=∃a c,e=.returned (.slice a L.length c)/\Row w' 1 (.slice a L.length c) L.length (ints L)/\Kept [] w w'
theorem pR(vs vk:Value)(s:Stp)(keys:List Int)(w:World)(hs:StpV w vs s)(hk:Row w 1 vk keys.length (ints keys))(hki:∀x∈keys,Wire.I64 x)(hl:keys.length<=1000)(hE:Env2 w) :
  Calls Tryz.prog 8 #[vs,vk] w (PbE (pubL s keys) w):=by
 have hs':=hs;obtain⟨⟨E,D,rfl,q⟩,ip,iq,ig,ib,il⟩:=hs';obtain⟨ka,kc,rfl,_,_⟩:=hk.form;obtain⟨W,n⟩:=nm ((w.alloc (.cells (stpA s (.slice E s.bases.length D)) 26)).alloc (.cells #[] 3));have m:=bp n;have l:=bz n;have f:=kb (S:=[]) n
 have t:W.heap.size=w.heap.size+2:=by rw[<-n];simp
 have PU:Hid (∀x,Wire.I64 x->∀w',Kept [w.heap.size+1] W w'->Calls Tryz.prog 23 #[.agg #[s.P,s.Q,s.G,.slice E s.bases.length D,s.blind],x] w' fun e w2=>e=.returned (.int .i64 (pubN s x))/\Kept [] w' w2):=fun x I w' k =>
  rm _ s x w' (hs.kept (f.fresh k (by simp))) I (hE.kept0 (f.fresh k (by simp)))
 have S0:Hid (∀w',Kept [w.heap.size+1] W w'->w'.cell? ⟨w.heap.size,0,none⟩=some (.int .i64 s.P)):=fun w' k=>(m.kept k (by simp)).cell 0;have S1:Hid (∀w',Kept [w.heap.size+1] W w'->w'.cell? ⟨w.heap.size,1,none⟩=some (.int .i64 s.Q)):=fun w' k=>(m.kept k (by simp)).cell 1;have S2:Hid (∀w',Kept [w.heap.size+1] W w'->w'.cell? ⟨w.heap.size,2,none⟩=some (.int .i64 s.G)):=fun w' k=>(m.kept k (by simp)).cell 2;have S3:Hid (∀w',Kept [w.heap.size+1] W w'->w'.cell? ⟨w.heap.size,3,none⟩=some (.slice E s.bases.length D)):=fun w' k=>(m.kept k (by simp)).cell 3;have S4:Hid (∀w',Kept [w.heap.size+1] W w'->w'.cell? ⟨w.heap.size,4,none⟩=some (.int .i64 s.blind)):=fun w' k=>(m.kept k (by simp)).cell 4;have T:=hid (jI (cs:=[]) l (by simp));have B:=hid fun(w':World) (k:Kept [w.heap.size+1] W w')=>hk.kept (f.fresh k (by simp));have HW:=hid n;have V:=hid f;have A:=hid t;have X:=hid hki;obtain⟨L,C⟩:=nm (pubL s keys);have HL:=hid C
 have u:L.length=keys.length:=by rw[<-C];simp[pubL]
 rw[C];clear n m l q f hs hE ib hk hki C t
 show Calls _ _ #[.agg #[s.P,s.Q,s.G,.slice E s.bases.length D,s.blind],_] _ _
 go_enter Tryz.func8,Tryz.ntmps8
 go_upto_region 2 with(fail)
 erw[HW.out]
 have wk:IntKind.i64.wrap (keys.length:Int)=(keys.length:Int):=by rw[IntKind.wrap_i64];omega
 go_wp2_with fail
 go_loopw [5,6] (fun vj vi wr=>∃(k:Nat) (a:Option Addr) (c:Nat),k<=keys.length/\vi=k/\vj=.slice a k c/\Hid (wr.ownsRow (w.heap.size+1) 3 1 (.slice a k c) k (ints (L.take k)))/\Hid (Kept [w.heap.size+1] W wr)) (fun _ vi _=>keys.length - (intOf vi).toNat)
 case atStart=>exact⟨0,_,_,by omega,rfl,rfl,T,hid kr⟩
 case round =>
  obtain⟨k,a,c,a2,rfl,rfl,U,F⟩:=hrel
  by_cases hkn:k < keys.length
  ·obtain⟨kb,ko,rfl,g⟩:=(B.out wr F.out).at_ (by omega);have j:=ak U;have a1:=F.size;have o:=g k _ (aL hkn);have M:=World.block_lt_of_cell? _ _ o;have b:=fun(w':World) (kk:Kept (obl (.slice a k c)) wr w')=>F.out.join kk (fun z l hlt=>by have:=(j z l).1;have v:=A.out;rw[List.mem_singleton];omega);have s0:=fun(w':World) (kk:Kept (obl (.slice a k c)) wr w')=>S0.out w' (b w' kk);have s1:=fun(w':World) (kk:Kept (obl (.slice a k c)) wr w')=>S1.out w' (b w' kk);have s2:=fun(w':World) (kk:Kept (obl (.slice a k c)) wr w')=>S2.out w' (b w' kk);have s3:=fun(w':World) (kk:Kept (obl (.slice a k c)) wr w')=>S3.out w' (b w' kk);have s4:=fun(w':World) (kk:Kept (obl (.slice a k c)) wr w')=>S4.out w' (b w' kk)
   have x0:∀w',Kept (obl (.slice a k c)) wr w'->w'.cell? ⟨kb,ko+k,none⟩=some (.int .i64 keys[k]):=fun w' kk=>by
    obtain⟨kb',ko',N,hc'⟩:=(B.out w' (b w' kk)).at_ (by omega);injection N with N;injection N with O v _;subst O v;exact hc' k _ (aL hkn)
   have R:=hid (fun w' (kk:Kept [] wr w')=>PU.out keys[k] (X.out _ (List.getElem_mem hkn)) w' (b w' (kk.mono (by simp))))
   have Z:Hid (L.take (k+1)=L.take k++[pubN s keys[k]]):=by
    show _=_
    rw[List.take_succ_eq_append_getElem (by omega)]
    have O:L[k]=pubN s keys[k]:=by
     have v:=HL.out
     unfold pubL at v
     subst v;rw[List.getElem_map]
    rw[O]
   have a0:Hid (∀z∈obl (.slice a k c),w.heap.size+1<=z):=fun z l=>(j z l).1;have Y:=hid b
   generalize I:keys[k]=x at x0 R Z
   generalize hy:pubN s x=y at R Z
   have a4:(0:Int)<=(k:Int):=by omega
   have a3:(k:Int) < (keys.length:Int):=by omega
   have p:w.heap.size+1<=wr.heap.size:=by have:=A.out;omega
   clear I hy b g o M j;go_upto_region 5 with(fail)
   go_region_held3 (fun w'=>Kept (obl (.slice a k c)) wr w') (repeat (first|(with_reducible assumption)|(with_reducible exact kr)|(with_reducible refine Kept.drew ?_)|(with_reducible refine Kept.alloc ?_ _)|(with_reducible refine Kept.trans ?_ (i.mono (by simp)))|(refine Kept.trans ?_ r)))
    (first
     |(go_at_call 23;refine(R.out _ (by(repeat (first|(with_reducible assumption)|(with_reducible exact kr)|(with_reducible refine Kept.drew ?_)|(with_reducible refine Kept.alloc ?_ _)|(with_reducible refine Kept.trans ?_ i))))).mono ?_;rintro e wC ⟨rfl,i⟩)
     |(refine cT rfl _ _ rfl (w.heap.size+1) (.slice a k c) k (L.take k) rfl (af U.out (S:=[]) (by(repeat (first|(with_reducible assumption)|(with_reducible exact kr)|(with_reducible refine Kept.drew ?_)|(with_reducible refine Kept.alloc ?_ _)|(with_reducible refine Kept.trans ?_ i)))) (by simp)) _ 1 [y] rfl (aH (cs:=ints [y]) (Blk.new _ _ _) rfl (by decide)) (by omega) (Nat.le_trans p (Kept.size (S:=[]) (w:=wr) (by(repeat (first|(with_reducible assumption)|(with_reducible exact kr)|(with_reducible refine Kept.drew ?_)|(with_reducible refine Kept.alloc ?_ _)|(with_reducible refine Kept.trans ?_ i)))))) ?_;intro a' c' wE d r J)
     |fail)
   rename_i h
   have OE:Hid (wE.ownsRow (w.heap.size+1) 3 1 (.slice a' (k+1) c') (k+1) (ints (L.take (k+1)))):=by
    rw[Z.out];exact d
   have KN:=hid (Y wE h);clear s0 s1 s2 s3 s4 x0 h d r J;go_wp2_with fail
   go_roundw
   case rel=>exact⟨k+1,a',c',by omega,by go_num,rfl,OE,KN⟩
   case measure=>simp[intOf];omega
  ·obtain rfl:k=keys.length:=by omega
   have RE:Hid (Row wr 1 (.slice a keys.length c) keys.length (ints L)):=by
    have:=U.out;rw[List.take_of_length_le (by omega)]at this;exact Row.of_own this (by omega)
   have KE:Hid (Kept [] w wr):=V.out.fresh F.out (by simp);go_wp2_with fail;go_ret;exact⟨a,c,by rw[u];rfl,by rw[u];exact RE.out,KE.out⟩
open Bf Tm
def GraR(n:Nat)(w:World)(c:List Value)(M:Gf):Prop:=∃v,c=[v]/\MatV w v n M
theorem GraR.kept{n:Nat}{w w':World}{c:List Value}{M:Gf}(h:GraR n w c M)(k:Kept [] w w'):GraR n w' c M:=by obtain⟨v,h1,h2⟩:=h;exact⟨v,h1,h2.kept k⟩
theorem gJ{G:Gf}{n k:Nat}{M:Gf}(hg:GBd n G)(hM:Back G n k M)(hk:k<=20){a b:Nat}(ha:a < n)(hb:b < n):M a b=1152921504606846976\/(-274877906944<=M a b/\M a b<=274877906944):=by
 rcases hM a b ha hb with⟨h1,_⟩|⟨_,⟨l,h1,h2,h3⟩,_⟩
 ·exact Or.inl h1
 ·have:=fi hg l h1.lt h1.steps
  right
  omega
def CycE(G:Gf)(n k first:Nat)(w:World)(e:Ending)(w':World):Prop:=∃(o:List Nat) (at_:Nat) (sum:Int) (a:Option Addr) (c:Nat),e=.returned (.slice a o.length c)/\Row w' 1 (.slice a o.length c) o.length (ints (natI o))/\Path G n k first o at_ sum 0/\Kept [] w w'
theorem uz(vg vb:Value)(n first kk:Nat)(G:Gf)(Ms:List Gf)(w:World)(hg:MatV w vg n G)(hb:ag (GraR n) 1 w vb Ms)(hM:∀k (hk:k < Ms.length),Back G n k Ms[k])(hl:Ms.length=kk+1)(hkk:1<=kk)(hkn:kk<=20)(hf:first < n)(hn:n<=16)(hgb:GBd n G)
  (hneg:Neg G n kk first) (hmin:∀x,x < first->¬Neg G n kk x) :
  Calls Tryz.prog 34 #[vg,vb,first] w (CycE G n kk first w):=by
 obtain⟨gb,gc,rb,cp,rfl,c7,hm⟩:=hg;obtain⟨ba,bc,rfl,ap,av⟩:=ag.form hb;have HM:=hid hm;have HB:=hid hb;have b7:=hid hM;have X:=hid hgb;have b4:=hid (lI hkk hf hneg hmin);have HL:=hid hl;rw[hl]at ap av ⊢
 unfold CycE
 clear hm hb hM hgb hneg hmin hl
 go_enter Tryz.func34,Tryz.ntmps34
 go_wp2_with fail;have b6:Hid ((w.alloc (.cells #[first] 3)).ownsRow w.heap.size 3 1 (.slice (some ⟨w.heap.size,0,none⟩) 1 1) 1 (ints (natI [first]))):=jI (cs:=[first]) (Blk.new _ _ _) (show 1<=maxLen by decide);have bd:Hid (Kept [] w (w.alloc (.cells #[first] 3))):=kr.alloc _
 go_loopw [7,8,9,10,11] (fun vo vat vsum vl _ wr=>∃(o:List Nat) (at_:Nat) (e:Int) (d:Nat) (a:Option Addr) (c:Nat),vo=.slice a o.length c/\vat=at_/\vsum=e/\vl=d/\d+1<=kk/\Hid (Path G n kk first o at_ e d)/\Hid (wr.ownsRow w.heap.size 3 1 (.slice a o.length c) o.length (ints (natI o)))/\Hid (Kept [] w wr)) (fun _ _ _ vl _ _=>(intOf vl).toNat)
 case atStart=>exact⟨[first],first,0,kk - 1,_,_,rfl,rfl,rfl,by congr 1;omega,by omega,b4,b6,bd⟩
 case round =>
  obtain⟨o,at_,e,d,a,c,rfl,rfl,rfl,rfl,c6,J,HO,HK⟩:=hrel
  rcases Nat.eq_zero_or_pos d with rfl|c5
  ·have HR:Hid (Row wr 1 (.slice a o.length c) o.length (ints (natI o))):=Row.of_own HO.out (by have:=J.out.len;omega);go_wp2_with fail;go_ret;exact⟨o,at_,e,a,c,rfl,HR,J,HK⟩
  ·obtain⟨d,rfl⟩:∃q,d=q+1:=⟨d - 1,by omega⟩;have ah:=J.len
   have a6:at_ < n:=by
    obtain⟨l,h1,_,_⟩:=J.goes;exact h1.lt _ (List.mem_of_mem_head? h1.head)
   have a2:d+1 < Ms.length:=by have:=HL.out;omega
   have N:Hid (Back G n (d+1) Ms[d+1]):=b7 (d+1) a2;have ac:=hid (mY J N hf);have Z:=fi X o J.walk.lt J.walk.steps;rw[J.out.wt]at Z
   have bt:-171798691840<=e/\e<=171798691840:=by omega
   obtain⟨bb,bo,bv,ao,r,vm,O,am⟩:=(HB).one (d+1) a2;injection O with O _;subst O;subst ao;obtain⟨mb,mc,bq,bs,rfl,c4,f⟩:=am;have a9:=hid f;have bk:=hid r
   generalize b0:Ms[d+1]=M at a9 N ac
   clear Z r f b0;go_wp2_with fail
   go_loopw [11] (fun vb wr2=>∃b:Nat,b<=n/\vb=b/\Hid (∀x,x < b->¬Cond G M first at_ e x)/\Hid (Kept [] wr wr2)) (fun vb _=>n - (intOf vb).toNat)
   case atStart=>exact⟨0,by omega,rfl,fun x hx=>by omega,kr⟩
   case round =>
    obtain⟨b,hbn',rfl,V,E⟩:=hrel
    have s:b < n:=by
     rcases Nat.lt_or_ge b n with h|h
     ·exact h
     ·obtain⟨x,hx,B⟩:=ac.out;exact absurd B (V.out x (by omega))
    have D:=hid (HK.trans E);obtain⟨ca,t,i⟩:=HM.out at_ a6;have g0:=Kept.cellOf t _ D;have g1:=Kept.cellOf (i b s) _ D;have m0:=Kept.cellOf bk _ D;obtain⟨c0,y,f⟩:=a9 b s;have m1:=Kept.cellOf y _ D;have m2:=Kept.cellOf (f first hf) _ D;have Q:=X.out at_ b a6 s;have ad:=gJ X.out N.out (by omega) s hf;have bh:=hid t;have ab:=hid (i b s);have T:Hid (Cond G M first at_ e b->Path G n kk first (o++[b]) b (e+G at_ b) d):=fun B=>mX J N hf s B V
    have L:Hid (¬Cond G M first at_ e b->∀x,x < b+1->¬Cond G M first at_ e x):=fun B x hx=>by
     rcases Nat.lt_or_ge x b with h|h
     ·exact V x h
     ·obtain rfl:x=b:=by omega
      exact B
    have j:Hid (Cond G M first at_ e b↔(G at_ b < 1152921504606846976/\M b first < 1152921504606846976/\e+G at_ b+M b first < 0)):=Iff.rfl
    generalize b1:Cond G M first at_ e b=CN at T L j
    obtain⟨g,a3⟩:=nm (G at_ b);obtain⟨p,a0⟩:=nm (M b first);rw[a3]at g1 Q T j ab;rw[a0]at m2 ad j;have b2:g=1152921504606846976\/(-8589934592<=g/\g<=8589934592):=Q;have GS:=hid b2;clear t i y f a3 a0 b1 Q
    by_cases c1:g < 1152921504606846976
    ·have d1:decide (1152921504606846976<=g)=false:=by simpa using c1
     have c9:-8589934592<=g/\g<=8589934592:=by omega
     by_cases c2:p < 1152921504606846976
     ·have d2:decide (1152921504606846976<=p)=false:=by simpa using c2
      have bx:-274877906944<=p/\p<=274877906944:=by omega
      have w1:IntKind.i64.wrap (e+g)=e+g:=by rw[IntKind.wrap_i64];omega
      have w2:IntKind.i64.wrap (e+g+p)=e+g+p:=by rw[IntKind.wrap_i64];omega
      by_cases c3:e+g+p < 0
      ·have d3:decide (0<=e+g+p)=false:=by simp;omega
       have b3:=hid (T (j.2 ⟨c1,c2,c3⟩));go_wp2_with fail
       go_quiet (fail)
       clear d1 d2 d3 g0 g1 m0 m1 m2 w2;go_upto_region 8 with(fail);obtain⟨R,P⟩:=nm (wr.drewN nq);rw[P];have k8:Kept [] _ R:=P▸E.out.drewN nq;have U:=hid (af HO.out k8 (by simp));have A:=HK.trans k8;have a4:=ak HO;have I:∀w',Kept (obl (.slice a o.length c)) R w'->Kept [] w w':=fun w' kk=>A.fresh kk (fun z hz=>(a4 z hz).1);have aa:=hid I;have e0:∀w',Kept (obl (.slice a o.length c)) R w'->w'.cell? ⟨gb,at_,none⟩=some (.slice (some ⟨rb at_,0,none⟩) n (cp at_)):=fun w' kk=>Kept.cellOf bh _ (I w' kk);have e1:∀w',Kept (obl (.slice a o.length c)) R w'->w'.cell? ⟨rb at_,b,none⟩=some (.int .i64 g):=fun w' kk=>Kept.cellOf ab _ (I w' kk)
       have bm:(0:Int)<=(at_:Int):=by omega
       have bl:(at_:Int) < (n:Int):=by omega
       have cc:(0:Int)<=(b:Int):=by omega
       have cb:(b:Int) < (n:Int):=by omega
       have Y:w.heap.size<=R.heap.size:=A.size;have a7:=hid (nh o b);have a1:=eH o;obtain⟨ol,m⟩:=nm o.length;have b5:=hid m;rw[m]at U e0 e1 aa a1 ah;rw[m]
       generalize al:natI o=no at U a7 a1
       clear P k8 A a4 I m al
       go_region_held3 (fun w'=>Kept (obl (.slice a ol c)) R w') (repeat (first|(with_reducible assumption)|(with_reducible exact kr)|(with_reducible refine Kept.drew ?_)|(with_reducible refine Kept.alloc ?_ _)|(refine Kept.trans ?_ a5)))
        (first
         |(refine cT rfl _ _ rfl w.heap.size (.slice a ol c) ol no rfl (af U.out (S:=[]) (by(repeat (first|(with_reducible assumption)|(with_reducible exact kr)|(with_reducible refine Kept.drew ?_)|(with_reducible refine Kept.alloc ?_ _)))) (by simp)) _ 1 [(b:Int)] rfl (aH (cs:=ints [(b:Int)]) (Blk.new _ _ _) rfl (by decide)) (by omega) (Nat.le_trans Y (Kept.size (S:=[]) (w:=R) (by(repeat (first|(with_reducible assumption)|(with_reducible exact kr)|(with_reducible refine Kept.drew ?_)|(with_reducible refine Kept.alloc ?_ _)))))) ?_;intro a' c' wE u a5 an)
         |fail)
       rename_i C
       have v:(o++[b]).length=ol+1:=by rw[List.length_append,b5.out];rfl
       have OE:Hid (wE.ownsRow w.heap.size 3 1 (.slice a' (o++[b]).length c') (o++[b]).length (ints (natI (o++[b])))):=by
        rw[a7.out,v];exact u
       have KN:=hid (aa wE C);have b9:=hid v;clear e0 e1 C u a5 an v;go_wp2_with fail
       go_roundw
       case rel=>exact⟨o++[b],b,e+g,d,a',c',by rw[b9.out],rfl,rfl,by first|rfl|go_num,by omega,b3,OE,KN⟩
       case measure=>simp[intOf]
      ·have d3:decide (0<=e+g+p)=true:=by simp;omega
       have F:=hid (L fun B=>c3 (j.1 B).2.2);go_wp2_with fail
       go_quiet (fail)
       go_wp2_with fail
       go_roundw
       case rel=>exact⟨b+1,by omega,by go_num,F,E.out.drewN _⟩
       case measure=>simp[intOf];omega
     ·have d2:decide (1152921504606846976<=p)=true:=by simp;omega
      have F:=hid (L fun B=>c2 (j.1 B).2.1);go_wp2_with fail
      go_quiet (fail)
      go_wp2_with fail
      go_roundw
      case rel=>exact⟨b+1,by omega,by go_num,F,E.out.drewN _⟩
      case measure=>simp[intOf];omega
    ·have d1:decide (1152921504606846976<=g)=true:=by simp;omega
     have F:=hid (L fun B=>c1 (j.1 B).1);go_wp2_with fail
     go_quiet (fail)
     go_wp2_with fail
     go_roundw
     case rel=>exact⟨b+1,by omega,by go_num,F,E.out.drewN _⟩
     case measure=>simp[intOf];omega
end Go.Proofs.YtcidfldeiklcjaaGreatDoor
namespace Go.Proofs.YtcidfldeiklcjaaGreatDoor
open Go.RowKit Tm Bf
structure PreM (w:World) (B gb n:Nat) (rb:Nat->Nat) (k:Nat) (M:Gf):Prop where
 g:Blk w gb 24 (gC n rb k).toArray
 row:∀a,a < k->aZ w (rb a) n (M a)
 inj:∀a b,a < k->b < k->rb a=rb b->a=b
 ne:∀a,a < k->rb a≠gb
 ge:∀a,a < k->B<=rb a
section
variable {w w':World} {B gb n k:Nat} {rb:Nat->Nat} {M:Gf}
theorem PreM.kept(h:PreM w B gb n rb k M)(kk:Kept [] w w'):PreM w' B gb n rb k M := ⟨h.g.kept kk (by simp),fun a ha=>(h.row a ha).kept kk (by simp),h.inj,h.ne,h.ge⟩
theorem PreM.gcell(h:PreM w B gb n rb k M){a:Nat}(ha:a < k)(hk:k<=n):w.cell? ⟨gb,a,none⟩=some (.slice (some ⟨rb a,0,none⟩) n n):=by
 rw[h.g.cell a,List.getElem?_toArray,fd (by omega),if_pos ha]
theorem PreM.done(h:PreM w B gb n rb n M):MatW w B gb n rb M := ⟨h.row,fun _ ha=>h.gcell ha (Nat.le_refl _),h.inj,h.ne,h.ge⟩
theorem PreM.congr{H:Gf}(h:PreM w B gb n rb k M)(e:∀a b,a < k->b < n->M a b=H a b):PreM w B gb n rb k H := ⟨h.g,fun a ha=>by have:=h.row a ha;unfold aZ at this ⊢;rw[<-cX (e a · ha)];exact this,h.inj,h.ne,h.ge⟩
theorem PreM.next{b:Nat}(h:PreM w B gb n rb k M)(hk:k < n)(hB:B<=w.heap.size)(hb:w.heap.size<=b)(k1:Kept [] w w')(ho:aZ w' b n fun _=>far) :
  PreM (w'.setCell ⟨gb,k,none⟩ (.slice (some ⟨b,0,none⟩) n n)) B gb n (fun a=>if a=k then b else rb a) (k+1) (fun a=>if a=k then fun _=>far else M a):=by
 have f:=h.g.lt;have d:∀a,a < k->rb a < w.heap.size:=fun a ha=>(h.row a ha).lt;refine⟨?_,fun a ha=>?_,fun a c ha hc e=>?_,fun a ha=>?_,fun a ha=>?_⟩
 ·have:=(h.g.kept k1 (by simp)).set_ k (.slice (some ⟨b,0,none⟩) n n);rw[wT hk]at this;exact this
 ·by_cases e:a=k
  ·subst e;simp only[if_true];exact Blk.far ho (p:=⟨gb,a,none⟩) (by simp;omega) _
  ·simp only[if_neg e];exact Blk.far ((h.row a (by omega)).kept k1 (by simp)) (p:=⟨gb,k,none⟩) (h.ne a (by omega)) _
 ·by_cases e1:a=k <;> by_cases e2:c=k
  ·omega
  ·simp only[if_pos e1,if_neg e2]at e;have:=d c (by omega);omega
  ·simp only[if_neg e1,if_pos e2]at e;have:=d a (by omega);omega
  ·simp only[if_neg e1,if_neg e2]at e;exact h.inj a c (by omega) (by omega) e
 ·by_cases e:a=k
  ·simp only[if_pos e];omega
  ·simp only[if_neg e];exact h.ne a (by omega)
 ·by_cases e:a=k
  ·simp only[if_pos e];omega
  ·simp only[if_neg e];exact h.ge a (by omega)
theorem PreM.set_(h:PreM w B gb n rb k M){a b:Nat}(ha:a < k)(hb:b < n)(x:Int):PreM (w.setCell ⟨rb a,b,none⟩ x) B gb n rb k fun i j=>if i=a/\j=b then x else M i j:=by
 refine⟨h.g.far (p:=⟨rb a,b,none⟩) (fun e=>h.ne a ha e.symm) _,fun i hi=>?_,h.inj,h.ne,h.ge⟩
 by_cases e:i=a
 ·subst e;have:=(h.row i hi).set_ hb x
  unfold aZ at this ⊢
  rw[cX (p:=upd (M i) b x) (fun v _=>by simp[upd])];exact this
 ·have h1:=h.row i hi;have h2:Blk w (rb i) 3 (outC n (M i)).toArray:=h1;have h3:=h2.far (p:=⟨rb a,b,none⟩) (fun e1=>e (h.inj i a hi ha e1)) x
  unfold aZ
  rw[cX (p:=M i) (fun v _=>by simp[e])];exact h3
theorem PreM.start(h:Blk w gb 24 (List.replicate n (Value.slice none 0 0)).toArray):PreM w B gb n (fun _=>0) 0 M:=by
 rw[sO _ fun _=>0]at h;exact⟨h,fun a ha=>by omega,fun a b ha=>by omega,fun a ha=>by omega,fun a ha=>by omega⟩
end
theorem MatW.stable{w:World}{B gb n:Nat}{rb:Nat->Nat}{M:Gf}{X:List Nat}(h:MatW w B gb n rb M)(hg:gb∉X)(hr:∀a,a < n->rb a∉X):ae X (fun w=>GraR n w [.slice (some ⟨gb,0,none⟩) n n] M) w:=fun S w' k hS=>by
 refine⟨_,rfl,gb,n,rb,fun _=>n,rfl,Nat.le_refl _,fun a ha=>⟨Nat.le_refl _,?_,fun b hb=>?_⟩⟩
 ·have hgl:=World.block_lt_of_cell? _ _ (h.gcell a ha);exact(k.cell (p:=⟨gb,a,none⟩) hgl (fun hm=>hg (hS _ hm hgl))).trans (h.gcell a ha)
 ·have hgl:=(h.row a ha).lt;exact((h.row a ha).kept k (fun hm=>hr a ha (hS _ hm hgl))).cell hb
def NRow(G:Gf)(n q:Nat)(M:Gf)(a m b:Nat):Prop:=∀j,j < n->iW G n q a j (if j < b then m+1 else m) (M a j)
structure NxW (w0 wr:World) (G:Gf) (n q gb:Nat) (rb:Nat->Nat) (M:Gf) (a m b:Nat):Prop where
 pre:PreM wr w0.heap.size gb n rb (a+1) M
 row:NRow G n q M a m b
 done:∀i,i < a->∀j,j < n->iW G n q i j n (M i j)
 kept:Kept [] w0 wr
structure NxA (w0 wr:World) (G:Gf) (n q gb:Nat) (rb:Nat->Nat) (M:Gf) (a:Nat):Prop where
 pre:PreM wr w0.heap.size gb n rb a M
 done:∀i,i < a->∀j,j < n->iW G n q i j n (M i j)
 kept:Kept [] w0 wr
section
variable {w0 wr w':World} {G:Gf} {n q gb:Nat} {rb:Nat->Nat} {M:Gf} {a m b:Nat} {P:Gf}
theorem NxW.drew(h:NxW w0 wr G n q gb rb M a m b):NxW w0 wr.drew G n q gb rb M a m b:=⟨h.pre.kept kr.drew,h.row,h.done,h.kept.drew⟩
theorem NxW.skip(h:NxW w0 wr G n q gb rb M a m b)(hP:Back G n q P)(hm:m < n)(hb:b < n)(hs:far<=G a m\/far<=P m b):NxW w0 wr G n q gb rb M a m (b+1) := ⟨h.pre,fun j hj=>by
  have hr:=h.row j hj
  by_cases e:j=b
  ·subst e;rw[if_neg (by omega)]at hr;rw[if_pos (by omega)];exact tR hP hm hj hr hs
  ·by_cases e2:j < b
   ·rw[if_pos e2]at hr;rw[if_pos (by omega)];exact hr
   ·rw[if_neg e2]at hr;rw[if_neg (by omega)];exact hr,h.done,h.kept⟩
theorem NxW.take(h:NxW w0 wr G n q gb rb M a m b)(hP:Back G n q P)(ha:a < n)(hm:m < n)(hb:b < n)(h1:G a m < far)(h2:P m b < far)(hsum:G a m+P m b < far){x:Int}(hx:x=min (M a b) (G a m+P m b)) :
  NxW w0 (wr.setCell ⟨rb a,b,none⟩ x) G n q gb rb (fun i j=>if i=a/\j=b then x else M i j) a m (b+1) := ⟨h.pre.set_ (by omega) hb x,fun j hj=>by
  have hr:=h.row j hj;simp only[true_and]
  by_cases e:j=b
  ·subst e;rw[if_neg (by omega)]at hr;rw[if_pos (by omega),if_pos rfl,hx];exact tQ hP ha hm hj hr h1 h2 hsum
  ·rw[if_neg e]
   by_cases e2:j < b
   ·rw[if_pos e2]at hr;rw[if_pos (by omega)];exact hr
   ·rw[if_neg e2]at hr;rw[if_neg (by omega)];exact hr,fun i hi j hj=>by
  rw[if_neg (by omega)];exact h.done i hi j hj,h.kept.setCell (Or.inr (h.pre.ge a (by omega))) _⟩
theorem NxW.col(h:NxW w0 wr G n q gb rb M a m n):NxW w0 wr G n q gb rb M a (m+1) 0 := ⟨h.pre,fun j hj=>by have:=h.row j hj;rw[if_pos hj]at this;simpa using this,h.done,h.kept⟩
theorem NxW.fin(h:NxW w0 wr G n q gb rb M a n 0):NxA w0 wr G n q gb rb M (a+1) := ⟨h.pre,fun i hi j hj=>by
  by_cases e:i=a
  ·subst e;have:=h.row j hj;simpa using this
  ·exact h.done i (by omega) j hj,h.kept⟩
theorem NxA.go{b:Nat}(h:NxA w0 wr G n q gb rb M a)(ha:a < n)(hgb:w0.heap.size<=gb)(hb:wr.heap.size<=b)(k1:Kept [] wr w')(ho:aZ w' b n fun _=>far) :
  NxW w0 (w'.setCell ⟨gb,a,none⟩ (.slice (some ⟨b,0,none⟩) n n)) G n q gb (fun i=>if i=a then b else rb i) (fun i=>if i=a then fun _=>far else M i) a 0 0 := ⟨h.pre.next ha h.kept.size hb k1 ho,fun j hj=>by simpa using rA (g:=G) (n:=n) q a j,fun i hi j hj=>by rw[if_neg (by omega)];exact h.done i hi j hj,(h.kept.trans k1).setCell (Or.inr hgb) _⟩
theorem NxA.back(h:NxA w0 wr G n q gb rb M n):Back G n (q+1) M:=tS fun a b ha hb=>h.done a ha b hb
end
structure CfS (G:Gf) (n:Nat) (Ms:List Gf):Prop where
 back:∀k (hk:k < Ms.length),Back G n k Ms[k]
 no:∀j x,1<=j->j < Ms.length->¬Neg G n j x
theorem yO{G:Gf}{n:Nat}{M:Gf}(h:Back G n 0 M):CfS G n [M]:=by
 refine⟨fun k hk=>?_,fun j x h1 h2=>by simp at h2;omega⟩
 have:k=0:=by simpa using hk
 subst this;exact h
theorem CfS.next{G:Gf}{n:Nat}{Ms:List Gf}{M:Gf}(h:CfS G n Ms)(hM:Back G n Ms.length M):∀k (hk:k < (Ms++[M]).length),Back G n k (Ms++[M])[k]:=fun k hk=>by
 by_cases e:k < Ms.length
 ·rw[List.getElem_append_left e];exact h.back k e
 ·have e2:k=Ms.length:=by simp at hk;omega
  subst e2;rw[List.getElem_append_right (Nat.le_refl _)]
  simpa using hM
theorem CfS.go{G:Gf}{n:Nat}{Ms:List Gf}{M:Gf}(h:CfS G n Ms)(hM:Back G n Ms.length M)(hno:∀a,a < n->¬M a a < 0):CfS G n (Ms++[M]) := ⟨h.next hM,fun j x h1 h2 hn=>by
  by_cases e:j < Ms.length
  ·exact h.no j x h1 e hn
  ·have e2:j=Ms.length:=by simp at h2;omega
   subst e2;obtain⟨l,hw,h3,h4⟩:=hn;have hx:x < n:=hw.lt _ (List.mem_of_mem_head? hw.head)
   exact hno x hx ((iM hM hx).2 ⟨l,hw,h3,h4⟩)⟩
theorem CfS.none{G:Gf}{n:Nat}{Ms:List Gf}(h:CfS G n Ms)(hl:Ms.length=n+1):dV G n [] :=
 Or.inl ⟨rfl,fun j x hj hn=>by
  obtain⟨i,y,h1,h2,h3⟩:=nf hj hn
  exact h.no i y h1 (by omega) h3⟩
theorem CfS.found{G:Gf}{n k first at_:Nat}{Ms:List Gf}{o:List Nat}{sum:Int}(h:CfS G n Ms)(hk:Ms.length=k)(hp:Path G n k first o at_ sum 0):dV G n o:=by
 obtain⟨h1,h2,h3,h4⟩:=pT hp fun j x hj hlt=>h.no j x hj (by omega);exact Or.inr ⟨h2,h3,fun j x hj hlt=>h.no j x hj (by omega),fun d hd he=>h4 d hd (by omega)⟩
end Go.Proofs.YtcidfldeiklcjaaGreatDoor
