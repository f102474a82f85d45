import Derived.Test.YtcidfldeiklcjaaGreatDoorCfp
set_option maxRecDepth 100000
set_option maxHeartbeats 32000000
namespace Go.Proofs.YtcidfldeiklcjaaGreatDoor
open Go.RowKit Tm Bf
open Go.Proofs.Tryz
open Lib(hid)
def ConE(s:Stp)(keys:List Int)(l:List Ent)(dr:Int)(w:World)(e:Ending)(w':World):Prop:=Kept [] w w' /\
 (((aw s&&inB dr 0 1000)=false/\e=.returned ()) \/
  ((aw s&&inB dr 0 1000)=true/\∃o:List Ent,bA (aN s keys) l o/\o.length<=12/\(∀x∈o,WF x)/\0<=dr/\dr<=1000 /\
   ∃(c:List Nat) (a:Option Addr) (cp:Nat),e=.returned (.slice a c.length cp)/\Row w' 1 (.slice a c.length cp) c.length (ints (natI c))/\dV (Gl o dr) (o.length+1) c))
theorem yB:(prog.info? 56).map (fun i=>(i.zero,i.size,i.bytes))=some (some (.slice none 0 0),1,24):=by kernel_rfl
structure BkS (w wr:World) (n:Nat) (l:List Gf) (X:List Nat) (v:Value):Prop where
 gr:Grow (GraR n) 1 56 w.heap.size X wr v l
 vX:∀z∈obl v,z∈X
 hX:∀z∈X,z < wr.heap.size
 kb:Kept [] w wr
theorem BkS.keep{w wr w':World}{n:Nat}{l:List Gf}{X:List Nat}{v:Value}(h:BkS w wr n l X v)(k:Kept [] wr w'):BkS w w' n l X v := ⟨h.gr.step k (by simp) (by simp) (fun z hz=>Or.inl hz),h.vX,fun z hz=>Nat.lt_of_lt_of_le (h.hX z hz) k.size,h.kb.trans k⟩
theorem BkS.push{w wr wu:World}{n:Nat}{l:List Gf}{X:List Nat}{v:Value}{b:Gf}{p:Option Addr}{q:Nat}(h:BkS w wr n l X v)(k1:Kept (obl v) wr wu)
  (G:Grow (GraR n) 1 56 w.heap.size (X++obl (.slice p (l.length+1) q)) wu (.slice p (l.length+1) q) (l++[b])):BkS w wu n (l++[b]) (X++obl (.slice p (l.length+1) q)) (.slice p (l.length+1) q) := ⟨G,fun z hz=>List.mem_append_right _ hz,fun z hz=>by
  rcases List.mem_append.1 hz with e|e
  ·exact Nat.lt_of_lt_of_le (h.hX z e) k1.size
  ·exact(G.ge z e).2,h.kb.fresh k1 (fun z hz=>(h.gr.ge z hz).1)⟩
def idG:Gf:=fun a b=>if a=b then 0 else far
structure IdW (w wr:World) (n g bb:Nat) (rb:Nat->Nat) (M:Gf) (k:Nat):Prop where
 pre:PreM wr w.heap.size g n rb k M
 box:Blk wr bb 56 #[.slice (some ⟨g,0,none⟩) n n]
 ne:∀a,a < k->rb a≠bb
 val:∀a,a < k->∀b,b < n->M a b=idG a b
 kept:Kept [] w wr
theorem IdW.next{w wr w':World}{n g bb k b:Nat}{rb:Nat->Nat}{M:Gf}(h:IdW w wr n g bb rb M k)(hk:k < n)(hg:w.heap.size<=g)(hgb:g < bb)(hb:wr.heap.size<=b)(k1:Kept [] wr w')(ho:aZ w' b n fun _=>far) :
  IdW w ((w'.setCell ⟨g,k,none⟩ (.slice (some ⟨b,0,none⟩) n n)).setCell ⟨b,k,none⟩ (.int .i64 0)) n g bb (fun a=>if a=k then b else rb a) (fun i j=>if i=k/\j=k then 0 else if i=k then far else M i j) (k+1):=by
 have d:=h.box.lt;have c:=(h.pre.next hk h.kept.size hb k1 ho).set_ (a:=k) (b:=k) (by omega) hk 0;simp only[if_true]at c;refine⟨c.congr fun i j hi hj=>?_,((h.box.kept k1 (by simp)).far (p:=⟨g,k,none⟩) (by simp;omega) _).far (p:=⟨b,k,none⟩) (by simp;omega) _,fun a ha=>?_,fun a ha j hj=>?_,?_⟩
 ·by_cases e:i=k
  ·simp[e]
  ·simp[e]
 ·by_cases e:a=k
  ·simp only[if_pos e];omega
  ·simp only[if_neg e];exact h.ne a (by omega)
 ·unfold idG
  by_cases e:a=k
  ·subst e
   by_cases e2:j=a
   ·subst e2;simp
   ·rw[if_neg (fun h=>e2 h.2),if_pos rfl,if_neg (fun h=>e2 h.symm)]
  ·rw[if_neg (fun h=>e h.1),if_neg e];exact h.val a (by omega) j hj
 ·refine((h.kept.trans k1).setCell (Or.inr hg) _).setCell (Or.inr ?_) _;have:=h.kept.size
  simp only
  omega
theorem pU{w:World}{B g:Nat}{T:TypeId}{cs:List Value}(h:Blk w g T cs.toArray)(hB:B<=g)(hn:cs.length<=maxLen):w.ownsRow B T 1 (.slice (some ⟨g,0,none⟩) cs.length cs.length) cs.length cs := ⟨by simp,Or.inr ⟨g,cs.length,cs.toArray,rfl,hB,h,Nat.le_refl _,hn,by simp,by simp⟩⟩
theorem rZ{G:Gf}{n k:Nat}{M M':Gf}(h:Back G n k M)(e:∀a b,a < n->b < n->M a b=M' a b):Back G n k M':=fun a b ha hb=>by
 have:=h a b ha hb;rw[e a b ha hb]at this;exact this
theorem IdW.back{w wr:World}{n g bb:Nat}{rb:Nat->Nat}{M G:Gf}(h:IdW w wr n g bb rb M n):Back G n 0 M:=rZ nN fun a b ha hb=>(h.val a ha b hb).symm
theorem IdW.bks{w wr:World}{n g bb:Nat}{rb:Nat->Nat}{M:Gf}(h:IdW w wr n g bb rb M n)(hg:w.heap.size<=bb)(hb:g≠bb):BkS w wr n [M] [bb] (.slice (some ⟨bb,0,none⟩) 1 1) := ⟨⟨[[.slice (some ⟨g,0,none⟩) n n]],pU (cs:=[.slice (some ⟨g,0,none⟩) n n]) h.box hg (show 1<=maxLen by decide),
  (h.pre.done.stable (X:=[bb]) (by rw[List.mem_singleton];exact hb) (fun a ha=>by rw[List.mem_singleton];exact h.ne a ha)).imp fun _ hR=>(ep.nil_ _ _ _).snoc rfl hR⟩,
  fun z hz=>by rw[List.mem_singleton];have h:=cZ hz;have h2:some bb=some z:=h;injection h2 with h3;exact h3.symm,fun z hz=>by obtain rfl:=ms hz;exact h.box.lt,h.kept⟩
theorem iJ(vs vk va:Value)(s:Stp)(keys:List Int)(l:List Ent)(dr:Int)(w:World)(hs:StpV w vs s)(hk:Row w 1 vk keys.length (ints keys))(ha:aU w va l)(hl:l.length<=12)(hI:∀e∈l,EntI e)(hki:∀x∈keys,Wire.I64 x)(hE:Env2 w) :
  Calls prog 12 #[vs,vk,va,dr] w (ConE s keys l dr w):=by
 have hs':=hs;obtain⟨⟨ad,cc,rfl,f⟩,ip,iq,ig,ib,il⟩:=hs';obtain⟨aa,ca,rfl,_,_⟩:=ag.form ha;obtain⟨ka,kc,rfl,_,_⟩:=hk.form;obtain⟨W,hW⟩:=nm (w.alloc (.cells (stpA s (.slice ad s.bases.length cc)) 26));have hb:Blk W w.heap.size 26 (stpA s (.slice ad s.bases.length cc)):=hW▸Blk.new _ _ _;have U:Kept [] w W:=hW▸kr.alloc _
 have TM:Hid (Calls prog 25 #[.agg #[s.P,s.Q,s.G,.slice ad s.bases.length cc,s.blind],.slice ka keys.length kc,.slice aa l.length ca,dr] W (TmE s keys l dr W)) :=
  jf _ _ _ s keys l dr W (hs.kept U) (hk.kept U) (ha.kept U) hl hI hki (hE.kept0 U)
 obtain⟨s0,s1,s2,s3,s4⟩:=bc5 hb rfl;have HW:=hid hW;have db:=hid U;obtain⟨i0,hi,cl,cd,cb⟩:=info_parts rH;obtain⟨j0,hj,e1,ds,dn⟩:=info_parts yB;clear hW hb f U hs hk ha hki hE ib hI
 show Calls _ _ #[.agg #[s.P,s.Q,s.G,.slice ad s.bases.length cc,s.blind],_,_,_] _ _
 go_enter func12,ntmps12
 go_upto_region 1 with(fail);have hW':w.alloc (.cells #[s.P,s.Q,s.G,.slice ad s.bases.length cc,s.blind] 26)=W:=HW.out;rw[hW'];clear hW';go_wp2_with (go_at_call 25;with_reducible refine TM.out.mono ?_);rintro e A ⟨k1,⟨cs,rfl⟩|⟨b6,o,gb,d0,e5,bh,c0,bx,rfl,hm⟩⟩
 ·have em:=hid cs;have K1:=hid k1;clear s0 s1 s2 s3 s4 cs k1;go_wp2_with fail;go_ret
  unfold ConE
  exact⟨db.trans K1,Or.inl ⟨em,rfl⟩⟩
 have ba:=hid b6;have K1:=hid (db.trans k1);have dd:=hid d0;have d5:=hid bh;have HD:=hid (And.intro c0 bx);have al:=hid (nz o dr c0 bx bh);have T:MatV A (.slice (some ⟨gb,0,none⟩) (o.length+1) (o.length+1)) (o.length+1) (Gl o dr):=hm;obtain⟨G,hG⟩:=nm (Gl o dr);have de:=hid hG;rw[hG]at T al;obtain⟨N,hn⟩:=nm (o.length+1);have HN:=hid hn
 have gl:1<=N:=by omega
 have f6:N<=13:=by omega
 rw[hn]at T al ⊢;have eq:=hid T;obtain⟨gb',gc',rb,cp,e8,g6,bt⟩:=T;injection e8 with B _ h3;injection B with B;injection B with B;subst B h3;have HM:=hid bt;clear s0 s1 s2 s3 s4 b6 k1 d0 bh c0 bx hm bt hG hn TM e5;go_wp2_with (at_make;refine wpList_make_full _ rfl _ _ 56 rfl A.heap.size 24 i0 () 1 underlying56 hi cl cd _ _ _ _ N rfl rfl ?b0 ?b0' ?b1 ?b2 (Nat.le_refl _) ?_)
 case b0=>rfl
 case b0'=>rfl
 case b1=>rw[cb];omega
 case b2=>unfold maxLen;omega
 intro w2 n a9;rw[show(madeCells #[Value.slice none 0 0] N).toList=_ from iu _ _]at n;have ac:=gW n;have cy:Kept [] A w2:=Kept.of_grown a9 (by simp);obtain⟨bb,c4⟩:=nm w2.heap.size
 have d4:A.heap.size < bb:=by have:=ac.lt;omega
 obtain⟨W3,c5⟩:=nm (w2.alloc (.cells #[.slice (some ⟨A.heap.size,0,none⟩) N N] 56));have bd:Hid (IdW A W3 N A.heap.size bb (fun _=>0) idG 0):=c5▸⟨PreM.start (ac.alloc _),c4▸Blk.new _ _ _,fun a ha=>by omega,fun a ha=>by omega,cy.alloc _⟩;have d6:=hid c5;have dj:=hid c4;clear n a9 ac cy c5 c4;go_upto_region 5 with(fail);have hW':w2.alloc (.cells #[.slice (some ⟨A.heap.size,0,none⟩) N N] 56)=W3:=d6.out;rw[hW',dj.out];clear hW' d6 dj;go_wp2_with fail
 go_loopw [12,37] (fun _ vi wr=>∃(k:Nat) (am:Nat->Nat) (M:Gf),k<=N/\vi=k/\Hid (IdW A wr N A.heap.size bb am M k)) (fun _ vi _=>N - (intOf vi).toNat)
 case atStart=>exact⟨0,_,_,by omega,rfl,bd⟩
 case round =>
  obtain⟨k,am,M,g2,rfl,HI⟩:=hrel
  by_cases hkn:k < N
  ·have g4:(0:Int)<=(k:Int):=by omega
   have g3:(k:Int) < (N:Int):=by omega
   have e0:∀w',Kept [] wr w'->w'.cell? ⟨bb,0,none⟩=some (.slice (some ⟨A.heap.size,0,none⟩) N N):=Kept.cellOf (HI.box.cell 0);go_upto_region 8 with(fail);refine aJ [9] (fun w'=>Kept [] wr w') (by kernel_rfl) kr.drew (fun hH=>?_);refine tk [1,2,8,9] 0 rfl hH ?_;simp only[Act.put,sA,s0_,s1_];refine tk [2,8,9] 1 rfl hH ?_;simp only[Act.put,sA,s0_,s1_];refine tk [8,9] 2 rfl hH ?_;simp only[Act.put,sA,s0_,s1_];refine tk [8,9] 3 rfl hH ?_;simp only[Act.put,sA,s0_,s1_];refine tk [6,7,8,9] 5 rfl hH ?_;simp only[Act.put,sA,s0_,s1_];refine tk [7,8,9] 6 rfl hH ?_;simp only[Act.put,sA,s0_,s1_];refine r1 4 rfl fun K hK=>?_;go_simp;refine hK.out _ _ (((Kept.refl [] wr).drew).alloc _) (fun hH=>?_);clear hK K
   (try simp only[Act.put,sA,s0_,s1_])
   refine r1 7 rfl fun K hK=>?_;go_simp;refine(kg 1152921504606846976 N _ _ _ (by exact Row.lit _ [1152921504606846976] (by simp)) (by omega) (by omega)).mono ?_;rintro e Z ⟨b,rfl,hb,u,a7⟩;have Y:Kept [] wr Z:=(((Kept.refl [] wr).drew).alloc _).trans a7;refine hK.out _ _ Y (fun hH=>?_);clear hK K
   (try simp only[Act.put,sA,s0_,s1_])
   refine tk [9] 8 rfl hH ?_;simp only[Act.put,sA,s0_,s1_];rw[ie]at u;have R:aZ Z b N fun _=>far:=u
   have ap:wr.heap.size<=b:=by
    have h:(wr.drew.alloc (.cells (ints [1152921504606846976]).toArray 3)).heap.size<=b:=hb;rw[World.size_alloc]at h;have h2:wr.heap.size=wr.drew.heap.size:=rfl;omega
   have cg:Z.cell? ⟨A.heap.size,k,none⟩=some ():=Kept.cellOf (by rw[HI.out.pre.g.cell k,List.getElem?_toArray,fd hkn];simp) _ Y;have fg:Z.frozen? ⟨A.heap.size,k,none⟩=false:=(HI.out.pre.g.kept Y (by simp)).frozen k;have bq:=HI.next hkn (Nat.le_refl _) d4 ap Y R;have ao:=HI.pre.next hkn HI.kept.size ap Y R;have c3:=((HI.out.box.kept Y (by simp)).far (p:=⟨A.heap.size,k,none⟩) (by simp;omega) (.slice (some ⟨b,0,none⟩) N N)).cell 0;clear e0 hb u a7;refine r2 9 rfl fun K hK=>?_;go_simp;refine hK.out _ _ ?_;clear hK K
   (try simp only[Act.put,sA,s0_,s1_])
   refine aD (by kernel_rfl) ?_ _;obtain⟨W5,b3⟩:=nm (Z.setCell ⟨A.heap.size,k,none⟩ (.slice (some ⟨b,0,none⟩) N N));rw[b3]at bq ao c3 ⊢;have hbx':W5.cell? ⟨bb,0,none⟩=some (.slice (some ⟨A.heap.size,0,none⟩) N N):=c3;have e9:=ao.gcell (a:=k) (by omega) (by omega);have an:=ao.row k (by omega);simp only[if_true]at e9 an;have gc:=an.cell (v:=k) hkn;have g9:=an.frozen k;have el:=hid bq;clear bq ao c3 cg fg R b3 an Y;go_wp2_with fail
   go_roundw
   case rel=>exact⟨k+1,_,_,by omega,by go_num,el⟩
   case measure=>simp[intOf];omega
  ·obtain rfl:k=N:=by omega
   have d7:=hid (HI.out.bks (by omega) (by omega));have dg:=hid (yO (HI.out.back (G:=G)));clear bd HI;go_wp2_with fail
   go_loopw [11,13] (fun vb vk wr=>∃(r:List Gf) (a:Option Addr) (c:Nat) (X:List Nat),1<=r.length/\r.length<=k+1/\vk=.int .i64 ((r.length:Nat):Int)/\vb=.slice a r.length c/\Hid (CfS G k r)/\Hid (BkS A wr k r X (.slice a r.length c))) (fun _ vk _=>k+1 - (intOf vk).toNat)
   case atStart=>exact⟨[M],_,_,[bb],by simp,by simp,rfl,rfl,dg,d7⟩
   case round =>
    obtain⟨r,a,c,X,e7,e6,rfl,rfl,HC,HB⟩:=hrel;obtain⟨d,e2⟩:∃d,d=wr:=⟨_,rfl⟩;subst e2;obtain⟨q,hq⟩:∃q,r.length=q+1:=⟨r.length - 1,by omega⟩;have HQ:=hid hq;rw[hq]at HB e7 e6 ⊢;clear hq dg d7
    by_cases hqk:q+1<=k
    ·have f4:((q:Int)+1)<=(k:Int):=by omega
     have cx:=HB.kb;have dc:=hid cx;have d8:Hid (ag (GraR k) 1 d (.slice a (q+1) c) r):=HB.out.gr.row (by rw[HQ.out];omega);clear cx;go_wp2_with (at_make;refine wpList_make_full _ rfl _ _ 56 rfl d.heap.size 24 i0 () 1 underlying56 hi cl cd _ _ _ _ k rfl rfl ?b0 ?b0' ?b1 ?b2 (Nat.le_refl _) ?_)
     case b0=>rfl
     case b0'=>rfl
     case b1=>rw[cb];omega
     case b2=>unfold maxLen;omega
     intro w5 n a9;rw[show(madeCells #[Value.slice none 0 0] k).toList=_ from iu _ _]at n;have dk:Hid (NxA d w5 G k q d.heap.size (fun _=>0) idG 0):=⟨PreM.start (gW n),fun i hi=>by omega,Kept.of_grown a9 (by simp)⟩;clear n a9;go_wp2_with fail
     go_loopw [15,69] (fun _ vi wr=>∃(a:Nat) (am:Nat->Nat) (M:Gf),a<=k/\vi=a/\Hid (NxA d wr G k q d.heap.size am M a)) (fun _ vi _=>k - (intOf vi).toNat)
     case atStart=>exact⟨0,_,_,by omega,rfl,dk⟩
     case round =>
      obtain⟨x,dl,F,fr,rfl,HA⟩:=hrel;clear dk
      by_cases hxn:x < k
      ·go_wp2_with (go_at_call 33;refine(kg 1152921504606846976 k _ _ _ (by exact Row.lit _ [1152921504606846976] (by simp)) (by omega) (by omega)).mono ?_);rintro e Z ⟨b,rfl,hb,u,a7⟩;rw[ie]at u;have R:aZ Z b k fun _=>far:=u;have Y:Kept [] wr Z:=((Kept.refl [] wr).alloc _).trans a7
       have ap:wr.heap.size<=b:=by simp at hb;omega
       have cg:Z.cell? ⟨d.heap.size,x,none⟩=some ():=Kept.cellOf (by rw[HA.out.pre.g.cell x,List.getElem?_toArray,fd hxn];simp) _ Y;have fg:Z.frozen? ⟨d.heap.size,x,none⟩=false:=(HA.out.pre.g.kept Y (by simp)).frozen x;have a3:=HA.go hxn (Nat.le_refl _) ap Y R;clear hb u a7;go_upto_region 19 with(fail)
       generalize b3:Z.setCell ⟨d.heap.size,x,none⟩ (.slice (some ⟨b,0,none⟩) k k)=W5 at a3 ⊢
       generalize cm:(fun i=>if i=x then b else dl i)=rbn at a3
       obtain⟨ga,f,ab⟩:=HM x hxn;have g0:=Kept.cellOf f _ (dc.trans a3.kept);have f0:=hid ab;have d9:=hid a3;clear a3 cg fg R b3 Y cm f ab;go_wp2_with fail
       go_loopw [16,17,84] (fun _ _ vi wr=>∃(m:Nat) (M:Gf),m<=k/\vi=m/\Hid (NxW d wr G k q d.heap.size rbn M x m 0)) (fun _ _ vi _=>k - (intOf vi).toNat)
       case atStart=>exact⟨0,_,by omega,rfl,d9⟩
       case round =>
        obtain⟨m,M2,fz,rfl,ah⟩:=hrel;clear d9
        by_cases hmn:m < k
        ·have g1:=Kept.cellOf (f0 m hmn) _ (dc.trans ah.kept)
         have co:q < r.length:=by have:=HQ.out;omega
         obtain⟨gv,bo,bv,ea,O,vm,bk,T⟩:=d8.one q co;injection bk with bk _;subst bk;subst ea;obtain⟨mb,mc,f9,fb,rfl,bt,L⟩:=T;have b0:=Kept.cellOf O _ ah.kept;obtain⟨ft,a4,a5⟩:=L m hmn;have b1:=Kept.cellOf a4 _ ah.kept;have b5:Hid (Back G k q r[q]):=HC.back q co
         generalize hP:r[q]=P at a5 b5
         have es:=hid a5;have c6:=al x m hxn hmn;obtain⟨g,hg⟩:=nm (G x m);have eu:=hid hg;rw[hg]at g1 c6;have gn:g=1152921504606846976\/(-8589934592<=g/\g<=8589934592):=c6
         have wq:IntKind.i64.wrap (q:Int)=(q:Int):=by rw[IntKind.wrap_i64];omega
         clear O L a4 a5 hP c6 hg;go_wp2_with fail
         go_loopw [18,19,98] (fun _ _ vi wr=>∃(b:Nat) (M:Gf),b<=k/\vi=b/\Hid (NxW d wr G k q d.heap.size rbn M x m b)) (fun _ _ vi _=>k - (intOf vi).toNat)
         case atStart=>exact⟨0,_,by omega,rfl,ah⟩
         case round =>
          obtain⟨j,M3,g5,rfl,HX⟩:=hrel;clear b0 b1 g1 g0
          by_cases hjn:j < k
          ·have p0:=Kept.cellOf (es j hjn) _ HX.kept;have dm:=gJ al.out b5.out (by omega) hmn hjn;have n0:=HX.out.pre.gcell (a:=x) (by omega) (by omega);have n1:=(HX.out.pre.row x (by omega)).cell hjn;have n2:=(HX.out.pre.row x (by omega)).frozen j;have J:Hid (far<=G x m\/far<=P m j->NxW d wr G k q d.heap.size rbn M3 x m (j+1)):=fun h=>HX.skip b5 hmn hjn h;have I:Hid (G x m < far->P m j < far->G x m+P m j < far->NxW d (wr.drew.setCell ⟨rbn x,j,none⟩ (.int .i64 (min (M3 x j) (G x m+P m j)))) G k q d.heap.size rbn (fun i' j'=>if i'=x/\j'=j then min (M3 x j) (G x m+P m j)else M3 i' j') x m (j+1)):=fun B h2 h3=>HX.drew.take b5 hxn hmn hjn B h2 h3 rfl;rw[eu.out]at J I;obtain⟨p,hp⟩:=nm (P m j);obtain⟨y,hy⟩:=nm (M3 x j);rw[hp]at p0 dm J I;rw[hy]at n1 I;clear hp hy
           by_cases c1:g < 1152921504606846976
           ·have d1:decide (g < 1152921504606846976)=true:=by simpa using c1
            have g7:-8589934592<=g/\g<=8589934592:=by omega
            by_cases c2:p < 1152921504606846976
            ·have d2:decide (p < 1152921504606846976)=true:=by simpa using c2
             have fs:-274877906944<=p/\p<=274877906944:=by omega
             have ws:IntKind.i64.wrap (g+p)=g+p:=by rw[IntKind.wrap_i64];omega
             have HT:=hid (I.out c1 c2 (by show g+p < 1152921504606846976;omega));clear I J;go_upto_region 26 with(fail)
             go_still_tail 17,(by kernel_rfl)
             change wpList _ _ _ _ _ wr.drew
             go_wp2_with fail
             go_roundw
             case rel=>exact⟨j+1,_,by omega,by go_num,HT⟩
             case measure=>simp[intOf];omega
            ·have d2:decide (p < 1152921504606846976)=false:=by simpa using c2
             have HT:=hid (J.out (Or.inr (by show 1152921504606846976<=p;omega)));clear I J;go_wp2_with fail
             go_roundw
             case rel=>exact⟨j+1,_,by omega,by go_num,HT⟩
             case measure=>simp[intOf];omega
           ·have d1:decide (g < 1152921504606846976)=false:=by simpa using c1
            have HT:=hid (J.out (Or.inl (by show 1152921504606846976<=g;omega)));clear I J;go_wp2_with fail
            go_roundw
            case rel=>exact⟨j+1,_,by omega,by go_num,HT⟩
            case measure=>simp[intOf];omega
          ·have E:=HX.out;rw[show j=k by omega]at E;have c7:=hid E.col;clear E;go_wp2_with fail;exact⟨⟨m+1,_,by omega,by go_num,c7⟩,by simp[intOf];omega⟩
        ·have E:=ah.out;rw[show m=k by omega]at E;have c7:=hid E.fin;clear E;go_wp2_with fail;exact⟨⟨x+1,_,_,by omega,by go_num,c7⟩,by simp[intOf];omega⟩
      ·obtain rfl:x=k:=by omega
       have b4:Hid (Back G x (q+1) F):=HA.back;have u:=HB.keep HA.kept;have bs:=HA.pre.done;obtain⟨W6,av⟩:=nm (wr.alloc (.cells #[.slice (some ⟨d.heap.size,0,none⟩) x x] 56));have ka:Kept [] wr W6:=av▸kr.alloc _;have D:=hid (u.keep ka);have hX:=HB.hX
       have bm:Hid (ae X (fun w=>GraR x w [.slice (some ⟨d.heap.size,0,none⟩) x x] F) W6) :=
        (bs.stable (X:=X) (fun h=>absurd (hX _ h) (Nat.lt_irrefl _)) (fun i hi h=>by have B:=hX _ h;have h2:=bs.ge i hi;omega)).step ka (by simp) (fun z hz=>Or.inl hz)
       have cv:Hid (A.heap.size<=W6.heap.size):=D.kb.size;have f:Hid (Row W6 1 (.slice (some ⟨wr.heap.size,0,none⟩) 1 1) 1 [.slice (some ⟨d.heap.size,0,none⟩) x x]):=av▸rowS rfl _ _ _ rfl;have ec:=hid av
       have cu:r.length<=1000000000:=by rw[HQ.out];omega
       clear u bs av ka hX d8 HA;go_upto_region 30 with(fail);go_wp2_with (at_builtin;rw[ec.out];(refine aq rfl _ _ 69 rfl j0 () 24 underlying69 hj e1 ds dn rfl (by decide) (by decide) rfl D.out.gr _ [.slice (some ⟨d.heap.size,0,none⟩) x x] F rfl f.out bm.out (by simp[Value.oneCell']) cu cv.out D.out.vX ?_));intro p9 q9 y9 G9 k9 t9;have e4:=bm.out _ y9 k9 (fun z hz _=>D.vX z hz);obtain⟨v0,bl,ct⟩:=e4;injection bl with bl _;subst bl;obtain⟨gs,gp,f8,gt,d3,f5,b7⟩:=ct;injection d3 with B _ h3;injection B with B;injection B with B;subst B h3;have et:=hid b7;have bc:Hid (Kept [] A y9):=D.kb.fresh k9 (fun z hz=>(D.gr.ge z hz).1);have a1:=D.out.push k9 (by rw[HQ.out]at G9 ⊢;exact G9);rw[HQ.out]at a1
       generalize eb:X++obl (.slice p9 (q+1+1) q9)=X9 at a1
       have ej:=hid a1
       have a6:(r++[F]).length=q+1+1:=by rw[List.length_append,HQ.out];rfl
       have V:=hid a6;have ed:Hid (ag (GraR x) 1 y9 (.slice p9 (q+1+1) q9) (r++[F])):=a1.gr.row (by rw[a6];omega);rw[HQ.out];clear G9 k9 t9 bm f cv D b7 a1 eb a6 cu HB;go_wp2_with fail
       go_loopw [20,135] (fun _ vi wr=>∃y:Nat,y<=x/\vi=y/\Hid (∀z,z < y->¬F z z < 0)/\Hid (Kept [] y9 wr)) (fun _ vi _=>x - (intOf vi).toNat)
       case atStart=>exact⟨0,by omega,rfl,fun z hz=>by omega,kr⟩
       case round =>
        obtain⟨y,fn,rfl,c9,C⟩:=hrel
        by_cases hyn:y < x
        ·obtain⟨gg,a0,b9⟩:=et y hyn;have n0:=Kept.cellOf a0 _ C;have n1:=Kept.cellOf (b9 y hyn) _ C;have di:Hid (F y y < 0↔Neg G x (q+1) y):=iM b4 hyn;have er:Hid (∀z,z < y->¬Neg G x (q+1) z):=fun z hz hn=>c9.out z hz ((iM b4.out (by omega)).2 hn)
         have da:Hid (¬F y y < 0->∀z,z < y+1->¬F z z < 0):=fun h z hz=>by
          rcases Nat.lt_or_ge z y with B|B
          ·exact c9 z B
          ·obtain rfl:z=y:=by omega
           exact h
         generalize ht:F y y=t at n1 di da
         clear a0 b9 ht
         by_cases c1:t < 0
         ·have d1:decide (t < 0)=true:=by simpa using c1
          have CY:=hid (uz _ _ x y (q+1) G (r++[F]) wr (eq.out.kept (bc.out.trans C.out)) (ag.kept ed.out (fun _ _ h=>GraR.kept h C.out) C.out) (HC.out.next (by rw[HQ.out];exact b4.out)) V.out (by omega) (by omega) hyn (by omega) al.out (di.out.1 c1) er.out);go_wp2_with (go_at_call 34;with_reducible refine CY.out.mono ?_);rintro e w9 ⟨oo,at_,f7,oa,oc,rfl,cq,a2,k9'⟩;have ek:=hid cq;have eg:=hid (HC.found HQ a2);have KE:=hid (K1.trans (bc.trans (C.trans k9')));clear cq a2 k9' n0 n1;go_wp2_with fail;go_ret
          unfold ConE
          exact⟨KE.out,Or.inr ⟨ba.out,o,dd.out,by have:=HN.out;omega,d5.out,HD.out.1,HD.out.2,oo,oa,oc,rfl,ek.out,by rw[HN.out,de.out];exact eg.out⟩⟩
         ·have d1:decide (t < 0)=false:=by simpa using c1
          have en:=hid (da c1);go_wp2_with fail
          go_roundw
          case rel=>exact⟨y+1,by omega,by go_num,en,C⟩
          case measure=>simp[intOf];omega
        ·have f2:Hid (CfS G x (r++[F])):=HC.out.go (by rw[HQ.out];exact b4.out) (fun z hz=>c9.out z (by omega))
         have f3:Hid (BkS A wr x (r++[F]) X9 (.slice p9 (r++[F]).length q9)):=by
          rw[V.out];exact ej.keep C
         go_wp2_with fail;exact⟨⟨r++[F],p9,q9,X9,by rw[V.out];omega,by rw[V.out];omega,by rw[V.out];go_num,by rw[V.out],f2,f3⟩,by simp[intOf];omega⟩
    ·obtain rfl:q=k:=by omega
     have f1:=hid (HC.none HQ);have KE:=hid (K1.trans HB.kb);go_wp2_with fail;go_ret
     unfold ConE
     have e3:Row d 1 () ([]:List Nat).length (ints (natI [])):=⟨by simp[natI,ints],by simp,_,_,rfl,by simp,fun h=>absurd h (by simp)⟩;exact⟨KE.out,Or.inr ⟨ba.out,o,dd.out,by have:=HN.out;omega,d5.out,HD.out.1,HD.out.2,[],none,0,rfl,e3,by rw[HN.out,de.out];exact f1.out⟩⟩
theorem inB8:(aw st8&&inB 100 0 1000)=true:=by rw[vz];decide
def B8a(w:World)(e:Ending)(w':World):Prop:=∃a c,e=.returned (.tuple #[.slice a 3 c,.int .i64 0])/\ag BndR 2 w' (.slice a 3 c) [(1000,1010),(1180,1230),(1180,2147483648)]/\Kept [] w w'
theorem bds_a{w w':World}{e:Ending}(h:BdsE st8 keys8 (l8 2147483648) 100 w e w'):B8a w e w':=by
 obtain⟨k,⟨h1,_⟩|⟨_,o,hj,_,_,_,_,h2⟩⟩:=h
 ·rw[inB8]at h1;cases h1
 ·have ho:o=o8 2147483648:=eK hj (qg _ (Or.inr rfl));subst ho;rw[show(o8 2147483648).length=3 from rfl,gl8]at h2
  rcases h2 with⟨v,up,lo,rfl,hu,hl,hr⟩|⟨_,hno⟩
  ·obtain⟨u0,u1,u2⟩:=up8 hu;obtain⟨l0,l1,l2⟩:=lo8 hl
   have hb:bndL lo up 3=[(1000,1010),(1180,1230),(1180,2147483648)]:=by
    show[(-lo 0,up 0),(-lo 1,up 1),(-lo 2,up 2)]=_
    rw[u0,u1,u2,l0,l1,l2]
   rw[hb]at hr;obtain⟨a,c,rfl,_,_⟩:=ag.form hr;exact⟨a,c,rfl,hr,k⟩
  ·exact absurd kE (hno _)
theorem bds_b{w w':World}{e:Ending}(h:BdsE st8 keys8 (l8 1100) 100 w e w'):e=.returned (.tuple #[(),.int .i64 13])/\Kept [] w w':=by
 obtain⟨k,⟨h1,_⟩|⟨_,o,hj,_,_,_,_,h2⟩⟩:=h
 ·rw[inB8]at h1;cases h1
 ·have ho:o=o8 1100:=eK hj (qg _ (Or.inl rfl));subst ho;rw[show(o8 1100).length=3 from rfl,gl8]at h2
  rcases h2 with⟨v,up,lo,rfl,hu,hl,hr⟩|⟨h3,_⟩
  ·obtain⟨a,t,_,hn⟩:=dP neg8;exact absurd hu.feas (pY hn _)
  ·exact⟨h3,k⟩
def C8(w:World)(e:Ending)(w':World):Prop:=∃a c,e=.returned (.slice a 3 c)/\Row w' 1 (.slice a 3 c) 3 (ints [0,3,1])/\Kept [] w w'
theorem con_b{w w':World}{e:Ending}(h:ConE st8 keys8 (l8 1100) 100 w e w'):C8 w e w':=by
 obtain⟨k,⟨h1,_⟩|⟨_,o,hj,_,_,_,_,c,a,cp,rfl,hr,hc⟩⟩:=h
 ·rw[inB8]at h1;cases h1
 ·have ho:o=o8 1100:=eK hj (qg _ (Or.inl rfl));subst ho;rw[show(o8 1100).length=3 from rfl,gl8]at hc;obtain rfl:=conf8 hc;exact⟨a,cp,rfl,hr,k⟩
theorem imp_b:ImpP st8 keys8 (l8 1100) 100 [0,3,1]:=(iF _ inB8 (qg _ (Or.inl rfl))).2 (by
 rw[show(o8 1100).length=3 from rfl,gl8]
 unfold ImpR
 rw[<-oU]
 exact⟨[0,3,1],rfl,neg8,by decide⟩)
theorem imp_a:¬ImpP st8 keys8 (l8 2147483648) 100 [0,3,1]:=fun h=>by
 have h1:=(iF _ inB8 (qg _ (Or.inr rfl))).1 h;rw[show(o8 2147483648).length=3 from rfl,gl8]at h1
 unfold ImpR at h1
 rw[<-oU]at h1;obtain⟨c,hc,⟨a,t,rfl,_,hneg⟩,_⟩:=h1
 have hc':a::t=[0,3,1]:=by
  have:natI [0,3,1]=natI (a::t):=hc
  unfold natI at this
  exact(List.map_inj_right (fun x y h=>Int.ofNat.inj h)).1 this.symm
 rw[hc']at hneg
 have ha:a=0:=by injection hc'
 subst ha;exact no8 hneg
theorem wN{n q:Nat}(h:n < q)(hq:q < 2305843009213693952):Wire.I64 (n:Int):=⟨by omega,by omega⟩
theorem pr(s:Stp)(x k:Int)(m:List UInt8)(hQ:s.Q < 2305843009213693952):Wire.I64 (dx s x k m).1/\Wire.I64 (dx s x k m).2.1:=by
 unfold dx
 obtain⟨q,hq⟩:=nm s.Q.toNat;obtain⟨M,hM⟩:=nm (chaE m (pwrN s.Q.toNat s.G x:Nat) (pwrN s.Q.toNat s.G k:Nat));rw[hM,hq]
 by_cases h:(aw s&&(bC s x&&bC s k))=true
 ·rw[if_pos h]
  have hq1:1<=q:=by
   simp only[Bool.and_eq_true]at h;have h2:=h.2.1
   unfold bC at h2
   simp at h2;omega
  exact⟨wN (eZ q _ 32 hq1) (by omega),wN (Nat.mod_lt _ (by omega)) (by omega)⟩
 ·rw[if_neg h];exact⟨⟨by decide,by decide⟩,⟨by decide,by decide⟩⟩
theorem fZ{s:Stp}{x:Int}{e:Ent}(h:EntI e)(hQ:s.Q < 2305843009213693952):EntI (bQ s x e) := ⟨h.h0,h.h1,h.h2,h.h3,h.h4,(pr s x _ _ hQ).1,(pr s x _ _ hQ).2,h.l4,h.l5⟩
theorem qv(most:Int)(hm:most=1100\/most=2147483648):∀e∈l8 most,EntI e:=by
 have two:∀(p q:Int),Wire.I64 p->Wire.I64 q->∀x∈[p,q],Wire.I64 x:=fun p q hp hq x hx=>by
  simp only[List.mem_cons,List.not_mem_nil,or_false]at hx
  rcases hx with rfl|rfl
  ·exact hp
  ·exact hq
 have d:EntI ea8:=⟨⟨by decide,by decide⟩,⟨by decide,by decide⟩,⟨by decide,by decide⟩,⟨by decide,by decide⟩,two 1000 1010 ⟨by decide,by decide⟩ ⟨by decide,by decide⟩,⟨by decide,by decide⟩,⟨by decide,by decide⟩,by decide,by decide⟩
 have c:EntI (eb8 most):=by
  rcases hm with rfl|rfl <;> exact⟨⟨by decide,by decide⟩,⟨by decide,by decide⟩,⟨by decide,by decide⟩,⟨by decide,by decide⟩,two 0 _ ⟨by decide,by decide⟩ ⟨by decide,by decide⟩,⟨by decide,by decide⟩,⟨by decide,by decide⟩,by decide,by decide⟩
 have b:EntI ec8:=⟨⟨by decide,by decide⟩,⟨by decide,by decide⟩,⟨by decide,by decide⟩,⟨by decide,by decide⟩,two 0 1 ⟨by decide,by decide⟩ ⟨by decide,by decide⟩,⟨by decide,by decide⟩,⟨by decide,by decide⟩,by decide,by decide⟩;intro e a
 unfold l8 at a
 simp only[List.mem_cons,List.not_mem_nil,or_false]at a
 rcases a with rfl|rfl|rfl
 ·exact fZ b (by decide)
 ·exact fZ c (by decide)
 ·exact fZ d (by decide)
theorem mv(w:World)(hE:Env2 w):Calls prog 6 #[] w fun e w'=>e=.returned true/\Kept [] w w':=by
 have SU:=hid (kZ w)
 have U:∀x∈keys8,Wire.I64 x:=fun x hx=>by
  have hx':x∈[(18:Int),12]:=hx;simp only[List.mem_cons,List.not_mem_nil,or_false]at hx'
  rcases hx' with rfl|rfl <;> exact⟨by decide,by decide⟩
 have HE:=hid hE;have i:=hid U;clear hE U
 go_enter func6,ntmps6
 go_wp2_with (go_at_call 19;with_reducible refine SU.out.mono ?_);rintro e w1 ⟨z,y,rfl,v,V⟩;go_upto_region 2 with(fail);obtain⟨W1,s⟩:=nm (w1.alloc (.cells #[.int .i64 23,.int .i64 11,.int .i64 4,.slice z 3 y,.int .i64 3] 26));have a0:Blk W1 w1.heap.size 26 #[.int .i64 23,.int .i64 11,.int .i64 4,.slice z 3 y,.int .i64 3]:=s▸Blk.new _ _ _;have k1:Kept [] w1 W1:=s▸kr.alloc _;rw[s];have j:=hid a0;have KW:=hid (V.trans k1);have f:Hid (∀w',Kept [] W1 w'->StpV w' (.agg #[.int .i64 23,.int .i64 11,.int .i64 4,.slice z 3 y,.int .i64 3]) st8):=fun w' kk=>stp8 (v.kept (k1.trans kk));have EV:Hid (∀w',Kept [] W1 w'->Env2 w'):=fun w' kk=>HE.kept0 (KW.trans kk);have C1:=hid (mi 2147483648 (Or.inr rfl) W1 (EV _ kr));clear SU s a0 k1 V v HE;go_wp2_with (go_at_call 20;with_reducible refine C1.out.mono ?_);rintro e w2 ⟨vk,vl,rfl,F,E,k2⟩;obtain⟨ka,O,rfl,_,_⟩:=F.form;obtain⟨la,lc,C,_,_⟩:=ag.form E;replace C:vl=.slice la 3 lc:=C;subst C;have g:=hid F;have a3:=hid E;have K2:=hid k2;have C2:=hid (mi 1100 (Or.inl rfl) w2 (EV _ k2));clear C1 F E k2;go_wp2_with (go_at_call 20;with_reducible refine C2.out.mono ?_);rintro e w3 ⟨vq,vm,rfl,_,D,T⟩;obtain⟨ma,mc,B,_,_⟩:=ag.form D;replace B:vm=.slice ma 3 mc:=B;subst B;have I:=hid D;have K3:=hid T;have u:=hid (K2.trans T)
 have B1:Hid (Calls prog 10 #[.agg #[.int .i64 23,.int .i64 11,.int .i64 4,.slice z 3 y,.int .i64 3],.slice ka 2 O,.slice la 3 lc,.int .i64 100] w3 (B8a w3)) :=
  (gI _ _ _ st8 keys8 (l8 2147483648) 100 w3 (f.out _ u.out) (g.out.kept T) (a3.out.kept T) (by decide) (qv _ (Or.inr rfl)) i.out (EV.out _ u.out)).mono fun _ _ h=>bds_a h
 clear C2 D T;obtain⟨p,o,n,m,l⟩:=bl5 j u rfl;go_wp2_with (go_at_call 10;with_reducible refine B1.out.mono ?_);rintro e w4 ⟨ba,bc,rfl,a1,R⟩;have al:=hid a1;have K4:=hid (u.trans R);have ah:=hid R
 have B2:Hid (Calls prog 10 #[.agg #[.int .i64 23,.int .i64 11,.int .i64 4,.slice z 3 y,.int .i64 3],.slice ka 2 O,.slice ma 3 mc,.int .i64 100] w4 fun e w'=>e=.returned (.tuple #[(),.int .i64 13])/\Kept [] w4 w') :=
  (gI _ _ _ st8 keys8 (l8 1100) 100 w4 (f.out _ K4.out) (g.out.kept (K3.out.trans R)) (I.out.kept R) (by decide) (qv _ (Or.inl rfl)) i.out (EV.out _ K4.out)).mono fun _ _ h=>bds_b h
 clear B1 a1 R;clear p o n m l;obtain⟨p,o,n,m,l⟩:=bl5 j K4 rfl;go_wp2_with (go_at_call 10;with_reducible refine B2.out.mono ?_)
 first|(rintro e w5 rfl Q)|(rintro e w5 ⟨rfl,Q⟩)
 have K5:=hid (K4.trans Q);have G:=hid (ah.trans Q);have aa:=hid Q
 have CN:Hid (Calls prog 12 #[.agg #[.int .i64 23,.int .i64 11,.int .i64 4,.slice z 3 y,.int .i64 3],.slice ka 2 O,.slice ma 3 mc,.int .i64 100] w5 (C8 w5)) :=
  (iJ _ _ _ st8 keys8 (l8 1100) 100 w5 (f.out _ K5.out) (g.out.kept (K3.out.trans G.out)) (I.out.kept G.out) (by decide) (qv _ (Or.inl rfl)) i.out (EV.out _ K5.out)).mono fun _ _ h=>con_b h
 clear B2 Q;clear p o n m l;obtain⟨p,o,n,m,l⟩:=bl5 j K5 rfl;go_wp2_with (go_at_call 12;with_reducible refine CN.out.mono ?_);rintro e N ⟨ca,cp,rfl,X,k6⟩;have J:=hid X;have K6:=hid (K5.trans k6);have ac:=hid (G.trans k6);have a9:=hid (aa.trans k6);clear CN X k6;clear p o n m l;go_upto_region 8 with(fail);obtain⟨W7,r⟩:=nm (N.alloc (.cells #[.int .i64 1000,.int .i64 1010,.int .i64 1180,.int .i64 1230,.int .i64 1180,.int .i64 2147483648] 42));have Z:Blk W7 N.heap.size 42 #[.int .i64 1000,.int .i64 1010,.int .i64 1180,.int .i64 1230,.int .i64 1180,.int .i64 2147483648]:=r▸Blk.new _ _ _;have d:Kept [] N W7:=r▸kr.alloc _;rw[r]
 have a2:Hid (ag BndR 2 W7 (.slice (some ⟨N.heap.size,0,none⟩) 3 3) [(1000,1010),(1180,1230),(1180,2147483648)]):=by
  refine⟨[[.int .i64 1000,.int .i64 1010],[.int .i64 1180,.int .i64 1230],[.int .i64 1180,.int .i64 2147483648]],rfl,fun c hc=>?_,fun k x hx=>?_,aH (cs:=[.int .i64 1000,.int .i64 1010,.int .i64 1180,.int .i64 1230,.int .i64 1180,.int .i64 2147483648]) Z rfl (by decide)⟩
  ·simp only[List.mem_cons,List.not_mem_nil,or_false]at hc
   rcases hc with rfl|rfl|rfl <;> rfl
  ·match k,hx with
   |0,hx=>injection hx with hx;subst hx;exact⟨_,rfl,rfl⟩
   |1,hx=>injection hx with hx;subst hx;exact⟨_,rfl,rfl⟩
   |2,hx=>injection hx with hx;subst hx;exact⟨_,rfl,rfl⟩
   |k+3,hx=>simp at hx
 have SM:=hid (gm (.slice ba 3 bc) (.slice (some ⟨N.heap.size,0,none⟩) 3 3) [(1000,1010),(1180,1230),(1180,2147483648)] W7 (ag.kept al (fun _ _ h=>h) (a9.trans d)) a2);have K7:=hid (K6.trans d);have ab:=hid (ac.trans d);have a7:=hid d;clear r Z d a2;go_wp2_with (go_at_call 14;with_reducible refine SM.out.mono ?_)
 first|(rintro e M rfl P)|(rintro e M ⟨rfl,P⟩)
 obtain⟨cb,co,rfl,q⟩:=J.out.at_ (by omega);have a:=a7.trans P
 have c0:M.cell? ⟨cb,co,none⟩=some (.int .i64 0):=by have:=Kept.cellOf (q 0 (.int .i64 0) rfl) _ a;simpa using this
 have c1:=Kept.cellOf (q 1 (.int .i64 3) rfl) _ a;have c2:=Kept.cellOf (q 2 (.int .i64 1) rfl) _ a;have K8:=hid (K7.trans P);have t:=hid (ab.trans P);have a6:=hid a
 have Y:∀x∈[(0:Int),3,1],Wire.I64 x:=fun x hx=>by
  simp only[List.mem_cons,List.not_mem_nil,or_false]at hx
  rcases hx with rfl|rfl|rfl <;> exact⟨by decide,by decide⟩
 have a4:=hid Y
 have I1:Hid (Calls prog 15 #[.agg #[.int .i64 23,.int .i64 11,.int .i64 4,.slice z 3 y,.int .i64 3],.slice ka 2 O,.slice ma 3 mc,.int .i64 100,.slice (some ⟨cb,co,none⟩) 3 cp] M fun e w'=>e=.returned true/\Kept [] M w') :=
  (dR _ _ _ _ st8 keys8 (l8 1100) 100 [0,3,1] M (f.out _ K8.out) (g.out.kept (K3.out.trans t.out)) (I.out.kept t.out) (by decide) (qv _ (Or.inl rfl)) i.out (J.out.kept a) (by decide) a4.out (EV.out _ K8.out)).mono fun _ _ ⟨h1,b,h2,h3⟩=>⟨by rw[h2,h3.2 imp_b],h1⟩
 clear q P a SM Y;obtain⟨p,o,n,m,l⟩:=bl5 j K8 rfl;go_wp2_with (go_at_call 15;with_reducible refine I1.out.mono ?_)
 first|(rintro e w9 rfl L)|(rintro e w9 ⟨rfl,L⟩)
 have K9:=hid (K8.trans L)
 have I2:Hid (Calls prog 15 #[.agg #[.int .i64 23,.int .i64 11,.int .i64 4,.slice z 3 y,.int .i64 3],.slice ka 2 O,.slice la 3 lc,.int .i64 100,.slice (some ⟨cb,co,none⟩) 3 cp] w9 fun e w'=>e=.returned false/\Kept [] w9 w') :=
  (dR _ _ _ _ st8 keys8 (l8 2147483648) 100 [0,3,1] w9 (f.out _ K9.out) (g.out.kept (K3.out.trans (t.out.trans L))) (a3.out.kept (K3.out.trans (t.out.trans L))) (by decide) (qv _ (Or.inr rfl)) i.out (J.out.kept (a6.out.trans L)) (by decide) a4.out (EV.out _ K9.out)).mono fun _ _ ⟨h1,b,h2,h3⟩=>⟨by
   cases b with
   |true=>exact absurd (h3.1 rfl) imp_a
   |false=>exact h2,h1⟩
 clear I1 L c0 c1 c2;clear p o n m l;obtain⟨p,o,n,m,l⟩:=bl5 j K9 rfl;go_wp2_with (go_at_call 15;with_reducible refine I2.out.mono ?_)
 first|(rintro e a5 rfl A)|(rintro e a5 ⟨rfl,A⟩)
 have KE:=hid (KW.trans (K9.trans A));clear A;clear p o n m l;go_wp2_with fail;go_ret;exact⟨rfl,KE⟩
end Go.Proofs.YtcidfldeiklcjaaGreatDoor
