import Derived.Test.YtpcmamoomaddoaaGreatDoorHmo
set_option maxRecDepth 100000
set_option maxHeartbeats 32000000
namespace Go.Proofs.YtpcmamoomaddoaaGreatDoor
theorem oJ:∀(l:List Bnd) (f:Bs->Option Int),(l.map Prod.fst).Nodup->∀y v,l.foldl put0 f y=some v↔(y,v)∈l\/(y∉l.map Prod.fst/\f y=some v)
 | [],f,_,y,v=>by simp
 |p::l,f,hn,y,v=>by
  rw[List.map_cons,List.nodup_cons]at hn;rw[List.foldl_cons,oJ l (put0 f p) hn.2 y v]
  unfold put0
  by_cases e:y=p.1
  ·subst e;rw[if_pos rfl]
   constructor
   ·rintro(h|⟨_,h⟩)
    ·exact absurd (List.mem_map.2 ⟨_,h,rfl⟩) hn.1
    ·injection h with h;exact Or.inl (by subst h;exact List.mem_cons_self)
   ·rintro(h|⟨h,_⟩)
    ·rcases List.mem_cons.1 h with h|h
     ·exact Or.inr ⟨hn.1,by rw[<-h]⟩
     ·exact absurd (List.mem_map.2 ⟨_,h,rfl⟩) hn.1
    ·exact absurd (by simp) h
  ·rw[if_neg e];have h1:∀v,(y,v)≠p:=fun v c=>e (by rw[<-c]);simp only[List.mem_cons,List.map_cons,h1,false_or,e]
theorem oL{l:List Bnd}(h:cr l)(y:Bs)(v:Int):envF l y=some v↔(y,v)∈l\/(y=[]/\v=0):=by
 unfold envF
 rw[oJ l _ h.1]
 have h0:[]∉l.map Prod.fst:=fun hm=>by
  obtain⟨b,hb,e⟩:=List.mem_map.1 hm;have:=(h.2 b hb).1;rw[e]at this;exact absurd this (by decide)
 constructor
 ·rintro(k|⟨_,k⟩)
  ·exact Or.inl k
  ·by_cases e:y=[]
   ·rw[if_pos e]at k;injection k with k;exact Or.inr ⟨e,k.symm⟩
   ·rw[if_neg e]at k
    cases k
 ·rintro(k|⟨rfl,rfl⟩)
  ·exact Or.inl k
  ·exact Or.inr ⟨h0,rfl⟩
theorem iW{l:List Bnd}(h:cr l):cr (aS l) := ⟨((aZ l).map Prod.fst).nodup_iff.2 h.1,fun b hb=>h.2 b ((aZ l).mem_iff.1 hb)⟩
theorem tC{l l':List Bnd}(h:cr l)(h':cr l')(hs:∀b∈l,b∈l'):∀y v,envF (aS l) y=some v->envF (aS l') y=some v:=fun y v hy=>by
 rw[oL (iW h)]at hy;rw[oL (iW h')]
 rcases hy with k|k
 ·exact Or.inl ((aZ l').mem_iff.2 (hs _ ((aZ l).mem_iff.1 k)))
 ·exact Or.inr k
theorem uB{acc acc':List Bnd}{b:Bnd}(h:put1 acc b=.ok acc'):∀x∈acc,x∈acc':=by
 unfold put1 at h
 split at h
 ·split at h
  ·injection h with h;subst h;exact fun _ hx=>hx
  ·cases h
 ·injection h with h;subst h;exact fun x hx=>List.mem_append_left _ hx
theorem uy{acc acc' l:List Bnd}(h:aF put1 acc l=.ok acc'):∀x∈acc,x∈acc' :=
 dN (P:=fun _ a=>∀x∈acc,x∈a) (fun _ _ _ _ ht _ hf x hx=>uB hf x (ht x hx)) (fun _ hx=>hx) h
theorem xz(t:List Int)(i w:Nat):(t[w]?).getD 0<=((bump t i)[w]?).getD 0:=by
 unfold bump
 by_cases e:i=w
 ·subst e
  by_cases h:i < t.length
  ·rw[List.getElem?_set_self h,List.getD_eq_getElem?_getD,Option.getD_some];omega
  ·rw[List.set_eq_of_length_le (by omega)];exact Int.le_refl _
 ·rw[List.getElem?_set_ne e];exact Int.le_refl _
/-- all holders are still there, with their values and no fewer tickets -/
def qR(P P':List Cz):Prop:=∀d∈P,∃d'∈P',d'.num=d.num/\(∀b∈d.vals,b∈d'.vals)/\∀w:Nat,(d.tick[w]?).getD 0<=(d'.tick[w]?).getD 0
theorem tL{ks:List Pss}{P P':List Cz}{x:Iss}(hi:(P.map Cz.num).Nodup)(ha:addB ks P x=.ok P'):qR P P':=by
 unfold addB at ha
 split at ha
 ·cases ha
 ·next p hk =>
  split at ha
  ·cases ha
  ·next l hl =>
   unfold addN at ha
   split at ha
   ·cases ha
   ·split at ha
    ·cases ha
    ·next vs hvs =>
     split at ha
     ·cases ha
     ·injection ha with ha;subst ha;intro d a;obtain⟨n,f⟩:∃n,x.attrs.headD 0=n:=⟨_,rfl⟩;rw[f]at hvs ⊢
      by_cases e:d.num=n
      ·have c:czOf ks.length P n=d:=by
        unfold czOf
        rw[<-e,eO hi a]
        rfl
       refine⟨_,mem_setC.2 (Or.inr rfl),e.symm,fun b hb=>uy hvs b (by rw[c];exact hb),fun w=>?_⟩
       show _<=((bump (czOf ks.length P n).tick x.key.toNat)[w]?).getD 0
       rw[c];exact xz _ _ w
      ·exact⟨d,mem_setC.2 (Or.inl ⟨a,e⟩),rfl,fun _ h=>h,fun w=>Int.le_refl _⟩
theorem pG{ks:List Pss}{log nums nums':List Int}{q q1 q2:List Pd}{u u' v v':List Sn}{x:Sgt}(h:sightB ks log nums (q,u) x=.ok (q1,v))(h':sightB ks log nums' (q,u') x=.ok (q2,v')) :
  ∃s s':Sn,q2=q1/\v=u++[s]/\v'=u'++[s']/\s'.q=s.q/\s'.win=s.win/\s'.asof=s.asof:=by
 unfold sightB at h h'
 dsimp only at h h'
 cases hp:predF x.q x.most with
 |error e=>rw[hp]at h;cases h
 |ok p =>
  rw[hp]at h h'
  dsimp only at h h'
  cases hps:x.passes with
  |nil=>rw[hps]at h;cases h
  |cons t rest =>
   rw[hps]at h h'
   dsimp only at h h'
   by_cases c1:rest≠[]\/eI x.links=true
   ·rw[if_pos c1]at h;cases h
   ·rw[if_neg c1]at h h'
    cases hk:ks.findIdx? (ig t)with
    |none=>rw[hk]at h;cases h
    |some key =>
     rw[hk]at h h'
     dsimp only at h h'
     by_cases c2:fq log x.rev=true
     ·rw[if_pos c2]at h;cases h
     ·rw[if_neg c2]at h h'
      by_cases c3:x.holder≠0/\Lib.idxOf nums x.holder < 0
      ·rw[if_pos c3]at h;cases h
      ·rw[if_neg c3]at h
       by_cases c3':x.holder≠0/\Lib.idxOf nums' x.holder < 0
       ·rw[if_pos c3']at h';cases h'
       ·rw[if_neg c3']at h'
        by_cases c4:4096<=u.length
        ·rw[if_pos c4]at h;cases h
        ·rw[if_neg c4]at h
         by_cases c4':4096<=u'.length
         ·rw[if_pos c4']at h';cases h'
         ·rw[if_neg c4']at h'
          cases hf:q.findIdx? (cC p)with
          |some i =>
           rw[hf]at h h'
           dsimp only at h h'
           injection h with h;injection h with h1 h2;injection h' with h';injection h' with h1' h2';exact⟨_,_,by rw[<-h1,<-h1'],h2.symm,h2'.symm,rfl,rfl,rfl⟩
          |none =>
           rw[hf]at h h'
           dsimp only at h h'
           by_cases c5:128<=q.length
           ·rw[if_pos c5]at h;cases h
           ·rw[if_neg c5]at h h';injection h with h;injection h with h1 h2;injection h' with h';injection h' with h1' h2';exact⟨_,_,by rw[<-h1,<-h1'],h2.symm,h2'.symm,rfl,rfl,rfl⟩
theorem jK{ks:List Pss}{log nums nums':List Int}:∀(ss:List Sgt) (q0 q q2:List Pd) (u0 u0' u v:List Sn),aF (sightB ks log nums) (q0,u0) ss=.ok (q,u)->aF (sightB ks log nums') (q0,u0') ss=.ok (q2,v) ->
  ∃a a':List Sn,q2=q/\u=u0++a/\v=u0'++a'/\a.length=ss.length/\a'.length=ss.length/\∀(k:Nat) (s:Sn),a[k]?=some s->∃s':Sn,a'[k]?=some s'/\s'.q=s.q/\s'.win=s.win/\s'.asof=s.asof
 | [],q0,q,q2,u0,u0',u,v,h,h'=>by
  rw[aF]at h h';injection h with h;injection h with h1 h2;injection h' with h';injection h' with h1' h2';exact⟨[],[],by rw[<-h1,<-h1'],by simp[h2],by simp[h2'],rfl,rfl,by simp⟩
 |x::l,q0,q,q2,u0,u0',u,v,h,h'=>by
  rw[aF]at h h'
  cases hs:sightB ks log nums (q0,u0) x with
  |error e=>rw[hs]at h;cases h
  |ok t =>
   cases hs':sightB ks log nums' (q0,u0') x with
   |error e=>rw[hs']at h';cases h'
   |ok t' =>
    rw[hs]at h;rw[hs']at h';obtain⟨q1,w1⟩:=t;obtain⟨q1',w1'⟩:=t';obtain⟨s,s',rfl,rfl,rfl,e1,e2,e3⟩:=pG hs hs';obtain⟨a,a',rfl,rfl,rfl,g1,g2,g3⟩:=jK l _ q q2 _ _ u v h h';refine⟨s::a,s'::a',rfl,by simp,by simp,by simp[g1],by simp[g2],fun k z hz=>?_⟩
    cases k with
    |zero =>
     simp at hz;subst hz;exact⟨s',rfl,e1,e2,e3⟩
    |succ k=>exact g3 k z (by simpa using hz)
theorem iw{ks:List Pss}{log:List Int}{is:List Iss}{ss:List Sgt}{c:Crw}{ns:List Int}(h:accountB ks log is ss=.ok (c,ns)):∃(P:List Cz) (q:List Pd) (u:List Sn),aF (addB ks) [] is=.ok P/\ns=aL P/\c=⟨q,membersB log P,u⟩/\aF (sightB ks log (aL P)) ([],[]) ss=.ok (q,u):=by
 unfold accountB at h
 split at h
 ·cases h
 ·split at h
  ·cases h
  ·next P hP =>
   split at h
   ·cases h
   ·next q u hu =>
    injection h with h;injection h with h1 h2;exact⟨P,q,u,hP,h2.symm,h1.symm,hu⟩
theorem jd(x:Int):∀(zs:List Int) (i:Nat),x∈zs->0<=Lib.idxFrom zs x i
 | [],_,h=>by cases h
 |z::zs,i,h=>by
  rw[Lib.idxFrom]
  by_cases e:z=x
  ·rw[if_pos e];omega
  ·rw[if_neg e];exact jd x zs (i+1) (by rcases List.mem_cons.1 h with h|h;exact absurd h.symm e;exact h)
theorem tj{x:Int}{zs:List Int}(h:x∈zs):0<=Lib.idxOf zs x:=jd x zs 0 h
/-- where a holder stands in the second account -/
def placeOf(P P':List Cz)(k:Nat):Nat:=(Lib.idxOf (aL P') (dY (aL P) (k:Int))).toNat
theorem uG{log:List Int}{P P':List Cz}{k:Nat}(hn:(P.map Cz.num).Nodup)(hn':(P'.map Cz.num).Nodup)(hm:qR P P')(hk:k < (membersB log P).length) :
  ∃d d':Cz,d∈P/\d'∈P'/\d'.num=d.num/\(∀b∈d.vals,b∈d'.vals)/\(∀w:Nat,(d.tick[w]?).getD 0<=(d'.tick[w]?).getD 0)/\(aL P)[k]?=some d.num/\Lib.idxOf (aL P') d.num=(placeOf P P' k:Int)/\(aL P')[placeOf P P' k]?=some d.num /\
   (membersB log P)[k]?=some ⟨aS d.vals,d.tick,Lib.idxOf log d.num⟩/\(membersB log P')[placeOf P P' k]?=some ⟨aS d'.vals,d'.tick,Lib.idxOf log d.num⟩:=by
 unfold membersB at hk ⊢
 rw[List.length_map]at hk;obtain⟨n,a⟩:∃n,(aL P)[k]?=some n:=⟨_,List.getElem?_eq_getElem hk⟩;obtain⟨d,c,rfl⟩:=List.mem_map.1 ((bi P).mem_iff.1 (List.mem_of_getElem? a));obtain⟨d',hd',e,h,i⟩:=hm d c
 have l:dY (aL P) (k:Int)=d.num:=by
  unfold dY
  rw[Int.toNat_natCast,a]
  rfl
 have j:0<=Lib.idxOf (aL P') d.num:=tj ((bi P').mem_iff.2 (List.mem_map.2 ⟨d',hd',e⟩));have f:=fZ j
 have g:Lib.idxOf (aL P') d.num=(placeOf P P' k:Int):=by
  unfold placeOf
  rw[l];omega
 rw[g,Int.toNat_natCast]at f
 have o:czOf 0 P d.num=d:=by
  unfold czOf
  rw[eO hn c]
  rfl
 have m:czOf 0 P' d.num=d':=by
  unfold czOf
  rw[<-e,eO hn' hd']
  rfl
 refine⟨d,d',c,hd',e,h,i,a,g,f,?_,?_⟩
 ·rw[List.getElem?_map,a]
  unfold dZ
  rw[Option.map_some,o]
 ·rw[List.getElem?_map,f]
  unfold dZ
  rw[Option.map_some,m]
theorem lX{c:Crw}{q k:Nat}:canB (holdsOf c) q k=true↔∃p m,c.qs[q]?=some p/\c.ms[k]?=some m/\hldB p m.binds=true:=by
 unfold canB holdsOf tf
 rw[List.getElem?_map]
 cases hq:c.qs[q]? with
 |none=>simp
 |some p =>
  simp only[Option.map_some,Option.getD_some,List.getElem?_map]
  cases hm:c.ms[k]? with
  |none=>simp
  |some m=>simp
/-- with a further issuing no holder is possible no longer -/
theorem qo{ks:List Pss}{log:List Int}{is:List Iss}{x:Iss}{ss:List Sgt}{a b:Crw}{n1 n2:List Int}(ha:accountB ks log is ss=.ok (a,n1))(hb:accountB ks log (is++[x]) ss=.ok (b,n2)){u:Nat}(hu:u < ss.length):subB (posN a n1 u) (posN b n2 u)=true/\a.us.length=ss.length/\b.us.length=ss.length:=by
 have z1:=(iL ha).1;have z2:=(iL hb).1;obtain⟨P,q,n,hP,rfl,rfl,I⟩:=iw ha;obtain⟨P',D,l,hP',rfl,rfl,G⟩:=iw hb;have L:=bX hP;have hi':=bX hP';rw[eN,hP]at hP'
 have hm:qR P P':=by
  dsimp only at hP'
  rw[aF]at hP'
  cases hx:addB ks P x with
  |error e=>rw[hx]at hP';cases hP'
  |ok Q =>
   rw[hx]at hP'
   dsimp only at hP'
   rw[aF]at hP';injection hP' with hP';subst hP';exact tL L.nodup hx
 obtain⟨va,vb,e1,e2,e3,l1,l2,hT⟩:=jK ss [] q D [] [] n l I G;rw[List.nil_append]at e2 e3;subst e1 e2 e3;have V:=(dU I).2;have U:=(dU G).2;have F:=fun{k:Nat} (hk:k < (membersB log P).length)=>uG (log:=log) L.nodup hi'.nodup hm hk;refine⟨?_,l1,l2⟩
 unfold subB posN
 rw[List.all_eq_true];intro y hy;obtain⟨z,hz,rfl⟩:=List.mem_map.1 hy;obtain⟨m,r,a1,rfl⟩:=dy.1 hz
 have t:∀k,k < (membersB log P).length->placeOf P P' k < (membersB log P').length:=fun k hk=>by
  obtain⟨d,d',_,_,_,_,_,_,_,_,_,h⟩:=F hk;exact(List.getElem?_eq_some_iff.1 h).1
 have M:PosC ⟨D,membersB log P',l⟩ (canOf ⟨D,membersB log P',l⟩) u (placeOf P P' m):=a1.mono (placeOf P P') (dO _) (dO _) (dl _) (by show l.length<=n.length;omega) (by show u < l.length;omega) r t
  (fun i j hi1 hj1 e=>by
   obtain⟨d,d',_,_,_,_,_,C,_,B,_⟩:=F hi1;obtain⟨f,f',_,_,_,_,_,X,_,J,_⟩:=F hj1;rw[e,J]at B;injection B with B;rw[<-B,<-X]at C;have a0:(aL P).Nodup:=(bi P).nodup_iff.2 L.nodup
   exact(List.getElem?_inj (by have:=hi1;unfold membersB at this;simpa using this) a0).1 C)
  (fun i k hi1 hk=>by
   have v:k < (membersB log P).length:=(mtOf ⟨D,membersB log P,n⟩ _ (dl _)).low i k hk
   have A:i < n.length:=by have:i < l.length:=hi1;omega
   obtain⟨s,E⟩:∃s,n[i]?=some s:=⟨_,List.getElem?_eq_getElem A⟩;obtain⟨s',hs',t1,t2,t3⟩:=hT i s E;obtain⟨g,hg⟩:∃g,ss[i]?=some g:=⟨_,List.getElem?_eq_getElem (by omega)⟩;obtain⟨s1,T,f2,f3⟩:=V i g hg;rw[E]at T;injection T with T;subst T;obtain⟨s2,R,g2,g3⟩:=U i g hg;rw[hs']at R;injection R with R;subst R;obtain⟨d,d',M,hd',e0,hv,ht,C,B,h3,O,N⟩:=F v;rw[ed (c:=⟨D,membersB log P,n⟩) E v]at hk;rw[ed (c:=⟨D,membersB log P',l⟩) hs' (t k v)]
   unfold fI at hk ⊢
   simp only[Bool.and_eq_true,Bool.or_eq_true,decide_eq_true_eq]at hk ⊢;obtain⟨⟨X,J⟩,k3⟩:=hk;refine⟨⟨?_,?_⟩,?_⟩
   ·obtain⟨p,mm,p1,p2,p3⟩:=lX.1 X;refine lX.2 ⟨p,_,by rw[t1];exact p1,N,?_⟩;have p2':(membersB log P)[k]?=some mm:=p2;rw[O]at p2';injection p2' with p2';subst p2';exact wW (tC (L.vals d M) (hi'.vals d' hd') hv) p3
   ·rw[O]at J;rw[N,t3];exact J
   ·by_cases e:g.holder=0
    ·refine Or.inl ?_;rw[g2,e];exact z2
    ·refine Or.inr ?_;have Y:s.hold=(k:Int):=k3.resolve_left (by have:=f3 e;omega);have Z:=f3 e;have o:=fZ Z;rw[<-f2,Y,Int.toNat_natCast,C]at o;injection o with o;rw[g2,<-o]
     exact B)
  (fun i hi1=>by
   have A:i < n.length:=by have:i < l.length:=hi1;omega
   obtain⟨s,E⟩:∃s,n[i]?=some s:=⟨_,List.getElem?_eq_getElem A⟩;obtain⟨s',hs',t1,t2,t3⟩:=hT i s E
   show((l[i]?).map fun x=>x.win.toNat).getD 0=((n[i]?).map fun x=>x.win.toNat).getD 0
   rw[E,hs',Option.map_some,Option.map_some,t2])
  (fun k w hk=>by
   obtain⟨d,d',M,hd',e0,hv,ht,C,B,h3,O,N⟩:=F hk
   show((((membersB log P)[k]?).map fun x=>(bI x w).toNat).getD 0)<=((((membersB log P')[placeOf P P' k]?).map fun x=>(bI x w).toNat).getD 0)
   rw[O,N]
   exact Int.toNat_le_toNat (ht w))
 rw[List.any_eq_true];refine⟨_,List.mem_map.2 ⟨((placeOf P P' m:Nat):Int),dy.2 ⟨placeOf P P' m,t m r,M,rfl⟩,rfl⟩,?_⟩;obtain⟨d,d',_,_,_,_,_,C,_,h3,_⟩:=F r
 unfold dY
 rw[Int.toNat_natCast,Int.toNat_natCast,C,h3]
 simp
end Go.Proofs.YtpcmamoomaddoaaGreatDoor
