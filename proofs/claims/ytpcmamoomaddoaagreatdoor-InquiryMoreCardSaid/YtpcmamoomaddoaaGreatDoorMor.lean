import Derived.Test.YtpcmamoomaddoaaGreatDoorLes
set_option maxRecDepth 100000
set_option maxHeartbeats 32000000
namespace Go.Proofs.YtpcmamoomaddoaaGreatDoor
theorem se{ks:List Pss}{log nums:List Int}{q q':List Pd}{u u':List Sn}{x:Sgt}(h:sightB ks log nums (q,u) x=.ok (q',u')):∃r,q'=q++r:=by
 unfold sightB at h
 split at h
 ·cases h
 ·split at h
  ·cases h
  ·split at h
   ·cases h
   ·split at h
    ·cases h
    ·split at h
     ·cases h
     ·split at h
      ·cases h
      ·split at h
       ·cases h
       ·split at h
        ·injection h with h;injection h with h1 h2;exact⟨[],by rw[<-h1];simp⟩
        ·split at h
         ·cases h
         ·injection h with h;injection h with h1 h2;exact⟨_,h1.symm⟩
theorem nx{ks:List Pss}{log:List Int}{is:List Iss}{ss:List Sgt}{y:Sgt}{a c:Crw}{n1 n3:List Int}(ha:accountB ks log is ss=.ok (a,n1))(hc:accountB ks log is (ss++[y])=.ok (c,n3)) :
  n3=n1/\c.ms=a.ms/\(∃r,c.qs=a.qs++r)/\(∃s,c.us=a.us++[s])/\a.us.length=ss.length:=by
 unfold accountB at ha hc
 by_cases c1:dI ks=false\/logB log=false
 ·rw[if_pos c1]at ha;cases ha
 ·rw[if_neg c1]at ha hc
  cases hP:aF (addB ks) [] is with
  |error e=>rw[hP]at ha;cases ha
  |ok P =>
   rw[hP]at ha hc
   dsimp only at ha hc
   rw[eN]at hc
   cases hu:aF (sightB ks log (aL P)) ([],[]) ss with
   |error e=>rw[hu]at ha;cases ha
   |ok t =>
    rw[hu]at ha hc;obtain⟨q,u⟩:=t
    dsimp only at ha hc
    injection ha with ha;injection ha with h1 h2;subst h1;subst h2;rw[aF]at hc
    cases hs:sightB ks log (aL P) (q,u) y with
    |error e=>rw[hs]at hc;cases hc
    |ok v =>
     rw[hs]at hc;obtain⟨q',u'⟩:=v
     dsimp only at hc
     rw[aF]at hc
     dsimp only at hc
     injection hc with hc;injection hc with h1 h2;subst h1;subst h2;obtain⟨s,b,_⟩:=jM hs;exact⟨rfl,rfl,se hs,⟨s,b⟩,(dU hu).1⟩
/-- with a further sight none is possible that was not -/
theorem qm{ks:List Pss}{log:List Int}{is:List Iss}{ss:List Sgt}{y:Sgt}{a c:Crw}{n1 n3:List Int}(ha:accountB ks log is ss=.ok (a,n1))(hc:accountB ks log is (ss++[y])=.ok (c,n3))(hv:cX a=true){u:Nat}(hu:u < ss.length):subB (posN c n3 u) (posN a n1 u)=true:=by
 obtain⟨rfl,d,⟨r,A⟩,⟨s,n⟩,C⟩:=nx ha hc
 have p:c.us.length=a.us.length+1:=by rw[n];simp
 have e:∀x,x < a.us.length->c.us[x]?=a.us[x]?:=fun x hx=>by rw[n,List.getElem?_append_left hx]
 have hH:∀k,k < a.qs.length->(holdsOf c)[k]?=(holdsOf a)[k]?:=fun k hk=>by
  unfold holdsOf
  rw[List.getElem?_map,List.getElem?_map,A,List.getElem?_append_left hk,d]
 unfold subB posN
 rw[List.all_eq_true];intro v i;obtain⟨z,o,rfl⟩:=List.mem_map.1 i;obtain⟨m,f,l,rfl⟩:=dy.1 o
 have q:PosC a (canOf a) u m:=l.mono (fun k=>k) (dO c) (dO a) (dl a) (by omega) (by omega) f (fun k hk=>by rw[<-d];exact hk) (fun a b _ _ h=>h) (fun x k hx hk=>by
   obtain⟨t,j⟩:∃t,a.us[x]?=some t:=⟨_,List.getElem?_eq_getElem hx⟩;have g:k < c.ms.length:=(mtOf c (canOf c) (dl c)).low x k hk;rw[ed ((e x hx).trans j) g]at hk;rw[ed j (by rw[<-d];exact g)];have B:=iU hv t (List.mem_of_getElem? j)
   unfold fI canB at hk ⊢
   rw[hH _ (by omega),d]at hk
   exact hk) (fun x hx=>by unfold winB;rw[e x hx]) (fun k w _=>by unfold capB;rw[d];exact Nat.le_refl _)
 rw[List.any_eq_true];exact⟨_,List.mem_map.2 ⟨(m:Int),dy.2 ⟨m,by rw[<-d];exact f,q,rfl⟩,rfl⟩,by simp⟩
end Go.Proofs.YtpcmamoomaddoaaGreatDoor
