import Derived.Test.YtcidfldeiklcjaaGreatDoorTxb
set_option maxRecDepth 100000
set_option maxHeartbeats 32000000
namespace Go.Proofs.YtcidfldeiklcjaaGreatDoor.Dt
open Tape Wire
theorem eM{α:Type}{enc:α->List UInt8}(h:∀x,1<=(enc x).length):∀l:List α,l.length<=(l.flatMap enc).length
 | []=>by simp
 |x::l=>by have:=h x;have:=eM h l;rw[List.flatMap_cons,List.length_append,List.length_cons];omega
structure PssOk (p:Pss):Prop where
 pub:I64 p.pub
 gs:AllI p.guests
theorem vL{r a b c d:Rd}{x:List UInt8}{y:Int}{z:List (List UInt8)}{u:List Int}(h1:Wire.text r=(x,a))(h2:Wire.ar 59 (-9223372036854775808) a=(y,b))(h3:Wire.texts b=(z,c))(h4:Wire.nums c=(u,d)):rdP r=(⟨x,y,z,u⟩,d):=by
 unfold rdP;simp only[h1,h2,h3,h4]
theorem ss(r:Rd)(h:(rdP r).2.bad=false):r.bad=false/\r.rest=pssE (rdP r).1++(rdP r).2.rest/\PssOk (rdP r).1:=by
 obtain⟨x,a,j⟩:∃x a,Wire.text r=(x,a):=⟨_,_,rfl⟩;obtain⟨y,b,e⟩:∃x b,Wire.ar 59 (-9223372036854775808) a=(x,b):=⟨_,_,rfl⟩;obtain⟨z,c,i⟩:∃x c,Wire.texts b=(x,c):=⟨_,_,rfl⟩;obtain⟨u,d,g⟩:∃x d,Wire.nums c=(x,d):=⟨_,_,rfl⟩;rw[vL j e i g]at h ⊢;have k:=Wire.nums_inv c;rw[g]at k;obtain⟨p,r4,_,o⟩:=k h;have l:=Wire.zY b;rw[i]at l;obtain⟨q,r3,_,_⟩:=l p;have m:=Wire.eX 59 (-9223372036854775808) a;rw[e]at m;obtain⟨s,r2,_⟩:=m q;have f:=Wire.xM 59 (-9223372036854775808) a;rw[e]at f;have n:=Wire.uU r;rw[j]at n;obtain⟨t,r1,_⟩:=n s;refine⟨t,?_,⟨f,o⟩⟩;rw[r1,r2,r3,r4]
 simp[pssE,Wire.intE]
theorem eI:∀(n:Nat) (r:Rd) (acc:List Pss),(cL n r acc).2.bad=false->r.bad=false/\∃l,(cL n r acc).1=acc++l/\r.rest=l.flatMap pssE++(cL n r acc).2.rest/\∀p∈l,PssOk p
 |0,r,acc,h=>⟨h,[],by simp[cL],by simp[cL],by simp⟩
 |n+1,r,acc,h=>by
  unfold cL at h ⊢
  by_cases he:r.rest.isEmpty
  ·rw[if_pos he]at h ⊢;exact⟨h,[],by simp,by simp,by simp⟩
  ·rw[if_neg he]at h ⊢;obtain⟨h1,l,h2,h3,h4⟩:=eI n _ _ h;obtain⟨g1,g2,g3⟩:=ss r h1;refine⟨g1,(rdP r).1::l,by rw[h2];simp,?_,?_⟩
   ·rw[g2,h3];simp
   ·intro p hp
    rcases List.mem_cons.1 hp with rfl|hp
    ·exact g3
    ·exact h4 p hp
theorem pssE_len(p:Pss):p.name.length<=(pssE p).length/\p.attrs.length<=(pssE p).length/\(p.attrs.flatMap Wire.kO).length<=(pssE p).length/\p.guests.length<=(pssE p).length:=by
 have h1:p.attrs.length<=(p.attrs.flatMap Wire.kO).length:=eM (enc:=Wire.kO) (fun x=>by simp only[Wire.kO,List.length_append,List.length_singleton];omega) _;have h2:p.guests.length<=(p.guests.flatMap Wire.intE).length:=eM (enc:=Wire.intE) (fun x=>by simp only[Wire.intE,List.length_append,List.length_singleton];omega) _
 unfold pssE
 simp only[Wire.zp,Wire.yX,Wire.listE,Wire.kO,List.length_append,List.length_singleton]at h1 h2 ⊢;omega
structure TkB (h:List Int) (q:List UInt8) (rv:List Int) (ps:List Pss):Prop where
 h5:AllI h
 q:q.length<=100000000
 rl:rv.length<=100000001
 ri:AllI rv
 rt:(Wire.yX rv).length<=100000000
 pl:ps.length<=100000000
 pt:(ps.flatMap pssE).length<=100000000
 pk:∀p∈ps,PssOk p
structure Parts (s:List UInt8) (h:List Int) (q:List UInt8) (rv:List Int) (n:Int) (ps:List Pss) (a b c d e:Rd):Prop where
 h1:Wire.nums ⟨s,false⟩=(h,a)
 h2:Wire.text a=(q,b)
 h3:Wire.nums b=(rv,c)
 h4:Wire.ar 59 0 c=(n,d)
 h5:cL n.toNat d []=(ps,e)
def okP(s:List UInt8)(h:List Int)(q:List UInt8)(rv:List Int)(ps:List Pss)(e:Rd):Bool:=(endB e&&decide (h.length=5))&&decide (ph h q rv ps=s)
theorem rx{s:List UInt8}{h:List Int}{q:List UInt8}{rv':List Int}{n:Int}{ps':List Pss}{a b c d e:Rd}(p:Parts s h q rv' n ps' a b c d e) :
  okT s=okP s h q rv' ps' e/\xr s=if okP s h q rv' ps' e then h.getD 2 0 else 0:=by
 have l:hd s=h:=by unfold hd;rw[p.h1]
 have k:r1 s=a:=by unfold r1;rw[p.h1]
 have t:qn s=q:=by unfold qn;rw[k,p.h2]
 have j:r2 s=b:=by unfold r2;rw[k,p.h2]
 have r:rv s=rv':=by unfold rv;rw[j,p.h3]
 have g:r3 s=c:=by unfold r3;rw[j,p.h3]
 have i:r4 s=d:=by unfold r4;rw[g,p.h4]
 have o:ps s=ps':=by unfold ps;rw[g,i,p.h4,p.h5]
 have m:r5 s=e:=by unfold r5;rw[g,i,p.h4,p.h5]
 have f:okT s=okP s h q rv' ps' e:=by unfold okT okP;rw[l,t,r,o,m]
 exact⟨f,by unfold xr;rw[f,l]⟩
theorem tkB_of{s:List UInt8}{h:List Int}{q:List UInt8}{rv:List Int}{n:Int}{ps:List Pss}{a b c d e:Rd}(p:Parts s h q rv n ps a b c d e)(hs:s.length<=100000000)(he:e.bad=false):TkB h q rv ps:=by
 have t:=eI n.toNat d [];rw[p.h5]at t;obtain⟨F,l,f,g,E⟩:=t he;rw[List.nil_append]at f
 simp only at f g
 subst f;have u:=Wire.eX 59 0 c;rw[p.h4]at u;obtain⟨G,i,O,_⟩:=u F;have v:=Wire.nums_inv b;rw[p.h3]at v;obtain⟨I,j,L,o⟩:=v G;have w:=Wire.uU a;rw[p.h2]at w;obtain⟨J,k,M⟩:=w I;have y:=Wire.nums_inv ⟨s,false⟩;rw[p.h1]at y;obtain⟨_,m,N,r⟩:=y J
 simp only at m k j i r o
 have D:=congrArg List.length m;have C:=congrArg List.length k;have B:=congrArg List.length j;have A:=congrArg List.length i;have z:=congrArg List.length g;simp only[List.length_append,List.length_cons]at D C B A z
 have Q:q.length<=(Wire.kO q).length:=by simp only[Wire.kO,List.length_append];omega
 have P:rv.length<=(Wire.yX rv).length:=by
  have T:rv.length<=(rv.flatMap Wire.intE).length:=eM (enc:=Wire.intE) (fun x=>by simp only[Wire.intE,List.length_append,List.length_singleton];omega) _;simp only[Wire.yX,Wire.listE,List.length_append];omega
 have R:ps.length<=(ps.flatMap pssE).length:=eM (enc:=pssE) (fun x=>by simp only[pssE,Wire.kO,List.length_append,List.length_singleton];omega) _;exact⟨r,by omega,by omega,o,by omega,by omega,by omega,E⟩
theorem pW{e:UInt8}{least:Int}{r:Rd}(h:r.rest≠[]):(Wire.ar e least r).2.rest.length+1<=r.rest.length:=by
 have hl:1<=r.rest.length:=by
  rcases hr:r.rest with _|⟨x,t⟩
  ·exact absurd hr h
  ·simp
 unfold Wire.ar
 split
 ·simp[Wire.be];omega
 ·split
  ·split
   ·simp;omega
   ·simp[Wire.be];omega
  ·simp[Wire.be];omega
theorem tg{r:Rd}(h:r.rest≠[]):(Wire.text r).2.rest.length+1<=r.rest.length:=by
 have h1:=pW (e:=58) (least:=0) h;have h2:=Wire.xN [44] ⟨(Wire.ar 58 0 r).2.rest.drop (Wire.ar 58 0 r).1.toNat,(Wire.ar 58 0 r).2.bad⟩;simp only[List.length_drop]at h2
 unfold Wire.text
 split
 ·simp[Wire.be];omega
 ·split <;> (simp only;omega)
theorem ys(r:Rd):(Wire.nums r).2.rest.length<=r.rest.length:=by
 have h1:=Wire.vZ 91 0 r;have h2:=jw dZ (fun r=>Wire.vZ 59 _ r) (Wire.ar 91 0 r).1.toNat (Wire.ar 91 0 r).2 [];have h3:=Wire.xN [93] (Wire.loop dZ (Wire.ar 91 0 r).1.toNat (Wire.ar 91 0 r).2 []).2;rw[ij]
 unfold Wire.items
 split <;> (simp only;omega)
theorem uS(r:Rd):(Wire.texts r).2.rest.length<=r.rest.length:=by
 have h1:=Wire.vZ 91 0 r;have h2:=gF (Wire.ar 91 0 r).1.toNat (Wire.ar 91 0 r).2 [];have h3:=Wire.xN [93] (Wire.loop Wire.text (Wire.ar 91 0 r).1.toNat (Wire.ar 91 0 r).2 []).2
 unfold Wire.texts Wire.items
 split <;> (simp only;omega)
theorem rdP_less{r:Rd}(h:r.rest≠[]):(rdP r).2.rest.length+1<=r.rest.length:=by
 obtain⟨x,a,h1⟩:∃x a,Wire.text r=(x,a):=⟨_,_,rfl⟩;obtain⟨y,b,h2⟩:∃x b,Wire.ar 59 (-9223372036854775808) a=(x,b):=⟨_,_,rfl⟩;obtain⟨z,c,h3⟩:∃x c,Wire.texts b=(x,c):=⟨_,_,rfl⟩;obtain⟨u,d,h4⟩:∃x d,Wire.nums c=(x,d):=⟨_,_,rfl⟩;rw[vL h1 h2 h3 h4];have g1:=tg h;rw[h1]at g1;have g2:=Wire.vZ 59 (-9223372036854775808) a;rw[h2]at g2;have g3:=uS b;rw[h3]at g3;have g4:=ys c;rw[h4]at g4
 simp only at g1 g2 g3 g4 ⊢
 omega
end Go.Proofs.YtcidfldeiklcjaaGreatDoor.Dt
namespace Go.Proofs.YtcidfldeiklcjaaGreatDoor
open Tm Tape
def inB(n lo hi:Int):Bool:=decide (lo<=n)&&decide (n<=hi)
theorem ci(n lo hi:Int):inB n lo hi=true↔lo<=n/\n<=hi:=by unfold inB;simp
def nth(l:List Int)(i:Nat):Int:=l.getD i 0
def twoB(l:List Int)(a b c d:Int):Bool:=decide (l.length=2)&&(inB (nth l 0) a b&&inB (nth l 1) c d)
def bK(l:List Int)(most:Int)(p:Int->Bool):Bool:=(l.all p&&decide l.Nodup)&&inB l.length 1 most
theorem dB{l:List Int}{most:Int}{p:Int->Bool}{k:Nat}(h:k < l.length)(hp:p l[k]=false):bK l most p=false:=by
 unfold bK;rw[dU h hp];rfl
theorem rz{l:List Int}{k:Nat}(h:k < l.length)(hd:(l.take (k+1)).Nodup):¬l[k]∈l.take k:=by
 rw[List.take_succ_eq_append_getElem h,List.nodup_append]at hd;intro hm;exact hd.2.2 _ hm _ (List.mem_singleton.2 rfl) rfl
theorem dO{l:List Int}{k:Nat}(h:k < l.length)(hd:(l.take k).Nodup)(hn:¬l[k]∈l.take k):(l.take (k+1)).Nodup:=by
 rw[List.take_succ_eq_append_getElem h,List.nodup_append];refine⟨hd,List.nodup_cons.2 ⟨by simp,List.nodup_nil⟩,fun a ha b hb=>?_⟩;rw[List.mem_singleton]at hb;subst hb;intro e;subst e;exact hn ha
theorem dC{l:List Int}{most:Int}{p:Int->Bool}{k:Nat}(h:k < l.length)(hm:l[k]∈l.take k):bK l most p=false:=by
 have:¬l.Nodup:=fun hd=>rz h (hd.sublist (List.take_sublist _ _)) hm
 unfold bK;rw[decide_eq_false this];simp
theorem eh{l:List Int}{most:Int}{p:Int->Bool}(ha:∀j (hj:j < l.length),p l[j]=true)(hd:l.Nodup):bK l most p=inB l.length 1 most:=by
 unfold bK;rw[oT ha,decide_eq_true hd];rfl
def dD(s:Stp)(l:List Int):Bool:=bK l 16 fun n=>inB n 1 (s.Q - 1)
def dA(s:Stp)(l:List Int):Bool:=bK l 32 (othB s.Q.toNat)
def bB(s:Stp)(e:Ent):Bool :=
 if e.kind=0 then dD s e.nums
 else if e.kind=1 then twoB e.nums 0 2147483648 0 2147483648&&decide (nth e.nums 0<=nth e.nums 1)
 else if e.kind=2 then twoB e.nums 0 23 0 4095&&!decide (nth e.nums 0=e.gate)
 else if e.kind=3 then twoB e.nums 0 15 1 (s.Q - 1)
 else if e.kind=4 then decide (e.nums.length=1)&&inB (nth e.nums 0) 0 (e.no - 1)
 else if e.kind=5 then twoB e.nums 0 (e.no - 1) 1 100
 else if e.kind=6 then dA s e.nums
 else false
def gj(e:Ent):Bool :=
 if e.kind=3 then Dt.okT e.text&&decide (Dt.xr e.text=nth e.nums 1)
 else if e.kind=4 then(cS e.text).2
 else decide (e.text=[])
def aS(s:Stp)(e:Ent):Bool:=aw s&&(inB e.gate 0 23&&(inB e.no 0 4095&&(inB e.time 0 2147483648&&(bB s e&&gj e))))
theorem dh{l:List Int}{a b c d:Int}(h:twoB l a b c d=true):∃x y,l=[x,y]/\(a<=x/\x<=b)/\(c<=y/\y<=d):=by
 unfold twoB at h
 simp only[Bool.and_eq_true,decide_eq_true_eq,ci]at h;obtain⟨h1,h2,h3⟩:=h
 match l,h1 with
 | [x,y],_=>exact⟨x,y,rfl,h2,h3⟩
theorem dS{s:Stp}{e:Ent}(h:aS s e=true):WF e/\aw s=true/\(0<=e.gate/\e.gate<=23)/\(0<=e.no/\e.no<=4095):=by
 unfold aS at h
 simp only[Bool.and_eq_true,ci]at h;obtain⟨h1,h2,h3,h4,h5,_⟩:=h;refine⟨⟨h4,fun hk=>?_,fun hk=>?_⟩,h1,h2,h3⟩
 ·unfold bB at h5
  rw[if_neg (by omega),if_pos hk,Bool.and_eq_true]at h5;obtain⟨x,y,e1,e2,e3⟩:=dh h5.1;have h6:=h5.2;rw[e1]at h6
  simp[nth]at h6
  exact⟨x,y,e1,e2.1,h6,e3.2⟩
 ·unfold bB at h5
  rw[if_neg (by omega),if_neg (by omega),if_pos hk,Bool.and_eq_true]at h5;obtain⟨x,y,e1,e2,e3⟩:=dh h5.1;exact⟨x,y,e1⟩
end Go.Proofs.YtcidfldeiklcjaaGreatDoor
namespace Go.Proofs.YtcidfldeiklcjaaGreatDoor
open Go.RowKit Tm
open Go.Proofs.Tryz
open Lib(hid)
theorem aV(n lo hi:Int)(w:World):Calls prog 37 #[n,lo,hi] w fun e w'=>e=.returned (.bool (inB n lo hi))/\w=w':=by
 unfold inB
 by_cases h1:lo<=n
 ·have d1:decide (lo<=n)=true:=decide_eq_true h1;rw[d1,Bool.true_and]
  go_enter func37,ntmps37
  go_wp2_with fail;go_ret;exact⟨rfl,rfl⟩
 ·have d1:decide (lo<=n)=false:=decide_eq_false h1;rw[d1,Bool.false_and]
  go_enter func37,ntmps37
  go_wp2_with fail;go_ret;exact⟨rfl,rfl⟩
theorem ff(b off n c:Nat)(l:List Int)(k:Nat)(x:Int)(w:World)(hk:k<=l.length)(hl:l.length<=1000000000)(hc:∀j u,(ints l)[j]?=some u->w.cell? ⟨b,off+j,none⟩=some u)(hn:n=k) :
  Calls prog 38 #[.slice (some ⟨b,off,none⟩) n c,x] w fun e w'=>e=.returned (.bool (decide (x∈l.take k)))/\w=w':=by
 subst hn
 refine(Tryz.slices_Contains_int b off n c l x w hk (by omega) (fun j hj=>?_)).mono fun e w' ⟨h1,h2⟩=>⟨by rw[h1];simp,h2.symm⟩
 rw[hc j _ (aL hj)];rw[List.getD_eq_getElem?_getD,List.getElem?_eq_getElem hj]
 rfl
theorem mA(v:Value)(l:List Int)(most:Int)(p:Int->Bool)(b0:Nat)(w:World)(hv:Row w 1 v l.length (ints l))(hl:l.length<=100000000)
  (hp:∀w' x,Kept [] w w'->x∈l->Calls prog 168 #[x,.pointer (some ⟨b0,0,none⟩)] w' fun e w2=>e=.returned (.bool (p x))/\Kept [] w' w2) :
  Calls prog 167 #[v,most,.func (.func 168) #[] #[.pointer (some ⟨b0,0,none⟩)]] w fun e w'=>e=.returned (.bool (bK l most p))/\Kept [] w w':=by
 obtain⟨V,N,rfl,_,M⟩:=hv.form;have O:=hid hv;have P:=hid hp;obtain⟨R,r⟩:=nm (bK l most p);rw[r];have d:=hid r;clear hv hp r
 go_enter func167,ntmps167
 go_wp2_with fail
 go_loopw [7,8,11] (fun _ _ i wr=>∃k:Nat,k<=l.length/\i=k/\(∀j (hj:j < l.length),j < k->p l[j]=true)/\(l.take k).Nodup/\Kept [] w wr) (fun _ _ i _=>l.length - (intOf i).toNat)
 case atStart=>exact⟨0,Nat.zero_le _,rfl,fun j _ hj=>by omega,by simp,kr⟩
 case round =>
  obtain⟨k,U,rfl,C,g,m⟩:=hrel;have I:=hid C;have G:=hid g;have f:=hid m;clear C g m
  by_cases hlt:k < l.length
  ·obtain⟨D,A,rfl,c⟩:=(O.out.kept f.out).at_ (by omega);have T:=c k _ (aL hlt);have z:=hid (P wr l[k] f (List.getElem_mem hlt))
   generalize B:p l[k]=t at z
   have F:=hid B;have y:=hid c;clear c B
   cases t
   ·have b:=d.out;rw[dB hlt F.out]at b;subst b;go_wp2_with (go_at_call 168;refine z.mono ?_);rintro e w2 ⟨rfl,a⟩;go_wp2_with fail;go_ret;exact⟨rfl,f.trans a⟩
   ·have L:(0:Int)<=(k:Int):=by omega
    have J:(k:Int)<=(N:Int):=by omega
    have n:Hid (∀w2 c2,Kept [] wr w2->Calls prog 38 #[.slice (some ⟨D,A,none⟩) k c2,.int .i64 l[k]] w2 fun e o=>e=.returned (.bool (decide (l[k]∈l.take k)))/\w2=o):=fun w2 c2 k2 =>
     ff D A k c2 l k l[k] w2 (by omega) (by omega) (fun j u hu=>Kept.cellOf (y.out j u hu) _ k2) rfl
    go_wp2_with (go_at_call 168;refine z.mono ?_);rintro e w2 ⟨rfl,a⟩
    by_cases hd:l[k]∈l.take k
    ·have b:=d.out;rw[dC hlt hd]at b;subst b;rw[decide_eq_true hd]at n;clear hd;go_wp2_with (go_at_call 38;refine(n w2 _ a).mono ?_);rintro e o ⟨rfl,rfl⟩;go_wp2_with fail;go_ret;exact⟨rfl,f.trans a⟩
    ·have Q:=hid hd;rw[decide_eq_false hd]at n;clear hd;go_wp2_with (go_at_call 38;refine(n w2 _ a).mono ?_);rintro e o ⟨rfl,rfl⟩;have s:=hid (f.trans a);clear a;go_wp2_with fail
     go_roundw
     case rel=>exact⟨k+1,by omega,by go_num,fun j hj hjk=>by
      rcases Nat.lt_or_ge j k with h|h
      ·exact I j hj h
      ·obtain rfl:j=k:=by omega
       exact F,dO hlt G Q,s⟩
     case measure=>simp[intOf];omega
  ·have hk':Hid (k=l.length):=hid (by omega);have q:=G.out;rw[hk'.out,List.take_length]at q;have b:=d.out;rw[eh (fun j hj=>I.out j hj (by have:=hk'.out;omega)) q]at b;have E:=hid (aV (l.length:Int) 1 most wr);rw[b]at E;clear q b;go_wp2_with (go_at_call 37;refine E.mono ?_);rintro e w2 ⟨rfl,rfl⟩;go_wp2_with fail;go_ret;exact⟨rfl,f⟩
theorem mz(v:Value)(l:List Int)(most:Int)(p:Int->Bool)(b0:Nat)(w:World)(hv:Row w 1 v l.length (ints l))(hl:l.length<=100000000)
  (hp:∀w' x,Kept [] w w'->x∈l->Calls prog 169 #[x,.pointer (some ⟨b0,0,none⟩)] w' fun e w2=>e=.returned (.bool (p x))/\Kept [] w' w2) :
  Calls prog 167 #[v,most,.func (.func 169) #[] #[.pointer (some ⟨b0,0,none⟩)]] w fun e w'=>e=.returned (.bool (bK l most p))/\Kept [] w w':=by
 obtain⟨V,N,rfl,_,M⟩:=hv.form;have O:=hid hv;have P:=hid hp;obtain⟨R,r⟩:=nm (bK l most p);rw[r];have d:=hid r;clear hv hp r
 go_enter func167,ntmps167
 go_wp2_with fail
 go_loopw [7,8,11] (fun _ _ i wr=>∃k:Nat,k<=l.length/\i=k/\(∀j (hj:j < l.length),j < k->p l[j]=true)/\(l.take k).Nodup/\Kept [] w wr) (fun _ _ i _=>l.length - (intOf i).toNat)
 case atStart=>exact⟨0,Nat.zero_le _,rfl,fun j _ hj=>by omega,by simp,kr⟩
 case round =>
  obtain⟨k,U,rfl,C,g,m⟩:=hrel;have I:=hid C;have G:=hid g;have f:=hid m;clear C g m
  by_cases hlt:k < l.length
  ·obtain⟨D,A,rfl,c⟩:=(O.out.kept f.out).at_ (by omega);have T:=c k _ (aL hlt);have z:=hid (P wr l[k] f (List.getElem_mem hlt))
   generalize B:p l[k]=t at z
   have F:=hid B;have y:=hid c;clear c B
   cases t
   ·have b:=d.out;rw[dB hlt F.out]at b;subst b;go_wp2_with (go_at_call 169;refine z.mono ?_);rintro e w2 ⟨rfl,a⟩;go_wp2_with fail;go_ret;exact⟨rfl,f.trans a⟩
   ·have L:(0:Int)<=(k:Int):=by omega
    have J:(k:Int)<=(N:Int):=by omega
    have n:Hid (∀w2 c2,Kept [] wr w2->Calls prog 38 #[.slice (some ⟨D,A,none⟩) k c2,.int .i64 l[k]] w2 fun e o=>e=.returned (.bool (decide (l[k]∈l.take k)))/\w2=o):=fun w2 c2 k2 =>
     ff D A k c2 l k l[k] w2 (by omega) (by omega) (fun j u hu=>Kept.cellOf (y.out j u hu) _ k2) rfl
    go_wp2_with (go_at_call 169;refine z.mono ?_);rintro e w2 ⟨rfl,a⟩
    by_cases hd:l[k]∈l.take k
    ·have b:=d.out;rw[dC hlt hd]at b;subst b;rw[decide_eq_true hd]at n;clear hd;go_wp2_with (go_at_call 38;refine(n w2 _ a).mono ?_);rintro e o ⟨rfl,rfl⟩;go_wp2_with fail;go_ret;exact⟨rfl,f.trans a⟩
    ·have Q:=hid hd;rw[decide_eq_false hd]at n;clear hd;go_wp2_with (go_at_call 38;refine(n w2 _ a).mono ?_);rintro e o ⟨rfl,rfl⟩;have s:=hid (f.trans a);clear a;go_wp2_with fail
     go_roundw
     case rel=>exact⟨k+1,by omega,by go_num,fun j hj hjk=>by
      rcases Nat.lt_or_ge j k with h|h
      ·exact I j hj h
      ·obtain rfl:j=k:=by omega
       exact F,dO hlt G Q,s⟩
     case measure=>simp[intOf];omega
  ·have hk':Hid (k=l.length):=hid (by omega);have q:=G.out;rw[hk'.out,List.take_length]at q;have b:=d.out;rw[eh (fun j hj=>I.out j hj (by have:=hk'.out;omega)) q]at b;have E:=hid (aV (l.length:Int) 1 most wr);rw[b]at E;clear q b;go_wp2_with (go_at_call 37;refine E.mono ?_);rintro e w2 ⟨rfl,rfl⟩;go_wp2_with fail;go_ret;exact⟨rfl,f⟩
theorem rU(x:Int)(b:Nat)(v:Value)(s:Stp)(w:World)(hb:Blk w b 26 (stpA s v))(hq:1<=s.Q)(hq2:s.Q < 9223372036854775808) :
  Calls prog 168 #[x,.pointer (some ⟨b,0,none⟩)] w fun e w'=>e=.returned (.bool (inB x 1 (s.Q - 1)))/\Kept [] w w':=by
 have e1:w.cell? ⟨b,1,none⟩=some (.int .i64 s.Q):=hb.cell 1
 have hw:IntKind.i64.wrap (s.Q - 1)=s.Q - 1:=by rw[IntKind.wrap_i64];omega
 have WI:=hid (aV x 1 (s.Q - 1) w)
 generalize ht:inB x 1 (s.Q - 1)=t at WI ⊢
 clear ht hb
 go_enter func168,ntmps168
 go_wp2_with (go_at_call 37;refine WI.mono ?_);rintro e w2 ⟨rfl,rfl⟩;go_wp2_with fail;go_ret;exact⟨rfl,kr⟩
theorem rT(x:Int)(b:Nat)(v:Value)(s:Stp)(q:Nat)(w:World)(hb:Blk w b 26 (stpA s v))(hok:GrpOk s.P s.Q s.G q)(hg:cH q s.G=true)(hx:Wire.I64 x)(hE:Env2 w) :
  Calls prog 169 #[x,.pointer (some ⟨b,0,none⟩)] w fun e w'=>e=.returned (.bool (othB q x))/\Kept [] w w':=by
 obtain⟨j,i,h⟩:=bc3 hb rfl;have a:=hid (fE s.P s.Q s.G x q w hok hg hx hE)
 unfold othB
 clear hb hok
 by_cases h1:x=1
 ·subst h1
  go_enter func169,ntmps169
  go_wp2_with fail;go_ret;exact⟨rfl,kr⟩
 ·have d:(x != 1)=true:=by simpa using h1
  have hne':(x==1)=false:=by simpa using h1
  rw[hne']
  generalize c:memB q x=t at a ⊢
  clear c hne'
  go_enter func169,ntmps169
  go_wp2_with (go_at_call 96;refine a.mono ?_;rintro e g ⟨rfl,f⟩);go_ret;exact⟨rfl,f⟩
theorem rE(vs:Value)(s:Stp)(q:Nat)(v:Value)(l:List Int)(w:World)(hs:StpV w vs s)(hok:GrpOk s.P s.Q s.G q)(_hgn:cH q s.G=true)(hv:Row w 1 v l.length (ints l))(hl:l.length<=100000000)(_hi:∀x∈l,Wire.I64 x)(_hE:Env2 w) :
  Calls prog 122 #[vs,v] w fun e w'=>e=.returned (.bool (dD s l))/\Kept [] w w':=by
 obtain⟨⟨g,c,rfl,a⟩,B,A,D,n,C⟩:=hs;obtain⟨j,i,rfl,_,_⟩:=hv.form;obtain⟨W,d⟩:=nm (w.alloc (.cells (stpA s (.slice g s.bases.length c)) 26));have f:=bn d;have b:=ka (S:=[]) d;have r:∀(fn:Fn) (first cap:Array Value) (w:World),(Instr.makeFunc fn first cap).run prog w=.ok (.func fn first cap) w:=fun _ _ _ _=>rfl;have p:=hok.h5;have o:=hok.hq;have u:=hok.hQ
 have h:Hid (Calls prog 167 #[.slice j l.length i,.int .i64 16,.func (.func 168) #[] #[.pointer (some ⟨w.heap.size,0,none⟩)]] W fun e w'=>e=.returned (.bool (dD s l))/\Kept [] W w'):=by
  refine mA _ l 16 _ w.heap.size W (hv.kept b) hl fun w' x k hx=>?_;exact rU x _ _ s w' (f.kept k (by simp)) (by omega) (by omega)
 generalize t:dD s l=R at h ⊢
 have y:=hid d;clear d f a hv _hi _hE n t hok _hgn u
 show Calls _ _ #[.agg #[s.P,s.Q,s.G,.slice g s.bases.length c,s.blind],_] _ _
 go_enter func122,ntmps122
 go_wp2_with fail
 erw[y.out]
 go_wp2_with (go_at_call 167;with_reducible refine h.out.mono ?_);rintro e z ⟨rfl,m⟩;go_wp2_with fail;go_ret;exact⟨rfl,b.trans m⟩
theorem rB(vs:Value)(s:Stp)(q:Nat)(v:Value)(l:List Int)(w:World)(hs:StpV w vs s)(hok:GrpOk s.P s.Q s.G q)(hgn:cH q s.G=true)(hv:Row w 1 v l.length (ints l))(hl:l.length<=100000000)(hi:∀x∈l,Wire.I64 x)(hE:Env2 w) :
  Calls prog 123 #[vs,v] w fun e w'=>e=.returned (.bool (dA s l))/\Kept [] w w':=by
 obtain⟨⟨h,c,rfl,b⟩,C,B,E,o,D⟩:=hs;obtain⟨m,j,rfl,_,_⟩:=hv.form;obtain⟨W,d⟩:=nm (w.alloc (.cells (stpA s (.slice h s.bases.length c)) 26));have g:=bn d;have a:=ka (S:=[]) d;have t:∀(fn:Fn) (first cap:Array Value) (w:World),(Instr.makeFunc fn first cap).run prog w=.ok (.func fn first cap) w:=fun _ _ _ _=>rfl;have r:=hok.h5;have p:=hok.hq;have y:=hok.hQ
 have i:Hid (Calls prog 167 #[.slice m l.length j,.int .i64 32,.func (.func 169) #[] #[.pointer (some ⟨w.heap.size,0,none⟩)]] W fun e w'=>e=.returned (.bool (dA s l))/\Kept [] W w'):=by
  refine mz _ l 32 _ w.heap.size W (hv.kept a) hl fun w' x k hx=>?_
  have f:s.Q.toNat=q:=by omega
  rw[f];exact rT x _ _ s q w' (g.kept k (by simp)) hok hgn (hi x hx) (hE.kept0 (a.trans k))
 generalize u:dA s l=R at i ⊢
 have z:=hid d;clear d g b hv hi hE o u hok hgn y
 show Calls _ _ #[.agg #[s.P,s.Q,s.G,.slice h s.bases.length c,s.blind],_] _ _
 go_enter func123,ntmps123
 go_wp2_with fail
 erw[z.out]
 go_wp2_with (go_at_call 167;with_reducible refine i.out.mono ?_);rintro e A ⟨rfl,n⟩;go_wp2_with fail;go_ret;exact⟨rfl,a.trans n⟩
end Go.Proofs.YtcidfldeiklcjaaGreatDoor
namespace Go.Proofs.YtcidfldeiklcjaaGreatDoor
open Go.RowKit Tape
theorem Row.one1(w:World)(x:Int):Row (w.alloc (.cells #[x] 3)) 1 (.slice (some ⟨w.heap.size,0,none⟩) 1 1) 1 (ints [x]):=Row.lit w [x] (by simp)
section
variable {w w3 wr w':World} {o B:Nat} {a a' at_ at':Option Addr} {c c' ct ct' n:Nat} {P P':List Int} {T T':List (List UInt8)}
end
structure TskS (w:World) (pa va:Value) (t:Tsk):Prop where
 ps:ag PssR 4 w pa t.passes
 rv:Row w 1 va t.revoked.length (ints t.revoked)
open Go.Proofs.Tryz
open Lib(hid)
theorem row5e(w:World)(x y z u s:Int)(T:TypeId):Row (w.alloc (.cells #[x,y,z,u,s] T)) 1 (.slice (some ⟨w.heap.size,0,none⟩) 5 5) 5 (ints [x,y,z,u,s]):=by
 refine⟨rfl,by omega,_,_,rfl,by omega,fun _=>⟨_,_,rfl,fun k v hv=>?_⟩⟩;rw[Nat.zero_add];have:=(Blk.new w T #[x,y,z,u,s]).cell k;rw[this]
 simpa [ints]using hv
abbrev tskA(t:Tsk)(pa va:Value):Array Value:=#[t.version,t.question,pa,t.most,va,t.dare,t.quorum,t.jurors]
theorem qx(t:Tsk)(pa va:Value)(w:World)(hT:TskS w pa va t)(hB:Dt.TkB (sK t) t.question t.revoked t.passes)(hE:Env w) :
  Calls prog 132 #[.agg (tskA t pa va)] w fun e w'=>e=.returned (.string ⟨(Dt.ph (sK t) t.question t.revoked t.passes).toArray⟩)/\Kept [] w w':=by
 obtain⟨I,Y⟩:=hT;obtain⟨ap,cp,rfl,_,bc⟩:=ag.form I;obtain⟨W,hW⟩:=nm (w.alloc (.cells (tskA t (.slice ap t.passes.length cp) va) 88));have hb:=bn hW;have b:Kept [] w W:=hW▸kr.alloc _;have d:=hE.kept0 b;obtain⟨k0,k1,k2,k3,k4,k5,k6,k7⟩:=bk8 hb rfl;have K2:=hid k2;have z:=Y.kept b;have ao:=hid (ag.kept I (fun _ _ x=>PssR.kept x b) b);have b1:=hB.q;have b2:=hB.rl;have b3:=hB.rt;have b4:=hB.pl;have b5:=hB.pt;have H5:Hid (∀x∈[t.version,t.most,t.dare,t.quorum,t.jurors],Wire.I64 x):=hB.h5;have HB:=hid hB
 have l0:(Wire.yX [t.version,t.most,t.dare,t.quorum,t.jurors]).length<=1000:=by
  have h1:=flat_len _ H5;have h2:=Wire.iE ((5:Nat):Int) ⟨by omega,by omega⟩;simp only[Wire.yX,Wire.listE,List.length_append,List.length_cons,List.length_nil]at h1 h2 ⊢;simp only[show(0+1+1+1+1+1:Nat)=5 from rfl]at *;omega
 have l1:=mK t.question (by omega);have l2:=eL (t.passes.length:Int) ⟨by omega,by omega⟩;obtain⟨A,hA⟩:=nm (Wire.yX [t.version,t.most,t.dare,t.quorum,t.jurors]);obtain⟨B,r⟩:=nm (Wire.kO t.question);obtain⟨C,hC⟩:=nm (Wire.yX t.revoked);obtain⟨D,hD⟩:=nm (Wire.intE (t.passes.length:Int));rw[hA]at l0;rw[r]at l1;rw[hC]at b3;rw[hD]at l2
 have N1:Hid (∀w' v,Kept [] W w'->Row w' 1 v 5 (ints [t.version,t.most,t.dare,t.quorum,t.jurors])->Calls prog 84 #[v] w' fun e a=>e=.returned A/\Kept [] w' a):=fun w' v kk hr=>by
  have:=dN v [t.version,t.most,t.dare,t.quorum,t.jurors] w' hr (d.kept0 kk) (by simp) H5.out
  rwa [hA]at this
 have N2:Hid (∀w',Kept [] W w'->Calls prog 84 #[va] w' fun e a=>e=.returned C/\Kept [] w' a):=fun w' kk=>by
  have:=dN va t.revoked w' (z.kept kk) (d.kept0 kk) b2 HB.ri
  rwa [hC]at this
 have T1:Hid (∀w',Kept [] W w'->Calls prog 85 #[t.question] w' fun e a=>e=.returned B/\Kept [] w' a):=fun w' kk=>by
  have:=fm t.question w' (by omega) (d.kept0 kk)
  rwa [r]at this
 have I1:Hid (∀w',Kept [] W w'->Calls prog 57 #[t.passes.length] w' fun e a=>e=.returned D/\Kept [] w' a):=fun w' kk=>by
  have:=sw (t.passes.length:Int) w' ⟨by omega,by omega⟩ (by omega) (d.kept0 kk)
  rwa [hD]at this
 have s1:¬9223372036854775807 < A.length+B.length:=by omega
 have s2:¬9223372036854775807 < A.length+(B.length+C.length):=by omega
 have s2':¬9223372036854775807 < A.length+B.length+C.length:=by omega
 have s3:¬9223372036854775807 < A.length+(B.length+(C.length+D.length)):=by omega
 have s3':¬9223372036854775807 < A.length+(B.length+C.length)+D.length:=by omega
 have s3'':¬9223372036854775807 < A.length+B.length+C.length+D.length:=by omega
 obtain⟨H,hH⟩:=nm (A++(B++(C++D)));have HH:=hid hH
 have lH:H.length<=300000000:=by rw[<-hH];simp only[List.length_append];omega
 have HF:Hid (Dt.ph (sK t) t.question t.revoked t.passes=H++t.passes.flatMap Dt.pssE):=by
  show _=_
  unfold Dt.ph sK
  rw[hA,r,hC,hD,<-hH]
  simp
 have ba:=hid d;have b6:=hid b;clear l0 l1 l2 hA r hC hD hB b1 b2 b3 hb I Y z hE hH d b;have bb:=bcat;have HW:=hid hW;clear hW
 show Calls _ _ #[.agg #[t.version,t.question,.slice ap t.passes.length cp,t.most,va,t.dare,t.quorum,t.jurors]] _ _
 go_enter func132,ntmps132
 go_wp2_with fail
 erw[HW.out]
 go_region_held3 (fun w'=>Kept [] W w') (first|assumption|exact kr.drew|exact Kept.alloc (by assumption) _)
  (first
   |(go_at_call_of 84 va;with_reducible refine(ai (W:=W) (by assumption) (N2.out _ (by assumption))).mono ?_;rintro T a ⟨rfl,ah⟩)
   |(go_at_call 84;refine(ai (W:=W) (by assumption) (N1.out _ _ (by assumption) (by exact(row5e _ _ _ _ _ _ _).drew))).mono ?_;rintro T a ⟨rfl,ah⟩)
   |(go_at_call 85;with_reducible refine(ai (W:=W) (by assumption) (T1.out _ (by assumption))).mono ?_;rintro T w3 ⟨rfl,L⟩)
   |(go_at_call 57;with_reducible refine(ai (W:=W) (by assumption) (I1.out _ (by assumption))).mono ?_;rintro T w4 ⟨rfl,J⟩))
 have M:Hid ((A++(B++(C++D)))=H):=HH;have c2:=K2 w4 J;clear k0 k1 k2 k3 k4 k5 k6 k7 N1 N2 T1 I1 s1 s2 s2' s3 s3' s3'';go_wp2_with fail;clear c2;have b9:=hid J;clear J
 go_loopw [3,5,34] (fun o _ i wr=>∃k:Nat,k<=t.passes.length/\i=k/\o=.string ⟨(H++(t.passes.take k).flatMap Dt.pssE).toArray⟩/\Kept [] W wr) (fun _ _ i _=>t.passes.length - (intOf i).toNat)
 case atStart=>exact⟨0,Nat.zero_le _,rfl,by rw[<-M.out];simp,b9.out⟩
 case round =>
  obtain⟨k,hk,rfl,rfl,Z⟩:=hrel;have j:=hid Z;clear Z
  by_cases hlt:k < t.passes.length
  ·obtain⟨pb,po,rfl,g⟩:=(ag.kept ao.out (fun _ _ x=>PssR.kept x j.out) j.out).at_ (by omega);obtain⟨cs,al,⟨av,gv,rfl,m,l⟩,V⟩:=g k _ (List.getElem?_eq_getElem hlt)
   generalize hP:t.passes[k]=P at m l V
   have x0:=V 0 _ (by omega) rfl;have x1:=V 1 _ (by omega) rfl;have x2:=V 2 _ (by omega) rfl;have x3:=V 3 _ (by omega) rfl;simp only[Nat.add_zero,<-Nat.add_assoc]at x0 x1 x2 x3
   have U:Hid ((t.passes.take (k+1)).flatMap Dt.pssE=(t.passes.take k).flatMap Dt.pssE++Dt.pssE P):=by
    show _=_
    rw[List.take_succ_eq_append_getElem hlt,List.flatMap_append,hP]
    simp
   have a1:P∈t.passes:=hP▸List.getElem_mem hlt
   have f:((t.passes.take (k+1)).flatMap Dt.pssE).length<=100000000:=by
    have h1:=HB.pt;rw[<-List.take_append_drop (k+1) t.passes,List.flatMap_append,List.length_append]at h1;omega
   rw[U.out,List.length_append]at f;have h:=Dt.pssE_len P;have p:Dt.pssE P=Wire.kO P.name++(Wire.intE P.pub++(Wire.zp P.attrs++Wire.yX P.guests)):=rfl;have a2:=HB.pk P a1
   generalize hF:(t.passes.take k).flatMap Dt.pssE=F at f U ⊢
   have l1:=mK P.name (by omega);obtain⟨y,R⟩:=nm (Wire.kO P.name);obtain⟨u,Q⟩:=nm (Wire.intE P.pub);obtain⟨G,O⟩:=nm (Wire.zp P.attrs);obtain⟨X,N⟩:=nm (Wire.yX P.guests);rw[R,Q,O,N]at p;have E:=congrArg List.length p;simp only[List.length_append]at E
   have s1:¬9223372036854775807 < y.length+u.length:=by omega
   have s2:¬9223372036854775807 < y.length+(u.length+G.length):=by omega
   have s2':¬9223372036854775807 < y.length+u.length+G.length:=by omega
   have s3:¬9223372036854775807 < y.length+(u.length+(G.length+X.length)):=by omega
   have s3':¬9223372036854775807 < y.length+(u.length+G.length)+X.length:=by omega
   have s3'':¬9223372036854775807 < y.length+u.length+G.length+X.length:=by omega
   have s4:¬9223372036854775807 < H.length+(F.length+(y.length+(u.length+(G.length+X.length)))):=by omega
   have s4':¬9223372036854775807 < H.length+F.length+(y.length+(u.length+(G.length+X.length))):=by omega
   obtain⟨a6,a5,rfl,_,_⟩:=m.form;obtain⟨a4,a3,rfl,_,_⟩:=l.form;have an:=hid m;have am:=hid l;have a7:=hid a2;have b0:=hid p;have s:Hid (Env wr):=hid (ba.kept0 j);have ac:=h.1;have ab:=h.2.1;have aa:=h.2.2.1;have a9:=h.2.2.2
   have T1:Hid (∀w',Kept [] wr w'->Calls prog 85 #[P.name] w' fun e a=>e=.returned y/\Kept [] w' a):=fun w' kk=>by
    have:=fm P.name w' (by omega) (s.out.kept0 kk)
    rwa [R]at this
   have I1:Hid (∀w',Kept [] wr w'->Calls prog 93 #[P.pub] w' fun e a=>e=.returned u/\Kept [] w' a):=fun w' kk=>by
    have:=oD P.pub w' a7.pub (s.kept0 kk)
    rwa [Q]at this
   have X1:Hid (∀w',Kept [] wr w'->Calls prog 175 #[.slice a6 P.attrs.length a5] w' fun e a=>e=.returned G/\Kept [] w' a):=fun w' kk=>by
    have:=qN _ P.attrs w' (an.out.kept kk) (s.out.kept0 kk) (by omega) (by omega)
    rwa [O]at this
   have N1:Hid (∀w',Kept [] wr w'->Calls prog 84 #[.slice a4 P.guests.length a3] w' fun e a=>e=.returned X/\Kept [] w' a):=fun w' kk=>by
    have:=dN _ P.guests w' (am.out.kept kk) (s.out.kept0 kk) (by omega) a7.out.gs
    rwa [N]at this
   clear h p E m l a2 a1 R Q O N hF hP V g al l1 f ac ab aa a9;go_upto_region 5 with(fail);obtain⟨W1,n⟩:=nm (wr.alloc (.cells #[P.name,P.pub,.slice a6 P.attrs.length a5,.slice a4 P.guests.length a3] 123));have a0:=bn n;have c:=ka (S:=[]) n;rw[n];clear x0 x1 x2 x3 n;obtain⟨y0,y1,y2,y3⟩:=bk4 a0 rfl;clear a0
   go_region_held3 (fun w'=>Kept [] W1 w') (first|assumption|exact kr.drew|exact Kept.alloc (by assumption) _)
    (first
     |(go_at_call 85;with_reducible refine(ai (W:=W1) (by assumption) (T1.out _ (c.trans (by assumption)))).mono ?_;rintro T w3 ⟨rfl,L⟩)
     |(go_at_call 93;with_reducible refine(ai (W:=W1) (by assumption) (I1.out _ (c.trans (by assumption)))).mono ?_;rintro T w3 ⟨rfl,L⟩)
     |(go_at_call 175;with_reducible refine(ai (W:=W1) (by assumption) (X1.out _ (c.trans (by assumption)))).mono ?_;rintro T w3 ⟨rfl,L⟩)
     |(go_at_call 84;with_reducible refine(ai (W:=W1) (by assumption) (N1.out _ (c.trans (by assumption)))).mono ?_;rintro T w6 ⟨rfl,ad⟩))
   have b7:=hid (j.trans (c.trans ad));clear y0 y1 y2 y3 T1 I1 X1 N1 s1 s2 s2' s3 s3' s3'' s4 s4' c;go_wp2_with fail
   go_roundw
   case rel=>exact⟨k+1,by omega,by go_num,by rw[U.out,b0.out],b7.out⟩
   case measure=>simp[intOf];omega
  ·have hk':Hid (k=t.passes.length):=hid (by omega);go_wp2_with fail;go_ret;exact⟨by rw[HF.out,hk'.out,List.take_length];rfl,b6.out.trans j.out⟩
end Go.Proofs.YtcidfldeiklcjaaGreatDoor
