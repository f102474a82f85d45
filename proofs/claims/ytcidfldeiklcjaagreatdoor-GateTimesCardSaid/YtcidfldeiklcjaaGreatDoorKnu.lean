import Derived.Test.YtcidfldeiklcjaaGreatDoorBg
import Derived.StillTailTactics
set_option maxRecDepth 100000
set_option maxHeartbeats 32000000
namespace Go.Proofs.YtcidfldeiklcjaaGreatDoor.Tm
open Bf
structure Ent where
 gate:Int
 no:Int
 time:Int
 kind:Int
 nums:List Int
 text:List UInt8
 c:Int
 s:Int
def mt:Int:=2147483648
abbrev Edge:=Nat × Nat × Int
def gOf(es:List Edge):Gf:=fun a b=>es.foldl (fun m e=>if e.1=a/\e.2.1=b then min m e.2.2 else m) far
theorem gOf_snoc(es:List Edge)(e:Edge)(a b:Nat):gOf (es++[e]) a b=if e.1=a/\e.2.1=b then min (gOf es a b) e.2.2 else gOf es a b:=by
 unfold gOf;rw[List.foldl_append];rfl
theorem fD(a b:Nat):∀(es:List Edge) (m:Int),(es.foldl (fun m e=>if e.1=a/\e.2.1=b then min m e.2.2 else m) m<=m) /\
  (∀e∈es,e.1=a->e.2.1=b->es.foldl (fun m e=>if e.1=a/\e.2.1=b then min m e.2.2 else m) m<=e.2.2) /\
  (es.foldl (fun m e=>if e.1=a/\e.2.1=b then min m e.2.2 else m) m=m\/∃e∈es,e.1=a/\e.2.1=b/\es.foldl (fun m e=>if e.1=a/\e.2.1=b then min m e.2.2 else m) m=e.2.2)
 | [],m=>⟨Int.le_refl _,by simp,Or.inl rfl⟩
 |x::es,m=>by
  simp only[List.foldl_cons]
  by_cases h:x.1=a/\x.2.1=b
  ·rw[if_pos h];obtain⟨h1,h2,h3⟩:=fD a b es (min m x.2.2);refine⟨by omega,fun e he e1 e2=>?_,?_⟩
   ·rcases List.mem_cons.1 he with rfl|he
    ·omega
    ·exact h2 e he e1 e2
   ·rcases h3 with h3|⟨e,he,e1,e2,e3⟩
    ·by_cases hm:m<=x.2.2
     ·exact Or.inl (by rw[h3];omega)
     ·exact Or.inr ⟨x,by simp,h.1,h.2,by rw[h3];omega⟩
    ·exact Or.inr ⟨e,by simp[he],e1,e2,e3⟩
  ·rw[if_neg h];obtain⟨h1,h2,h3⟩:=fD a b es m;refine⟨h1,fun e he e1 e2=>?_,?_⟩
   ·rcases List.mem_cons.1 he with rfl|he
    ·exact absurd ⟨e1,e2⟩ h
    ·exact h2 e he e1 e2
   ·rcases h3 with h3|⟨e,he,e1,e2,e3⟩
    ·exact Or.inl h3
    ·exact Or.inr ⟨e,by simp[he],e1,e2,e3⟩
theorem rK{es:List Edge}{e:Edge}(he:e∈es):gOf es e.1 e.2.1<=e.2.2:=(fD _ _ es far).2.1 e he rfl rfl
theorem yC(es:List Edge)(a b:Nat):gOf es a b<=far:=(fD a b es far).1
theorem sN{es:List Edge}{a b:Nat}(h:gOf es a b < far):∃e∈es,e.1=a/\e.2.1=b/\gOf es a b=e.2.2:=by
 rcases(fD a b es far).2.2 with h1|h1
 ·unfold gOf at h;omega
 ·exact h1
theorem qr{es:List Edge}{n:Nat}{t:Nat->Int}(hlt:∀e∈es,e.1 < n/\e.2.1 < n/\e.2.2 < far):Feas (gOf es) n t↔∀e∈es,t e.2.1<=t e.1+e.2.2:=by
 constructor
 ·intro h e he;obtain⟨h1,h2,h3⟩:=hlt e he;have h4:=rK he;have:=h e.1 e.2.1 h1 h2 (by omega);omega
 ·intro h a b ha hb hg;obtain⟨e,he,rfl,rfl,h2⟩:=sN hg;rw[h2];exact h e he
def near(x y:Ent):Bool:=decide (x.gate=y.gate)&&(!decide (x.no=y.no)&&decide (x.time<=y.time))
def iG(y x:Ent):Bool:=decide (x.gate=y.nums.getD 0 0)&&decide (x.no=y.nums.getD 1 0)
def upW(d dr:Int):Int:=(d*(1000+dr)+999) / 1000
def jM(d dr:Int):Int:=-(d*(1000 - dr) / 1000)
def cD(l:List Ent)(y:Ent)(i m:Nat):List Edge:=((List.range m).filter fun k=>match l[k]? with|some x=>iG y x|none=>false).map fun k=>(i,k,0)
def ef(l:List Ent)(dr:Int)(i:Nat):List Edge :=
 match l[i - 1]?,l[i]? with
 |some x,some y=>if 0 < i/\near x y=true then[(i - 1,i,upW (y.time - x.time) dr),(i,i - 1,jM (y.time - x.time) dr)]else[]
 |_,_=>[]
def dz(l:List Ent)(i:Nat):List Edge :=
 match l[i]? with
 |some y=>if y.kind=1 then[(l.length,i,y.nums.getD 1 0),(i,l.length,-y.nums.getD 0 0)]else if y.kind=2 then cD l y i l.length else[]
 |none=>[]
def iL(l:List Ent)(i:Nat):List Edge:=[(l.length,i,mt),(i,l.length,0)]
def gf(l:List Ent)(dr:Int)(i:Nat):List Edge:=iL l i++(ef l dr i++dz l i)
def edges(l:List Ent)(dr:Int)(m:Nat):List Edge:=(List.range m).flatMap (gf l dr)
theorem me(l:List Ent)(dr:Int)(m:Nat):edges l dr (m+1)=edges l dr m++gf l dr m:=by
 unfold edges;rw[List.range_succ,List.flatMap_append];simp
structure WF (x:Ent):Prop where
 time:0<=x.time/\x.time<=mt
 sync:x.kind=1->∃a b,x.nums=[a,b]/\0<=a/\a<=b/\b<=mt
 hear:x.kind=2->∃a b,x.nums=[a,b]
theorem xe(l:List Ent)(dr:Int)(h0:0<=dr)(h1:dr<=1000)(hw:∀x∈l,WF x)(m:Nat)(hm:m<=l.length):∀e∈edges l dr m,e.1 < l.length+1/\e.2.1 < l.length+1/\-8589934592<=e.2.2/\e.2.2<=8589934592:=by
 intro e c
 unfold edges at c
 rw[List.mem_flatMap]at c;obtain⟨i,t,c⟩:=c;rw[List.mem_range]at t
 have g:i < l.length:=by omega
 have o:l[i]?=some l[i]:=List.getElem?_eq_getElem g;have f:=hw l[i] (List.getElem_mem g)
 unfold gf at c
 rcases List.mem_append.1 c with c|c
 ·unfold iL at c
  simp only[List.mem_cons,List.not_mem_nil,or_false]at c
  rcases c with rfl|rfl <;> simp[mt] <;> omega
 rcases List.mem_append.1 c with c|c
 ·have r:l[i - 1]?=some (l[i - 1]'(by omega)):=List.getElem?_eq_getElem (by omega);have n:=hw (l[i - 1]'(by omega)) (List.getElem_mem _)
  unfold ef at c
  rw[o,r]at c
  simp only at c
  split at c
  ·next hc =>
   have h:=hc.2
   unfold near at h
   simp only[Bool.and_eq_true,decide_eq_true_eq]at h;have q:=f.time;have p:=n.time
   generalize hd:l[i].time - (l[i - 1]'(by omega)).time=d at c
   have j:0<=d:=by omega
   have C:d<=2147483648:=by unfold mt at q p;omega
   have z:d*(1000+dr)<=d*2000:=Int.mul_le_mul_of_nonneg_left (by omega) j;have A:0<=d*(1000+dr):=Int.mul_nonneg j (by omega);have w:d*(1000 - dr)<=d*1000:=Int.mul_le_mul_of_nonneg_left (by omega) j;have y:0<=d*(1000 - dr):=Int.mul_nonneg j (by omega);simp only[List.mem_cons,List.not_mem_nil,or_false]at c
   rcases c with rfl|rfl
   ·refine⟨?_,?_,?_⟩
    ·simp only;omega
    ·simp only;omega
    ·simp only;unfold upW;omega
   ·refine⟨?_,?_,?_⟩
    ·simp only;omega
    ·simp only;omega
    ·simp only;unfold jM;omega
  ·cases c
 ·unfold dz at c
  rw[o]at c
  simp only at c
  split at c
  ·next k1 =>
   obtain⟨a,b,h,B,v,u⟩:=f.sync k1
   unfold mt at u
   rw[h]at c;simp only[List.mem_cons,List.not_mem_nil,or_false]at c
   rcases c with rfl|rfl <;> simp <;> omega
  ·split at c
   ·unfold cD at c
    rw[List.mem_map]at c;obtain⟨k,s,rfl⟩:=c;rw[List.mem_filter,List.mem_range]at s
    simp only
    omega
   ·cases c
end Go.Proofs.YtcidfldeiklcjaaGreatDoor.Tm
namespace Go.Proofs.YtcidfldeiklcjaaGreatDoor
open Go.RowKit Bf
def MatV(w:World)(v:Value)(n:Nat)(G:Gf):Prop:=∃(gb gc:Nat) (rb cp:Nat->Nat),v=.slice (some ⟨gb,0,none⟩) n gc/\n<=gc /\
 ∀a,a < n->n<=cp a/\w.cell? ⟨gb,a,none⟩=some (.slice (some ⟨rb a,0,none⟩) n (cp a))/\∀b,b < n->w.cell? ⟨rb a,b,none⟩=some (.int .i64 (G a b))
theorem MatV.kept{w w':World}{v:Value}{n:Nat}{G:Gf}(h:MatV w v n G)(k:Kept [] w w'):MatV w' v n G:=by
 obtain⟨gb,gc,rb,cp,h1,h2,h3⟩:=h;refine⟨gb,gc,rb,cp,h1,h2,fun a ha=>?_⟩;obtain⟨h4,h5,h6⟩:=h3 a ha;exact⟨h4,Kept.cellOf h5 _ k,fun b hb=>Kept.cellOf (h6 b hb) _ k⟩
def outC(n:Nat)(o:Nat->Int):List Value:=(List.range n).map fun v=>.int .i64 (o v)
theorem gZ(n:Nat)(o:Nat->Int):(outC n o).length=n:=by simp[outC]
theorem fu{n v:Nat}{o:Nat->Int}(h:v < n):(outC n o)[v]?=some (.int .i64 (o v)):=by simp[outC,h]
theorem ie(n:Nat)(x:Int):List.replicate n (Value.int .i64 x)=outC n fun _=>x:=by
 apply List.ext_getElem?
 intro i;rw[List.getElem?_replicate]
 by_cases h:i < n
 ·rw[if_pos h,fu h]
 ·rw[if_neg h,List.getElem?_eq_none (by rw[gZ];omega)]
theorem vR{n b:Nat}{o:Nat->Int}(hb:b < n)(x:Int):(outC n o).toArray.setIfInBounds b x=(outC n (upd o b x)).toArray:=by
 rw[List.setIfInBounds_toArray]
 congr 1
 apply List.ext_getElem?
 intro i;rw[List.getElem?_set]
 by_cases h:b=i
 ·subst h;rw[if_pos rfl,if_pos (by rw[gZ];exact hb),fu hb]
  simp[upd]
 ·rw[if_neg h]
  by_cases hi:i < n
  ·rw[fu hi,fu hi]
   unfold upd
   rw[if_neg (fun e=>h e.symm)]
  ·rw[List.getElem?_eq_none (by rw[gZ];omega),List.getElem?_eq_none (by rw[gZ];omega)]
theorem cX{n:Nat}{o p:Nat->Int}(h:∀v,v < n->o v=p v):outC n o=outC n p:=by
 unfold outC
 exact List.map_congr_left fun v hv=>by rw[h v (List.mem_range.1 hv)]
def aZ(w:World)(b n:Nat)(o:Nat->Int):Prop:=Blk w b 3 (outC n o).toArray
section
variable {w w':World} {b n:Nat} {o:Nat->Int}
theorem aZ.cell(h:aZ w b n o){v:Nat}(hv:v < n):w.cell? ⟨b,v,none⟩=some (.int .i64 (o v)):=by
 rw[Blk.cell h,List.getElem?_toArray,fu hv]
theorem aZ.frozen(h:aZ w b n o)(v:Nat):w.frozen? ⟨b,v,none⟩=false:=Blk.frozen h v
theorem aZ.drewN(h:aZ w b n o)(q:Nat):aZ (w.drewN q) b n o:=h
theorem aZ.lt(h:aZ w b n o):b < w.heap.size:=Blk.lt h
theorem aZ.set_(h:aZ w b n o){v:Nat}(hv:v < n)(x:Int):aZ (w.setCell ⟨b,v,none⟩ x) b n (upd o v x):=by
 have:=Blk.set_ h v x;rw[vR hv]at this;exact this
theorem aZ.kept{S:List Nat}(h:aZ w b n o)(k:Kept S w w')(hb:b∉S):aZ w' b n o:=Blk.kept h k hb
end
def Bd(K:Int)(n:Nat)(o:Nat->Int):Prop:=∀v,v < n->o v=far\/(-K<=o v/\o v<=K)
def GBd(n:Nat)(G:Gf):Prop:=∀a b,a < n->b < n->G a b=far\/(-8589934592<=G a b/\G a b<=8589934592)
theorem fi{n:Nat}{G:Gf}(h:GBd n G):∀(l:List Nat),(∀x∈l,x < n)->Bf.du G l->-(8589934592*(l.length:Int))<=wt G l/\wt G l<=8589934592*(l.length:Int)
 | [],_,_=>by simp[wt]
 | [x],_,_=>by simp[wt]
 |x::y::l,hl,hs=>by
  have ih:=fi h (y::l) (fun z hz=>hl z (List.mem_cons_of_mem _ hz)) hs.2;have h1:=hs.1
  rcases h x y (hl x (by simp)) (hl y (by simp))with h2|h2
  ·omega
  ·rw[wt];simp only[List.length_cons]at ih ⊢;omega
theorem zo{n s:Nat}{G:Gf}(h:GBd n G)(hn:n<=16)(v:Nat)(l:List Nat)(hw:Walk G n s v l)(hl:l.length<=n):wt G l < far:=by
 have:=(fi h l hw.lt hw.steps).2
 unfold far;omega
open Lib(hid)
def FromE(G:Gf)(n s:Nat)(w:World)(e:Ending)(w':World):Prop:=Kept [] w w' /\
 ((∃b o,e=.returned (.tuple #[.slice (some ⟨b,0,none⟩) n n,.bool true])/\Top G n s o/\Bd 1125899906842624 n o/\w.heap.size<=b/\aZ w' b n o) \/
  (e=.returned (.tuple #[(),.bool false])/\∀t,¬Feas G n t))
structure FrR (G:Gf) (n s k ob:Nat) (w:World) (o:Nat->Int) (wr:World):Prop where
 at_:aZ wr ob n o
 snd:mr G n s o
 rch:k < n->Bf.Reach G n s (k+1) o
 bd:Bd (8589934592*(256*(k:Int))) n o
 zero:o s<=0
 no:k=n->∀t,¬Feas G n t
 kept:Kept [] w wr
structure FrP (G:Gf) (n s k ob:Nat) (w:World) (o0 o:Nat->Int) (a b:Nat) (ch:Bool) (wr:World):Prop where
 at_:aZ wr ob n o
 part:Part G n o0 o a b
 snd:mr G n s o
 bd:Bd (8589934592*(256*(k:Int)+16*a+b)) n o
 same:ch=false->o=o0
 no:ch=true->k+1=n->∀t,¬Feas G n t
 kept:Kept [] w wr
theorem Bd.mono{K L:Int}{n:Nat}{o:Nat->Int}(h:Bd K n o)(hl:K<=L):Bd L n o:=fun v hv=>by
 rcases h v hv with h|h
 ·exact Or.inl h
 ·exact Or.inr (by omega)
theorem xA(n s:Nat)(K:Int)(hK:0<=K:=by omega):Bd K n (upd (fun _=>1152921504606846976) s 0):=fun v _=>by
 unfold upd
 split
 ·exact Or.inr (by omega)
 ·exact Or.inl rfl
section
variable {G:Gf} {n s k ob a b:Nat} {w wr:World} {o0 o:Nat->Int} {ch:Bool}
theorem FrP.drewN(h:FrP G n s k ob w o0 o a b ch wr)(q:Nat):FrP G n s k ob w o0 o a b ch (wr.drewN q):=⟨h.at_.drewN q,h.part,h.snd,h.bd,h.same,h.no,h.kept.drewN q⟩
theorem oJ(h:FrP G n s k ob w o0 o a b ch wr)(hs:¬(G a b < far/\o a < far/\o a+G a b < o b)):FrP G n s k ob w o0 o a (b+1) ch wr := ⟨h.at_,tO h.part hs,h.snd,h.bd.mono (by omega),h.same,h.no,h.kept⟩
theorem zK(hn:n<=16)(h:FrP G n s k ob w o0 o a n ch wr):FrP G n s k ob w o0 o (a+1) 0 ch wr := ⟨h.at_,vP h.part,h.snd,h.bd.mono (by omega),h.same,h.no,h.kept⟩
theorem wV{g p q:Int}(hob:w.heap.size<=ob)(ha:a < n)(hb:b < n)(h:FrP G n s k ob w o0 o a b ch wr)(hg:G a b=g)(hp:o a=p)(hq:o b=q)(hr:Bf.Reach G n s (k+1) o0)(c1:g < 1152921504606846976)(c2:p < 1152921504606846976)(c3:p+g < q)
  (gb:g=far\/(-8589934592<=g/\g<=8589934592)) (pb:p=far\/(-(8589934592*(256*(k:Int)+16*a+b))<=p/\p<=8589934592*(256*(k:Int)+16*a+b))) :
  FrP G n s k ob w o0 (upd o b (p+g)) a (b+1) true (wr.setCell ⟨ob,b,none⟩ (.int .i64 (p+g))):=by
 have d:far=1152921504606846976:=rfl;subst hg;subst hp;subst hq;refine⟨h.at_.set_ hb _,ru h.part c3,pq h.snd ha hb (by omega) (by omega) c3,fun v hv=>?_,(fun e=>by cases e),fun _ hkn t hft=>?_,?_⟩
 ·unfold upd
  split
  ·right
   rcases gb with gb|gb
   ·omega
   ·rcases pb with pb|pb
    ·omega
    ·omega
  ·rcases h.bd v hv with c|c
   ·exact Or.inl c
   ·right;omega
 ·have hr':Bf.Reach G n s n o:=fun v l hw hl=>Int.le_trans (h.part.le v) (hr v l hw (by omega));have:=wd hft h.snd hr' ha hb (by omega) (by omega);omega
 ·exact h.kept.setCell (Or.inr hob) _
theorem zJ(h:FrP G n s k ob w o0 o n 0 false wr)(h0:o0 s<=0)(hs:s < n)(hg:GBd n G)(hall:∀b,b < n->b≠s->G s b < far):Top G n s o:=by
 have e:=h.same rfl;subst e;have hx:=zL h.part;refine⟨h.snd,hx,fun v hv=>?_,h0⟩
 by_cases e:v=s
 ·subst e;unfold far;omega
 ·have h1:=hall v hv e;have h2:=hx s v hs hv h1 (by unfold far;omega)
  rcases hg s v hs hv with h3|h3
  ·omega
  ·unfold far;omega
theorem yD(h:FrP G n s k ob w o0 o n 0 true wr)(h0:o0 s<=0)(hn:n<=16)(hr:Bf.Reach G n s (k+1) o0)(hw:∀v l,Walk G n s v l->l.length<=n->wt G l < far):FrR G n s (k+1) ob w o wr := ⟨h.at_,h.snd,fun hk=>rg hr h.part hw hk (by omega),h.bd.mono (by omega),Int.le_trans (h.part.le s) h0,fun e=>h.no rfl e,h.kept⟩
end
theorem lU(v:Value)(n s:Nat)(G:Gf)(w:World)(h:MatV w v n G)(hs:s < n)(hn:n<=16)(hg:GBd n G)(hall:∀b,b < n->b≠s->G s b < far) :
  Calls Tryz.prog 26 #[v,s] w (FromE G n s w):=by
 obtain⟨gb,gc,rb,cp,rfl,a3,hm⟩:=h;have HM:=hid hm;have HG:=hid hg;have HA:=hid hall;have Z:=hid (fun v l=>zo (s:=s) hg hn v l);clear hm hg hall
 go_enter Tryz.func26,Tryz.ntmps26
 go_wp2_with (go_at_call 33;refine(kg 1152921504606846976 n _ _ _ (by exact Row.lit w [1152921504606846976] (by simp)) (by omega) (by omega)).mono ?_);rintro e T ⟨J,rfl,X,L,Q⟩;rw[ie]at L;have y:aZ T J n fun _=>1152921504606846976:=L
 have f:w.heap.size<=J:=by simp at X;omega
 have F:Kept [] w T:=((Kept.refl [] w).alloc _).trans Q;have cs:=y.cell hs;have fs:=y.frozen s;go_wp2_with fail;have O:=y.set_ hs 0;have P:Kept [] w (T.setCell ⟨J,s,none⟩ (.int .i64 0)):=F.setCell (Or.inr f) _;clear cs fs L y Q F
 go_loopw [20] (fun i wr=>∃(k:Nat) (o:Nat->Int),k<=n/\i=k/\FrR G n s k J w o wr) (fun i _=>n - (intOf i).toNat)
 case atStart=>exact⟨0,_,Nat.zero_le _,rfl,O,pm hs,fun _=>pL,xA _ _ _,by simp[upd],(fun h=>absurd h.symm (by omega)),P⟩
 case round =>
  obtain⟨k,U,hk,rfl,hR⟩:=hrel;have r:=hid hR;clear hR O P
  by_cases hkn:k < n
  ·go_wp2_with fail
   go_loopw [7,24] (fun c i wr=>∃(a:Nat) (o:Nat->Int) (ch:Bool),a<=n/\c=.bool ch/\i=a/\FrP G n s k J w U o a 0 ch wr) (fun _ i _=>n - (intOf i).toNat)
   case atStart=>exact⟨0,U,false,Nat.zero_le _,rfl,rfl,r.out.at_,rq,r.out.snd,r.out.bd.mono (by omega),fun _=>rfl,(fun h=>by cases h),r.out.kept⟩
   case round =>
    obtain⟨a,o,ch,ha,rfl,rfl,hP⟩:=hrel;have HP:=hid hP;clear hP
    by_cases han:a < n
    ·obtain⟨a4,E,_⟩:=HM a han;have hrow':=Kept.cellOf E _ HP.kept;clear E;go_wp2_with fail;clear hrow'
     go_loopw [7,32] (fun c i wr=>∃(b:Nat) (o:Nat->Int) (ch:Bool),b<=n/\c=.bool ch/\i=b/\FrP G n s k J w U o a b ch wr) (fun _ i _=>n - (intOf i).toNat)
     case atStart=>exact⟨0,o,ch,Nat.zero_le _,rfl,rfl,HP⟩
     case round =>
      obtain⟨b,N,a9,hb,rfl,rfl,R⟩:=hrel;have m:=hid R;clear R
      by_cases hbn:b < n
      ·obtain⟨_,_,j⟩:=HM a han;have xg:=Kept.cellOf (j b hbn) _ m.kept;have xa:=m.at_.cell han;have xb:=m.at_.cell hbn;have xf:=m.at_.frozen b;clear j;obtain⟨g,z⟩:=nm (G a b);obtain⟨p,x⟩:=nm (N a);obtain⟨q,u⟩:=nm (N b);rw[z]at xg;rw[x]at xa;rw[u]at xb;have A:=HG a b han hbn;have t:=m.bd a han;have I:=m.bd b hbn;rw[z]at A;rw[x]at t;rw[u]at I
       have a2:(k:Int)<=16:=by omega
       have a6:(a:Int)<=16:=by omega
       have a5:(b:Int)<=16:=by omega
       have a7:g=1152921504606846976\/(-8589934592<=g/\g<=8589934592):=A
       have a1:p=1152921504606846976\/(-70368744177664<=p/\p<=70368744177664):=by rcases t with h|h;exact Or.inl h;exact Or.inr (by omega)
       have D:=hid z;have C:=hid x;have B:=hid u;have GB:=hid A;have PB:=hid t;have QB:=hid I;clear z x u A t I
       by_cases c1:g < 1152921504606846976
       ·by_cases c2:p < 1152921504606846976
        ·by_cases c3:p+g < q
         ·have Y:decide (g < 1152921504606846976)=true:=by simpa using c1
          have d2:decide (p < 1152921504606846976)=true:=by simpa using c2
          have d3:decide (p+g < q)=true:=by simpa using c3
          have V:IntKind.i64.wrap (p+g)=p+g:=by rw[IntKind.wrap_i64];omega
          go_wp2_with fail
          go_quiet (fail)
          clear V;go_wp2_with fail
          go_roundw
          case rel=>exact⟨b+1,_,true,by omega,rfl,by go_num,wV f han hbn (m.out.drewN _) D.out C.out B.out (r.out.rch hkn) c1 c2 c3 GB.out PB.out⟩
          case measure=>simp[intOf];omega
         ·have Y:decide (g < 1152921504606846976)=true:=by simpa using c1
          have d2:decide (p < 1152921504606846976)=true:=by simpa using c2
          have d3:decide (p+g < q)=false:=by simpa using c3
          have V:IntKind.i64.wrap (p+g)=p+g:=by rw[IntKind.wrap_i64];omega
          go_wp2_with fail
          go_quiet (fail)
          clear V;go_wp2_with fail
          go_roundw
          case rel=>exact⟨b+1,_,_,by omega,rfl,by go_num,oJ (o:=N) (m.out.drewN _) (by rw[D.out,C.out,B.out];exact fun h=>by have:=h.2.2;omega)⟩
          case measure=>simp[intOf];omega
        ·have Y:decide (g < 1152921504606846976)=true:=by simpa using c1
         have d2:decide (p < 1152921504606846976)=false:=by simpa using c2
         go_wp2_with fail
         go_quiet (fail)
         go_wp2_with fail
         go_roundw
         case rel=>exact⟨b+1,_,_,by omega,rfl,by go_num,oJ (o:=N) (m.out.drewN _) (by rw[D.out,C.out,B.out];exact fun h=>by have:=h.2.1;unfold far at this;omega)⟩
         case measure=>simp[intOf];omega
       ·have Y:decide (g < 1152921504606846976)=false:=by simpa using c1
        go_wp2_with fail
        go_quiet (fail)
        go_wp2_with fail
        go_roundw
        case rel=>exact⟨b+1,_,_,by omega,rfl,by go_num,oJ (o:=N) (m.out.drewN _) (by rw[D.out,C.out,B.out];exact fun h=>by have:=h.1;unfold far at this;omega)⟩
        case measure=>simp[intOf];omega
      ·have M:=m.out;rw[show b=n by omega]at M;have d:=hid (zK hn M);clear M;go_wp2_with fail;exact⟨⟨a+1,_,_,by omega,rfl,by go_num,d.out⟩,by simp[intOf];omega⟩
    ·have M:=HP.out;rw[show a=n by omega]at M;have d:=hid M;clear M
     cases ch
     ·go_wp2_with fail
      go_ret2
      exact⟨d.out.kept,Or.inl ⟨J,o,rfl,zJ d.out r.out.zero hs HG.out HA.out,d.out.bd.mono (by omega),f,d.out.at_⟩⟩
     ·go_wp2_with fail;exact⟨⟨k+1,o,by omega,by go_num,yD d.out r.out.zero hn (r.out.rch hkn) Z.out⟩,by simp[intOf];omega⟩
  ·have a0:=hid (r.out.no (by omega));go_wp2_with fail
   go_ret2
   exact⟨r.kept,Or.inr ⟨rfl,a0⟩⟩
end Go.Proofs.YtcidfldeiklcjaaGreatDoor
namespace Go.Proofs.YtcidfldeiklcjaaGreatDoor
open Go.RowKit Bf
structure MatW (w:World) (B gb n:Nat) (rb:Nat->Nat) (G:Gf):Prop where
 row:∀a,a < n->aZ w (rb a) n (G a)
 gcell:∀a,a < n->w.cell? ⟨gb,a,none⟩=some (.slice (some ⟨rb a,0,none⟩) n n)
 inj:∀a b,a < n->b < n->rb a=rb b->a=b
 ne:∀a,a < n->rb a≠gb
 ge:∀a,a < n->B<=rb a
theorem MatW.read{w:World}{B gb n:Nat}{rb:Nat->Nat}{G:Gf}(h:MatW w B gb n rb G):MatV w (.slice (some ⟨gb,0,none⟩) n n) n G := ⟨gb,n,rb,fun _=>n,rfl,Nat.le_refl _,fun a ha=>⟨Nat.le_refl _,h.gcell a ha,fun _ hb=>(h.row a ha).cell hb⟩⟩
theorem MatW.kept{w w':World}{B gb n:Nat}{rb:Nat->Nat}{G:Gf}(h:MatW w B gb n rb G)(k:Kept [] w w'):MatW w' B gb n rb G := ⟨fun a ha=>(h.row a ha).kept k (by simp),fun a ha=>Kept.cellOf (h.gcell a ha) _ k,h.inj,h.ne,h.ge⟩
theorem MatW.congr{w:World}{B gb n:Nat}{rb:Nat->Nat}{G H:Gf}(h:MatW w B gb n rb G)(e:∀a b,a < n->b < n->G a b=H a b):MatW w B gb n rb H := ⟨fun a ha=>by have:=h.row a ha;unfold aZ at this ⊢;rw[<-cX (e a · ha)];exact this,h.gcell,h.inj,h.ne,h.ge⟩
theorem MatW.set_{w:World}{B gb n:Nat}{rb:Nat->Nat}{G:Gf}(h:MatW w B gb n rb G){a b:Nat}(ha:a < n)(hb:b < n)(x:Int) :
  MatW (w.setCell ⟨rb a,b,none⟩ x) B gb n rb fun i j=>if i=a/\j=b then x else G i j:=by
 refine⟨fun i hi=>?_,fun i hi=>?_,h.inj,h.ne,h.ge⟩
 ·by_cases e:i=a
  ·subst e;have:=(h.row i hi).set_ hb x
   unfold aZ at this ⊢
   rw[cX (p:=upd (G i) b x) (fun v _=>by simp[upd])];exact this
  ·have f:=h.row i hi;have d:Blk w (rb i) 3 (outC n (G i)).toArray:=f;have c:=d.far (p:=⟨rb a,b,none⟩) (fun e1=>e (h.inj i a hi ha e1)) x
   unfold aZ
   rw[cX (p:=G i) (fun v _=>by simp[e])];exact c
 ·rw[World.cell?_of_block (w:=w) (Below.heap_setCell w _ _ _ (fun e=>h.ne a ha e.symm))];exact h.gcell i hi
theorem xh(gb gc n:Nat)(rb:Nat->Nat)(B:Nat)(es:List Tm.Edge)(a b:Nat)(x:Int)(w:World)(h:MatW w B gb n rb (Tm.gOf es))(ha:a < n)(hb:b < n) :
  Calls Tryz.prog 97 #[.slice (some ⟨gb,0,none⟩) n gc,a,b,x] w fun e w'=>e=.returned (.tuple #[])/\MatW w' B gb n rb (Tm.gOf (es++[(a,b,x)]))/\Kept [rb a] w w':=by
 have f:=Lib.hid h;have m:=h.gcell a ha;have d:=(h.row a ha).cell hb;have l:=(h.row a ha).frozen b
 generalize c:Tm.gOf es a b=g at d
 have k:=Lib.hid c;clear h c
 go_enter Tryz.func97,Tryz.ntmps97
 go_wp2_with fail
 go_still_tail 15,(by kernel_rfl)
 change wpList _ _ _ _ _ w.drew
 go_wp2_with fail
 go_end0
 refine⟨rfl,((f.out.set_ ha hb (min g x)).congr fun i j _ _=>?_).kept kr.drew,(kr.setCell (by simp) _).drew⟩;rw[Tm.gOf_snoc]
 simp only
 by_cases e:i=a/\j=b
 ·rw[if_pos e,if_pos ⟨e.1.symm,e.2.symm⟩,e.1,e.2,k.out]
 ·rw[if_neg e,if_neg fun h=>e ⟨h.1.symm,h.2.symm⟩]
end Go.Proofs.YtcidfldeiklcjaaGreatDoor
namespace Go.Proofs.YtcidfldeiklcjaaGreatDoor.Tm
def aF(e:Ent):List UInt8:=Wire.yX [e.gate,e.no,e.time,e.kind]++(Wire.yX e.nums++Wire.kO e.text)
def encE(e:Ent):List UInt8:=aF e++Wire.yX [e.c,e.s]
structure EntI (e:Ent):Prop where
 h0:Wire.I64 e.gate
 h1:Wire.I64 e.no
 h2:Wire.I64 e.time
 h3:Wire.I64 e.kind
 h4:∀x∈e.nums,Wire.I64 x
 h5:Wire.I64 e.c
 h6:Wire.I64 e.s
 l4:e.nums.length<=100000
 l5:e.text.length<=1000000
theorem lZ{a b:Ent}(ha:EntI a)(hb:EntI b)(h:encE a=encE b):a=b:=by
 have l:∀e:Ent,EntI e->Wire.nums ⟨encE e,false⟩=([e.gate,e.no,e.time,e.kind],⟨Wire.yX e.nums++(Wire.kO e.text++Wire.yX [e.c,e.s]),false⟩) /\
   Wire.nums ⟨Wire.yX e.nums++(Wire.kO e.text++Wire.yX [e.c,e.s]),false⟩=(e.nums,⟨Wire.kO e.text++Wire.yX [e.c,e.s],false⟩) /\
   Wire.text ⟨Wire.kO e.text++Wire.yX [e.c,e.s],false⟩=(e.text,⟨Wire.yX [e.c,e.s],false⟩) /\
   Wire.nums ⟨Wire.yX [e.c,e.s],false⟩=([e.c,e.s],⟨[],false⟩):=by
  intro e d;have v:=d.l4;have u:=d.l5;refine⟨?_,Wire.nums_ok _ _ (by omega) d.h4,Wire.xS _ _ (by omega),?_⟩
  ·have:=Wire.nums_ok [e.gate,e.no,e.time,e.kind] (Wire.yX e.nums++(Wire.kO e.text++Wire.yX [e.c,e.s])) (by simp) (by
    intro x f;simp only[List.mem_cons,List.not_mem_nil,or_false]at f
    rcases f with rfl|rfl|rfl|rfl
    ·exact d.h0
    ·exact d.h1
    ·exact d.h2
    ·exact d.h3)
   unfold encE aF
   simpa using this
  ·have:=Wire.nums_ok [e.c,e.s] [] (by simp) (by
    intro x f;simp only[List.mem_cons,List.not_mem_nil,or_false]at f
    rcases f with rfl|rfl
    ·exact d.h5
    ·exact d.h6)
   simpa using this
 obtain⟨k,j,i,g⟩:=l a ha;obtain⟨t,r,q,p⟩:=l b hb;rw[h,t]at k;simp only[Prod.mk.injEq,Wire.Rd.mk.injEq,List.cons.injEq,and_true]at k;obtain⟨⟨D,C,B,A⟩,n⟩:=k;rw[<-n,r]at j;simp only[Prod.mk.injEq,Wire.Rd.mk.injEq,and_true]at j;obtain⟨z,m⟩:=j;rw[<-m,q]at i;simp only[Prod.mk.injEq,Wire.Rd.mk.injEq,and_true]at i;obtain⟨y,g8⟩:=i;rw[<-g8,p]at g;simp only[Prod.mk.injEq,and_true,List.cons.injEq]at g;obtain⟨w,o⟩:=g
 cases a
 cases b
 simp_all
theorem cY:∀a:List UInt8,Op.bytesLess a a=false
 | []=>rfl
 |x::a=>by unfold Op.bytesLess;simp[cY a]
theorem mo:∀a b c:List UInt8,Op.bytesLess a b=true->Op.bytesLess b c=true->Op.bytesLess a c=true
 |_,[],_,h1,_=>by cases ‹List UInt8› <;> simp[Op.bytesLess]at h1
 |_,_::_,[],_,h2=>by simp[Op.bytesLess]at h2
 | [],_::_,_::_,_,_=>rfl
 |x::a,y::b,z::c,h1,h2=>by
  unfold Op.bytesLess at h1 h2 ⊢
  simp only[Bool.or_eq_true,Bool.and_eq_true,decide_eq_true_eq,beq_iff_eq]at h1 h2 ⊢
  rcases h1 with h1|⟨rfl,h1⟩
  ·rcases h2 with h2|⟨rfl,h2⟩
   ·exact Or.inl (UInt8.lt_trans h1 h2)
   ·exact Or.inl h1
  ·rcases h2 with h2|⟨rfl,h2⟩
   ·exact Or.inl h2
   ·exact Or.inr ⟨rfl,mo a b c h1 h2⟩
theorem bl_tri:∀a b:List UInt8,Op.bytesLess a b=true\/a=b\/Op.bytesLess b a=true
 | [],[]=>Or.inr (Or.inl rfl)
 | [],_::_=>Or.inl rfl
 |_::_,[]=>Or.inr (Or.inr rfl)
 |x::a,y::b=>by
  unfold Op.bytesLess
  simp only[Bool.or_eq_true,Bool.and_eq_true,decide_eq_true_eq,beq_iff_eq,List.cons.injEq]
  rcases(by rw[UInt8.lt_iff_toNat_lt,UInt8.lt_iff_toNat_lt,<-UInt8.toNat_inj];omega:x < y\/x=y\/y < x)with h|h|h
  ·exact Or.inl (Or.inl h)
  ·subst h
   rcases bl_tri a b with h|h|h
   ·exact Or.inl (Or.inr ⟨rfl,h⟩)
   ·exact Or.inr (Or.inl ⟨rfl,h⟩)
   ·exact Or.inr (Or.inr (Or.inr ⟨rfl,h⟩))
  ·exact Or.inr (Or.inr (Or.inl h))
def cmpI(a b:Int):Int:=if a < b then -1 else if b < a then 1 else 0
def cmpB(a b:List UInt8):Int:=if Op.bytesLess a b then -1 else if Op.bytesLess b a then 1 else 0
def orI(a b:Int):Int:=if a=0 then b else a
def cmpE(a b:Ent):Int:=orI (cmpI a.gate b.gate) (orI (cmpI a.no b.no) (cmpB (encE a) (encE b)))
def ltE(a b:Ent):Prop:=a.gate < b.gate\/(a.gate=b.gate/\(a.no < b.no\/(a.no=b.no/\Op.bytesLess (encE a) (encE b)=true)))
theorem sR(a b:Int):cmpI a b < 0↔a < b:=by unfold cmpI;split <;> (try split) <;> omega
theorem gh(a b:Int):cmpI a b=0↔a=b:=by unfold cmpI;split <;> (try split) <;> omega
theorem xz{a b:List UInt8}(h:Op.bytesLess a b=true):Op.bytesLess b a=false:=by
 cases h3:Op.bytesLess b a
 ·rfl
 ·have:=mo _ _ _ h h3;rw[cY]at this;cases this
theorem yK(a b:List UInt8):cmpB a b < 0↔Op.bytesLess a b=true:=by
 unfold cmpB
 cases h1:Op.bytesLess a b <;> cases h2:Op.bytesLess b a <;> simp
theorem uE(a b:List UInt8):cmpB a b=0↔a=b:=by
 unfold cmpB
 rcases bl_tri a b with h|h|h
 ·rw[h];simp;rintro rfl;rw[cY]at h;cases h
 ·subst h;simp[cY]
 ·rw[h,xz h];simp;rintro rfl;rw[cY]at h;cases h
theorem vS(a b:Int):orI a b < 0↔a < 0\/(a=0/\b < 0):=by unfold orI;split <;> omega
theorem pV(a b:Int):orI a b=0↔a=0/\b=0:=by unfold orI;split <;> omega
theorem yJ(a b:Ent):cmpE a b < 0↔ltE a b:=by
 unfold cmpE ltE
 rw[vS,vS,sR,sR,yK,gh,gh]
theorem gi{a b:Ent}(ha:EntI a)(hb:EntI b):cmpE a b=0↔a=b:=by
 unfold cmpE
 rw[pV,pV,gh,gh,uE]
 constructor
 ·rintro⟨_,_,h⟩;exact lZ ha hb h
 ·rintro rfl;exact⟨rfl,rfl,rfl⟩
theorem fa(a:Ent):¬ltE a a:=by unfold ltE;simp[cY]
theorem dH{a b c:Ent}(h1:ltE a b)(h2:ltE b c):ltE a c:=by
 unfold ltE at *
 rcases h1 with h1|⟨h1,h1'|⟨h1',h1''⟩⟩ <;> rcases h2 with h2|⟨h2,h2'|⟨h2',h2''⟩⟩
 all_goals first
  |(left;omega)
  |(right;refine⟨by omega,?_⟩;first|(left;omega)|(right;exact⟨by omega,mo _ _ _ h1'' h2''⟩))
theorem ltE_tri{a b:Ent}(ha:EntI a)(hb:EntI b):ltE a b\/a=b\/ltE b a:=by
 unfold ltE
 rcases Int.lt_trichotomy a.gate b.gate with g|g|g
 ·exact Or.inl (Or.inl g)
 ·rcases Int.lt_trichotomy a.no b.no with n|n|n
  ·exact Or.inl (Or.inr ⟨g,Or.inl n⟩)
  ·rcases bl_tri (encE a) (encE b)with h|h|h
   ·exact Or.inl (Or.inr ⟨g,Or.inr ⟨n,h⟩⟩)
   ·exact Or.inr (Or.inl (lZ ha hb h))
   ·exact Or.inr (Or.inr (Or.inr ⟨g.symm,Or.inr ⟨n.symm,h⟩⟩))
  ·exact Or.inr (Or.inr (Or.inr ⟨g.symm,Or.inl n⟩))
 ·exact Or.inr (Or.inr (Or.inl g))
abbrev Up(l:List Ent):Prop:=l.Pairwise ltE
theorem uO:∀a b:List Ent,Up a->Up b->(∀z,z∈a↔z∈b)->a=b
 | [],[],_,_,_=>rfl
 | [],y::b,_,_,h=>absurd ((h y).2 List.mem_cons_self) (by simp)
 |x::a,[],_,_,h=>absurd ((h x).1 List.mem_cons_self) (by simp)
 |x::a,y::b,ha,hb,h=>by
  rw[Up,List.pairwise_cons]at ha hb
  have hxy:x=y:=by
   rcases List.mem_cons.1 ((h x).1 List.mem_cons_self)with e|e
   ·exact e
   ·rcases List.mem_cons.1 ((h y).2 List.mem_cons_self)with c|c
    ·exact c.symm
    ·exact absurd (dH (hb.1 x e) (ha.1 y c)) (fa _)
  subst hxy
  congr 1
  refine uO a b ha.2 hb.2 fun z=>⟨fun hz=>?_,fun hz=>?_⟩
  ·rcases List.mem_cons.1 ((h z).1 (List.mem_cons_of_mem _ hz))with e|e
   ·subst e;exact absurd (ha.1 z hz) (fa _)
   ·exact e
  ·rcases List.mem_cons.1 ((h z).2 (List.mem_cons_of_mem _ hz))with e|e
   ·subst e;exact absurd (hb.1 z hz) (fa _)
   ·exact e
def bA(sg:Ent->Bool)(l o:List Ent):Prop:=Up o/\∀z,z∈o↔z∈l/\sg z=true
theorem eK{sg:Ent->Bool}{l o p:List Ent}(h1:bA sg l o)(h2:bA sg l p):o=p:=uO o p h1.1 h2.1 fun z=>(h1.2 z).trans (h2.2 z).symm
end Go.Proofs.YtcidfldeiklcjaaGreatDoor.Tm
namespace Go.Proofs.YtcidfldeiklcjaaGreatDoor
open Go.RowKit Tm
def entC(e:Ent)(v:Value):List Value:=[e.gate,e.no,e.time,e.kind,v,e.text,e.c,e.s]
def EntR(w:World)(c:List Value)(e:Ent):Prop:=∃v,c=entC e v/\Row w 1 v e.nums.length (ints e.nums)
theorem EntR.kept{w w':World}{c:List Value}{e:Ent}(h:EntR w c e)(k:Kept [] w w'):EntR w' c e:=by obtain⟨v,h1,h2⟩:=h;exact⟨v,h1,h2.kept k⟩
abbrev aU(w:World)(v:Value)(l:List Ent):Prop:=ag EntR 8 w v l
theorem aU.kept{w w':World}{v:Value}{l:List Ent}(h:aU w v l)(k:Kept [] w w'):aU w' v l:=ag.kept h (fun _ _ x=>EntR.kept x k) k
structure Cells8 (w:World) (b o:Nat) (e:Ent) (u:Value):Prop where
 c0:w.cell? ⟨b,o,none⟩=some (.int .i64 e.gate)
 c1:w.cell? ⟨b,o+1,none⟩=some (.int .i64 e.no)
 c2:w.cell? ⟨b,o+2,none⟩=some (.int .i64 e.time)
 c3:w.cell? ⟨b,o+3,none⟩=some (.int .i64 e.kind)
 c4:w.cell? ⟨b,o+4,none⟩=some u
 c5:w.cell? ⟨b,o+5,none⟩=some (.string ⟨e.text.toArray⟩)
 c6:w.cell? ⟨b,o+6,none⟩=some (.int .i64 e.c)
 c7:w.cell? ⟨b,o+7,none⟩=some (.int .i64 e.s)
theorem Cells8.kept{w w':World}{b o:Nat}{e:Ent}{u:Value}(h:Cells8 w b o e u)(k:Kept [] w w'):Cells8 w' b o e u := ⟨Kept.cellOf h.c0 _ k,Kept.cellOf h.c1 _ k,Kept.cellOf h.c2 _ k,Kept.cellOf h.c3 _ k,Kept.cellOf h.c4 _ k,Kept.cellOf h.c5 _ k,Kept.cellOf h.c6 _ k,Kept.cellOf h.c7 _ k⟩
theorem Cells8.keptS{w w':World}{S:List Nat}{b o:Nat}{e:Ent}{u:Value}(h:Cells8 w b o e u)(k:Kept S w w')(hb:b∉S):Cells8 w' b o e u:=by
 have hl:=World.block_lt_of_cell? _ _ h.c0;have one:∀ {j:Nat} {v:Value},w.cell? ⟨b,j,none⟩=some v->w'.cell? ⟨b,j,none⟩=some v:=fun{j} {_} hv=>(k.cell (p:=⟨b,j,none⟩) hl hb).trans hv;exact⟨one h.c0,one h.c1,one h.c2,one h.c3,one h.c4,one h.c5,one h.c6,one h.c7⟩
theorem Cells8.of_blk{w:World}{b:Nat}{T:TypeId}{e:Ent}{u:Value}(h:Blk w b T (entC e u).toArray):Cells8 w b 0 e u := ⟨h.cell 0,h.cell 1,h.cell 2,h.cell 3,h.cell 4,h.cell 5,h.cell 6,h.cell 7⟩
theorem aU.at_{w:World}{v:Value}{l:List Ent}(h:aU w v l)(hp:0 < l.length):∃b off c,v=.slice (some ⟨b,off,none⟩) l.length c/\l.length<=c /\
  ∀(k:Nat) (hk:k < l.length),∃u,Row w 1 u l[k].nums.length (ints l[k].nums)/\Cells8 w b (off+k*8) l[k] u:=by
 obtain⟨a,c,rfl,_,e⟩:=ag.form h;obtain⟨b,off,rfl,d⟩:=ag.at_ h hp;refine⟨b,off,c,rfl,e,fun k hk=>?_⟩;obtain⟨n,m,⟨u,rfl,i⟩,f⟩:=d k _ (List.getElem?_eq_getElem hk)
 have g:∀(j:Nat) x,j < 8->(entC l[k] u)[j]?=some x->w.cell? ⟨b,off+k*8+j,none⟩=some x:=fun j x hj hx=>by rw[Nat.add_assoc];exact f j x hj hx
 exact⟨u,i,g 0 _ (by omega) rfl,g 1 _ (by omega) rfl,g 2 _ (by omega) rfl,g 3 _ (by omega) rfl,g 4 _ (by omega) rfl,g 5 _ (by omega) rfl,g 6 _ (by omega) rfl,g 7 _ (by omega) rfl⟩
theorem Cells8.kw{w:World}{b o:Nat}{e:Ent}{u:Value}(h:Cells8 w b o e u):(∀z:KW w,z.val.cell? ⟨b,o,none⟩=some (.int .i64 e.gate))/\(∀z:KW w,z.val.cell? ⟨b,o+1,none⟩=some (.int .i64 e.no))/\(∀z:KW w,z.val.cell? ⟨b,o+2,none⟩=some (.int .i64 e.time))/\(∀z:KW w,z.val.cell? ⟨b,o+3,none⟩=some (.int .i64 e.kind))/\(∀z:KW w,z.val.cell? ⟨b,o+4,none⟩=some (u))/\(∀z:KW w,z.val.cell? ⟨b,o+5,none⟩=some (.string ⟨e.text.toArray⟩))/\(∀z:KW w,z.val.cell? ⟨b,o+6,none⟩=some (.int .i64 e.c))/\(∀z:KW w,z.val.cell? ⟨b,o+7,none⟩=some (.int .i64 e.s)):=⟨fun z=>z.cell h.c0,fun z=>z.cell h.c1,fun z=>z.cell h.c2,fun z=>z.cell h.c3,fun z=>z.cell h.c4,fun z=>z.cell h.c5,fun z=>z.cell h.c6,fun z=>z.cell h.c7⟩
end Go.Proofs.YtcidfldeiklcjaaGreatDoor
namespace Go.Knu
structure St (Y yn1 yn0 u un1 q rh:Nat):Prop where
 hy:Y=yn1*4294967296+yn0
 hy1:2147483648<=yn1
 hy1':yn1 < 4294967296
 hy0:yn0 < 4294967296
 hu:u < Y
 h1:un1 < 4294967296
 hq:(u*4294967296+un1) / Y<=q
 hr:q*yn1+rh=u
theorem St.start{Y yn1 yn0 u un1:Nat}(hy:Y=yn1*4294967296+yn0)(hy1:2147483648<=yn1)(hy1':yn1 < 4294967296)(hy0:yn0 < 4294967296)(hu:u < Y)(h1:un1 < 4294967296) :
  St Y yn1 yn0 u un1 (u / yn1) (u % yn1):=by
 refine⟨hy,hy1,hy1',hy0,hu,h1,?_,by rw[Nat.mul_comm];exact Nat.div_add_mod u yn1⟩
 have a:0 < Y:=by omega
 refine(Nat.div_le_iff_le_mul_add_pred a).2 ?_;have e:=Nat.div_add_mod u yn1;have b:=Nat.mod_lt u (show 0 < yn1 by omega)
 generalize u / yn1=k at *
 generalize u % yn1=r at *
 subst hy;rw[Nat.add_mul]
 have:yn1*4294967296*k=(yn1*k)*4294967296:=by rw[Nat.mul_right_comm]
 rw[this,<-e,Nat.add_mul];have c:0<=yn0*k:=Nat.zero_le _
 generalize yn1*k=p at *
 generalize yn0*k=t at *
 omega
theorem St.q_lt{Y yn1 yn0 u un1 q rh:Nat}(h:St Y yn1 yn0 u un1 q rh):q<=4294967297:=by
 obtain⟨hy,hy1,hy1',hy0,hu,h1,hq,hr⟩:=h
 rcases Nat.lt_or_ge 4294967297 q with h|h
 ·have:4294967298*yn1<=q*yn1:=Nat.mul_le_mul_right _ (by omega);omega
 ·exact h
theorem St.big{Y yn1 yn0 u un1 q rh:Nat}(h:St Y yn1 yn0 u un1 q rh)(hb:4294967296<=rh):q < 4294967296:=by
 obtain⟨hy,hy1,hy1',hy0,hu,h1,hq,hr⟩:=h
 rcases Nat.lt_or_ge q 4294967296 with h|h
 ·exact h
 ·have:4294967296*yn1<=q*yn1:=Nat.mul_le_mul_right _ h;omega
theorem St.qlt{Y yn1 yn0 u un1 q rh:Nat}(h:St Y yn1 yn0 u un1 q rh):(u*4294967296+un1) / Y < 4294967296:=by
 obtain⟨hy,hy1,hy1',hy0,hu,h1,hq,hr⟩:=h;refine Nat.div_lt_of_lt_mul ?_;have:(u+1)*4294967296<=Y*4294967296:=Nat.mul_le_mul_right _ hu;omega
theorem split{Y yn1 yn0 u un1 q rh:Nat}(hy:Y=yn1*4294967296+yn0)(hr:q*yn1+rh=u) :
  q*Y+(rh*4294967296+un1)=(u*4294967296+un1)+q*yn0:=by
 subst hy hr;rw[Nat.mul_add,Nat.add_mul,<-Nat.mul_assoc];omega
theorem St.done{Y yn1 yn0 u un1 q rh:Nat}(h:St Y yn1 yn0 u un1 q rh)(hc:q*yn0<=rh*4294967296+un1):q=(u*4294967296+un1) / Y:=by
 obtain⟨hy,hy1,hy1',hy0,hu,h1,hq,hr⟩:=h;have e:=split (un1:=un1) hy hr
 have hle:q*Y<=u*4294967296+un1:=by omega
 have:=(Nat.le_div_iff_mul_le (show 0 < Y by omega)).2 hle;omega
theorem ar1{a b N R:Nat}(e:a+R=N+b)(h:R < b):N < a:=by omega
theorem St.step{Y yn1 yn0 u un1 q rh:Nat}(h:St Y yn1 yn0 u un1 q rh)(hc:4294967296<=q\/rh*4294967296+un1 < q*yn0):1<=q/\St Y yn1 yn0 u un1 (q - 1) (rh+yn1):=by
 have hql:=h.qlt;obtain⟨hy,hy1,hy1',hy0,hu,h1,hq,hr⟩:=h
 have hlt:(u*4294967296+un1) / Y < q:=by
  rcases hc with hc|hc
  ·omega
  ·refine(Nat.div_lt_iff_lt_mul (show 0 < Y by omega)).2 ?_;have e:=split (un1:=un1) hy hr;exact ar1 e hc
 have hq1:1<=q:=Nat.lt_of_le_of_lt (Nat.zero_le _) hlt;refine⟨hq1,hy,hy1,hy1',hy0,hu,h1,Nat.le_sub_one_of_lt hlt,?_⟩
 have:q*yn1=(q - 1)*yn1+yn1:=by
  conv=>lhs;rw[show q=(q - 1)+1 by omega,Nat.add_mul,Nat.one_mul]
 omega
theorem St.broke{Y yn1 yn0 u un1 q rh:Nat}(h:St Y yn1 yn0 u un1 q rh)(hb:4294967296<=rh):q=(u*4294967296+un1) / Y:=by
 have hql:=h.big hb;refine h.done ?_;have:q*yn0<=4294967295*4294967295:=Nat.mul_le_mul (by omega) (by have:=h.hy0;omega);have:4294967296*4294967296<=rh*4294967296:=Nat.mul_le_mul_right _ hb;omega
theorem rest{N Y q:Nat}(hq:q=N / Y):q*Y<=N/\N - q*Y=N % Y:=by
 subst hq;have:=Nat.div_add_mod N Y;rw[Nat.mul_comm]at this
 constructor <;> omega
theorem ar2{a b D:Nat}(e:a*18446744073709551616+b=D):(a*4294967296+b / 4294967296)*4294967296+b % 4294967296=D:=by
 have hb:=Nat.div_add_mod b 4294967296
 have h1:a*18446744073709551616=a*4294967296*4294967296:=by rw[Nat.mul_assoc]
 rw[Nat.add_mul,Nat.add_assoc,Nat.mul_comm (b / 4294967296),hb,<-h1,e]
theorem two{hi lo y s un32 un10 un21:Nat}(e1:un32*18446744073709551616+un10=(hi*18446744073709551616+lo)*2 ^ s)
  (e2:un21=(un32*4294967296+un10 / 4294967296) % (y*2 ^ s)) :
  (un21*4294967296+un10 % 4294967296) % (y*2 ^ s) / 2 ^ s=(hi*18446744073709551616+lo) % y:=by
 have c:(un21*4294967296+un10 % 4294967296) % (y*2 ^ s)=((hi*18446744073709551616+lo)*2 ^ s) % (y*2 ^ s):=by
  generalize y*2 ^ s=Z at *
  subst e2;have a:∀M H:Nat,M % Z*H % Z=M*H % Z:=fun M H=>Nat.mod_mul_mod M H Z;have h:=a (un32*4294967296+un10 / 4294967296) 4294967296;have b:(un32*4294967296+un10 / 4294967296)*4294967296+un10 % 4294967296=(hi*18446744073709551616+lo)*2 ^ s:=ar2 e1;rw[Nat.add_mod,h,<-Nat.add_mod,b]
 rw[c,Nat.mul_mod_mul_right,Nat.mul_div_cancel _ (Nat.two_pow_pos s)]
theorem shifted{hi lo s:Nat}(hs:s<=64):(hi*2 ^ s+lo / 2 ^ (64 - s))*18446744073709551616+lo*2 ^ s % 18446744073709551616=(hi*18446744073709551616+lo)*2 ^ s:=by
 have e:lo*2 ^ s / 18446744073709551616=lo / 2 ^ (64 - s):=by
  have h2:18446744073709551616=2 ^ (64 - s)*2 ^ s:=by rw[<-Nat.pow_add,show 64 - s+s=64 by omega]
  rw[h2,Nat.mul_div_mul_right _ _ (Nat.two_pow_pos s)]
 have h3:=Nat.div_add_mod (lo*2 ^ s) 18446744073709551616;rw[e]at h3
 have h4:(hi*18446744073709551616+lo)*2 ^ s=hi*2 ^ s*18446744073709551616+lo*2 ^ s:=by rw[Nat.add_mul,Nat.mul_right_comm hi]
 rw[h4,Nat.add_mul,Nat.add_assoc];refine congrArg _ ?_;rw[Nat.mul_comm (lo / 2 ^ (64 - s))];exact h3
theorem or_add{a b s:Nat}(hb:b < 2 ^ s):a*2 ^ s |||b=a*2 ^ s+b:=by
 rw[Nat.mul_comm a (2 ^ s),Nat.two_pow_add_eq_or_of_lt hb]
theorem zO{lo s:Nat}(hl:lo < 18446744073709551616)(hs:s<=64):lo / 2 ^ (64 - s) < 2 ^ s:=by
 rw[Nat.div_lt_iff_lt_mul (Nat.two_pow_pos _),<-Nat.pow_add,show s+(64 - s)=64 by omega];exact hl
theorem un_lt{hi lo y s:Nat}(hh:hi < y)(hl:lo < 18446744073709551616)(hs:s<=64):hi*2 ^ s+lo / 2 ^ (64 - s) < y*2 ^ s:=by
 have h1:=zO hl hs;have h2:(hi+1)*2 ^ s<=y*2 ^ s:=Nat.mul_le_mul_right _ hh;rw[Nat.add_mul,Nat.one_mul]at h2
 generalize lo / 2 ^ (64 - s)=a at *
 generalize hi*2 ^ s=b at *
 generalize y*2 ^ s=c at *
 omega
end Go.Knu
