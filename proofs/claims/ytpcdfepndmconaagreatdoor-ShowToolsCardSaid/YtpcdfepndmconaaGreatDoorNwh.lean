/- One round of Horner's rule on the divided differences, in plain numbers; rows of divided differences. -/
import Derived.Test.YtpcdfepndmconaaGreatDoorIvu
import Derived.Test.YtpcdfepndmconaaGreatDoorThq
import Derived.Test.YtpcdfepndmconaaGreatDoorChk
/- JOINED: Opz Nwt Nwh -/
/- What Open answers, in plain numbers. -/
namespace Go.Proofs.YtpcdfepndmconaaGreatDoor
open Go.RowKit
abbrev Pnt3:=Int × Int × Int
def flatP:List Pnt3→List Int
 | []=>[]
 | p::l=>p.1::p.2.1::p.2.2::flatP l
theorem flatP_get:∀ (l:List Pnt3) (k:Nat) (h:k < l.length),(flatP l)[k*3]?=some l[k].1∧(flatP l)[k*3+1]?=some l[k].2.1∧(flatP l)[k*3+2]?=some l[k].2.2
 | p::l,0,_=>⟨rfl,rfl,rfl⟩
 | p::l,k+1,h=>by
  have:=flatP_get l k (by simpa using h);rw [show (k+1)*3=k*3+3 by omega]
  simpa [flatP] using this
/-- l leads through the points -/
def Thr (q:Nat) (xs ys l:List Int):Prop:=l.length=xs.length∧ResL q l∧∀ j (hj:j < xs.length) (hy:j < ys.length),Itp.Cg q (Itp.ev l xs[j]) ys[j]
theorem Thr.same {q:Nat} {xs ys l m:List Int} (h2:2≤q) (hp:Prm.primeN q=true) (hl:Thr q xs ys l) (hm:Thr q xs ys m) (hyl:ys.length=xs.length) (hr:∀ x∈xs,0≤x∧x≤12∧x < q) (hd:xs.Pairwise (·≠·)) (z:Int):atZ q z l=atZ q z m:=by
 refine atZ_of q z (by omega) (Itp.unique q xs l m hl.1 hm.1 ?_ (fun x hx=>?_) z)
 ·rw [List.pairwise_iff_getElem] at hd ⊢;intro i j hi hj hij;have a:=hr xs[i] (List.getElem_mem hi);have b:=hr xs[j] (List.getElem_mem hj);obtain ⟨u,hu,t1,hc⟩:=inv_ex q ((subN q xs[j] xs[i]:Nat):Int) h2 (cop_subI hp _ _ b.1 b.2.1 a.1 a.2.1 b.2.2 a.2.2 (fun e=>hd i j hi hj hij e.symm));obtain ⟨t2,hs⟩:=sub_cg q xs[j] xs[i] (by omega);exact ⟨u,t1 - u*t2,by grind⟩
 ·obtain ⟨j,hj,rfl⟩:=List.mem_iff_getElem.1 hx;exact (hl.2.2 j hj (by omega)).trans (hm.2.2 j hj (by omega)).symm
def agreeB (q:Nat) (a b:List Int) (pts:List Pnt3):Bool:=pts.all fun p=>((atZ q p.1 a:Nat):Int)==p.2.1&&((atZ q p.1 b:Nat):Int)==p.2.2
def nodupB (pts:List Pnt3):Bool:=decide ((pts.map (·.1)).Pairwise (·≠·))
def chkP (s:Stp) (commit:Int) (esc:List Int) (p:Pnt3):Bool:=chkZ s commit esc p.1 p.2.1 p.2.2
def allB (s:Stp) (commit:Int) (esc:List Int) (pts:List Pnt3):Bool:=pts.all (chkP s commit esc)
abbrev Ans3:=Int × Int × Int
def ansV (r:Ans3):Value:=.tuple #[.int .i64 r.1,.int .i64 r.2.1,.int .i64 r.2.2]
def thruB (s:Stp) (esc:List Int) (pts:List Pnt3) (a b:List Int):Prop :=
 Thr s.Q.toNat ((pts.map (·.1)).take (esc.length+1)) ((pts.map (·.2.1)).take (esc.length+1)) a∧Thr s.Q.toNat ((pts.map (·.1)).take (esc.length+1)) ((pts.map (·.2.2)).take (esc.length+1)) b
/-- what Open answers -/
def OpenR (s:Stp) (commit:Int) (esc:List Int) (pts:List Pnt3) (r:Ans3):Prop :=
 (allB s commit esc pts=false∧r=(0,0,1)) ∨
 (allB s commit esc pts=true∧nodupB pts=false∧r=(0,0,5)) ∨
 (allB s commit esc pts=true∧nodupB pts=true∧pts.length < esc.length+1∧r=(0,0,18)) ∨
 (allB s commit esc pts=true∧nodupB pts=true∧esc.length+1≤pts.length∧∃ a b,thruB s esc pts a b ∧
  r=if agreeB s.Q.toNat a b pts then (((atZ s.Q.toNat 0 a:Nat):Int),((atZ s.Q.toNat 0 b:Nat):Int),0) else (0,0,20))
/-- what an accepted point says -/
theorem chkZ_yes {s:Stp} {commit:Int} {esc:List Int} {p:Pnt3} (h:chkP s commit esc p=true) :
  setupB s=true∧esc.length < 12∧1≤p.1∧p.1≤12∧p.1 < s.Q:=by
 unfold chkP chkZ chk2 at h
 simp only [Bool.and_eq_true,decide_eq_true_eq] at h;obtain ⟨h1,h2,h3,h4,⟨h5,h6,h7⟩,h8⟩:=h;exact ⟨h1,h2,h5,h6,h7⟩
theorem allB_mem {s:Stp} {commit:Int} {esc:List Int} {pts:List Pnt3} (h:allB s commit esc pts=true) {p:Pnt3} (hp:p∈pts):chkP s commit esc p=true:=List.all_eq_true.1 h p hp
theorem nodupB_pw {pts:List Pnt3} (h:nodupB pts=true):(pts.map (·.1)).Pairwise (·≠·):=of_decide_eq_true h
/-- the points' places -/
theorem places {s:Stp} {commit:Int} {esc:List Int} {pts:List Pnt3} (h:allB s commit esc pts=true) {q:Nat} (hq:s.Q=q) (n:Nat):∀ x∈(pts.map (·.1)).take n,0≤x∧x≤12∧x < (q:Int):=fun x hx=>by
 obtain ⟨p,hp,rfl⟩:=List.mem_map.1 (List.mem_of_mem_take hx);obtain ⟨_,_,h1,h2,h3⟩:=chkZ_yes (allB_mem h hp);exact ⟨by omega,h2,by omega⟩
theorem few12 {l:List Int} (hd:l.Pairwise (·≠·)) (h:∀ x∈l,1≤x∧x≤12):l.length≤12:=by
 have key:∀ (n:Nat) (l:List Int),l.Pairwise (·≠·)→(∀ x∈l,1≤x∧x≤(n:Int))→l.length≤n:=by
  intro n
  induction n with
  | zero =>
   intro l _ h
   cases l with
   | nil=>simp
   | cons a l=>have:=h a List.mem_cons_self;omega
  | succ n ih =>
   intro l hd h
   have h1:=ih (l.filter (fun x=>decide (x≠((n+1:Nat):Int)))) (hd.filter _) (fun x hx=>by
    obtain ⟨h1,h2⟩:=List.mem_filter.1 hx;have:=h x h1;simp at h2
    omega)
   have h2:l.length≤(l.filter (fun x=>decide (x≠((n+1:Nat):Int)))).length+1:=by
    clear ih h h1
    induction l with
    | nil=>simp
    | cons a l ihl =>
     rw [List.pairwise_cons] at hd
     by_cases ha:a=((n+1:Nat):Int)
     ·have:l.filter (fun x=>decide (x≠((n+1:Nat):Int)))=l:=List.filter_eq_self.2 fun x hx=>by
       have:=hd.1 x hx
       simp
       intro e;exact this (by rw [ha,e];simp)
      rw [List.filter_cons,this]
      split <;> simp only [List.length_cons] <;> omega
     ·have:=ihl hd.2;rw [List.filter_cons,if_pos (by simpa using ha)];simp only [List.length_cons];omega
   omega
 exact key 12 l hd (fun x hx=>by have:=h x hx;omega)
theorem openR_one {s:Stp} {commit:Int} {esc:List Int} {pts:List Pnt3} {r1 r2:Ans3} (h1:OpenR s commit esc pts r1) (h2:OpenR s commit esc pts r2):r1=r2:=by
 rcases h1 with ⟨a1,e1⟩|⟨a1,b1,e1⟩|⟨a1,b1,c1,e1⟩|⟨a1,b1,c1,x1,y1,t1,e1⟩ <;> rcases h2 with ⟨a2,e2⟩|⟨a2,b2,e2⟩|⟨a2,b2,c2,e2⟩|⟨a2,b2,c2,x2,y2,t2,e2⟩
 ·rw [e1,e2]
 ·rw [a1] at a2;cases a2
 ·rw [a1] at a2;cases a2
 ·rw [a1] at a2;cases a2
 ·rw [a1] at a2;cases a2
 ·rw [e1,e2]
 ·rw [b1] at b2;cases b2
 ·rw [b1] at b2;cases b2
 ·rw [a1] at a2;cases a2
 ·rw [b1] at b2;cases b2
 ·rw [e1,e2]
 ·omega
 ·rw [a1] at a2;cases a2
 ·rw [b1] at b2;cases b2
 ·omega
 ·have hne:0 < pts.length:=by omega
  obtain ⟨hs,_,_⟩:=chkZ_yes (allB_mem a1 (List.getElem_mem hne));obtain ⟨q,hok,hg,hqt⟩:=setupB_q hs;have hqp:Prm.primeN q=true:=(Bool.and_eq_true_iff.1 hg).1;have h2q:=hok.h5;have hQ:=hok.hQ;have hd:=(nodupB_pw b1).sublist (List.take_sublist (esc.length+1) _);have hr:=places a1 hQ (esc.length+1)
  unfold thruB at t1 t2
  rw [hqt] at t1 t2 e1 e2;have ea:∀ z,atZ q z x1=atZ q z x2:=Thr.same (by omega) hqp t1.1 t2.1 (by simp) hr hd;have eb:∀ z,atZ q z y1=atZ q z y2:=Thr.same (by omega) hqp t1.2 t2.2 (by simp) hr hd;rw [e1,e2]
  unfold agreeB
  simp only [ea,eb]
end Go.Proofs.YtpcdfepndmconaaGreatDoor
/- Newton's polynomial with residues, in plain numbers; a block whose first cells are a list. -/
namespace Go.Proofs.YtpcdfepndmconaaGreatDoor
open Go.RowKit Itp
section
variable {q:Int} {x:Nat→Int} {dd:Nat→Nat→Int} {n:Nat} (hd:∀ k i,k+1≤i→i < n→Cg q (dd (k+1) i*(x i - x (i - (k+1)))) (dd k i - dd k (i - 1)))
include hd
theorem nwt_step (i:Nat) (z:Int):∀ m,i+m+1 < n→Cg q (E x dd (i+1) m z - E x dd i m z) ((x (i+m+1) - x i)*dd (m+1) (i+m+1)*W x (i+1) m z)
 | 0,hb=>by
  obtain ⟨t,ht⟩:=hd 0 (i+1) (by omega) (by omega);simp only [E,W,Nat.add_zero,Nat.zero_add,show i+1 - 1=i by omega] at ht ⊢;exact ⟨-t,by grind⟩
 | m+1,hb=>by
  obtain ⟨t,ht⟩:=nwt_step i z m (by omega);obtain ⟨u,hu⟩:=hd (m+1) (i+(m+1)+1) (by omega) (by omega);rw [E,E,W_shift x i z m,W];simp only [show i+(m+1)+1=i+m+2 by omega,show i+m+2 - (m+1+1)=i by omega,show i+m+2 - 1=i+m+1 by omega,show i+1+m=i+m+1 by omega,show m+1+1=m+2 by omega] at hu ht ⊢;exact ⟨t - u*(W x (i+1) m z*(z - x (i+m+1))),by grind⟩
theorem nwt_through (j:Nat):∀ m i,i≤j→j≤i+m→i+m < n→Cg q (E x dd i m (x j)) (dd 0 j)
 | 0,i,h1,h2,_=>by
  obtain rfl:i=j:=by omega
  exact Cg.refl _ _
 | m+1,i,h1,h2,hb=>by
  rw [E]
  by_cases h:j≤i+m
  ·rw [W_zero x i j (m+1) h1 (by omega)];obtain ⟨t,ht⟩:=nwt_through j m i h1 h (by omega);exact ⟨t,by grind⟩
  ·obtain rfl:j=i+m+1:=by omega
   obtain ⟨t,ht⟩:=nwt_through (i+m+1) m (i+1) (by omega) (by omega) (by omega);obtain ⟨u,hu⟩:=nwt_step hd i (x (i+m+1)) m (by omega);rw [W_shift x i _ m];exact ⟨t - u,by grind⟩
end
/-- divided differences; f i j is the inverse of x i - x j -/
def ddF (q:Nat) (f:Nat→Nat→Nat) (y:Nat→Int):Nat→Nat→Nat
 | 0,i=>res q (y i)
 | k+1,i=>if k+1≤i then mulN q ((subN q ((ddF q f y k i:Nat):Int) ((ddF q f y k (i - 1):Nat):Int):Nat):Int) ((f i (i - (k+1)):Nat):Int) else ddF q f y k i
theorem ddF_lt (q:Nat) (f:Nat→Nat→Nat) (y:Nat→Int) (h:1≤q):∀ k i,ddF q f y k i < q
 | 0,i=>res_lt q _ h
 | k+1,i=>by
  rw [ddF]
  split
  ·exact ltMul _ _ _ h
  ·exact ddF_lt q f y h k i
theorem ddF_stay (q:Nat) (f:Nat→Nat→Nat) (y:Nat→Int) (i:Nat):∀ k,i≤k→ddF q f y k i=ddF q f y i i
 | 0,h=>by
  obtain rfl:i=0:=by omega
  rfl
 | k+1,h=>by
  by_cases hk:i≤k
  ·rw [ddF,if_neg (by omega)];exact ddF_stay q f y i k hk
  ·obtain rfl:i=k+1:=by omega
   rfl
theorem ddF_cg {q n:Nat} {f:Nat→Nat→Nat} {x y:Nat→Int} (hq:1≤q) (hf:∀ i j,i < n→j < n→i≠j→Cg q (f i j*((subN q (x i) (x j):Nat):Int)) 1) (k i:Nat) (h1:k+1≤i) (h2:i < n) :
  Cg q (((ddF q f y (k+1) i:Nat):Int)*(x i - x (i - (k+1)))) (((ddF q f y k i:Nat):Int) - ((ddF q f y k (i - 1):Nat):Int)):=by
 rw [ddF,if_pos h1];obtain ⟨t1,e1⟩:=mul_cg q ((subN q ((ddF q f y k i:Nat):Int) ((ddF q f y k (i - 1):Nat):Int):Nat):Int) ((f i (i - (k+1)):Nat):Int) hq;obtain ⟨t2,e2⟩:=sub_cg q ((ddF q f y k i:Nat):Int) ((ddF q f y k (i - 1):Nat):Int) hq;obtain ⟨t3,e3⟩:=hf i (i - (k+1)) h2 (by omega) (by omega);obtain ⟨t4,e4⟩:=sub_cg q (x i) (x (i - (k+1))) hq
 generalize ((subN q (x i) (x (i - (k+1))):Nat):Int)=s at *
 generalize x i - x (i - (k+1))=d at *
 generalize ((f i (i - (k+1)):Nat):Int)=u at *
 generalize ((ddF q f y k i:Nat):Int)=a at *
 generalize ((ddF q f y k (i - 1):Nat):Int)=b at *
 generalize ((subN q a b:Nat):Int)=m at *
 generalize ((mulN q m u:Nat):Int)=p at *
 exact ⟨t1*d+t2*u*d+(a - b)*t3 - (a - b)*u*t4,by grind⟩
/-- what Horner's rule makes of the divided differences leads through the points -/
theorem nwt_done {q n:Nat} {f:Nat→Nat→Nat} {x y:Nat→Int} (hq:1≤q) (hf:∀ i j,i < n→j < n→i≠j→Cg q (f i j*((subN q (x i) (x j):Nat):Int)) 1) (R:Nat→Int→Int)
  (h0:∀ z,Cg q (R n z) 0) (h:∀ i,i < n→∀ z,Cg q (R i z) (R (i+1) z*(z - x i)+((ddF q f y i i:Nat):Int))) (j:Nat) (hj:j < n):Cg q (R 0 (x j)) (y j):=by
 obtain ⟨m,rfl⟩:∃ m,n=m+1:=⟨n - 1,by omega⟩;have hH:=horner q x (fun k i=>((ddF q f y k i:Nat):Int)) m R (x j) (h0 _) (fun i hi=>h i (by omega) _);have hT:=nwt_through (q:=q) (x:=x) (dd:=fun k i=>((ddF q f y k i:Nat):Int)) (n:=m+1) (fun k i h1 h2=>ddF_cg hq hf k i h1 h2) j m 0 (by omega) (by omega) (by omega);exact hH.trans (hT.trans (mod_cg q (y j) hq))
/-- a block whose first cells are a list -/
def BlkP (w:World) (g:Nat) (l:List Int):Prop:=∃ cur,Blk w g 3 cur∧∀ (k:Nat) (u:Value),(ints l)[k]?=some u→cur[k]?=some u
theorem BlkP.cell {w:World} {g:Nat} {l:List Int} (h:BlkP w g l) (k:Nat) (hk:k < l.length):w.cell? ⟨g,k,none⟩=some (.int .i64 l[k]):=by
 obtain ⟨cur,hb,hc⟩:=h;rw [hb.cell];exact hc k _ (ints_get hk)
theorem BlkP.lt {w:World} {g:Nat} {l:List Int} (h:BlkP w g l):g < w.heap.size:=by
 obtain ⟨cur,hb,hc⟩:=h;exact hb.lt
theorem BlkP.frozen {w:World} {g:Nat} {l:List Int} (h:BlkP w g l) (k:Nat):w.frozen? ⟨g,k,none⟩=false:=by
 obtain ⟨cur,hb,hc⟩:=h;exact hb.frozen k
theorem BlkP.kept {S:List Nat} {w w':World} {g:Nat} {l:List Int} (h:BlkP w g l) (k:Kept S w w') (hg:g∉S):BlkP w' g l:=by
 obtain ⟨cur,hb,hc⟩:=h;exact ⟨cur,hb.kept k hg,hc⟩
theorem BlkP.set {w:World} {g:Nat} {l:List Int} (h:BlkP w g l) (k:Nat) (v:Int) (hk:k < l.length):BlkP (w.setCell ⟨g,k,none⟩ (.int .i64 v)) g (l.set k v):=by
 obtain ⟨cur,hb,hc⟩:=h;have hks:k < cur.size:=(Array.getElem?_eq_some_iff.1 (hc k _ (ints_get hk))).1;refine ⟨_,hb.set_ k _,fun j u hu=>?_⟩;rw [Array.getElem?_setIfInBounds]
 by_cases hjk:k=j
 ·subst hjk;rw [if_pos rfl,if_pos hks]
  simpa [ints,hk] using hu
 ·rw [if_neg hjk];refine hc j u ?_;rw [←hu]
  simp [ints,hjk]
theorem BlkP.of_own {w:World} {B:Nat} {v:Value} {l:List Int} (h:w.ownsRow B 3 1 v l.length (ints l)) (hn:0 < l.length):∃ g c,v=.slice (some ⟨g,0,none⟩) l.length c∧B≤g∧l.length≤c∧BlkP w g l:=by
 obtain ⟨g,cap,cur,hv,hB,hb,hc,hx⟩:=own_blk h hn;exact ⟨g,cap,hv,hB,hc,cur,hb,hx⟩
end Go.Proofs.YtpcdfepndmconaaGreatDoor
namespace Go.Proofs.YtpcdfepndmconaaGreatDoor
open Go.RowKit Itp
theorem ho_alg {q x z ea eo e op zm om p s v u0 u1 u2 u3:Int} (c0:ea - (e+op*zm+om*(zm*z) - x*(eo - (e+op*zm+om*(zm*z)))+z*(eo - (e+op*zm)))=q*u0) (c1:p - om*x=q*u1) (c2:s - (0 - p)=q*u2) (c3:v - (s+op)=q*u3) :
  ea+(v - om)*(zm*z) - (e+op*zm - x*(eo - (e+op*zm))+z*(eo - e))=q*(u0+u3*(zm*z)+u2*(zm*z) - u1*(zm*z)):=by grind
theorem subz (q:Nat) (x:Int):subN q 0 ((mulN q 0 x:Nat):Int)=0:=by
 have e0:res q 0=0:=by unfold res;simp
 have e1:mulN q 0 x=0:=by unfold mulN;rw [e0];simp
 rw [e1]
 unfold subN
 rw [show ((0:Nat):Int)=0 from rfl,e0,Nat.zero_add,Nat.sub_zero,Nat.mod_self]
theorem addz (q:Nat):addN q 0 0=0:=by
 have e0:res q 0=0:=by unfold res;simp
 unfold addN
 rw [e0];simp
/-- what the inner loop keeps: the cells from m on are those of o times (z - x) -/
def HoI (q n t:Nat) (x:Int) (o a:List Int) (m:Nat):Prop :=
 a.length=n∧ResL q a∧(∀ j (h:j < a.length) (h':j < o.length),j < m→a[j]=o[j])∧(∀ j (h:j < a.length),t+1≤j→a[j]=0) ∧
 ∀ z,Cg q (ev a z) (ev (o.take m) z - x*(ev o z - ev (o.take m) z)+z*(ev o z - ev (o.take (m - 1)) z))
/-- what the outer loop keeps: i points are left -/
def NwI (q n:Nat) (x:Nat→Int) (d:Nat→Nat) (i:Nat) (o:List Int):Prop :=
 o.length=n∧ResL q o∧(∀ j (h:j < o.length),n - i≤j→o[j]=0) ∧
 ∃ R:Nat→Int→Int,(∀ z,Cg q (R n z) 0)∧(∀ j,i≤j→j < n→∀ z,Cg q (R j z) (R (j+1) z*(z - x j)+(d j:Int)))∧∀ z,R i z=ev o z
theorem NwI.start (q n:Nat) (x:Nat→Int) (d:Nat→Nat) (h:1≤q):NwI q n x d n (List.replicate n 0) :=
 ⟨by simp,ResL.zeros _ _ h,fun j hj _=>by simp,fun _ _=>0,fun z=>Cg.refl _ _,fun j h1 h2=>by omega,fun z=>(ev_zeros z n).symm⟩
theorem HoI.start {q n c:Nat} {x:Nat→Int} {d:Nat→Nat} {o:List Int} (h:NwI q n x d (c+1) o) (hc:c < n) (y:Int):HoI q n (n - 1 - c) y o o n:=by
 obtain ⟨h1,h2,h3,_⟩:=h;refine ⟨h1,h2,fun _ _ _ _=>rfl,fun j hj ht=>h3 j hj (by omega),fun z=>?_⟩;have ht:=ev_take o (n - 1) z (by omega);rw [h3 (n - 1) (by omega) (by omega),show n - 1+1=n by omega] at ht;have hn:o.take n=o:=List.take_of_length_le (by omega);rw [hn] at ht ⊢;exact Cg.of_eq (by grind)
/-- the cell m becomes - x o[m] -/
theorem HoI.next {q n t:Nat} {x:Int} {o a:List Int} {m:Nat} (h:HoI q n t x o a (m+1)) (ho:o.length=n) (hz:∀ j (h:j < o.length),t≤j→o[j]=0) (hq:1≤q) (hm:m < n) (om op p s v:Nat)
  (h0:o[m]'(by omega)=om) (h1:m=0→op=0) (h2:∀ k (hk:k+1=m),o[k]'(by omega)=op) (hp:mulN q (om:Int) x=p) (hs:subN q 0 (p:Int)=s) (hv:addN q (s:Int) (op:Int)=v) (hv0:m=0→v=s) :
  HoI q n t x o (a.set m (v:Int)) m:=by
 obtain ⟨e1,e2,e3,e4,e5⟩:=h
 have ham:a[m]'(by omega)=om:=by rw [e3 m (by omega) (by omega) (by omega),h0]
 refine ⟨by simp [e1],e2.set _ _ (hv▸ltAdd _ _ _ hq),fun j hj hj' hlt=>?_,fun j hj ht=>?_,fun z=>?_⟩
 ·rw [List.getElem_set_ne (by omega)];exact e3 j (by simpa using hj) hj' (by omega)
 ·by_cases hjm:m=j
  ·subst hjm;rw [List.getElem_set_self]
   have z0:(om:Int)=0:=by rw [←h0];exact hz m (by omega) (by omega)
   have z1:(op:Int)=0:=by rw [←h2 (m - 1) (by omega)];exact hz (m - 1) (by omega) (by omega)
   have z2:=subz q x;rw [z0] at hp;rw [hp,hs] at z2;rw [z2,z1,show ((0:Nat):Int)=0 from rfl,addz] at hv;omega
  ·rw [List.getElem_set_ne hjm];exact e4 j (by simpa using hj) ht
 ·rw [ev_set _ _ _ _ (by omega),ham];have t1:=ev_take o m z (by omega);rw [h0] at t1;obtain ⟨u0,c0⟩:=e5 z;rw [Nat.add_sub_cancel,t1] at c0;obtain ⟨u1,c1⟩:=mul_cg q (om:Int) x hq;obtain ⟨u2,c2⟩:=sub_cg q 0 (p:Int) hq;obtain ⟨u3,c3⟩:=add_cg q (s:Int) (op:Int) hq;rw [hp] at c1;rw [hs] at c2;rw [hv] at c3
  rcases m with _|m
  ·rw [h1 rfl] at c3;have hvs:v=s:=hv0 rfl;subst hvs;simp only [List.take_zero,ev,Nat.zero_sub,Int.pow_zero] at c0 ⊢;exact ⟨u0+u2 - u1,by grind⟩
  ·have t2:=ev_take o m z (by omega);rw [h2 m rfl] at t2;rw [Nat.add_sub_cancel];rw [t2] at c0 ⊢;rw [Int.pow_succ] at c0 ⊢
   generalize ev (List.take m o) z=e at *
   generalize z ^ m=zm at *
   generalize ev o z=eo at *
   generalize ev a z=ea at *
   exact ⟨u0+u3*(zm*z)+u2*(zm*z) - u1*(zm*z),ho_alg c0 c1 c2 c3⟩
theorem NwI.next {q n c:Nat} {x:Nat→Int} {d:Nat→Nat} {o a:List Int} (h:NwI q n x d (c+1) o) (hc:c < n) (hq:1≤q) (y:Int) (hy:x c=y) (ha:HoI q n (n - 1 - c) y o a 0) (a0 v:Nat) (h0:a[0]'(by have:=ha.1;omega)=a0) (hv:addN q (a0:Int) (d c:Int)=v) :
  NwI q n x d c (a.set 0 (v:Int)):=by
 obtain ⟨h1,h2,h3,R,r1,r2,r3⟩:=h;obtain ⟨e1,e2,e3,e4,e5⟩:=ha;refine ⟨by simp [e1],e2.set _ _ (hv▸ltAdd _ _ _ hq),fun j hj ht=>?_,fun j z=>if j=c then ev (a.set 0 (v:Int)) z else R j z,fun z=>?_,fun j hj hjn z=>?_,fun z=>by simp⟩
 ·rw [List.getElem_set_ne (by omega)];exact e4 j (by simpa using hj) (by omega)
 ·show Cg q (if n=c then _ else R n z) 0
  rw [if_neg (show ¬ n=c by omega)];exact r1 z
 ·by_cases hjc:j=c
  ·subst hjc;simp only [if_pos,if_neg (show ¬ j+1=j by omega)];rw [r3 z,ev_set _ _ _ _ (by omega),h0,Int.pow_zero];obtain ⟨t1,c1⟩:=e5 z;obtain ⟨t2,c2⟩:=add_cg q (a0:Int) (d j:Int) hq;rw [hv] at c2;simp only [List.take_zero,ev,Nat.zero_sub] at c1;rw [hy]
   generalize ev a z=ea at *
   generalize ev o z=eo at *
   exact ⟨t1+t2,by grind⟩
  ·simp only [if_neg hjc,if_neg (show ¬ j+1=c by omega)];exact r2 j (by omega) hjn z
/-- the list that is left leads through the points -/
theorem NwI.done {q n:Nat} {f:Nat→Nat→Nat} {x y:Nat→Int} {o:List Int} (hq:1≤q) (hf:∀ i j,i < n→j < n→i≠j→Cg q (f i j*((subN q (x i) (x j):Nat):Int)) 1) (h:NwI q n x (fun i=>ddF q f y i i) 0 o) (j:Nat) (hj:j < n):Cg q (ev o (x j)) (y j):=by
 obtain ⟨_,_,_,R,r1,r2,r3⟩:=h;rw [←r3];exact nwt_done hq hf R r1 (fun i hi z=>r2 i (by omega) hi z) j hj
/-- the row while level k + 1 is being made, from the end on: the cells above i are made -/
def mixZ (q:Nat) (f:Nat→Nat→Nat) (y:Nat→Int) (n k i:Nat):List Int:=(List.range n).map fun j=>((ddF q f y (if i < j then k+1 else k) j:Nat):Int)
def lvlZ (q:Nat) (f:Nat→Nat→Nat) (y:Nat→Int) (n k:Nat):List Int:=(List.range n).map fun j=>((ddF q f y k j:Nat):Int)
theorem mixZ_len (q:Nat) (f:Nat→Nat→Nat) (y:Nat→Int) (n k i:Nat):(mixZ q f y n k i).length=n:=by simp [mixZ]
theorem lvlZ_len (q:Nat) (f:Nat→Nat→Nat) (y:Nat→Int) (n k:Nat):(lvlZ q f y n k).length=n:=by simp [lvlZ]
theorem mixZ_start (q:Nat) (f:Nat→Nat→Nat) (y:Nat→Int) (n k:Nat):mixZ q f y n k (n - 1)=lvlZ q f y n k:=by
 unfold mixZ lvlZ
 refine List.map_congr_left fun j hj=>?_;have:=List.mem_range.1 hj;rw [if_neg (by omega)]
theorem mixZ_done (q:Nat) (f:Nat→Nat→Nat) (y:Nat→Int) (n k:Nat):mixZ q f y n k k=lvlZ q f y n (k+1):=by
 unfold mixZ lvlZ
 refine List.map_congr_left fun j hj=>?_
 split
 ·rfl
 ·rw [ddF,if_neg (by omega)]
theorem mixZ_get (q:Nat) (f:Nat→Nat→Nat) (y:Nat→Int) (n k i j:Nat) (hj:j < (mixZ q f y n k i).length):(mixZ q f y n k i)[j]=((ddF q f y (if i < j then k+1 else k) j:Nat):Int):=by simp [mixZ]
theorem lvlZ_get (q:Nat) (f:Nat→Nat→Nat) (y:Nat→Int) (n k j:Nat) (hj:j < (lvlZ q f y n k).length):(lvlZ q f y n k)[j]=((ddF q f y k j:Nat):Int):=by simp [lvlZ]
theorem mixZ_next (q:Nat) (f:Nat→Nat→Nat) (y:Nat→Int) (n k i:Nat):(mixZ q f y n k (i+1)).set (i+1) ((ddF q f y (k+1) (i+1):Nat):Int)=mixZ q f y n k i:=by
 refine List.ext_getElem (by simp [mixZ]) fun j h1 h2=>?_;rw [List.getElem_set]
 by_cases h:i+1=j
 ·subst h;rw [if_pos rfl,mixZ_get,if_pos (by omega)]
 ·rw [if_neg h,mixZ_get,mixZ_get]
  by_cases h3:i < j
  ·rw [if_pos h3,if_pos (by omega)]
  ·rw [if_neg h3,if_neg (by omega)]
theorem lvlZ_zero (q:Nat) (f:Nat→Nat→Nat) (ys:List Int) (y:Nat→Int) (hy:∀ i (h:i < ys.length),ys[i]=y i):lvlZ q f y ys.length 0=ys.map fun v=>((res q v:Nat):Int):=by
 refine List.ext_getElem (by simp [lvlZ]) fun j h1 h2=>?_;rw [lvlZ_get,List.getElem_map,hy]
 rfl
end Go.Proofs.YtpcdfepndmconaaGreatDoor
