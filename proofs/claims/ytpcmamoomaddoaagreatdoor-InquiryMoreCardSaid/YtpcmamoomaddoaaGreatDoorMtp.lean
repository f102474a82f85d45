import Derived.Test.YtpcmamoomaddoaaGreatDoorAcn
set_option maxRecDepth 100000
set_option maxHeartbeats 32000000
namespace Go.Proofs.YtpcmamoomaddoaaGreatDoor
open Go.RowKit
theorem oM:∀l:List Bs,∃m:List Bs,m.Nodup/\∀s,s∈m↔s∈l
 | []=>⟨[],by simp,by simp⟩
 |x::l=>by
  obtain⟨m,h1,h2⟩:=oM l
  by_cases hx:x∈m
  ·refine⟨m,h1,fun s=>?_⟩;rw[List.mem_cons,<-h2];exact⟨Or.inr,fun h=>h.elim (fun e=>e▸hx) id⟩
  ·refine⟨x::m,by rw[List.nodup_cons];exact⟨hx,h1⟩,fun s=>?_⟩;rw[List.mem_cons,List.mem_cons,h2]
theorem uP(A:List K3):∃ns,iz A ns:=by
 obtain⟨m,h1,h2⟩:=oM (bC A);refine⟨(m.filter fun s=>decide (s≠[])).mergeSort leB,((List.mergeSort_perm _ _).nodup_iff).2 (h1.filter _),?_,fun s=>?_⟩
 ·have:=List.pairwise_mergeSort (le:=leB) (fun a b c h1 h2=>by simp only[leB,decide_eq_true_eq]at *;exact List.le_trans h1 h2) (fun a b=>by simp only[leB,Bool.or_eq_true,decide_eq_true_eq];exact List.le_total a b) (m.filter fun s=>decide (s≠[]))
  exact this.imp fun h=>by simpa [leB]using h
 ·rw[(List.mergeSort_perm _ _).mem_iff,List.mem_filter,h2,decide_eq_true_eq];exact And.comm
theorem rd(q:Bs)(most:Int):∃r,aU q most r:=by
 unfold aU
 by_cases h1:(bH q).2≠0
 ·exact⟨.error (bH q).2,by rw[if_pos h1]⟩
 ·by_cases h2:most < 0\/65535 < most
  ·exact⟨.error 3,by rw[if_neg h1,if_pos h2]⟩
  ·obtain⟨ns,hns⟩:=uP (atomsB (bH q).1);exact⟨_,by rw[if_neg h1,if_neg h2];exact⟨ns,hns,rfl⟩⟩
theorem pJ{ks:List Pss}{log nums:List Int}{c:List Pd × List Sn}{x:Sgt}{e:Int}(h:sightB ks log nums c x=.error e):e≠0:=by
 unfold sightB at h
 split at h
 ·next e' hp =>
  injection h with h;subst h;obtain⟨r,hr⟩:=rd x.q x.most;rw[hr.eq]at hp;subst hp;exact hr.err
 ·split at h
  ·injection h with h;omega
  ·split at h
   ·injection h with h;omega
   ·split at h
    ·injection h with h;omega
    ·split at h
     ·injection h with h;omega
     ·split at h
      ·injection h with h;omega
      ·split at h
       ·injection h with h;omega
       ·split at h
        ·cases h
        ·split at h
         ·injection h with h;omega
         ·cases h
theorem jm{ks:List Pss}{log:List Int}{is:List Iss}{ss:List Sgt}{c:Int}(h:accountB ks log is ss=.error c):c≠0:=by
 unfold accountB at h
 split at h
 ·injection h with h;omega
 ·split at h
  ·next hf=>injection h with h;rw[<-h];exact gd (p:=fun c=>c≠0) (fun _ _ _ h=>pj h) _ _ _ hf
  ·split at h
   ·next hf=>injection h with h;rw[<-h];exact gd (p:=fun c=>c≠0) (fun _ _ _ h=>pJ h) _ _ _ hf
   ·cases h
theorem uC{acc acc':List Bnd}{b:Bnd}(h:put1 acc b=.ok acc'):acc'.length<=acc.length+1:=by
 unfold put1 at h
 split at h
 ·split at h
  ·injection h with h;subst h;omega
  ·cases h
 ·injection h with h;subst h;simp
theorem nQ:∀(l acc vs:List Bnd),aF put1 acc l=.ok vs->vs.length<=acc.length+l.length
 | [],acc,vs,h=>by
  rw[aF]at h;injection h with h;subst h
  simp
 |b::l,acc,vs,h=>by
  rw[aF]at h
  cases hb:put1 acc b with
  |error e=>rw[hb]at h;cases h
  |ok t =>
   rw[hb]at h;have h1:=uC hb;have h2:=nQ l t vs h;rw[List.length_cons];omega
theorem vL{ks:List Pss}{P P':List Cz}{x:Iss}{m:Nat}(hP:∀c∈P,c.vals.length<=m)(h:addB ks P x=.ok P'):∀c∈P',c.vals.length<=m+6:=by
 unfold addB at h
 split at h
 ·cases h
 ·next p _ =>
  split at h
  ·cases h
  ·next l hv =>
   have d:l.length < 6:=by
    unfold dv at hv
    split at hv
    ·cases hv
    ·next hn =>
     rw[not_or]at hn
     split at hv
     ·cases hv
     ·injection hv with hv;rw[<-hv,gE];exact jQ (by have:=hn.1;simpa using this)
   unfold addN at h
   split at h
   ·cases h
   ·split at h
    ·cases h
    ·next vs hf =>
     split at h
     ·cases h
     ·injection h with h;subst h;have f:=nQ _ _ _ hf
      have e:(czOf ks.length P (x.attrs.headD 0)).vals.length<=m:=by
       unfold czOf
       cases a:findC P (x.attrs.headD 0)with
       |none=>exact Nat.zero_le _
       |some c=>exact hP c (ce a).1
      intro c a
      rcases mem_setC.1 a with⟨b,_⟩|rfl
      ·have:=hP c b;omega
      ·show vs.length<=m+6
       omega
theorem pW{ks:List Pss}{is:List Iss}{P:List Cz}(h:aF (addB ks) [] is=.ok P):∀c∈P,c.vals.length<=6*is.length :=
 dN (P:=fun j P=>∀c∈P,c.vals.length<=6*j) (fun j t x u ht _ hf=>by have:=vL ht hf;rwa [Nat.mul_succ]) (by simp) h
theorem pq{ks:List Pss}{log:List Int}{is:List Iss}{ss:List Sgt}{c:Crw}{ns:List Int}(h:accountB ks log is ss=.ok (c,ns)):∀m∈c.ms,(∀b∈m.binds,aG b.1=true)/\m.binds.length<=6*is.length:=by
 unfold accountB at h
 split at h
 ·cases h
 ·split at h
  ·cases h
  ·next P hP =>
   split at h
   ·cases h
   ·injection h with h;injection h with h1 h2;subst h1;intro m d;obtain⟨n,_,rfl⟩:=List.mem_map.1 d;have e:=bX hP;have f:=pW hP
    have a:cr (czOf 0 P n).vals/\(czOf 0 P n).vals.length<=6*is.length:=by
     unfold czOf
     cases hc:findC P n with
     |none=>exact⟨⟨by simp,by simp⟩,Nat.zero_le _⟩
     |some c=>exact⟨e.vals c (ce hc).1,f c (ce hc).1⟩
    refine⟨fun b hb=>(a.1.2 b ((aZ _).mem_iff.1 hb)).1,?_⟩
    show(aS (czOf 0 P n).vals).length<=_
    rw[(aZ _).length_eq];exact a.2
open Go.Proofs.Tryz
open Lib(hid)
theorem nP:∀(m:Nat) (p q:Pd) (cs ds:List Value) (w:World),sizeB p<=m->PdR w cs p->PdR w ds q ->
  Calls prog 17 #[.agg cs.toArray,.agg ds.toArray] w fun e w'=>e=.returned (.bool (cC p q))/\Kept [] w w':=by
 intro m
 induction m with
 |zero=>intro p q cs ds w hm;cases p;rw[sizeB]at hm;omega
 |succ m ih =>
  rintro⟨pk,pl,pr,pc,b⟩ ⟨qk,Z,Y,qc,d⟩ cs ds w hm t J;obtain⟨pa,k,rfl,D⟩:=t.rows;obtain⟨qa,z,rfl,G⟩:=J.rows;rw[sizeB]at hm;rw[cC];obtain⟨_,_,_,af,_⟩:=D.form;obtain⟨i,L⟩:∃n,b.length=n:=⟨_,rfl⟩;obtain⟨Q,I⟩:∃n,d.length=n:=⟨_,rfl⟩;rw[L]at af D ⊢;rw[I]at G ⊢;obtain⟨X,A⟩:∃x,w.alloc (.cells #[.int .i64 pk,.string ⟨pl.toArray⟩,.string ⟨pr.toArray⟩,.int .i64 pc,.slice pa i k] 46)=x:=⟨_,rfl⟩;have kA:Kept [] w X:=A▸(Kept.refl _ _).alloc _;have a6:Blk X w.heap.size 46 #[.int .i64 pk,.string ⟨pl.toArray⟩,.string ⟨pr.toArray⟩,.int .i64 pc,.slice pa i k]:=A▸Blk.new _ _ _
  have hg:X.heap.size=w.heap.size+1:=by rw[<-A];simp
  obtain⟨o,C⟩:∃x,X.alloc (.cells #[.int .i64 qk,.string ⟨Z.toArray⟩,.string ⟨Y.toArray⟩,.int .i64 qc,.slice qa Q z] 46)=x:=⟨_,rfl⟩;have kB:Kept [] X o:=C▸(Kept.refl _ _).alloc _;have l:Blk o (w.heap.size+1) 46 #[.int .i64 qk,.string ⟨Z.toArray⟩,.string ⟨Y.toArray⟩,.int .i64 qc,.slice qa Q z]:=hg▸C▸Blk.new _ _ _;have f:=a6.kept kB (by simp);have x0:o.cell? ⟨w.heap.size,0,none⟩=some (.int .i64 pk):=f.cell 0;have x1:o.cell? ⟨w.heap.size,1,none⟩=some (.string ⟨pl.toArray⟩):=f.cell 1;have x2:o.cell? ⟨w.heap.size,2,none⟩=some (.string ⟨pr.toArray⟩):=f.cell 2;have x3:o.cell? ⟨w.heap.size,3,none⟩=some (.int .i64 pc):=f.cell 3;have x4:o.cell? ⟨w.heap.size,4,none⟩=some (.slice pa i k):=f.cell 4;have u0:o.cell? ⟨w.heap.size+1,0,none⟩=some (.int .i64 qk):=l.cell 0;have u1:o.cell? ⟨w.heap.size+1,1,none⟩=some (.string ⟨Z.toArray⟩):=l.cell 1;have u2:o.cell? ⟨w.heap.size+1,2,none⟩=some (.string ⟨Y.toArray⟩):=l.cell 2;have u3:o.cell? ⟨w.heap.size+1,3,none⟩=some (.int .i64 qc):=l.cell 3;have u4:o.cell? ⟨w.heap.size+1,4,none⟩=some (.slice qa Q z):=l.cell 4;have s:=kA.trans kB;have M:=D.kept (fun c a hR=>PdR.kept s hR) s;have h2:=G.kept (fun c a hR=>PdR.kept s hR) s
  have an:Hid (∀p∈b,∀(q:Pd) (cs ds:List Value) (w:World),PdR w cs p->PdR w ds q->Calls prog 17 #[.agg cs.toArray,.agg ds.toArray] w fun e w'=>e=.returned (.bool (cC p q))/\Kept [] w w') :=
   hid fun p t q cs ds w' M h2=>ih p q cs ds w' (by have:=bh t;omega) M h2
  obtain⟨r,B⟩:∃r,eG b d=r:=⟨_,rfl⟩
  have G1:b≠d->r=false:=fun h=>by
   rw[<-B]
   cases hs:eG b d with
   |false=>rfl
   |true=>exact absurd ((dL b d).1 hs) h
  have G2:b=d->r=true:=fun h=>by rw[<-B];exact(dL b d).2 h
  rw[B];have H1:=hid M;have H2:=hid h2;have HN:=hid L;have HM:=hid I;have G1:=hid G1;have G2:=hid G2;have aq:=hid f;have ap:=hid l;have y:=hid A;have u:=hid C;have P:=hid s;clear A C kA kB s a6 l f hg B L I D G t J ih hm M h2
  show Calls _ _ #[.agg #[.int .i64 pk,.string ⟨pl.toArray⟩,.string ⟨pr.toArray⟩,.int .i64 pc,.slice pa i k],.agg #[.int .i64 qk,.string ⟨Z.toArray⟩,.string ⟨Y.toArray⟩,.int .i64 qc,.slice qa Q z]] _ _
  by_cases n1:pk=qk
  ·subst n1
   by_cases n2:pl=Z
   ·subst n2
    by_cases n3:pr=Y
    ·subst n3
     by_cases n4:pc=qc
     ·subst n4
      by_cases n5:i=Q
      ·subst n5
       have ad:((i:Int) != (i:Int))=false:=by simp
       go_enter func17,ntmps17
       go_upto_region 1 with(fail);have hwA':=y.out;rw[hwA'];have hwB':=u.out;rw[hwB'];clear hwA' hwB';go_wp2_with fail;clear x0 x1 x2 x3 x4 u0 u1 u2 u3 u4
       go_loopw [5] (fun v wr=>∃j:Nat,j<=i/\v=.int .i64 j/\Kept [] o wr/\b.take j=d.take j) (fun v _=>i - (intOf v).toNat)
       case atStart=>exact⟨0,Nat.zero_le _,rfl,Kept.refl _ _,by simp⟩
       case round =>
        obtain⟨j,hj,rfl,g,a2⟩:=hrel;have O:=hid g;have a7:=hid a2;clear a2;have E:=aq.out.kept g (by simp);have a5:=ap.out.kept g (by simp)
        by_cases hlt:j < i
        ·have hlt':(j:Int) < (i:Int):=by omega
         obtain⟨N,F,rfl,k1⟩:=(H1.out.kept (fun c a hR=>PdR.kept g hR) g).at_ (by have:=HN.out;omega);obtain⟨V,U,rfl,k2⟩:=(H2.out.kept (fun c a hR=>PdR.kept g hR) g).at_ (by have:=HM.out;omega);obtain⟨p,t⟩:∃a,b[j]?=some a:=⟨_,List.getElem?_eq_getElem (by have:=HN.out;omega)⟩;obtain⟨q,J⟩:∃a,d[j]?=some a:=⟨_,List.getElem?_eq_getElem (by have:=HM.out;omega)⟩;obtain⟨cs,p1,p2,T⟩:=k1 j p t;obtain⟨ds,q1,q2,R⟩:=k2 j q J
         have a1:b.take (j+1)=b.take j++[p]:=by rw[List.take_succ_eq_append_getElem (by have:=HN.out;omega),(List.getElem?_eq_some_iff.1 t).2]
         have a0:d.take (j+1)=d.take j++[q]:=by rw[List.take_succ_eq_append_getElem (by have:=HM.out;omega),(List.getElem?_eq_some_iff.1 J).2]
         have CL:=hid (fun(x:KW wr)=>an.out p (List.mem_of_getElem? t) q cs ds x.val (PdR.kept x.property p2) (PdR.kept x.property q2));obtain⟨r,B⟩:∃r,cC p q=r:=⟨_,rfl⟩;rw[B]at CL
         have ag:Hid (r=true->b.take (j+1)=d.take (j+1)):=hid fun h=>by
          subst h;rw[a1,a0,a7.out,(eF p q).1 B]
         have ao:Hid (r=false->b≠d):=hid fun h e=>by
          subst h;rw[e,J]at t;injection t with t;rw[(eF p q).2 t.symm]at B
          cases B
         clear k1 k2 t J a1 a0 B p1 q1;obtain⟨sk,sl,sr,sc,aa⟩:=p;obtain⟨sa,ab,rfl,_⟩:=p2.rows;obtain⟨tk,tl,tr,tc,a8⟩:=q;obtain⟨ta,a9,rfl,_⟩:=q2.rows;have x4:wr.cell? ⟨w.heap.size,4,none⟩=some (.slice (some ⟨N,F,none⟩) i k):=E.cell 4;have X4:∀x:KW wr,x.val.cell? ⟨w.heap.size,4,none⟩=some (.slice (some ⟨N,F,none⟩) i k):=fun x=>x.cell (E.cell 4);have U4:∀x:KW wr,x.val.cell? ⟨w.heap.size+1,4,none⟩=some (.slice (some ⟨V,U,none⟩) i z):=fun x=>x.cell (a5.cell 4);have y0:∀x:KW wr,x.val.cell? ⟨N,F+j*5,none⟩=some (.int .i64 sk):=fun x=>x.cell (T 0 _ (by decide) rfl);have y1:∀x:KW wr,x.val.cell? ⟨N,F+j*5+1,none⟩=some (.string ⟨sl.toArray⟩):=fun x=>x.cell (T 1 _ (by decide) rfl);have y2:∀x:KW wr,x.val.cell? ⟨N,F+j*5+2,none⟩=some (.string ⟨sr.toArray⟩):=fun x=>x.cell (T 2 _ (by decide) rfl);have y3:∀x:KW wr,x.val.cell? ⟨N,F+j*5+3,none⟩=some (.int .i64 sc):=fun x=>x.cell (T 3 _ (by decide) rfl);have y4:∀x:KW wr,x.val.cell? ⟨N,F+j*5+4,none⟩=some (.slice sa aa.length ab):=fun x=>x.cell (T 4 _ (by decide) rfl);have z0:∀x:KW wr,x.val.cell? ⟨V,U+j*5,none⟩=some (.int .i64 tk):=fun x=>x.cell (R 0 _ (by decide) rfl);have z1:∀x:KW wr,x.val.cell? ⟨V,U+j*5+1,none⟩=some (.string ⟨tl.toArray⟩):=fun x=>x.cell (R 1 _ (by decide) rfl);have z2:∀x:KW wr,x.val.cell? ⟨V,U+j*5+2,none⟩=some (.string ⟨tr.toArray⟩):=fun x=>x.cell (R 2 _ (by decide) rfl);have z3:∀x:KW wr,x.val.cell? ⟨V,U+j*5+3,none⟩=some (.int .i64 tc):=fun x=>x.cell (R 3 _ (by decide) rfl)
         have z4:∀x:KW wr,x.val.cell? ⟨V,U+j*5+4,none⟩=some (.slice ta a8.length a9):=fun x=>x.cell (R 4 _ (by decide) rfl);clear p2 q2 T R g E a5;go_upto_region 6 with(fail);refine cV wr (Kept.refl _ _) (by kernel_rfl) (by kernel_rfl) ?_
         repeat (go_big_quiet_step (first|(go_at_call 17;exact pT (CL.out _))))
         refine wpQuiet_nil ?_;rintro w5 ⟨⟨_,a3⟩,rfl⟩
         cases r
         ·go_wp2_with fail;go_ret;exact⟨by rw[G1.out (ao.out (by first|rfl|trivial))];simp,(P.out.trans O.out).trans a3⟩
         ·go_wp2_with fail
          go_roundw
          case rel=>exact⟨j+1,by omega,by go_num,O.out.trans a3,ag.out (by first|rfl|trivial)⟩
          case measure=>simp[intOf];omega
        ·obtain rfl:j=i:=by omega
         have x4:wr.cell? ⟨w.heap.size,4,none⟩=some (.slice pa j k):=E.cell 4;go_wp2_with fail;go_ret;have M:=a7.out;rw[List.take_of_length_le (by have:=HN.out;omega),List.take_of_length_le (by have:=HM.out;omega)]at M;exact⟨by rw[G2.out M];simp,P.out.trans O.out⟩
      ·have ad:((i:Int) != (Q:Int))=true:=by simp;omega
       have a4:b≠d:=fun e=>n5 (by rw[<-HN.out,<-HM.out,e]);have ac:=hid (G1.out a4);clear a4
       go_enter func17,ntmps17
       go_upto_region 1 with(fail);have hwA':=y.out;rw[hwA'];have hwB':=u.out;rw[hwB'];clear hwA' hwB';go_wp2_with fail;go_ret;exact⟨by rw[ac.out];simp,P.out⟩
     ·go_enter func17,ntmps17
      go_upto_region 1 with(fail);have hwA':=y.out;rw[hwA'];have hwB':=u.out;rw[hwB'];clear hwA' hwB';go_wp2_with fail;go_ret;exact⟨by simp[n4],P.out⟩
    ·go_enter func17,ntmps17
     go_upto_region 1 with(fail);have hwA':=y.out;rw[hwA'];have hwB':=u.out;rw[hwB'];clear hwA' hwB';go_wp2_with fail;go_ret;exact⟨by simp[n3],P.out⟩
   ·go_enter func17,ntmps17
    go_upto_region 1 with(fail);have hwA':=y.out;rw[hwA'];have hwB':=u.out;rw[hwB'];clear hwA' hwB';go_wp2_with fail;go_ret;exact⟨by simp[n2],P.out⟩
  ·go_enter func17,ntmps17
   go_upto_region 1 with(fail);have hwA':=y.out;rw[hwA'];have hwB':=u.out;rw[hwB'];clear hwA' hwB';go_wp2_with fail;go_ret;exact⟨by simp[n1],P.out⟩
theorem lj{w:World}{v1 v2:Value}{l1 l2:List Bnd}(h1:aj dE 2 w v1 l1)(h2:aj dE 2 w v2 l2) :
  Calls prog 13 #[v1,v2] w fun e w'=>e=.returned (.bool (decide (l1=l2)))/\Kept [] w w':=by
 obtain⟨a1,c1,rfl,J,_⟩:=aj.form h1;obtain⟨a2,c2,rfl,_,_⟩:=aj.form h2;obtain⟨n,C⟩:∃n,l1.length=n:=⟨_,rfl⟩;obtain⟨m,D⟩:∃n,l2.length=n:=⟨_,rfl⟩;obtain⟨R,E⟩:∃R,decide (l1=l2)=R:=⟨_,rfl⟩
 have A:l1≠l2->R=false:=fun h=>by rw[<-E,decide_eq_false h]
 have M:l1=l2->R=true:=fun h=>by rw[<-E,decide_eq_true h]
 rw[E,C,D];rw[C]at J h1;rw[D]at h2;have H1:=hid h1;have H2:=hid h2;have y:=hid C;have z:=hid D;have A:=hid A;have M:=hid M;clear E C D h1 h2
 by_cases hnm:n=m
 ·subst hnm
  have I:((n:Int) != (n:Int))=false:=by simp
  go_enter func13,ntmps13
  go_wp2_with fail
  go_loopw [5] (fun v wr=>∃j:Nat,j<=n/\v=.int .i64 j/\Kept [] w wr/\l1.take j=l2.take j) (fun v _=>n - (intOf v).toNat)
  case atStart=>exact⟨0,Nat.zero_le _,rfl,Kept.refl _ _,by simp⟩
  case round =>
   obtain⟨j,hj,rfl,c,o⟩:=hrel;have d:=hid c;have s:=hid o;clear o
   by_cases hlt:j < n
   ·have hlt':(j:Int) < (n:Int):=by omega
    obtain⟨b1,Y,rfl,k1⟩:=(aj.kept (w':=wr) H1.out (fun _ _ h=>h) c).at_ (by have:=y.out;omega);obtain⟨b2,X,rfl,Z⟩:=(aj.kept (w':=wr) H2.out (fun _ _ h=>h) c).at_ (by have:=z.out;omega);obtain⟨p,f⟩:∃a,l1[j]?=some a:=⟨_,List.getElem?_eq_getElem (by have:=y.out;omega)⟩;obtain⟨q,B⟩:∃a,l2[j]?=some a:=⟨_,List.getElem?_eq_getElem (by have:=z.out;omega)⟩;obtain⟨cs,p1,V,G⟩:=k1 j p f;obtain⟨ds,q1,Q,F⟩:=Z j q B
    have l:l1.take (j+1)=l1.take j++[p]:=by rw[List.take_succ_eq_append_getElem (by have:=y.out;omega),(List.getElem?_eq_some_iff.1 f).2]
    have k:l2.take (j+1)=l2.take j++[q]:=by rw[List.take_succ_eq_append_getElem (by have:=z.out;omega),(List.getElem?_eq_some_iff.1 B).2]
    have u:Hid (p=q->l1.take (j+1)=l2.take (j+1)):=hid fun h=>by rw[l,k,s.out,h]
    have g:Hid (p≠q->l1≠l2):=hid fun h e=>by
     rw[e,B]at f;injection f with f;exact h f.symm
    unfold dE at V Q
    subst V Q;obtain⟨U,T⟩:=p;obtain⟨P,O⟩:=q;have y0:∀x:KW wr,x.val.cell? ⟨b1,Y+j*2,none⟩=some (.string ⟨U.toArray⟩):=fun x=>x.cell (G 0 _ (by decide) rfl);have y1:∀x:KW wr,x.val.cell? ⟨b1,Y+j*2+1,none⟩=some (.int .i64 T):=fun x=>x.cell (G 1 _ (by decide) rfl);have z0:∀x:KW wr,x.val.cell? ⟨b2,X+j*2,none⟩=some (.string ⟨P.toArray⟩):=fun x=>x.cell (F 0 _ (by decide) rfl);have z1:∀x:KW wr,x.val.cell? ⟨b2,X+j*2+1,none⟩=some (.int .i64 O):=fun x=>x.cell (F 1 _ (by decide) rfl);clear k1 Z f B l k p1 q1 G F c
    by_cases e1:U=P
    ·by_cases e2:T=O
     ·subst e1 e2;have t:=hid (u.out rfl);clear u g;go_upto_region 6 with(fail);refine cV wr (Kept.refl _ _) (by kernel_rfl) (by kernel_rfl) ?_
      repeat (go_big_quiet_step (fail))
      refine wpQuiet_nil ?_;rintro N ⟨⟨_,b⟩,rfl⟩;go_wp2_with fail
      go_roundw
      case rel=>exact⟨j+1,by omega,by go_num,d.out.trans b,t.out⟩
      case measure=>simp[intOf];omega
     ·have i:=hid (g.out (fun h=>e2 (congrArg Prod.snd h)));go_upto_region 6 with(fail);refine cV wr (Kept.refl _ _) (by kernel_rfl) (by kernel_rfl) ?_
      repeat (go_big_quiet_step (fail))
      refine wpQuiet_nil ?_;rintro N ⟨⟨_,b⟩,rfl⟩;go_wp2_with fail;go_ret;exact⟨by rw[A.out i.out];rfl,d.out.trans b⟩
    ·have i:=hid (g.out (fun h=>e1 (congrArg Prod.fst h)));go_upto_region 6 with(fail);refine cV wr (Kept.refl _ _) (by kernel_rfl) (by kernel_rfl) ?_
     repeat (go_big_quiet_step (fail))
     refine wpQuiet_nil ?_;rintro N ⟨⟨_,b⟩,rfl⟩;go_wp2_with fail;go_ret;exact⟨by rw[A.out i.out];rfl,d.out.trans b⟩
   ·obtain rfl:j=n:=by omega
    go_wp2_with fail;go_ret;have h1:=s.out;rw[List.take_of_length_le (by have:=y.out;omega),List.take_of_length_le (by have:=z.out;omega)]at h1;exact⟨by rw[M.out h1];rfl,d.out⟩
 ·have I:((n:Int) != (m:Int))=true:=by simp;omega
  have r:l1≠l2:=fun e=>hnm (by rw[<-y.out,<-z.out,e]);have L:=hid r;clear hnm r
  go_enter func13,ntmps13
  go_wp2_with fail;go_ret;exact⟨by rw[A.out L.out];rfl,Kept.refl _ _⟩
end Go.Proofs.YtpcmamoomaddoaaGreatDoor
namespace Go.Proofs.YtpcmamoomaddoaaGreatDoor
open Go.RowKit
theorem rA{l:List Pss}(h:eb l=true):∀p∈l,p.name.length<=10000000/\(∀a∈p.attrs,a.length<=10000000)/\p.attrs.length<=100000:=fun p hp=>by
 unfold eb at h
 simp only[Bool.and_eq_true,decide_eq_true_eq]at h;have h2:=List.all_eq_true.1 h.2 p hp
 unfold bK at h2
 simp only[Bool.and_eq_true,decide_eq_true_eq]at h2;exact⟨by omega,fun a ha=>by have:=List.all_eq_true.1 h2.2 a ha;simp only[decide_eq_true_eq]at this;omega,by omega⟩
theorem rC{l:List Iss}{m:Nat}(h:cP l m=true):l.length<=m/\∀x∈l,x.attrs.length<=9:=by
 unfold cP at h
 simp only[Bool.and_eq_true,decide_eq_true_eq]at h;exact⟨h.1,fun x hx=>by have:=List.all_eq_true.1 h.2 x hx;simpa using this⟩
theorem rz{l:List Sgt}{m:Nat}(h:cO l m=true):l.length<=m/\∀x∈l,x.q.length<=300:=by
 unfold cO at h
 simp only[Bool.and_eq_true,decide_eq_true_eq]at h;refine⟨h.1,fun x hx=>?_⟩;have:=List.all_eq_true.1 h.2 x hx
 unfold dk at this
 simp only[Bool.and_eq_true,decide_eq_true_eq]at this;exact this.1.1.1.1
def upd2{α:Type}(f:Nat->Nat->α)(i m:Nat)(v:α):Nat->Nat->α:=fun i' m'=>if i'=i/\m'=m then v else f i' m'
theorem dd{α:Type}{f:Nat->Nat->α}{i m:Nat}{v:α}:upd2 f i m v i m=v:=if_pos ⟨rfl,rfl⟩
theorem bF{α:Type}{f:Nat->Nat->α}{i m i' m':Nat}{v:α}(h:¬(i'=i/\m'=m)):upd2 f i m v i' m'=f i' m':=if_neg h
theorem lx{α:Type}{f:Nat->Nat->α}{i m:Nat}{v:α}(h:f i m=v):upd2 f i m v=f:=by
 funext i' m'
 unfold upd2
 split
 ·next e=>rw[e.1,e.2,h]
 ·rfl
structure Rws (B:Nat) (w:World) (rv:Nat->Nat->Value) (rl:Nat->Nat->List Int):Prop where
 own:∀i m,w.ownsRow B 3 1 (rv i m) (rl i m).length (ints (rl i m))
 apart:∀i m i' m',¬(i'=i/\m'=m)->∀z∈obl (rv i m),z∉obl (rv i' m')
section
variable {B:Nat} {w w':World} {S:List Nat} {rv:Nat->Nat->Value} {rl:Nat->Nat->List Int} {i m:Nat}
theorem Rws.kept(h:Rws B w rv rl)(k:Kept S w w')(hS:∀i m,∀z∈obl (rv i m),z∉S):Rws B w' rv rl := ⟨fun i m=>ax (h.own i m) k (hS i m),h.apart⟩
theorem Rws.kept0(h:Rws B w rv rl)(k:Kept [] w w'):Rws B w' rv rl:=h.kept k fun _ _ _ _=>by simp
theorem Rws.lt(h:Rws B w rv rl){z:Nat}(hz:z∈obl (rv i m)):B<=z/\z < w.heap.size:=aA (h.own i m) z hz
/-- one row turned or moved -/
theorem Rws.turn(h:Rws B w rv rl)(k:Kept S w w')(hS:∀i' m',¬(i'=i/\m'=m)->∀z∈obl (rv i' m'),z∉S){v:Value}{l:List Int}(hv:w'.ownsRow B 3 1 v l.length (ints l))(hz:∀z∈obl v,z∈obl (rv i m)\/w.heap.size<=z) :
  Rws B w' (upd2 rv i m v) (upd2 rl i m l):=by
 refine⟨fun i' m'=>?_,fun i1 m1 i2 m2 hne z h1 h2=>?_⟩
 ·by_cases e:i'=i/\m'=m
  ·obtain⟨rfl,rfl⟩:=e;rw[dd,dd];exact hv
  ·rw[bF e,bF e];exact ax (h.own i' m') k (hS i' m' e)
 ·by_cases e1:i1=i/\m1=m
  ·have a:¬(i2=i/\m2=m):=fun a=>hne ⟨a.1.trans e1.1.symm,a.2.trans e1.2.symm⟩;obtain⟨rfl,rfl⟩:=e1;rw[dd]at h1;rw[bF a]at h2
   rcases hz z h1 with b|b
   ·exact h.apart _ _ _ _ a z b h2
   ·have:=(h.lt h2).2;omega
  ·rw[bF e1]at h1
   by_cases a:i2=i/\m2=m
   ·obtain⟨rfl,rfl⟩:=a;rw[dd]at h2
    rcases hz z h2 with b|b
    ·exact h.apart _ _ _ _ hne z h1 b
    ·have:=(h.lt h1).2;omega
   ·rw[bF a]at h2;exact h.apart _ _ _ _ hne z h1 h2
theorem cT{v:Value}{l:List Int}(h:w.ownsRow B 3 1 v l.length (ints l)):∃a c,v=.slice a l.length c/\l.length<=9223372036854775807:=by
 rcases h.2 with⟨rfl,h2⟩|⟨g,cap,cur,rfl,_,_,h3,h4,_⟩
 ·exact⟨none,0,by rw[h2],by omega⟩
 ·exact⟨_,cap,rfl,by unfold maxLen at h4;omega⟩
/-- an element of such a row: read, and turned in place -/
theorem qd{v:Value}{l:List Int}(h:w.ownsRow B 3 1 v l.length (ints l)){j:Nat}(hj:j < l.length) :
  ∃g c,v=.slice (some ⟨g,0,none⟩) l.length c/\g∈obl v/\w.cell? ⟨g,j,none⟩=some (.int .i64 l[j])/\w.frozen? ⟨g,j,none⟩=false /\
   ∀x:Int,(w.setCell ⟨g,j,none⟩ (.int .i64 x)).ownsRow B 3 1 v (l.set j x).length (ints (l.set j x)):=by
 rcases h.2 with⟨_,r⟩|⟨g,d,a,rfl,m,k,q,p,o,n⟩
 ·omega
 ·have b:a.toList.take l.length=ints l:=by simpa using n
  have e:a.size=d:=by simpa using o
  have f:Blk w g 3 a:=k;refine⟨g,d,rfl,cD rfl,?_,f.frozen j,fun x=>?_⟩
  ·rw[f.cell j]
   have i:(a.toList.take l.length)[j]?=some (.int .i64 l[j]):=by rw[b];exact bu hj
   rw[List.getElem?_take,if_pos hj]at i;rw[<-i]
   simp
  ·refine⟨by simp[ints],Or.inr ⟨g,d,a.setIfInBounds j (.int .i64 x),by rw[List.length_set],m,f.set_ j _,by rw[List.length_set];exact q,p,by simpa using e,?_⟩⟩;rw[List.length_set,Nat.mul_one,Array.toList_setIfInBounds,List.take_set,b]
   simp[ints,List.map_set]
end
end Go.Proofs.YtpcmamoomaddoaaGreatDoor
namespace Go.Proofs.YtpcmamoomaddoaaGreatDoor
def sumN(f:Nat->Nat):Nat->Nat
 |0=>0
 |n+1=>sumN f n+f n
def sumL{α:Type}(l:List α)(f:α->Nat):Nat:=(l.map f).sum
theorem gV{f g:Nat->Nat}:∀ {n:Nat},(∀m,m < n->f m<=g m)->sumN f n<=sumN g n
 |0,_=>Nat.le_refl _
 |n+1,h=>Nat.add_le_add (gV fun m hm=>h m (by omega)) (h n (by omega))
theorem dT{f g:Nat->Nat}{n:Nat}(h:∀m,m < n->f m=g m):sumN f n=sumN g n :=
 Nat.le_antisymm (gV fun m hm=>Nat.le_of_eq (h m hm)) (gV fun m hm=>Nat.le_of_eq (h m hm).symm)
theorem eC{f g:Nat->Nat}:∀n:Nat,sumN (fun m=>f m+g m) n=sumN f n+sumN g n
 |0=>rfl
 |n+1=>by rw[sumN,sumN,sumN,eC n];omega
theorem fS:∀n:Nat,sumN (fun _=>0) n=0
 |0=>rfl
 |n+1=>by rw[sumN,fS n]
theorem dS{k:Nat}{c:Nat}:∀n:Nat,k < n->sumN (fun m=>if m=k then c else 0) n=c
 |n+1,h=>by
  rw[sumN]
  by_cases e:n=k
  ·subst e;rw[if_pos rfl,dT (g:=fun _=>0) (fun m hm=>if_neg (by omega)),fS,Nat.zero_add]
  ·rw[if_neg e,dS n (by omega),Nat.add_zero]
theorem nI{f:Nat->Nat}:∀ {n:Nat},0 < sumN f n->∃m,m < n/\0 < f m
 |n+1,h=>by
  rw[sumN]at h
  by_cases e:0 < f n
  ·exact⟨n,by omega,e⟩
  ·obtain⟨m,h1,h2⟩:=nI (f:=f) (n:=n) (by omega);exact⟨m,by omega,h2⟩
theorem ri{f:Nat->Nat}:∀ {n m:Nat},m < n->f m<=sumN f n
 |n+1,m,h=>by
  rw[sumN]
  by_cases e:m=n
  ·subst e;omega
  ·have:=ri (f:=f) (n:=n) (m:=m) (by omega);omega
theorem bM{α:Type}(x:α)(l:List α)(f:α->Nat):sumL (x::l) f=f x+sumL l f:=rfl
theorem eT{α:Type}{f g:α->Nat}:∀ {l:List α},(∀x∈l,f x<=g x)->sumL l f<=sumL l g
 | [],_=>Nat.le_refl _
 |x::l,h=>by
  rw[bM,bM];exact Nat.add_le_add (h x List.mem_cons_self) (eT fun y hy=>h y (List.mem_cons_of_mem _ hy))
theorem gG{α:Type}:∀l:List α,sumL l (fun _=>1)=l.length
 | []=>rfl
 |x::l=>by rw[bM,gG l,List.length_cons];omega
theorem iC{α:Type}{f:α->Nat->Nat}{n:Nat}:∀l:List α,sumL l (fun u=>sumN (f u) n)=sumN (fun m=>sumL l fun u=>f u m) n
 | []=>by rw[show(fun m=>sumL ([]:List α) fun u=>f u m)=fun _=>0 from rfl,fS];rfl
 |x::l=>by
  rw[bM,iC l,<-eC]
  rfl
theorem ly{α:Type}{f:α->Nat}{l:List α}(h:∀x∈l,f x=0):sumL l f=0:=by
 have:=eT (f:=f) (g:=fun _=>0) (l:=l) fun x hx=>Nat.le_of_eq (h x hx)
 have h2:sumL l (fun _=>0)=0:=by
  induction l with
  |nil=>rfl
  |cons x l ih=>rw[bM,ih (fun y hy=>h y (List.mem_cons_of_mem _ hy)) (eT fun y hy=>Nat.le_of_eq (h y (List.mem_cons_of_mem _ hy)))]
 omega
theorem jH{α:Type}{f g:α->Nat}:∀l:List α,sumL l (fun u=>f u+g u)=sumL l f+sumL l g
 | []=>rfl
 |x::l=>by rw[bM,bM,bM,jH l];omega
/-- of each element of a list without repetitions, how often it is x -/
theorem jG{x:Nat}:∀ {l:List Nat},l.Nodup->sumL l (fun u=>if u=x then 1 else 0)=if x∈l then 1 else 0
 | [],_=>by simp[sumL]
 |y::l,h=>by
  rw[List.nodup_cons]at h;rw[bM,jG h.2]
  by_cases e:y=x
  ·subst e;simp[h.1]
  ·simp[e,Ne.symm e]
/-- a list all of whose elements are in S: each counted -/
theorem lQ{S:List Nat}(hS:S.Nodup):∀ {l:List Nat},(∀u∈l,u∈S)->sumL S (fun u=>l.count u)=l.length
 | [],_=>by rw[ly];rfl;simp
 |x::l,h=>by
  rw[show(fun u=>(x::l).count u)=fun u=>l.count u+if u=x then 1 else 0 from funext fun u=>by
   rw[List.count_cons]
   by_cases e:x=u
   ·simp[e]
   ·simp[e,Ne.symm e],jH,lQ hS (fun u hu=>h u (List.mem_cons_of_mem _ hu)),jG hS,if_pos (h x List.mem_cons_self),List.length_cons]
theorem jW:∀ {l L:List Nat},l.Nodup->(∀x∈l,x∈L)->l.length<=L.length
 | [],_,_,_=>by simp
 |x::l,L,h,hs=>by
  rw[List.nodup_cons]at h;have:=jW (l:=l) (L:=L.erase x) h.2 fun y hy=>(List.mem_erase_of_ne (fun e=>h.1 (by rw[<-e];exact hy))).2 (hs y (List.mem_cons_of_mem _ hy));have h2:=List.length_erase_of_mem (hs x List.mem_cons_self);have h3:=List.length_pos_of_mem (hs x List.mem_cons_self);rw[List.length_cons];omega
theorem ur:∀l:List Nat,∃S:List Nat,S.Nodup/\∀s,s∈S↔s∈l
 | []=>⟨[],by simp,by simp⟩
 |x::l=>by
  obtain⟨m,h1,h2⟩:=ur l
  by_cases hx:x∈m
  ·refine⟨m,h1,fun s=>?_⟩;rw[List.mem_cons,<-h2];exact⟨Or.inr,fun h=>h.elim (fun e=>e▸hx) id⟩
  ·refine⟨x::m,by rw[List.nodup_cons];exact⟨hx,h1⟩,fun s=>?_⟩;rw[List.mem_cons,List.mem_cons,h2]
/-- members, the window of each use, whether a use can be a member's, the tickets of a member for a window -/
structure Mt where
 nm:Nat
 win:Nat->Nat
 can:Nat->Nat->Bool
 cap:Nat->Nat->Nat
 low:∀u m,can u m=true->m < nm
abbrev Gv:=Nat->Nat->List Nat
structure GoodG (M:Mt) (G:Gv):Prop where
 el:∀w m u,u∈G w m->M.can u m=true/\M.win u=w
 len:∀w m,(G w m).length<=M.cap m w
def cntG(M:Mt)(G:Gv)(u:Nat):Nat:=sumN (fun m=>(G (M.win u) m).count u) M.nm
def updG(G:Gv)(w m:Nat)(l:List Nat):Gv:=fun w' m'=>if w'=w/\m'=m then l else G w' m'
theorem cQ{G:Gv}{w m:Nat}{l:List Nat}:updG G w m l w m=l:=if_pos ⟨rfl,rfl⟩
theorem cG{G:Gv}{w m w' m':Nat}{l:List Nat}(h:¬(w'=w/\m'=m)):updG G w m l w' m'=G w' m':=if_neg h
section
variable {M:Mt} {G G' G1:Gv} {T T' T1:Nat->Bool} {w m x:Nat}
/-- x has a place; the lists of those in T are as they were -/
structure Added (M:Mt) (T:Nat->Bool) (x:Nat) (G G':Gv):Prop where
 good:GoodG M G'
 keep:∀w m,w≠M.win x\/T m=true->G' w m=G w m
 cnt:∀u,cntG M G' u=cntG M G u+if u=x then 1 else 0
theorem vA{l:List Nat}{u:Nat}(hm:m < M.nm)(d:Nat)(h:l.count u=(G w m).count u+d)(hw:M.win u=w):cntG M (updG G w m l) u=cntG M G u+d:=by
 unfold cntG
 rw[hw]
 have h1:sumN (fun k=>(updG G w m l w k).count u) M.nm=sumN (fun k=>(G w k).count u+if k=m then d else 0) M.nm:=dT fun k _=>by
  by_cases e:k=m
  ·subst e;rw[cQ,if_pos rfl,h]
  ·rw[cG (fun h=>e h.2),if_neg e];rfl
 rw[h1,eC,dS _ hm]
theorem mi{l:List Nat}{u:Nat}(hw:M.win u≠w):cntG M (updG G w m l) u=cntG M G u:=by
 unfold cntG
 exact dT fun k _=>by rw[cG (fun h=>hw h.1)]
/-- a free ticket -/
theorem tK(hG:GoodG M G)(hc:M.can x m=true)(hT:T m=false)(hl:(G (M.win x) m).length < M.cap m (M.win x)):Added M T x G (updG G (M.win x) m (G (M.win x) m++[x])):=by
 refine⟨⟨fun w' m' u a=>?_,fun w' m'=>?_⟩,fun w' m' h=>cG fun e=>?_,fun u=>?_⟩
 ·by_cases e:w'=M.win x/\m'=m
  ·obtain⟨rfl,rfl⟩:=e;rw[cQ]at a
   rcases List.mem_append.1 a with a|a
   ·exact hG.el _ _ _ a
   ·rw[List.mem_singleton.1 a];exact⟨hc,rfl⟩
  ·rw[cG e]at a;exact hG.el _ _ _ a
 ·by_cases e:w'=M.win x/\m'=m
  ·obtain⟨rfl,rfl⟩:=e;rw[cQ,List.length_append,List.length_singleton];omega
  ·rw[cG e];exact hG.len _ _
 ·rcases h with h|h
  ·exact h e.1
  ·rw[e.2,hT]at h;cases h
 ·by_cases hw:M.win u=M.win x
  ·refine vA (M.low x m hc) _ ?_ hw;rw[List.count_append,List.count_singleton]
   by_cases e:x=u
   ·simp[e]
   ·simp[e,Ne.symm e]
  ·rw[mi hw,if_neg (fun e=>hw (by rw[e]))]
   rfl
theorem oD(a b:Nat):(if a=b then 1 else 0:Nat)=if b=a then 1 else 0:=by
 by_cases e:a=b
 ·rw[if_pos e,if_pos e.symm]
 ·rw[if_neg e,if_neg (Ne.symm e)]
theorem count_set{y u:Nat}:∀ {l:List Nat} {i:Nat},l[i]?=some y->(l.set i x).count u+(if u=y then 1 else 0)=l.count u+if u=x then 1 else 0
 |a::l,0,h=>by
  simp at h;subst h;rw[List.set_cons_zero,List.count_cons,List.count_cons];simp only[beq_iff_eq];rw[oD x u,oD a u];omega
 |a::l,i+1,h=>by
  rw[List.set_cons_succ,List.count_cons,List.count_cons];have:=count_set (u:=u) (l:=l) (i:=i) (by simpa using h);omega
/-- the place of another use, which has found a new one -/
theorem tJ{y i:Nat}(hc:M.can x m=true)(hT:T m=false)(hm:T1 m=true)(hs:∀k,T k=true->T1 k=true)(hy:(G (M.win x) m)[i]?=some y)(hG:GoodG M G)(h:Added M T1 y G G1) :
  Added M T x G (updG G1 (M.win x) m ((G (M.win x) m).set i x)):=by
 have g:=(hG.el _ _ _ (List.mem_of_getElem? hy)).2;have b:G1 (M.win x) m=G (M.win x) m:=h.keep _ _ (Or.inr hm);refine⟨⟨fun w' m' u f=>?_,fun w' m'=>?_⟩,fun w' m' a=>?_,fun u=>?_⟩
 ·by_cases e:w'=M.win x/\m'=m
  ·obtain⟨rfl,rfl⟩:=e;rw[cQ]at f
   rcases List.mem_or_eq_of_mem_set f with f|rfl
   ·exact hG.el _ _ _ f
   ·exact⟨hc,rfl⟩
  ·rw[cG e]at f;exact h.good.el _ _ _ f
 ·by_cases e:w'=M.win x/\m'=m
  ·obtain⟨rfl,rfl⟩:=e;rw[cQ,List.length_set];exact hG.len _ _
  ·rw[cG e];exact h.good.len _ _
 ·rw[cG (fun e=>by
   rcases a with a|a
   ·exact a e.1
   ·rw[e.2,hT]at a;cases a)]
  exact h.keep _ _ (a.imp (fun a=>by rw[g];exact a) (hs _))
 ·have q:=h.cnt u
  by_cases hw:M.win u=M.win x
  ·have p:=count_set (x:=x) (u:=u) hy
   have r:(if u=y then 1 else 0)<=(G (M.win x) m).count u:=by
    by_cases e:u=y
    ·subst e;rw[if_pos rfl];exact List.count_pos_iff.2 (List.mem_of_getElem? hy)
    ·rw[if_neg e];omega
   obtain⟨d,o⟩:∃d,d=(if u=y then 1 else 0:Nat):=⟨_,rfl⟩;obtain⟨e,n⟩:∃e,e=(if u=x then 1 else 0:Nat):=⟨_,rfl⟩;rw[<-o,<-n]at p;rw[<-o]at q r;rw[<-n];obtain⟨c,l⟩:∃c,((G (M.win x) m).set i x).count u=c:=⟨_,rfl⟩;rw[l]at p
   -- first the old one out, then the new one in
   have t:cntG M (updG G1 (M.win x) m ((G (M.win x) m).set i x)) u+d=cntG M G1 u+e:=by
    have j:=M.low x m hc
    unfold cntG
    rw[hw]
    have s:sumN (fun k=>(G1 (M.win x) k).count u+if k=m then e else 0) M.nm=sumN (fun k=>(updG G1 (M.win x) m ((G (M.win x) m).set i x) (M.win x) k).count u+if k=m then d else 0) M.nm:=dT fun k _=>by
     by_cases ek:k=m
     ·subst ek;rw[cQ,if_pos rfl,if_pos rfl,b,l];omega
     ·rw[cG (fun h=>ek h.2),if_neg ek,if_neg ek]
    rw[eC,eC,dS _ j,dS _ j]at s;omega
   omega
  ·rw[mi hw,q,if_neg (fun e=>hw (by rw[e,g])),if_neg (fun e=>hw (by rw[e]))]
/-- no place: what has been tried and reached meanwhile -/
structure Stuck (M:Mt) (G:Gv) (w x:Nat) (T T':Nat->Bool) (R R':List Nat):Prop where
 tm:∀m,T m=true->T' m=true
 rm:∀u∈R,u∈R'
 me:x∈R'
 some:∀u∈R',u∈R\/u=x\/∃m,u∈G w m
 shut:∀u∈R',u∈R\/(M.win u=w/\∀m,M.can u m=true->T' m=true)
 full:∀m,T' m=true->T m=true\/(M.cap m w<=(G w m).length/\∀u∈G w m,u∈R')
def Feas(M:Mt)(nu:Nat):Prop:=∃a:Nat->Nat,(∀u,u < nu->M.can u (a u)=true)/\∀m w,((List.range nu).filter fun u=>decide (a u=m)&&decide (M.win u=w)).length<=M.cap m w
theorem ww{nu:Nat}{R':List Nat}(hG:GoodG M G)(h:Stuck M G (M.win x) x (fun _=>false) T' [] R')(hx:cntG M G x=0)(hc:∀u,cntG M G u<=1)(hn:∀u,cntG M G u=1->u < nu)(hxn:x < nu):¬Feas M nu:=by
 rintro⟨a,n,i⟩;obtain⟨S,l,d⟩:=ur R';have k:∀u∈S,M.win u=M.win x/\∀m,M.can u m=true->T' m=true:=fun u hu=>(h.shut u ((d u).1 hu)).resolve_left (by simp)
 have c:∀u∈S,u < nu:=fun u hu=>by
  rcases h.some u ((d u).1 hu)with b|b|⟨m,b⟩
  ·cases b
  ·rw[b];exact hxn
  ·refine hn u ?_;have g:=(hG.el _ _ _ b)
   have j:0 < cntG M G u:=by
    have:=ri (f:=fun m=>(G (M.win u) m).count u) (M.low u m g.1);have o:0 < (G (M.win u) m).count u:=List.count_pos_iff.2 (by rw[g.2];exact b)
    unfold cntG
    omega
   have:=hc u;omega
 have r:S.length<=sumN (fun m=>if T' m=true then M.cap m (M.win x)else 0) M.nm:=by
  have:S.length=sumN (fun m=>sumL S fun u=>if m=a u then 1 else 0) M.nm:=by
   rw[<-iC,<-gG];refine Nat.le_antisymm (eT fun u hu=>?_) (eT fun u hu=>?_)
   ·rw[dS _ (M.low u _ (n u (c u hu)))];exact Nat.le_refl _
   ·rw[dS _ (M.low u _ (n u (c u hu)))];exact Nat.le_refl _
  rw[this];refine gV fun m _=>?_
  by_cases ht:T' m=true
  ·rw[if_pos ht];refine Nat.le_trans ?_ (i m (M.win x))
   have b:sumL S (fun u=>if m=a u then 1 else 0)=(S.filter fun u=>decide (a u=m)).length:=by
    clear k c d l this
    induction S with
    |nil=>rfl
    |cons y S ih =>
     rw[bM,ih,List.filter_cons]
     by_cases e:m=a y
     ·rw[if_pos e,if_pos (by simpa using e.symm),List.length_cons];omega
     ·rw[if_neg e,if_neg (by simpa using Ne.symm e)];omega
   rw[b];refine jW (l.filter _) fun u hu=>?_;obtain⟨g,j⟩:=List.mem_filter.1 hu;exact List.mem_filter.2 ⟨List.mem_range.2 (c u g),by simp at j;simp[j,(k u g).1]⟩
  ·rw[if_neg ht,ly fun u hu=>?_]
   ·exact Nat.le_refl _
   ·exact if_neg fun e=>ht (by rw[e];exact(k u hu).2 _ (n u (c u hu)))
 have q:sumN (fun m=>if T' m=true then M.cap m (M.win x)else 0) M.nm<=sumL S fun u=>cntG M G u:=by
  have b:sumN (fun m=>if T' m=true then M.cap m (M.win x)else 0) M.nm<=sumN (fun m=>sumL S fun u=>(G (M.win x) m).count u) M.nm:=gV fun m _=>by
   by_cases ht:T' m=true
   ·rw[if_pos ht];obtain⟨g,j⟩:=(h.full m ht).resolve_left (by simp);rw[lQ l fun u hu=>(d u).2 (j u hu)];exact g
   ·rw[if_neg ht];omega
  refine Nat.le_trans b ?_;rw[<-iC];refine eT fun u hu=>?_
  unfold cntG
  rw[(k u hu).1];exact Nat.le_refl _
 have p:sumL S (fun u=>cntG M G u)+1<=S.length:=by
  have b:sumL S (fun u=>cntG M G u+if u=x then 1 else 0)<=sumL S fun _=>1:=eT fun u _=>by
   by_cases e:u=x
   ·subst e;rw[hx,if_pos rfl];omega
   ·rw[if_neg e];have:=hc u;omega
  rw[jH,jG l,if_pos ((d x).2 h.me),gG]at b;exact b
 omega
theorem xd{nu:Nat}(hG:GoodG M G)(hc:∀u,u < nu->cntG M G u=1):Feas M nu:=by
 have hex:∀u,∃m,u < nu->u∈G (M.win u) m:=fun u=>by
  by_cases hu:u < nu
  ·obtain⟨m,_,h1⟩:=nI (f:=fun m=>(G (M.win u) m).count u) (n:=M.nm) (by have:=hc u hu;unfold cntG at this;omega);exact⟨m,fun _=>List.count_pos_iff.1 h1⟩
  ·exact⟨0,fun h=>absurd h hu⟩
 obtain⟨a,ha⟩:=Classical.axiomOfChoice hex;refine⟨a,fun u hu=>(hG.el _ _ _ (ha u hu)).1,fun m w=>Nat.le_trans (jW ((List.nodup_range).filter _) (L:=G w m) fun u hu=>?_) (hG.len w m)⟩;obtain⟨h1,h2⟩:=List.mem_filter.1 hu;rw[Bool.and_eq_true,decide_eq_true_eq,decide_eq_true_eq]at h2;have:=ha u (List.mem_range.1 h1);rw[h2.1,h2.2]at this;exact this
end
end Go.Proofs.YtpcmamoomaddoaaGreatDoor
