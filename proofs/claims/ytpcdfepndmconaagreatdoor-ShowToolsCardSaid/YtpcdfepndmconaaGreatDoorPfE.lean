/- A proof is encoded: proof.Encode. -/
import Derived.Test.YtpcdfepndmconaaGreatDoorKnu
import Derived.Test.YtpcdfepndmconaaGreatDoorSg1
/- JOINED: Hsr PfE -/
/- The reference tells whether a list has a number. -/
namespace Go.Proofs.YtpcdfepndmconaaGreatDoor
open Go.RowKit
set_option maxHeartbeats 800000 in
theorem rhas_any (v:Value) (l:List Int) (x:Int) (w:World) (hv:Row w 1 v l.length (ints l)) :
  Calls Tryz.prog 104 #[v,.int .i64 x] w fun e w'=>e=.returned (.bool (decide (x∈l)))∧Kept [] w w':=by
 obtain ⟨aa,ca,rfl,hla,_⟩:=hv.form;have HV:=Lib.hid hv;clear hv
 go_enter Tryz.func104,Tryz.ntmps104
 go_wp2_with fail
 go_loopw [5] (fun vi wr=>∃ k:Nat,k≤l.length∧vi=.int .i64 k∧Hid (x∉l.take k)∧Kept [] w wr) (fun vi _=>l.length - (intOf vi).toNat)
 case atStart=>exact ⟨0,by omega,rfl,by show _∉_;simp,Kept.refl _ _⟩
 case round =>
  obtain ⟨k,hk,rfl,HN,hkr⟩:=hrel
  by_cases hlt:k < l.length
  ·obtain ⟨ba,oa,rfl,hca⟩:=HV.out.at_ (by omega);have xa:wr.cell? ⟨ba,oa+k,none⟩=some (.int .i64 l[k]):=Kept.cellOf (hca k _ (ints_get hlt)) wr hkr;have HY:Hid (l[k]=x→x∈l):=fun e=>e▸List.getElem_mem hlt
   have HNX:Hid (¬ l[k]=x→x∉l.take (k+1)):=fun e=>by
    rw [List.take_succ_eq_append_getElem hlt];intro hm
    rcases List.mem_append.1 hm with h|h
    ·exact HN.out h
    ·exact e (List.mem_singleton.1 h).symm
   obtain ⟨y,hy⟩:∃ y,l[k]=y:=⟨_,rfl⟩;rw [hy] at xa HY HNX;clear hca hy
   cases e0:(y==x)
   ·have HX:=Lib.hid (HNX.out (by simpa using e0));clear HY HNX;go_wp2_with fail
    go_roundw
    case rel=>exact ⟨k+1,by omega,by go_num,HX,hkr⟩
    case measure=>simp [intOf];omega
   ·have HX:=Lib.hid (HY.out (by simpa using e0));clear HY HNX;go_wp2_with fail;go_ret;exact ⟨by rw [decide_eq_true HX.out];rfl,hkr⟩
  ·obtain rfl:k=l.length:=by omega
   go_wp2_with fail;go_ret;refine ⟨?_,hkr⟩;have:=HN.out;rw [List.take_length] at this;rw [decide_eq_false this]
   rfl
end Go.Proofs.YtpcdfepndmconaaGreatDoor
namespace Go.Proofs.YtpcdfepndmconaaGreatDoor
open Go.RowKit Tape
/-- bounds under which a proof is encoded -/
structure PfOk (p:Pf):Prop where
 d:p.dares.length≤600
 dl:∀ l∈p.dares,l.length≤600
 al:∀ l∈p.answers,∀ x∈l,x.length≤600
 n:(pfN p).length≤100000000
 i:AllI (pfN p)
def pfRes (p:Pf):Value:=if p.shaped then .tuple #[.string ⟨(pfE p).toArray⟩,.bool true] else .tuple #[.string ⟨#[]⟩,.bool false]
theorem pfRes_no {p:Pf} (h:¬ p.shaped):pfRes p=.tuple #[.string ⟨#[]⟩,.bool false]:=if_neg h
theorem pfRes_yes {p:Pf} (h:p.shaped):pfRes p=.tuple #[.string ⟨(pfE p).toArray⟩,.bool true]:=if_pos h
theorem shaped_len {p:Pf} (h:p.shaped):p.dares.length=p.answers.length:=by
 have:=congrArg List.length h
 simpa using this
theorem shaped_at {p:Pf} (h:p.shaped) (k:Nat) (h1:k < p.dares.length) (h2:k < p.answers.length):p.dares[k].length=p.answers[k].length:=by
 have:=congrArg (fun l=>l[k]?) h
 simpa [h1,h2] using this
theorem shaped_of {p:Pf} (hl:p.dares.length=p.answers.length) (h:∀ k (h1:k < p.dares.length) (h2:k < p.answers.length),p.dares[k].length=p.answers[k].length):p.shaped:=by
 refine List.ext_getElem (by simpa using hl) fun k h1 h2=>?_;simp only [List.getElem_map];exact h k (by simpa using h1) (by simpa using h2)
/-- what lies in the list behind the first i clauses -/
def outD (p:Pf) (i:Nat):List Int:=(p.dares.length:Int)::(p.pairs.take i).flatMap clauseE
def outA (p:Pf) (i k:Nat) (c:List (Int × List Int)):List Int:=outD p i++((c.length:Int)::(c.take k).flatMap spndE)
theorem outD_zero (p:Pf):outD p 0=[(p.dares.length:Int)]:=by simp [outD]
theorem outA_zero (p:Pf) (i:Nat) (c:List (Int × List Int)):outA p i 0 c=outD p i++[(c.length:Int)]:=by simp [outA]
theorem take_flat {α:Type} (f:α→List Int) (l:List α) (k:Nat) (h:k < l.length):(l.take (k+1)).flatMap f=(l.take k).flatMap f++f l[k]:=by
 rw [List.take_add_one,List.getElem?_eq_getElem h,List.flatMap_append]
 simp
theorem outA_succ (p:Pf) (i k:Nat) (c:List (Int × List Int)) (h:k < c.length):outA p i (k+1) c=outA p i k c++[c[k].1,(c[k].2.length:Int)]++c[k].2:=by
 unfold outA
 rw [take_flat _ _ _ h]
 simp [spndE,listE]
theorem outA_full (p:Pf) (i:Nat) (h:i < p.pairs.length):outA p i p.pairs[i].length p.pairs[i]=outD p (i+1):=by
 unfold outA outD
 rw [take_flat _ _ _ h,List.take_length]
 simp [clauseE,manyE]
theorem outD_full (p:Pf) (h:p.dares.length=p.pairs.length):outD p p.dares.length=pfN p:=by
 unfold outD pfN manyE
 rw [h,List.take_length]
theorem pairs_len {p:Pf} (h:p.dares.length=p.answers.length):p.pairs.length=p.dares.length:=by
 unfold Pf.pairs
 rw [List.length_zipWith];omega
theorem pairs_get {p:Pf} (i:Nat) (h:i < p.pairs.length) (h1:i < p.dares.length) (h2:i < p.answers.length):p.pairs[i]=p.dares[i].zip p.answers[i]:=by
 show (List.zipWith List.zip p.dares p.answers)[i]'(by simpa [Pf.pairs] using h)=_
 exact List.getElem_zipWith
theorem Row.two (w:World) (x y:Int):Row (w.alloc (.cells #[.int .i64 x,.int .i64 y] 3)) 1 (.slice (some ⟨w.heap.size,0,none⟩) 2 2) 2 (ints [x,y]):=Row.lit w [x,y] (by simp)
theorem Row.one1 (w:World) (x:Int):Row (w.alloc (.cells #[.int .i64 x] 3)) 1 (.slice (some ⟨w.heap.size,0,none⟩) 1 1) 1 (ints [x]):=Row.lit w [x] (by simp)
set_option maxRecDepth 100000 in
set_option maxHeartbeats 4000000 in
theorem pfEnc_any (da an:Value) (p:Pf) (w:World) (hd:RowOf ListR 1 w da p.dares) (ha:RowOf ListsR 1 w an p.answers) (hE:Env w) (hp:PfOk p) :
  Calls Tryz.prog 106 #[.agg #[da,an]] w (Ret (pfRes p) w):=by
 obtain ⟨ad,cd,rfl,hld,_⟩:=hd.form;obtain ⟨aa,ca,rfl,hla,_⟩:=ha.form;obtain ⟨W,hW⟩:∃ W,w.alloc (.cells #[.slice ad p.dares.length cd,.slice aa p.answers.length ca] 65)=W:=⟨_,rfl⟩;have hb:Blk W w.heap.size 65 #[.slice ad p.dares.length cd,.slice aa p.answers.length ca]:=hW▸Blk.new _ _ _;have hkW:Kept [] w W:=hW▸(Kept.refl _ _).alloc _
 have hWs:W.heap.size=w.heap.size+1:=by rw [←hW];simp only [World.size_alloc]
 have c0:W.cell? ⟨w.heap.size,0,none⟩=some (.slice ad p.dares.length cd):=hb.cell 0;have c1:W.cell? ⟨w.heap.size,1,none⟩=some (.slice aa p.answers.length ca):=hb.cell 1;have HD:=Lib.hid (hd.kept (fun _ _ x=>ListR.kept x hkW) hkW);have HA:=Lib.hid (ha.kept (fun _ _ x=>ListsR.kept x hkW) hkW);have HEW:=Lib.hid (hE.kept0 hkW);have HP:=Lib.hid hp;have HW:=Lib.hid hW;have HK:=Lib.hid hkW;clear hW hd ha hE hp hkW;have HWS:=Lib.hid hWs;clear hWs
 by_cases hl:p.dares.length=p.answers.length
 ·have hlq:((p.dares.length:Int) != (p.answers.length:Int))=false:=by simp [hl]
  have hpl:=pairs_len hl;have hdb:=HP.out.d
  have ho:(W.alloc (.cells #[.int .i64 (p.dares.length:Int)] 3)).ownsRow W.heap.size 3 1 (.slice (some ⟨w.heap.size+1,0,none⟩) 1 1) 1 (ints (outD p 0)):=by
   rw [outD_zero,←HWS.out];exact World.ownsRow_lit W #[.int .i64 (p.dares.length:Int)] 1 (Nat.le_refl _) (by decide) rfl
  have HO:=Lib.hid ho;have HL:=Lib.hid hl;clear ho hl
  go_enter Tryz.func106,Tryz.ntmps106
  go_wp2_with fail;rw [HW.out];go_wp2_with fail
  go_loopw [4,5,6,7,8,23] (fun vo _ _ _ _ vi wr=>∃ (k n:Nat) (a:Option Addr) (c:Nat),k≤p.dares.length∧vi=.int .i64 k∧vo=.slice a n c∧n≤1+k*361201∧wr.ownsRow W.heap.size 3 1 (.slice a n c) n (ints (outD p k)) ∧
   (∀ j (h1:j < p.dares.length) (h2:j < p.answers.length),j < k→p.dares[j].length=p.answers[j].length)∧Kept [] W wr) (fun _ _ _ _ _ vi _=>p.dares.length - (intOf vi).toNat)
  case atStart=>exact ⟨0,1,_,_,by omega,rfl,rfl,by omega,HO.out,fun j _ _ h=>by omega,(Kept.refl _ _).alloc _⟩
  case round =>
   obtain ⟨k,n,a,c,hk,rfl,rfl,hn,hown,hsh,hkr⟩:=hrel;have HS:=Lib.hid hsh;clear hsh
   by_cases hlt:k < p.dares.length
   ·have hlta:k < p.answers.length:=by have:=HL.out;omega
    obtain ⟨bd,od,ud,rfl,xd,v1,e1,hvd⟩:=HD.out.one k hlt;obtain ⟨ba,oa,ua,rfl,xa,v2,e2,hva⟩:=HA.out.one k hlta;injection e1 with e1;injection e2 with e2;subst e1 e2;obtain ⟨a1,k1,rfl,_,_⟩:=hvd.form;obtain ⟨a2,k2,rfl,_,_⟩:=hva.form;have HVD:=Lib.hid hvd;have HVA:=Lib.hid hva;have XA:=Lib.hid xa;have y0:wr.cell? ⟨w.heap.size,0,none⟩=some (.slice (some ⟨bd,od,none⟩) p.dares.length cd):=Kept.cellOf c0 wr hkr;have y1:wr.cell? ⟨w.heap.size,1,none⟩=some (.slice (some ⟨ba,oa,none⟩) p.answers.length ca):=Kept.cellOf c1 wr hkr;have y2:wr.cell? ⟨bd,od+k,none⟩=some (.slice a1 p.dares[k].length k1):=Kept.cellOf xd wr hkr;have y3:wr.cell? ⟨ba,oa+k,none⟩=some (.slice a2 p.answers[k].length k2):=Kept.cellOf xa wr hkr;have hge:=own_ge hown;have HOW:=Lib.hid hown;clear hvd hva xd xa hown
    by_cases hsk:p.dares[k].length=p.answers[k].length
    ·have hsq:((p.dares[k].length:Int) != (p.answers[k].length:Int))=false:=by simp;omega
     have hdl:=HP.out.dl p.dares[k] (List.getElem_mem hlt);obtain ⟨L,hL⟩:∃ L,p.dares[k].length=L:=⟨_,rfl⟩;have hLA:p.answers[k].length=L:=hsk.symm.trans hL;obtain ⟨C,hC⟩:∃ C,p.dares[k].zip p.answers[k]=C:=⟨_,rfl⟩
     have hCL:C.length=L:=by rw [←hC,List.length_zip];omega
     have HCP:Hid (∀ h:k < p.pairs.length,p.pairs[k]=C):=fun h=>(pairs_get k h hlt hlta).trans hC
     have HCG:Hid (∀ m (h:m < C.length) (h1:m < p.dares[k].length) (h2:m < p.answers[k].length),C[m]=(p.dares[k][m],p.answers[k][m])):=fun m h h1 h2=>by subst hC;exact List.getElem_zip
     have hal:=HP.out.al p.answers[k] (List.getElem_mem hlta);have HAL:=Lib.hid hal;rw [hL] at HVD y2 hdl hsq;rw [hLA] at HVA y3 hsq XA;have HSK:=Lib.hid hsk;have HHL:=Lib.hid hL;have HLA:=Lib.hid hLA
     have hn9:n+1≤1000000000:=by omega
     clear hC hal hsk hL hLA;go_wp2_with (at_builtin;refine wpList_append_ints rfl _ _ rfl W.heap.size (.slice a n c) n (outD p k) rfl (own_keep HOW.out ((Kept.refl [] _).alloc _) (by simp)) _ 1 [(L:Int)] rfl (Row.one1 _ _) hn9 (by have:=hkr.size;simp only [World.size_alloc];omega) ?_);intro a3 c3 w3 hown3 hk3 _;have hk3W:Kept [] W w3:=(hkr.alloc _).fresh hk3 (fun x hx=>(hge x hx).1)
     have HO3:Hid (w3.ownsRow W.heap.size 3 1 (.slice a3 (n+1) c3) (n+1) (ints (outA p k 0 C))):=by
      rw [outA_zero,hCL];exact hown3
     clear hown3 hk3 y0 y1 y2 y3;go_wp2_with fail
     go_loopw [4,7,8,44] (fun vo _ _ vi wr=>∃ (m n2:Nat) (a:Option Addr) (c:Nat),m≤L∧vi=.int .i64 m∧vo=.slice a n2 c∧n2≤n+1+m*602∧wr.ownsRow W.heap.size 3 1 (.slice a n2 c) n2 (ints (outA p k m C))∧Kept [] W wr) (fun _ _ _ vi _=>L - (intOf vi).toNat)
     case atStart=>exact ⟨0,n+1,a3,c3,by omega,rfl,rfl,by omega,HO3.out,hk3W⟩
     case round =>
      obtain ⟨m,n2,a4,c4,hm,rfl,rfl,hn2,hown4,hkq⟩:=hrel;have HO4:=Lib.hid hown4;have hge4:=own_ge hown4;clear hown4
      by_cases hml:m < L
      ·obtain ⟨b1,o1,rfl,hc1⟩:=HVD.out.at_ (by omega)
       have hmd:m < p.dares[k].length:=by have:=HHL.out;omega
       have hma:m < p.answers[k].length:=by have:=HLA.out;omega
       have z1:wr.cell? ⟨b1,o1+m,none⟩=some (.int .i64 p.dares[k][m]):=Kept.cellOf (hc1 m _ (ints_get hmd)) wr hkq;obtain ⟨b2,o2,u3,hb2,x3,v3,e3,hv3⟩:=HVA.out.one m hma;injection e3 with e3;subst e3 hb2;obtain ⟨a5,k5,rfl,_,_⟩:=hv3.form;have HV3:=Lib.hid hv3;have hx6:=HAL.out p.answers[k][m] (List.getElem_mem hma)
       have ES:Hid (outA p k (m+1) C=outA p k m C++[p.dares[k][m],(p.answers[k][m].length:Int)]++p.answers[k][m]):=by
        show _=_
        rw [outA_succ p k m C (by omega),HCG.out m (by omega) hmd hma]
       obtain ⟨X,hX⟩:∃ X,p.answers[k][m]=X:=⟨_,rfl⟩;obtain ⟨d,hd⟩:∃ d,p.dares[k][m]=d:=⟨_,rfl⟩;rw [hX] at HV3 ES hx6 x3;rw [hd] at ES z1;clear hc1 hv3 hX hd;have q0:∀ w',Kept (obl (.slice a4 n2 c4)) wr w'→w'.cell? ⟨w.heap.size,1,none⟩=some (.slice (some ⟨ba,oa,none⟩) p.answers.length ca):=fun w' k=>k.cell0 c1 hkq (fun z hz=>(hge4 z hz).1);have q1:∀ w',Kept (obl (.slice a4 n2 c4)) wr w'→w'.cell? ⟨ba,oa+k,none⟩=some (.slice (some ⟨b2,o2,none⟩) L k2):=fun w' k=>k.cell0 XA.out hkq (fun z hz=>(hge4 z hz).1);have q2:∀ w',Kept (obl (.slice a4 n2 c4)) wr w'→w'.cell? ⟨b2,o2+m,none⟩=some (.slice a5 X.length k5):=fun w' k=>k.cell0 x3 hkq (fun z hz=>(hge4 z hz).1);have hsz:=hkq.size;go_upto_region 13 with (fail)
       go_region_held3 (fun w'=>Kept (obl (.slice a4 n2 c4)) wr w') (repeat (first|(with_reducible assumption)|(with_reducible exact Kept.refl _ _)|(with_reducible refine Kept.drew ?_)|(with_reducible refine Kept.alloc ?_ _)))
        (first
         | ((refine step_append_ints rfl _ _ rfl W.heap.size (.slice a4 n2 c4) n2 (outA p k m C) rfl (own_keep HO4.out (S:=[]) (by (repeat (first|(with_reducible exact Kept.refl _ _)|(with_reducible refine Kept.drew ?_)|(with_reducible refine Kept.alloc ?_ _)))) (by simp)) _ 2 [d,(X.length:Int)] rfl (Row.two _ _ _) (by omega) (by simp only [World.size_alloc,World.drew];omega) ?_;intro a6 c6 w6 hown6 hk6 hat6;have ht6:Kept (obl (.slice a4 n2 c4)) wr w6:=Kept.trans (by (repeat (first|(with_reducible exact Kept.refl _ _)|(with_reducible refine Kept.drew ?_)|(with_reducible refine Kept.alloc ?_ _)))) hk6))
         | ((refine step_append_ints rfl _ _ rfl W.heap.size (.slice a6 (n2+2) c6) (n2+2) (outA p k m C++[d,(X.length:Int)]) rfl hown6 (.slice a5 X.length k5) X.length X rfl (HV3.out.kept (hkq.fresh ht6 (fun z hz=>(hge4 z hz).1))) (by omega) (by have:=ht6.size;omega) ?_;intro a7 c7 w7 hown7 hk7 hat7;have ht7:Kept (obl (.slice a4 n2 c4)) wr w7:=ht6.then_ hk7 (fun x hx hm=>(hat6 x hm).elim id (fun h=>by simp only [World.size_alloc,World.drew] at h;omega)))))
       rename_i hHeld;clear hHeld q0 q1 q2
       have hsl:n2+2+X.length≤n+1+(m+1)*602:=by omega
       rw [←ES.out] at hown7;have hk7W:Kept [] W w7:=hkq.fresh ht7 (fun z hz=>(hge4 z hz).1);clear ht6 hk6 hat6 hk7 hat7 ht7 hown6;go_wp2_with fail
       go_roundw
       case rel=>exact ⟨m+1,_,_,_,by omega,by go_num,rfl,hsl,hown7,hk7W⟩
       case measure=>simp [intOf];omega
      ·obtain rfl:m=L:=by omega
       have hfin:Hid (outA p k m C=outD p (k+1)):=by
        show _=_
        have h1:=HCP.out (by omega);have h2:=outA_full p k (by omega);rw [h1] at h2;rw [←h2,hCL]
       have hs7:Hid (∀ j (h1:j < p.dares.length) (h2:j < p.answers.length),j < k+1→p.dares[j].length=p.answers[j].length):=fun j h1 h2 h3=>by
        rcases (by omega:j < k∨j=k) with h|rfl
        ·exact HS.out j h1 h2 h
        ·exact HSK.out
       have hsl:n2≤1+(k+1)*361201:=by omega
       have HO5:=HO4.out;rw [hfin.out] at HO5;go_wp2_with fail
       go_roundw
       case rel=>exact ⟨k+1,n2,a4,c4,by omega,by go_num,rfl,hsl,HO5,hs7.out,hkq⟩
       case measure=>simp [intOf];omega
    ·have hsq:((p.dares[k].length:Int) != (p.answers[k].length:Int))=true:=by simp;omega
     have HR:=Lib.hid (pfRes_no (p:=p) fun h=>hsk (shaped_at h k hlt hlta));go_wp2_with fail
     go_ret2
     exact ⟨by rw [HR.out];rfl,HK.out.trans hkr⟩
   ·obtain rfl:k=p.dares.length:=by omega
    have hN:Hid (outD p p.dares.length=pfN p):=outD_full p hpl.symm;have HR:=Lib.hid (pfRes_yes (p:=p) (shaped_of HL.out fun j h1 h2=>HS.out j h1 h2 h1));rw [hN.out] at hown
    have hnl:(pfN p).length=n:=by have:=hown.1;simpa [ints] using this
    subst hnl;have HC:=Lib.hid (nums_any _ (pfN p) wr (Row.of_own hown (by have:=HP.out.n;omega)) (HEW.out.kept0 hkr) (by have:=HP.out.n;omega) HP.out.i);clear hown;go_wp2_with (go_at_call 71;refine HC.out.mono ?_);rintro e w1 ⟨rfl,hk1⟩;go_wp2_with fail
    go_ret2
    exact ⟨by rw [HR.out];rfl,HK.out.trans (hkr.trans hk1)⟩
 ·have hlq:((p.dares.length:Int) != (p.answers.length:Int))=true:=by simp;omega
  have HR:=Lib.hid (pfRes_no (p:=p) fun h=>hl (shaped_len h))
  go_enter Tryz.func106,Tryz.ntmps106
  go_wp2_with fail;rw [HW.out];go_wp2_with fail
  go_ret2
  exact ⟨by rw [HR.out];rfl,HK.out⟩
end Go.Proofs.YtpcdfepndmconaaGreatDoor
