import Derived.Test.YtpcmamoomaddoaaGreatDoorMpm
import Derived.Laws.MakeOwn
set_option maxRecDepth 100000
set_option maxHeartbeats 32000000
namespace Go.Proofs.YtpcmamoomaddoaaGreatDoor
open Go.RowKit Go.Maps
open Go.Proofs.Tryz
open Lib(hid)
def IssR(w:World)(c:List Value)(x:Iss):Prop:=∃v o1 o2 o3 o4 o5,c=[.int .i64 x.key,v,.int .i64 o1,.int .i64 o2,.int .i64 o3,.int .i64 o4,.int .i64 o5]/\Row w 1 v x.attrs.length (ints x.attrs)
theorem IssR.kept{w w':World}{c:List Value}{x:Iss}(h:IssR w c x)(k:Kept [] w w'):IssR w' c x:=by obtain⟨v,o1,o2,o3,o4,o5,h1,h2⟩:=h;exact⟨v,o1,o2,o3,o4,o5,h1,h2.kept k⟩
theorem xG(n:Nat):madeCells #[Value.int .i64 0] (n*1)=(ints (List.replicate n 0)).toArray:=by
 have h1:∀j,(#[Value.int .i64 0]:Array Value)[j % (#[Value.int .i64 0]:Array Value).size]! = .int .i64 0:=fun j=>by
  have:j % 1=0:=Nat.mod_one j
  simp[this]
 unfold madeCells
 apply Array.ext
 ·simp[ints]
 ·intro j h2 h3;rw[Array.getElem_map,h1]
  simp[ints]
theorem mS(n:Nat)(w:World)(h:n<=1000) :
  (Instr.makeSlice 23 (.int .i64 (n:Int)) (.int .i64 (n:Int))).run prog w=.ok (.slice (some ⟨w.heap.size,0,none⟩) n n) (w.alloc (.cells (ints (List.replicate n 0)).toArray 3)):=by
 obtain⟨i0,hi,hz0,hz1,hz2⟩:=info_parts mV;have:=run_makeSlice (P:=prog) w 23 3 i0 (.int .i64 0) underlying23 hi hz0 .i64 .i64 (n:Int) (n:Int) (by omega) (by omega) (by rw[hz1];simp;omega) (by rw[hz2];omega) (by omega);rw[hz1]at this;simp only[Int.toNat_natCast,Value.cells]at this;rw[this,xG]
theorem Blk.setI{w:World}{b:Nat}{T:TypeId}{l:List Int}(h:Blk w b T (ints l).toArray)(i:Nat)(v:Int):Blk (w.setCell ⟨b,i,none⟩ (.int .i64 v)) b T (ints (l.set i v)).toArray:=by
 have:=h.set_ i (.int .i64 v)
 rwa [show(ints l).toArray.setIfInBounds i (.int .i64 v)=(ints (l.set i v)).toArray by simp[ints,List.map_set]]at this
theorem Blk.cellI{w:World}{b:Nat}{T:TypeId}{l:List Int}(h:Blk w b T (ints l).toArray)(i:Nat)(hi:i < l.length):w.cell? ⟨b,i,none⟩=some (.int .i64 l[i]):=by
 rw[h.cell]
 simp[ints,hi]
theorem Blk.ne{w:World}{b b':Nat}{T T':TypeId}{cs ds:Array Value}(h:Blk w b T cs)(k:Blk w b' T' ds)(hT:T≠T'):b≠b':=by
 rintro rfl
 unfold Blk at h k
 rw[h]at k;simp only[Option.some.injEq,Obj.cells.injEq]at k;exact hT k.2.1
def IsM(w:World)(z:Nat):Prop:=∃es c,w.heap[z]?=some (.map es c)
theorem am.isM{P:Program}{kt:TypeId}{α:Type}{E:KeyEnc P kt α}{w:World}{b n:Nat}{f:α->Option Value}(h:am E w b n f):IsM w b:=by
 obtain⟨D,⟨es,clock,hb,_⟩,_⟩:=h;exact⟨es,clock,hb⟩
theorem Row.kept_maps{w w':World}{S:List Nat}{size m:Nat}{v:Value}{l:List Value}(h:Row w size v m l)(k:Kept S w w')(hm:∀z∈S,IsM w z):Row w' size v m l:=by
 obtain⟨h1,h2,a,c,hv,hcc,hc⟩:=h;refine⟨h1,h2,a,c,hv,hcc,fun hn=>?_⟩;obtain⟨b,off,ha,hcell⟩:=hc hn;refine⟨b,off,ha,fun j u hu=>?_⟩;have:=hcell j u hu;refine(k.cell (World.block_lt_of_cell? w _ this) (fun hb=>?_)).trans this;obtain⟨es,c,he⟩:=hm b hb
 unfold World.cell? at this
 rw[he]at this;simp at this
theorem aj.kept_maps{α:Type}{R:World->List Value->α->Prop}{m:Nat}{w w':World}{u:Value}{l:List α}{S:List Nat}(h:aj R m w u l)(hR:∀c a,R w c a->R w' c a)(k:Kept S w w')(hm:∀z∈S,IsM w z):aj R m w' u l:=by
 obtain⟨vs,h1,h2,h3,h4⟩:=h;exact⟨vs,h1,h2,fun i a ha=>by obtain⟨c,h5,h6⟩:=h3 i a ha;exact⟨c,h5,hR c a h6⟩,h4.kept_maps k hm⟩
theorem js:∀w,(zeroValue 142).run prog w=.ok (.map none) w:=zeroValue142
theorem dP:∀w,(zeroValue 23).run prog w=.ok (.slice none 0 0) w:=zeroValue23
theorem eQ:∀w,(zeroValue 3).run prog w=.ok (.int .i64 0) w:=zeroValue3
def AddR(W0:World)(g bv bt N K:Nat)(e:Ending)(w':World):Except Int (List Cz)->Prop
 | .error c=>e=.returned (.int .i64 c)
 | .ok P'=>e=.returned (.int .i64 0)/\∃V' T',Cit W0.heap.size w' g bv bt N K V' T' (findC P')
theorem vals_err{p:Pss}{at_:List Int}{c:Int}(h:dv p at_=.error c):c=1\/c=3:=by
 unfold dv at h
 split at h
 ·injection h with h;exact Or.inl h.symm
 ·split at h
  ·injection h with h;exact Or.inr h.symm
  ·cases h
theorem qx{ks:List Pss}{i:Int}(h:lR ks i=none):i < 0\/(ks.length:Int)<=i:=by
 unfold lR at h
 split at h
 ·exact Or.inl (by assumption)
 ·rw[List.getElem?_eq_none_iff]at h;exact Or.inr (by omega)
theorem vw(k:Nat)(P:List Cz)(n:Int):(czOf k P n).num=n:=by
 unfold czOf
 cases h:findC P n with
 |none=>rfl
 |some c=>exact(ce h).2
theorem mu{w:World}{B:Nat}{v:Value}{l:List Bnd}(h:w.ownsRow B 82 2 v l.length (cZ l))(hl:l.length<=9223372036854775807):aj dE 2 w v l:=by
 refine aj.of_own (vs:=l.map fun b=>[.string ⟨b.1.toArray⟩,.int .i64 b.2]) (by rw[<-List.flatMap_def];exact h) (by simp) (fun c hc=>?_) (fun k a ha=>?_) hl
 ·obtain⟨b,_,rfl⟩:=List.mem_map.1 hc
  rfl
 ·exact⟨_,by rw[List.getElem?_map,ha];rfl,rfl⟩
theorem xC{B:Nat}{W0 w:World}{ks:List Pss}{is:List Iss}{j0:Nat}{P:List Cz}{x:Iss}{vk:Value}{cs:List Value}{g bv bt N:Nat}{V T:Int->Nat}
  (hE:EnvB B W0) (hk:Kept [] W0 w) (hC:Cit W0.heap.size w g bv bt N ks.length V T (findC P)) (hI:PInv ks.length is j0 P) (hnw:∀c∈P,(Lit.int .i64 c.num).wf=true)
  (hks:aj PssR 4 W0 vk ks) (hkz:∀p∈ks,p.name.length<=10000000/\(∀a∈p.attrs,a.length<=10000000)/\p.attrs.length<=100000) (hx:IssR W0 cs x) (hwf:∀a∈x.attrs,(Lit.int .i64 a).wf=true) (hal:x.attrs.length<=100000) (hN:N<=1000000) (hkn:ks.length<=1000) :
  Calls prog 40 #[.pointer (some ⟨g,0,none⟩),vk,.agg cs.toArray] w fun e w'=>Kept [] W0 w'/\AddR W0 g bv bt (N+100) ks.length e w' (addB ks P x):=by
 have hmm:=@run_makeMap prog;have heqm:=fun(mo:Option Nat) (w:World)=>xe underlying142 mo w;obtain⟨va,o1,o2,o3,o4,o5,rfl,hax⟩:=hx;obtain⟨aa,ac,rfl,_,_⟩:=hax.form;obtain⟨kka,kkc,rfl,hk63,_⟩:=hks.form;obtain⟨key,at_⟩:=x
 dsimp only at hax hwf hal ⊢
 obtain⟨R,hR⟩:∃R,addB ks P ⟨key,at_⟩=R:=⟨_,rfl⟩;rw[hR]
 unfold addB at hR
 dsimp only at hR
 obtain⟨an,han⟩:∃n,at_.length=n:=⟨_,rfl⟩;obtain⟨kn,hkl⟩:∃n,ks.length=n:=⟨_,rfl⟩;rw[han]at hax hal ⊢;rw[hkl]at hks hk63 hC hI hkn hR ⊢;obtain⟨W,hW⟩:∃W,w.alloc (.cells #[.int .i64 key,.slice aa an ac,.int .i64 o1,.int .i64 o2,.int .i64 o3,.int .i64 o4,.int .i64 o5] 42)=W:=⟨_,rfl⟩;have hkW:Kept [] w W:=hW▸(Kept.refl _ _).alloc _;have hB:Blk W w.heap.size 42 #[.int .i64 key,.slice aa an ac,.int .i64 o1,.int .i64 o2,.int .i64 o3,.int .i64 o4,.int .i64 o5]:=hW▸Blk.new _ _ _;have c0:W.cell? ⟨w.heap.size,0,none⟩=some (.int .i64 key):=hB.cell 0;have c1:W.cell? ⟨w.heap.size,1,none⟩=some (.slice aa an ac):=hB.cell 1;obtain⟨gx,hgx⟩:∃b,w.heap.size=b:=⟨_,rfl⟩;rw[hgx]at hB c0 c1;have HGX:=hid hgx;have HC:=hid (hC.kept hkW);have HB:=hid hB;have HK:=hid (hk.trans hkW);have HKW:=hid hkW;have HW:=hid hW;have HI:=hid hI;have HNW:=hid hnw;have HKS:=hid hks;have HKZ:=hid hkz;have HAX:=hid hax;have HWF:=hid hwf;have HE:=hid hE;have HRR:=hid hR;have HAN:=hid han;have HKL:=hid hkl;clear hW hkW hB hE hk hC hI hnw hks hkz hax hwf hR han hkl hgx
 cases hka:lR ks key with
 |none =>
  have hkn':=qx hka;rw[HKL.out]at hkn';have hR:=HRR.out;rw[hka]at hR
  simp only at hR
  subst hR;clear HRR hka
  rcases hkn' with h0|h0
  ·go_enter func40,ntmps40
   go_upto_region 1 with(fail);have hW':=HW.out;rw[hW',HGX.out];clear hW';go_wp2_with fail;go_ret;exact⟨HK.out,rfl⟩
  ·have h1:¬key < 0:=by omega
   go_enter func40,ntmps40
   go_upto_region 1 with(fail);have hW':=HW.out;rw[hW',HGX.out];clear hW';go_wp2_with fail;go_ret;exact⟨HK.out,rfl⟩
 |some p =>
  obtain⟨k0,k1,k2⟩:=kj hka;rw[HKL.out]at k1;obtain⟨i,rfl⟩:=Int.eq_ofNat_of_zero_le k0;rw[Int.toNat_natCast]at k1 k2;have hR:=HRR.out;rw[hka]at hR;simp only[Int.toNat_natCast]at hR;have HR1:=hid hR
  have hlt':(i:Int) < (kn:Int):=by omega
  have h0':¬(i:Int) < 0:=by omega
  obtain⟨b,off,rfl,hc⟩:=(HKS.out.kept (fun _ _ h=>PssR.kept h HK.out) HK.out).at_ (by have:=HKL.out;omega);obtain⟨cp,p1,p2,p3⟩:=hc i p k2;have hpz:=HKZ.out p (List.mem_of_getElem? k2);obtain⟨pv,pg,rfl,hpr,_⟩:=p2;have CV:=fun(w':World) (k:Kept [] W w')=>gD (at_:=at_) (vg:=pg) (hpr.kept k) (by have:=HAX.out.kept (HK.out.trans k);rw[<-HAN.out]at this;exact this) hpz.1 hpz.2.1 (by rw[HAN.out];exact hal) hpz.2.2 (HE.out.kept0 (HK.out.trans k));rw[HAN.out]at CV;obtain⟨pa,pc,rfl,_,_⟩:=hpr.form;obtain⟨pn,hpn⟩:∃n,p.attrs.length=n:=⟨_,rfl⟩;rw[hpn]at CV p3;have q0:W.cell? ⟨b,off+i*4,none⟩=some (.string ⟨p.name.toArray⟩):=p3 0 _ (by decide) rfl;have q1:W.cell? ⟨b,off+i*4+1,none⟩=some (.int .i64 p.pub):=p3 1 _ (by decide) rfl;have q2:W.cell? ⟨b,off+i*4+2,none⟩=some (.slice pa pn pc):=p3 2 _ (by decide) rfl;have q3:W.cell? ⟨b,off+i*4+3,none⟩=some pg:=p3 3 _ (by decide) rfl;have CVH:=hid CV;have HPN:=hid hpn;clear hc p1 p3 hpz hpr hpn k2 hR HRR hka CV
  go_enter func40,ntmps40
  go_upto_region 1 with(fail);have hW':=HW.out;rw[hW',HGX.out];clear hW';go_upto_region 3 with(fail);have s0:∀w',Kept [] W w'->w'.cell? ⟨gx,0,none⟩=some (.int .i64 (i:Int)):=Kept.cellOf c0;have s1:∀w',Kept [] W w'->w'.cell? ⟨gx,1,none⟩=some (.slice aa an ac):=Kept.cellOf c1;have r0:∀w',Kept [] W w'->w'.cell? ⟨b,off+i*4,none⟩=some (.string ⟨p.name.toArray⟩):=Kept.cellOf q0;have r1:∀w',Kept [] W w'->w'.cell? ⟨b,off+i*4+1,none⟩=some (.int .i64 p.pub):=Kept.cellOf q1;have r2:∀w',Kept [] W w'->w'.cell? ⟨b,off+i*4+2,none⟩=some (.slice pa pn pc):=Kept.cellOf q2;have r3:∀w',Kept [] W w'->w'.cell? ⟨b,off+i*4+3,none⟩=some pg:=Kept.cellOf q3;clear c0 c1 q0 q1 q2 q3;refine ar [] (fun w'=>Kept [] W w') (by kernel_rfl) (Kept.refl _ _).drew (fun hH=>?_);refine ah [] (i:=0) (v:=?tv0) rfl (by kernel_rfl) (by kernel_rfl) (by kernel_rfl) (by kernel_rfl) (fun _ _ _ h=>h) (Or.inl ⟨by rfl,?ty0⟩) hH ?tr0
  case ty0=>intro w' hSw;(try dsimp only at hSw);go_simp;first|done|with_reducible rfl
  simp only[Act.put,List.setIfInBounds_toArray,List.set_cons_zero,List.set_cons_succ];refine ah [] (i:=1) (v:=?tv1) rfl (by kernel_rfl) (by kernel_rfl) (by kernel_rfl) (by kernel_rfl) (fun _ _ _ h=>h) (Or.inl ⟨by rfl,?ty1⟩) hH ?tr1
  case ty1=>intro w' hSw;(try dsimp only at hSw);go_simp;first|done|with_reducible rfl
  simp only[Act.put,List.setIfInBounds_toArray,List.set_cons_zero,List.set_cons_succ];refine ah [] (i:=2) (v:=?tv2) rfl (by kernel_rfl) (by kernel_rfl) (by kernel_rfl) (by kernel_rfl) (fun _ _ _ h=>h) (Or.inl ⟨by rfl,?ty2⟩) hH ?tr2
  case ty2=>intro w' hSw;(try dsimp only at hSw);go_simp;first|done|with_reducible rfl
  simp only[Act.put,List.setIfInBounds_toArray,List.set_cons_zero,List.set_cons_succ];refine ah [] (i:=3) (v:=?tv3) rfl (by kernel_rfl) (by kernel_rfl) (by kernel_rfl) (by kernel_rfl) (fun _ _ _ h=>h) (Or.inl ⟨by rfl,?ty3⟩) hH ?tr3
  case ty3=>intro w' hSw;(try dsimp only at hSw);go_simp;first|done|with_reducible rfl
  simp only[Act.put,List.setIfInBounds_toArray,List.set_cons_zero,List.set_cons_succ];refine ah [] (i:=4) (v:=?tv4) rfl (by kernel_rfl) (by kernel_rfl) (by kernel_rfl) (by kernel_rfl) (fun _ _ _ h=>h) (Or.inl ⟨by rfl,?ty4⟩) hH ?tr4
  case ty4=>intro w' hSw;(try dsimp only at hSw);go_simp;first|done|with_reducible rfl
  simp only[Act.put,List.setIfInBounds_toArray,List.set_cons_zero,List.set_cons_succ];refine ah [] (i:=5) (v:=?tv5) rfl (by kernel_rfl) (by kernel_rfl) (by kernel_rfl) (by kernel_rfl) (fun _ _ _ h=>h) (Or.inl ⟨by rfl,?ty5⟩) hH ?tr5
  case ty5=>intro w' hSw;(try dsimp only at hSw);go_simp;first|done|with_reducible rfl
  simp only[Act.put,List.setIfInBounds_toArray,List.set_cons_zero,List.set_cons_succ];refine ah [] (i:=6) (v:=?tv6) rfl (by kernel_rfl) (by kernel_rfl) (by kernel_rfl) (by kernel_rfl) (fun _ _ _ h=>h) (Or.inl ⟨by rfl,?ty6⟩) hH ?tr6
  case ty6=>intro w' hSw;(try dsimp only at hSw);go_simp;first|done|with_reducible rfl
  simp only[Act.put,List.setIfInBounds_toArray,List.set_cons_zero,List.set_cons_succ];refine ah [] (i:=7) (v:=?tv7) rfl (by kernel_rfl) (by kernel_rfl) (by kernel_rfl) (by kernel_rfl) (fun _ _ _ h=>h) (Or.inl ⟨by rfl,?ty7⟩) hH ?tr7
  case ty7=>intro w' hSw;(try dsimp only at hSw);go_simp;first|done|with_reducible rfl
  simp only[Act.put,List.setIfInBounds_toArray,List.set_cons_zero,List.set_cons_succ];refine ai (rs:=[8]) (by kernel_rfl) (by simp) ?_;refine ae.cons rfl (fun K hK=>?_) ae.nil;go_simp;refine(CVH.out _ hH).mono ?_;rintro e w5 ⟨k5,hv⟩
  have hve:∃oa n oc c,e=.returned (.tuple #[.slice oa n oc,.int .i64 c])/\((c≠0/\dv p at_=.error c)\/(c=0/\∃l,dv p at_=.ok l/\l.length=n/\aj dE 2 w5 (.slice oa n oc) l)):=by
   cases hvb:dv p at_ with
   |error c =>
    rw[hvb]at hv;exact⟨none,0,0,c,hv,Or.inl ⟨by rcases vals_err hvb with rfl|rfl <;> decide,rfl⟩⟩
   |ok l =>
    rw[hvb]at hv;obtain⟨v,rfl,hown⟩:=hv;have hl:=mD hvb;have hr:=mu hown (by omega);obtain⟨oa,oc,rfl,_,_⟩:=aj.form hr;exact⟨oa,l.length,oc,0,rfl,Or.inr ⟨rfl,l,rfl,rfl,hr⟩⟩
  obtain⟨oa,n,oc,c,rfl,hve⟩:=hve;have HVE:=hid hve;have KW5:=hid (hH.trans k5);refine hK.out _ _ (hH.trans k5) (fun hH=>?_);clear hK K hve hv k5
  (try simp only[Act.put,List.setIfInBounds_toArray,List.set_cons_zero,List.set_cons_succ])
  refine ah [] (i:=9) (v:=?tv9) rfl (by kernel_rfl) (by kernel_rfl) (by kernel_rfl) (by kernel_rfl) (fun _ _ _ h=>h) (Or.inl ⟨by rfl,?ty9⟩) hH ?tr9
  case ty9=>intro w' hSw;(try dsimp only at hSw);go_simp;first|done|with_reducible rfl
  simp only[Act.put,List.setIfInBounds_toArray,List.set_cons_zero,List.set_cons_succ];refine ah [] (i:=10) (v:=?tv10) rfl (by kernel_rfl) (by kernel_rfl) (by kernel_rfl) (by kernel_rfl) (fun _ _ _ h=>h) (Or.inl ⟨by rfl,?ty10⟩) hH ?tr10
  case ty10=>intro w' hSw;(try dsimp only at hSw);go_simp;first|done|with_reducible rfl
  simp only[Act.put,List.setIfInBounds_toArray,List.set_cons_zero,List.set_cons_succ];refine ah [] (i:=11) (v:=?tv11) rfl (by kernel_rfl) (by kernel_rfl) (by kernel_rfl) (by kernel_rfl) (fun _ _ _ h=>h) (Or.inl ⟨by rfl,?ty11⟩) hH ?tr11
  case ty11=>intro w' hSw;(try dsimp only at hSw);go_simp;first|done|with_reducible rfl
  simp only[Act.put,List.setIfInBounds_toArray,List.set_cons_zero,List.set_cons_succ];refine ah [] (i:=12) (v:=?tv12) rfl (by kernel_rfl) (by kernel_rfl) (by kernel_rfl) (by kernel_rfl) (fun _ _ _ h=>h) (Or.inl ⟨by rfl,?ty12⟩) hH ?tr12
  case ty12=>intro w' hSw;(try dsimp only at hSw);go_simp;first|done|with_reducible rfl
  simp only[Act.put,List.setIfInBounds_toArray,List.set_cons_zero,List.set_cons_succ];refine ah [] (i:=13) (v:=?tv13) rfl (by kernel_rfl) (by kernel_rfl) (by kernel_rfl) (by kernel_rfl) (fun _ _ _ h=>h) (Or.inl ⟨by rfl,?ty13⟩) hH ?tr13
  case ty13=>intro w' hSw;(try dsimp only at hSw);go_simp;first|done|with_reducible rfl
  simp only[Act.put,List.setIfInBounds_toArray,List.set_cons_zero,List.set_cons_succ];refine ak (by kernel_rfl) ?_ _;have hb5:=HB.out.kept KW5.out (by simp);have d0:w5.cell? ⟨gx,0,none⟩=some (.int .i64 (i:Int)):=hb5.cell 0;have d1:w5.cell? ⟨gx,1,none⟩=some (.slice aa an ac):=hb5.cell 1;clear s0 s1 r0 r1 r2 r3 hH CVH hb5
  rcases HVE.out with⟨hc0,hvb⟩|⟨rfl,l,hvb,hln,hrow⟩
  ·have hR:=HR1.out;rw[hvb]at hR
   simp only at hR
   subst hR;go_wp2_with fail;go_ret;exact⟨HK.out.trans KW5.out,rfl⟩
  have hR:=HR1.out;rw[hvb]at hR
  simp only at hR
  have HR2:=hid hR;obtain⟨v1,v2,v3,v4⟩:=mD hvb
  obtain⟨a0,rest,rfl⟩:∃a r,at_=a::r:=by
   cases at_ with
   |nil=>simp at v1
   |cons a r=>exact⟨a,r,rfl⟩
  obtain⟨ab,aoff,rfl,hac⟩:=(HAX.out.kept (HK.out.trans KW5.out)).at_ (by have:=HAN.out;simp at this;omega);have q0:w5.cell? ⟨ab,aoff,none⟩=some (.int .i64 a0):=hac 0 _ rfl
  have han0:(0:Int) < (an:Int):=by have:=HAN.out;simp at this;omega
  have wfa0:(Lit.int .i64 a0).wf=true:=HWF.out a0 (by simp);have HV:=hid v4
  have hn6:n<=5:=by omega
  have hR2:addN kn P i a0 l=R:=hR;have HR2:=hid hR2;have HLN:=hid hln;have HROW:=hid hrow;have HC5:=hid (HC.out.kept KW5.out);have HB5:=hid (HB.out.kept KW5.out (by simp));clear hR hR2 HR1 HVE hvb v1 v2 v3 v4 hac hln hrow
  by_cases h1:a0 < 1
  ·have hR:=HR2.out
   unfold addN at hR
   rw[if_pos h1]at hR;subst hR;go_wp2_with fail;go_ret;exact⟨HK.out.trans KW5.out,rfl⟩
  have g0:w5.cell? ⟨g,0,none⟩=some (.map (some bv)):=HC5.out.blk.cell 0;have hmv:=HC5.out.mv;obtain⟨mo,hmo⟩:∃mo:Option Nat,((findC P a0).map fun _=>V a0)=mo:=⟨_,rfl⟩
  have hmo2:((findC P a0).map fun _=>Value.map (some (V a0))).getD (.map none)=.map mo:=by rw[<-hmo];cases findC P a0 <;> rfl
  have HMO:=hid hmo;clear hmo hmv
  go_upto_if 54 with(first
   |(at_lookup;refine aX (E:=aM) HC5.out.mv (x:=a0) wfa0 rfl _ _ 94 142 rfl underlying94 (.map none) js rfl rfl ?_;rw[hmo2])
   |go_in)
  clear hmo2
  go_cut [10] (fun v wx=>∃vb V' T',v=.map (some vb)/\Kept [bv,bt] w5 wx/\Cit W0.heap.size wx g bv bt (N+1) kn V' T' (upd (findC P) a0 (czOf kn P a0))/\V' a0=vb)
  case first =>
   cases mo with
   |some b =>
    go_wp2_with fail
    go_meet
    case rel =>
     have hmo:=HMO.out
     obtain⟨c0,hc0⟩:∃c,findC P a0=some c:=by
      cases h:findC P a0 with
      |none=>rw[h]at hmo;cases hmo
      |some c=>exact⟨c,rfl⟩
     rw[hc0]at hmo;injection hmo with hmo;refine⟨b,V,T,rfl,Kept.refl _ _,?_,hmo⟩;rw[show czOf kn P a0=c0 by unfold czOf;rw[hc0];rfl,tQ hc0];exact HC5.out.mono (by omega)
   |none =>
    go_upto_region 12 with(fail)
    have hnone:findC P a0=none:=by
     have:=HMO.out
     cases h:findC P a0 with
     |none=>rfl
     |some c=>rw[h]at this;cases this
    obtain⟨vn,hvn⟩:∃y,w5.heap.size=y:=⟨_,rfl⟩;obtain⟨w11,hw11⟩:∃y,w5.alloc (.map #[] 0)=y:=⟨_,rfl⟩;have hmk:am aC w11 vn 0 (fun _=>none):=hvn▸hw11▸am.made (E:=aC) w5;have k11:Kept [] w5 w11:=hw11▸(Kept.refl _ _).alloc _;have hC11:=HC5.out.kept k11;have hbvt:bv≠bt:=hC11.low.2.2.2
    have lbv:bv < vn:=by rw[<-hvn];exact HC5.out.mv.lt
    have lbt:bt < vn:=by rw[<-hvn];exact HC5.out.mt.lt
    have ng:g∉[bv,bt]:=by
     have e1:=hC11.mv.ne_blk hC11.blk;have e2:=hC11.mt.ne_blk hC11.blk;simp only[List.mem_cons,List.not_mem_nil,or_false,not_or];exact⟨Ne.symm e1,Ne.symm e2⟩
    have s0:∀w',Kept [bv,bt] w11 w'->w'.cell? ⟨g,0,none⟩=some (.map (some bv)):=fun w' k=>(hC11.blk.kept k ng).cell 0;have s1:∀w',Kept [bv,bt] w11 w'->w'.cell? ⟨g,1,none⟩=some (.map (some bt)):=fun w' k=>(hC11.blk.kept k ng).cell 1;have MA0:am aM w11.drew bv N (fun x=>(findC P x).map fun _=>Value.map (some (V x))):=hC11.mv.kept (Kept.refl [] w11).drew (by simp);have MB0:am aM w11.drew bt N (fun x=>(findC P x).map fun _=>Value.slice (some ⟨T x,0,none⟩) kn kn):=hC11.mt.kept (Kept.refl [] w11).drew (by simp);have HVN:=hid hmk
    have hfin:∀(w':World) (tb:Nat),Kept [bv,bt] w11 w'->vn < tb->am aM w' bv (N+1) (fun y=>if y=a0 then some (Value.map (some vn))else(fun x=>(findC P x).map fun _=>Value.map (some (V x))) y)->am aM w' bt (N+1) (fun y=>if y=a0 then some (Value.slice (some ⟨tb,0,none⟩) kn kn)else(fun x=>(findC P x).map fun _=>Value.slice (some ⟨T x,0,none⟩) kn kn) y)->Blk w' tb 3 (ints (List.replicate kn 0)).toArray ->
      ∃vb V' T',Value.map (some vn)=.map (some vb)/\Kept [bv,bt] w5 w'/\Cit W0.heap.size w' g bv bt (N+1) kn V' T' (upd (findC P) a0 (czOf kn P a0))/\V' a0=vb:=fun w' tb k ht h1 h2 h4=>by
     have k':Kept [bv,bt] w5 w':=(k11.mono (fun _ _ h=>by simp at h)).trans k;refine⟨vn,fun x=>if x=a0 then vn else V x,fun x=>if x=a0 then tb else T x,rfl,k',?_,by simp⟩;rw[show czOf kn P a0=⟨a0,[],List.replicate kn 0⟩by unfold czOf;rw[hnone];rfl];exact HC5.out.new (HK.out.trans KW5.out).size k' (by omega) (by omega) h1 h2 ((hmk.kept k (by simp only[List.mem_cons,List.not_mem_nil,or_false,not_or];exact⟨by omega,by omega⟩)).mono (by omega)) h4 (by omega)
    have HFIN:=hid hfin;rw[hvn,hw11];clear hfin hmk hC11 k11 g0 hmm heqm hnone;refine ar [] (fun w'=>Kept [bv,bt] w11 w') (by kernel_rfl) (Kept.refl _ _).drew (fun hH=>?_);obtain⟨w12,hw12⟩:∃y,w11.drew=y:=⟨_,rfl⟩;rw[hw12]at hH MA0 MB0 ⊢;clear hw12;refine ah [] (i:=0) (v:=?tv0r) rfl (by kernel_rfl) (by kernel_rfl) (by kernel_rfl) (by kernel_rfl) (fun _ _ _ h=>h) (Or.inl ⟨by rfl,?ty0r⟩) hH ?tr0r
    case ty0r=>intro w' hSw;(try dsimp only at hSw);go_simp;first|done|with_reducible rfl
    simp only[Act.put,List.setIfInBounds_toArray,List.set_cons_zero,List.set_cons_succ];refine ah [] (i:=1) (v:=?tv1r) rfl (by kernel_rfl) (by kernel_rfl) (by kernel_rfl) (by kernel_rfl) (fun _ _ _ h=>h) (Or.inl ⟨by rfl,?ty1r⟩) hH ?tr1r
    case ty1r=>intro w' hSw;(try dsimp only at hSw);go_simp;first|done|with_reducible rfl
    simp only[Act.put,List.setIfInBounds_toArray,List.set_cons_zero,List.set_cons_succ];refine ah [] (i:=2) (v:=?tv2r) rfl (by kernel_rfl) (by kernel_rfl) (by kernel_rfl) (by kernel_rfl) (fun _ _ _ h=>h) (Or.inl ⟨by rfl,?ty2r⟩) hH ?tr2r
    case ty2r=>intro w' hSw;(try dsimp only at hSw);go_simp;first|done|with_reducible rfl
    simp only[Act.put,List.setIfInBounds_toArray,List.set_cons_zero,List.set_cons_succ];refine ah [] (i:=3) (v:=?tv3r) rfl (by kernel_rfl) (by kernel_rfl) (by kernel_rfl) (by kernel_rfl) (fun _ _ _ h=>h) (Or.inl ⟨by rfl,?ty3r⟩) hH ?tr3r
    case ty3r=>intro w' hSw;(try dsimp only at hSw);go_simp;first|done|with_reducible rfl
    simp only[Act.put,List.setIfInBounds_toArray,List.set_cons_zero,List.set_cons_succ];refine ah [] (i:=4) (v:=?tv4r) rfl (by kernel_rfl) (by kernel_rfl) (by kernel_rfl) (by kernel_rfl) (fun _ _ _ h=>h) (Or.inl ⟨by rfl,?ty4r⟩) hH ?tr4r
    case ty4r=>intro w' hSw;(try dsimp only at hSw);go_simp;first|done|with_reducible rfl
    simp only[Act.put,List.setIfInBounds_toArray,List.set_cons_zero,List.set_cons_succ];refine ah [] (i:=5) (v:=?tv5r) rfl (by kernel_rfl) (by kernel_rfl) (by kernel_rfl) (by kernel_rfl) (fun _ _ _ h=>h) (Or.inl ⟨by rfl,?ty5r⟩) hH ?tr5r
    case ty5r=>intro w' hSw;(try dsimp only at hSw);go_simp;first|done|with_reducible rfl
    simp only[Act.put,List.setIfInBounds_toArray,List.set_cons_zero,List.set_cons_succ];refine ah [] (i:=6) (v:=?tv6r) rfl (by kernel_rfl) (by kernel_rfl) (by kernel_rfl) (by kernel_rfl) (fun _ _ _ h=>h) (Or.inl ⟨by rfl,?ty6r⟩) hH ?tr6r
    case ty6r=>intro w' hSw;(try dsimp only at hSw);go_simp;first|done|with_reducible rfl
    simp only[Act.put,List.setIfInBounds_toArray,List.set_cons_zero,List.set_cons_succ];refine ah [] (i:=7) (v:=?tv7r) rfl (by kernel_rfl) (by kernel_rfl) (by kernel_rfl) (by kernel_rfl) (fun _ _ _ h=>h) (Or.inl ⟨by rfl,?ty7r⟩) hH ?tr7r
    case ty7r=>intro w' hSw;(try dsimp only at hSw);go_simp;first|done|with_reducible rfl
    simp only[Act.put,List.setIfInBounds_toArray,List.set_cons_zero,List.set_cons_succ];refine ah [] (i:=8) (v:=?tv8r) rfl (by kernel_rfl) (by kernel_rfl) (by kernel_rfl) (by kernel_rfl) (fun _ _ _ h=>h) (Or.inl ⟨by rfl,?ty8r⟩) hH ?tr8r
    case ty8r=>intro w' hSw;(try dsimp only at hSw);go_simp;first|done|with_reducible rfl
    simp only[Act.put,List.setIfInBounds_toArray,List.set_cons_zero,List.set_cons_succ];refine ah [] (i:=9) (v:=?tv9r) rfl (by kernel_rfl) (by kernel_rfl) (by kernel_rfl) (by kernel_rfl) (fun _ _ _ h=>h) (Or.inl ⟨by rfl,?ty9r⟩) hH ?tr9r
    case ty9r=>intro w' hSw;(try dsimp only at hSw);go_simp;first|done|with_reducible rfl
    simp only[Act.put,List.setIfInBounds_toArray,List.set_cons_zero,List.set_cons_succ];refine ah [] (i:=10) (v:=?tv10r) rfl (by kernel_rfl) (by kernel_rfl) (by kernel_rfl) (by kernel_rfl) (fun _ _ _ h=>h) (Or.inl ⟨by rfl,?ty10r⟩) hH ?tr10r
    case ty10r=>intro w' hSw;(try dsimp only at hSw);go_simp;first|done|with_reducible rfl
    simp only[Act.put,List.setIfInBounds_toArray,List.set_cons_zero,List.set_cons_succ];refine ah [] (i:=11) (v:=?tv11r) rfl (by kernel_rfl) (by kernel_rfl) (by kernel_rfl) (by kernel_rfl) (fun _ _ _ h=>h) (Or.inl ⟨by rfl,?ty11r⟩) hH ?tr11r
    case ty11r=>intro w' hSw;(try dsimp only at hSw);go_simp;first|done|with_reducible rfl
    simp only[Act.put,List.setIfInBounds_toArray,List.set_cons_zero,List.set_cons_succ];refine ah [] (i:=12) (v:=?tv12r) rfl (by kernel_rfl) (by kernel_rfl) (by kernel_rfl) (by kernel_rfl) (fun _ _ _ h=>h) (Or.inl ⟨by rfl,?ty12r⟩) hH ?tr12r
    case ty12r=>intro w' hSw;(try dsimp only at hSw);go_simp;first|done|with_reducible rfl
    simp only[Act.put,List.setIfInBounds_toArray,List.set_cons_zero,List.set_cons_succ];refine ai (rs:=[13,14]) (by kernel_rfl) (by simp) ?_;refine ae.cons rfl (fun K hK=>?_) (ae.cons rfl (fun K hK=>?_) ae.nil)
    ·skip
     have hms:=mS kn w12 hkn;go_simp;obtain⟨wmq13,hwmq13⟩:∃y,w12.alloc (.cells (ints (List.replicate kn 0)).toArray 3)=y:=⟨_,rfl⟩;rw[hwmq13];have kaq13:Kept [] w12 wmq13:=hwmq13▸(Kept.refl _ _).alloc _;have htq13:Blk wmq13 w12.heap.size 3 (ints (List.replicate kn 0)).toArray:=hwmq13▸Blk.new _ _ _
     have szq13:vn < w12.heap.size:=by have:=hH.size;have:=HVN.out.lt;omega
     obtain⟨tb,htb⟩:∃y,w12.heap.size=y:=⟨_,rfl⟩;rw[htb]at htq13 szq13 ⊢;refine hK.out _ _ (hH.trans (kaq13.mono (fun _ _ h=>by simp at h))) (fun hHq13=>?_);clear hK K hms
     (try simp only[Act.put,List.setIfInBounds_toArray,List.set_cons_zero,List.set_cons_succ])
     refine ai (rs:=[14]) (by kernel_rfl) (by simp) ?_;refine ae.cons rfl (fun K hK=>?_) ae.nil;obtain⟨v0,st,wnq1314,hrun,hgq1314,hsq1314,henq1314⟩:=am.entry (E:=aM) (MA0.kept kaq13 (by simp)) wfa0 underlying94 js (by unfold maxLen;omega);refine df rfl 70 rfl _ _ 94 rfl rfl rfl hrun ?_;have HSq1314:=hid hsq1314;clear hsq1314
     have lbq1314:bv < wnq1314.heap.size:=by rw[HSq1314.out];exact(MA0.kept kaq13 (by simp)).lt
     have kkq1314:Kept [bv,bt] wmq13 wnq1314:=Kept.of_turned hgq1314 (by simp);refine hK.out _ _ (hHq13.trans kkq1314) (fun hHq1314=>?_);clear hK K hrun
     (try simp only[Act.put,List.setIfInBounds_toArray,List.set_cons_zero,List.set_cons_succ])
     refine ah [] (i:=15) (v:=?tv15xq1314) rfl (by kernel_rfl) (by kernel_rfl) (by kernel_rfl) (by kernel_rfl) (fun _ _ _ h=>h) (Or.inl ⟨by rfl,?ty15xq1314⟩) hHq1314 ?tr15xq1314
     case ty15xq1314=>intro w' hSw;(try dsimp only at hSw);go_simp;first|done|with_reducible rfl
     simp only[Act.put,List.setIfInBounds_toArray,List.set_cons_zero,List.set_cons_succ];refine ai (rs:=[16]) (by kernel_rfl) (by simp) ?_;refine ae.cons rfl (fun K hK=>?_) ae.nil;obtain⟨wnq131416,hrun,hmq131416,hgq131416,hsq131416⟩:=henq1314 wnq1314 (.map (some vn)) rfl;refine de rfl rfl _ _ _ 94 rfl rfl rfl rfl hrun ?_;have HSq131416:=hid hsq131416;clear hsq131416;have kkq131416:Kept [bv,bt] wnq1314 wnq131416:=Kept.of_turned hgq131416 (by simp);refine hK.out _ _ (hHq1314.trans kkq131416) (fun hHq131416=>?_);clear hK K hrun
     (try simp only[Act.put,List.setIfInBounds_toArray,List.set_cons_zero,List.set_cons_succ])
     refine ai (rs:=[17]) (by kernel_rfl) (by simp) ?_;refine ae.cons rfl (fun K hK=>?_) ae.nil;obtain⟨v1,st2,wnq13141617,hrun,hgq13141617,hsq13141617,henq13141617⟩:=am.entry (E:=aM) (((MB0.kept kaq13 (by simp)).kept (S:=[bv]) (Kept.of_turned hgq1314 (by simp)) (by simpa using Ne.symm hbvt)).kept (S:=[bv]) (Kept.of_turned hgq131416 (by simp)) (by simpa using Ne.symm hbvt)) wfa0 underlying95 dP (by unfold maxLen;omega);refine df rfl 72 rfl _ _ 95 rfl rfl rfl hrun ?_;have HSq13141617:=hid hsq13141617;clear hsq13141617
     have lbq13141617:bt < wnq13141617.heap.size:=by rw[HSq13141617.out];exact(((MB0.kept kaq13 (by simp)).kept (S:=[bv]) (Kept.of_turned hgq1314 (by simp)) (by simpa using Ne.symm hbvt)).kept (S:=[bv]) (Kept.of_turned hgq131416 (by simp)) (by simpa using Ne.symm hbvt)).lt
     have kkq13141617:Kept [bv,bt] wnq131416 wnq13141617:=Kept.of_turned hgq13141617 (by simp);refine hK.out _ _ (hHq131416.trans kkq13141617) (fun hHq13141617=>?_);clear hK K hrun
     (try simp only[Act.put,List.setIfInBounds_toArray,List.set_cons_zero,List.set_cons_succ])
     refine ah [] (i:=18) (v:=?tv18xq13141617) rfl (by kernel_rfl) (by kernel_rfl) (by kernel_rfl) (by kernel_rfl) (fun _ _ _ h=>h) (Or.inl ⟨by rfl,?ty18xq13141617⟩) hHq13141617 ?tr18xq13141617
     case ty18xq13141617=>intro w' hSw;(try dsimp only at hSw);go_simp;first|done|with_reducible rfl
     simp only[Act.put,List.setIfInBounds_toArray,List.set_cons_zero,List.set_cons_succ];refine ai (rs:=[19]) (by kernel_rfl) (by simp) ?_;refine ae.cons rfl (fun K hK=>?_) ae.nil;obtain⟨wnq1314161719,hrun,hmq1314161719,hgq1314161719,hsq1314161719⟩:=henq13141617 wnq13141617 (.slice (some ⟨tb,0,none⟩) kn kn) rfl;refine de rfl rfl _ _ _ 95 rfl rfl rfl rfl hrun ?_;have HSq1314161719:=hid hsq1314161719;clear hsq1314161719;have kkq1314161719:Kept [bv,bt] wnq13141617 wnq1314161719:=Kept.of_turned hgq1314161719 (by simp);refine hK.out _ _ (hHq13141617.trans kkq1314161719) (fun hHq1314161719=>?_);clear hK K hrun
     (try simp only[Act.put,List.setIfInBounds_toArray,List.set_cons_zero,List.set_cons_succ])
     have bBq1314161719:=((((htq13.kept (S:=[bv]) (Kept.of_turned hgq1314 (by simp)) (by simp;omega)).kept (S:=[bv]) (Kept.of_turned hgq131416 (by simp)) (by simp;omega)).kept (S:=[bt]) (Kept.of_turned hgq13141617 (by simp)) (by simp;omega)).kept (S:=[bt]) (Kept.of_turned hgq1314161719 (by simp)) (by simp;omega));refine ak (by kernel_rfl) ?_ _;go_wp2_with fail
     go_meet
     case rel=>exact HFIN.out wnq1314161719 tb hHq1314161719 szq13 ((hmq131416.kept (S:=[bt]) (Kept.of_turned hgq13141617 (by simp)) (by simpa using hbvt)).kept (S:=[bt]) (Kept.of_turned hgq1314161719 (by simp)) (by simpa using hbvt)) hmq1314161719 bBq1314161719
    ·skip
     obtain⟨v0,st,wnq14,hrun,hgq14,hsq14,henq14⟩:=am.entry (E:=aM) MA0 wfa0 underlying94 js (by unfold maxLen;omega);refine df rfl 70 rfl _ _ 94 rfl rfl rfl hrun ?_;have HSq14:=hid hsq14;clear hsq14
     have lbq14:bv < wnq14.heap.size:=by rw[HSq14.out];exact MA0.lt
     have kkq14:Kept [bv,bt] w12 wnq14:=Kept.of_turned hgq14 (by simp);refine hK.out _ _ (hH.trans kkq14) (fun hHq14=>?_);clear hK K hrun
     (try simp only[Act.put,List.setIfInBounds_toArray,List.set_cons_zero,List.set_cons_succ])
     refine ah [] (i:=15) (v:=?tv15xq14) rfl (by kernel_rfl) (by kernel_rfl) (by kernel_rfl) (by kernel_rfl) (fun _ _ _ h=>h) (Or.inl ⟨by rfl,?ty15xq14⟩) hHq14 ?tr15xq14
     case ty15xq14=>intro w' hSw;(try dsimp only at hSw);go_simp;first|done|with_reducible rfl
     simp only[Act.put,List.setIfInBounds_toArray,List.set_cons_zero,List.set_cons_succ];refine ai (rs:=[13,16]) (by kernel_rfl) (by simp) ?_;refine ae.cons rfl (fun K hK=>?_) (ae.cons rfl (fun K hK=>?_) ae.nil)
     ·skip
      have hms:=mS kn wnq14 hkn;go_simp;obtain⟨wmq1413,hwmq1413⟩:∃y,wnq14.alloc (.cells (ints (List.replicate kn 0)).toArray 3)=y:=⟨_,rfl⟩;rw[hwmq1413];have kaq1413:Kept [] wnq14 wmq1413:=hwmq1413▸(Kept.refl _ _).alloc _;have htq1413:Blk wmq1413 wnq14.heap.size 3 (ints (List.replicate kn 0)).toArray:=hwmq1413▸Blk.new _ _ _
      have szq1413:vn < wnq14.heap.size:=by have:=hHq14.size;have:=HVN.out.lt;omega
      obtain⟨tb,htb⟩:∃y,wnq14.heap.size=y:=⟨_,rfl⟩;rw[htb]at htq1413 szq1413 ⊢
      have heq1413:wmq1413.heap[bv]?=wnq14.heap[bv]?:=by rw[<-hwmq1413];exact Below.heap_alloc _ _ _ lbq14
      have hnq1413:=fun(w2:World) (u:Value) (h:w2.heap[bv]?=wmq1413.heap[bv]?)=>henq14 w2 u (h.trans heq1413);refine hK.out _ _ (hHq14.trans (kaq1413.mono (fun _ _ h=>by simp at h))) (fun hHq1413=>?_);clear hK K hms
      (try simp only[Act.put,List.setIfInBounds_toArray,List.set_cons_zero,List.set_cons_succ])
      refine ai (rs:=[16]) (by kernel_rfl) (by simp) ?_;refine ae.cons rfl (fun K hK=>?_) ae.nil;obtain⟨wnq141316,hrun,hmq141316,hgq141316,hsq141316⟩:=hnq1413 wmq1413 (.map (some vn)) rfl;refine de rfl rfl _ _ _ 94 rfl rfl rfl rfl hrun ?_;have HSq141316:=hid hsq141316;clear hsq141316;have kkq141316:Kept [bv,bt] wmq1413 wnq141316:=Kept.of_turned hgq141316 (by simp);refine hK.out _ _ (hHq1413.trans kkq141316) (fun hHq141316=>?_);clear hK K hrun
      (try simp only[Act.put,List.setIfInBounds_toArray,List.set_cons_zero,List.set_cons_succ])
      refine ai (rs:=[17]) (by kernel_rfl) (by simp) ?_;refine ae.cons rfl (fun K hK=>?_) ae.nil;obtain⟨v1,st2,wnq14131617,hrun,hgq14131617,hsq14131617,henq14131617⟩:=am.entry (E:=aM) (((MB0.kept (S:=[bv]) (Kept.of_turned hgq14 (by simp)) (by simpa using Ne.symm hbvt)).kept kaq1413 (by simp)).kept (S:=[bv]) (Kept.of_turned hgq141316 (by simp)) (by simpa using Ne.symm hbvt)) wfa0 underlying95 dP (by unfold maxLen;omega);refine df rfl 72 rfl _ _ 95 rfl rfl rfl hrun ?_;have HSq14131617:=hid hsq14131617;clear hsq14131617
      have lbq14131617:bt < wnq14131617.heap.size:=by rw[HSq14131617.out];exact(((MB0.kept (S:=[bv]) (Kept.of_turned hgq14 (by simp)) (by simpa using Ne.symm hbvt)).kept kaq1413 (by simp)).kept (S:=[bv]) (Kept.of_turned hgq141316 (by simp)) (by simpa using Ne.symm hbvt)).lt
      have kkq14131617:Kept [bv,bt] wnq141316 wnq14131617:=Kept.of_turned hgq14131617 (by simp);refine hK.out _ _ (hHq141316.trans kkq14131617) (fun hHq14131617=>?_);clear hK K hrun
      (try simp only[Act.put,List.setIfInBounds_toArray,List.set_cons_zero,List.set_cons_succ])
      refine ah [] (i:=18) (v:=?tv18xq14131617) rfl (by kernel_rfl) (by kernel_rfl) (by kernel_rfl) (by kernel_rfl) (fun _ _ _ h=>h) (Or.inl ⟨by rfl,?ty18xq14131617⟩) hHq14131617 ?tr18xq14131617
      case ty18xq14131617=>intro w' hSw;(try dsimp only at hSw);go_simp;first|done|with_reducible rfl
      simp only[Act.put,List.setIfInBounds_toArray,List.set_cons_zero,List.set_cons_succ];refine ai (rs:=[19]) (by kernel_rfl) (by simp) ?_;refine ae.cons rfl (fun K hK=>?_) ae.nil;obtain⟨wnq1413161719,hrun,hmq1413161719,hgq1413161719,hsq1413161719⟩:=henq14131617 wnq14131617 (.slice (some ⟨tb,0,none⟩) kn kn) rfl;refine de rfl rfl _ _ _ 95 rfl rfl rfl rfl hrun ?_;have HSq1413161719:=hid hsq1413161719;clear hsq1413161719;have kkq1413161719:Kept [bv,bt] wnq14131617 wnq1413161719:=Kept.of_turned hgq1413161719 (by simp);refine hK.out _ _ (hHq14131617.trans kkq1413161719) (fun hHq1413161719=>?_);clear hK K hrun
      (try simp only[Act.put,List.setIfInBounds_toArray,List.set_cons_zero,List.set_cons_succ])
      have bBq1413161719:=(((htq1413.kept (S:=[bv]) (Kept.of_turned hgq141316 (by simp)) (by simp;omega)).kept (S:=[bt]) (Kept.of_turned hgq14131617 (by simp)) (by simp;omega)).kept (S:=[bt]) (Kept.of_turned hgq1413161719 (by simp)) (by simp;omega));refine ak (by kernel_rfl) ?_ _;go_wp2_with fail
      go_meet
      case rel=>exact HFIN.out wnq1413161719 tb hHq1413161719 szq1413 ((hmq141316.kept (S:=[bt]) (Kept.of_turned hgq14131617 (by simp)) (by simpa using hbvt)).kept (S:=[bt]) (Kept.of_turned hgq1413161719 (by simp)) (by simpa using hbvt)) hmq1413161719 bBq1413161719
     ·skip
      obtain⟨wnq1416,hrun,hmq1416,hgq1416,hsq1416⟩:=henq14 wnq14 (.map (some vn)) rfl;refine de rfl rfl _ _ _ 94 rfl rfl rfl rfl hrun ?_;have HSq1416:=hid hsq1416;clear hsq1416;have kkq1416:Kept [bv,bt] wnq14 wnq1416:=Kept.of_turned hgq1416 (by simp);refine hK.out _ _ (hHq14.trans kkq1416) (fun hHq1416=>?_);clear hK K hrun
      (try simp only[Act.put,List.setIfInBounds_toArray,List.set_cons_zero,List.set_cons_succ])
      refine ai (rs:=[13,17]) (by kernel_rfl) (by simp) ?_;refine ae.cons rfl (fun K hK=>?_) (ae.cons rfl (fun K hK=>?_) ae.nil)
      ·skip
       have hms:=mS kn wnq1416 hkn;go_simp;obtain⟨wmq141613,hwmq141613⟩:∃y,wnq1416.alloc (.cells (ints (List.replicate kn 0)).toArray 3)=y:=⟨_,rfl⟩;rw[hwmq141613];have kaq141613:Kept [] wnq1416 wmq141613:=hwmq141613▸(Kept.refl _ _).alloc _;have htq141613:Blk wmq141613 wnq1416.heap.size 3 (ints (List.replicate kn 0)).toArray:=hwmq141613▸Blk.new _ _ _
       have szq141613:vn < wnq1416.heap.size:=by have:=hHq1416.size;have:=HVN.out.lt;omega
       obtain⟨tb,htb⟩:∃y,wnq1416.heap.size=y:=⟨_,rfl⟩;rw[htb]at htq141613 szq141613 ⊢;refine hK.out _ _ (hHq1416.trans (kaq141613.mono (fun _ _ h=>by simp at h))) (fun hHq141613=>?_);clear hK K hms
       (try simp only[Act.put,List.setIfInBounds_toArray,List.set_cons_zero,List.set_cons_succ])
       refine ai (rs:=[17]) (by kernel_rfl) (by simp) ?_;refine ae.cons rfl (fun K hK=>?_) ae.nil;obtain⟨v1,st2,wnq14161317,hrun,hgq14161317,hsq14161317,henq14161317⟩:=am.entry (E:=aM) (((MB0.kept (S:=[bv]) (Kept.of_turned hgq14 (by simp)) (by simpa using Ne.symm hbvt)).kept (S:=[bv]) (Kept.of_turned hgq1416 (by simp)) (by simpa using Ne.symm hbvt)).kept kaq141613 (by simp)) wfa0 underlying95 dP (by unfold maxLen;omega);refine df rfl 72 rfl _ _ 95 rfl rfl rfl hrun ?_;have HSq14161317:=hid hsq14161317;clear hsq14161317
       have lbq14161317:bt < wnq14161317.heap.size:=by rw[HSq14161317.out];exact(((MB0.kept (S:=[bv]) (Kept.of_turned hgq14 (by simp)) (by simpa using Ne.symm hbvt)).kept (S:=[bv]) (Kept.of_turned hgq1416 (by simp)) (by simpa using Ne.symm hbvt)).kept kaq141613 (by simp)).lt
       have kkq14161317:Kept [bv,bt] wmq141613 wnq14161317:=Kept.of_turned hgq14161317 (by simp);refine hK.out _ _ (hHq141613.trans kkq14161317) (fun hHq14161317=>?_);clear hK K hrun
       (try simp only[Act.put,List.setIfInBounds_toArray,List.set_cons_zero,List.set_cons_succ])
       refine ah [] (i:=18) (v:=?tv18xq14161317) rfl (by kernel_rfl) (by kernel_rfl) (by kernel_rfl) (by kernel_rfl) (fun _ _ _ h=>h) (Or.inl ⟨by rfl,?ty18xq14161317⟩) hHq14161317 ?tr18xq14161317
       case ty18xq14161317=>intro w' hSw;(try dsimp only at hSw);go_simp;first|done|with_reducible rfl
       simp only[Act.put,List.setIfInBounds_toArray,List.set_cons_zero,List.set_cons_succ];refine ai (rs:=[19]) (by kernel_rfl) (by simp) ?_;refine ae.cons rfl (fun K hK=>?_) ae.nil;obtain⟨wnq1416131719,hrun,hmq1416131719,hgq1416131719,hsq1416131719⟩:=henq14161317 wnq14161317 (.slice (some ⟨tb,0,none⟩) kn kn) rfl;refine de rfl rfl _ _ _ 95 rfl rfl rfl rfl hrun ?_;have HSq1416131719:=hid hsq1416131719;clear hsq1416131719;have kkq1416131719:Kept [bv,bt] wnq14161317 wnq1416131719:=Kept.of_turned hgq1416131719 (by simp);refine hK.out _ _ (hHq14161317.trans kkq1416131719) (fun hHq1416131719=>?_);clear hK K hrun
       (try simp only[Act.put,List.setIfInBounds_toArray,List.set_cons_zero,List.set_cons_succ])
       have bBq1416131719:=((htq141613.kept (S:=[bt]) (Kept.of_turned hgq14161317 (by simp)) (by simp;omega)).kept (S:=[bt]) (Kept.of_turned hgq1416131719 (by simp)) (by simp;omega));refine ak (by kernel_rfl) ?_ _;go_wp2_with fail
       go_meet
       case rel=>exact HFIN.out wnq1416131719 tb hHq1416131719 szq141613 (((hmq1416.kept kaq141613 (by simp)).kept (S:=[bt]) (Kept.of_turned hgq14161317 (by simp)) (by simpa using hbvt)).kept (S:=[bt]) (Kept.of_turned hgq1416131719 (by simp)) (by simpa using hbvt)) hmq1416131719 bBq1416131719
      ·skip
       obtain⟨v1,st2,wnq141617,hrun,hgq141617,hsq141617,henq141617⟩:=am.entry (E:=aM) ((MB0.kept (S:=[bv]) (Kept.of_turned hgq14 (by simp)) (by simpa using Ne.symm hbvt)).kept (S:=[bv]) (Kept.of_turned hgq1416 (by simp)) (by simpa using Ne.symm hbvt)) wfa0 underlying95 dP (by unfold maxLen;omega);refine df rfl 72 rfl _ _ 95 rfl rfl rfl hrun ?_;have HSq141617:=hid hsq141617;clear hsq141617
       have lbq141617:bt < wnq141617.heap.size:=by rw[HSq141617.out];exact((MB0.kept (S:=[bv]) (Kept.of_turned hgq14 (by simp)) (by simpa using Ne.symm hbvt)).kept (S:=[bv]) (Kept.of_turned hgq1416 (by simp)) (by simpa using Ne.symm hbvt)).lt
       have kkq141617:Kept [bv,bt] wnq1416 wnq141617:=Kept.of_turned hgq141617 (by simp);refine hK.out _ _ (hHq1416.trans kkq141617) (fun hHq141617=>?_);clear hK K hrun
       (try simp only[Act.put,List.setIfInBounds_toArray,List.set_cons_zero,List.set_cons_succ])
       refine ah [] (i:=18) (v:=?tv18xq141617) rfl (by kernel_rfl) (by kernel_rfl) (by kernel_rfl) (by kernel_rfl) (fun _ _ _ h=>h) (Or.inl ⟨by rfl,?ty18xq141617⟩) hHq141617 ?tr18xq141617
       case ty18xq141617=>intro w' hSw;(try dsimp only at hSw);go_simp;first|done|with_reducible rfl
       simp only[Act.put,List.setIfInBounds_toArray,List.set_cons_zero,List.set_cons_succ];refine ai (rs:=[13]) (by kernel_rfl) (by simp) ?_;refine ae.cons rfl (fun K hK=>?_) ae.nil;have hms:=mS kn wnq141617 hkn;go_simp;obtain⟨wmq14161713,hwmq14161713⟩:∃y,wnq141617.alloc (.cells (ints (List.replicate kn 0)).toArray 3)=y:=⟨_,rfl⟩;rw[hwmq14161713];have kaq14161713:Kept [] wnq141617 wmq14161713:=hwmq14161713▸(Kept.refl _ _).alloc _;have htq14161713:Blk wmq14161713 wnq141617.heap.size 3 (ints (List.replicate kn 0)).toArray:=hwmq14161713▸Blk.new _ _ _
       have szq14161713:vn < wnq141617.heap.size:=by have:=hHq141617.size;have:=HVN.out.lt;omega
       obtain⟨tb,htb⟩:∃y,wnq141617.heap.size=y:=⟨_,rfl⟩;rw[htb]at htq14161713 szq14161713 ⊢
       have heq14161713:wmq14161713.heap[bt]?=wnq141617.heap[bt]?:=by rw[<-hwmq14161713];exact Below.heap_alloc _ _ _ lbq141617
       have hnq14161713:=fun(w2:World) (u:Value) (h:w2.heap[bt]?=wmq14161713.heap[bt]?)=>henq141617 w2 u (h.trans heq14161713);refine hK.out _ _ (hHq141617.trans (kaq14161713.mono (fun _ _ h=>by simp at h))) (fun hHq14161713=>?_);clear hK K hms
       (try simp only[Act.put,List.setIfInBounds_toArray,List.set_cons_zero,List.set_cons_succ])
       refine ai (rs:=[19]) (by kernel_rfl) (by simp) ?_;refine ae.cons rfl (fun K hK=>?_) ae.nil;obtain⟨wnq1416171319,hrun,hmq1416171319,hgq1416171319,hsq1416171319⟩:=hnq14161713 wmq14161713 (.slice (some ⟨tb,0,none⟩) kn kn) rfl;refine de rfl rfl _ _ _ 95 rfl rfl rfl rfl hrun ?_;have HSq1416171319:=hid hsq1416171319;clear hsq1416171319;have kkq1416171319:Kept [bv,bt] wmq14161713 wnq1416171319:=Kept.of_turned hgq1416171319 (by simp);refine hK.out _ _ (hHq14161713.trans kkq1416171319) (fun hHq1416171319=>?_);clear hK K hrun
       (try simp only[Act.put,List.setIfInBounds_toArray,List.set_cons_zero,List.set_cons_succ])
       have bBq1416171319:=(htq14161713.kept (S:=[bt]) (Kept.of_turned hgq1416171319 (by simp)) (by simp;omega));refine ak (by kernel_rfl) ?_ _;go_wp2_with fail
       go_meet
       case rel=>exact HFIN.out wnq1416171319 tb hHq1416171319 szq14161713 (((hmq1416.kept (S:=[bt]) (Kept.of_turned hgq141617 (by simp)) (by simpa using hbvt)).kept kaq14161713 (by simp)).kept (S:=[bt]) (Kept.of_turned hgq1416171319 (by simp)) (by simpa using hbvt)) hmq1416171319 bBq1416171319
  case rest =>
  obtain⟨vb,V',T',rfl,k7,hC7,hvb⟩:=hcut;have hcz:=oP HI.out a0;have hnum:=vw kn P a0;have hR3:=HR2.out
  unfold addN at hR3
  rw[if_neg h1]at hR3
  unfold oO at hR3
  obtain⟨c0,hc0⟩:∃c,czOf kn P a0=c:=⟨_,rfl⟩;rw[hc0]at hC7 hcz hnum hR3;obtain⟨z1,z2,z3,_⟩:=hcz
  have hF:upd (findC P) a0 c0 a0=some c0:=by unfold upd;rw[if_pos rfl]
  have hm7:am aC wc vb (N+1) (valV c0.vals):=hvb▸hC7.own a0 c0 hF
  have hrow7:=aj.kept_maps (w':=wc) HROW.out (fun _ _ h=>h) k7 (fun z hz=>by
   simp only[List.mem_cons,List.not_mem_nil,or_false]at hz
   rcases hz with rfl|rfl
   ·exact HC5.out.mv.isM
   ·exact HC5.out.mt.isM)
  have hb7:=HB5.out.kept k7 (by
   have e1:=HC5.out.mv.ne_blk HB5.out;have e2:=HC5.out.mt.ne_blk HB5.out;simp only[List.mem_cons,List.not_mem_nil,or_false,not_or]
   exact⟨Ne.symm e1,Ne.symm e2⟩)
  have kk7:Kept [] W0 wc:=(HK.out.trans KW5.out).fresh k7 (fun z hz=>by
   simp only[List.mem_cons,List.not_mem_nil,or_false]at hz
   rcases hz with rfl|rfl
   ·exact HC5.out.low.2.1
   ·exact HC5.out.low.2.2.1)
  have hvW:W0.heap.size<=vb:=hvb▸(hC7.lowc a0 c0 hF).1;have HVW:=hid hvW;have HR3:=hid hR3;have HM7:=hid hm7;have HC7:=hid hC7;have HB7:=hid hb7;have HROW7:=hid hrow7;have HK7:=hid kk7;have HF:=hid hF;have HZ:=hid (And.intro z1 z2);have HNUM:=hid hnum;have HC0:=hid hc0;have HVB:=hid hvb;have HH1:=hid h1;clear hR3 hm7 hC7 hb7 hrow7 kk7 k7 hF z1 z2 z3 hnum hc0 hvb HR2 HROW HB5 g0 hmm heqm HMO q0 d0 d1 hvW;go_wp2_with fail
  go_loopw [76] (fun v wr=>∃(j:Nat) (acc:List Bnd),j<=n/\v=.int .i64 j/\Kept [vb] wc wr/\am aC wr vb (N+1+j) (valV acc)/\aF put1 c0.vals (l.take j)=.ok acc) (fun v _=>n - (intOf v).toNat)
  case atStart=>exact⟨0,c0.vals,Nat.zero_le _,rfl,Kept.refl _ _,HM7.out,rfl⟩
  case round =>
   obtain⟨j,acc,hj,rfl,hkr,hmr,hfo⟩:=hrel;have HKR:=hid hkr;have HMR:=hid hmr;have HFO:=hid hfo
   by_cases hlt:j < n
   ·have hlt2:(j:Int) < (n:Int):=by omega
    obtain⟨b2,o2,rfl,hc⟩:=(aj.kept_maps (w':=wr) HROW7.out (fun _ _ h=>h) hkr (fun z hz=>by rw[List.mem_singleton]at hz;exact hz▸HM7.out.isM)).at_ (by have:=HLN.out;omega);obtain⟨q,hq⟩:∃a,l[j]?=some a:=⟨_,List.getElem?_eq_getElem (by have:=HLN.out;omega)⟩;obtain⟨cq,p1,p2,p3⟩:=hc j q hq;have hqv:=HV.out q (List.mem_of_getElem? hq);have hstep:=fe hq hfo;have hfail:=fun e h=>gQ (e:=e) hq hfo h
    unfold dE at p2
    subst p2;obtain⟨bs,y⟩:=q
    dsimp only at hqv p3 hstep hfail
    have hsl:bs.length<=maxLen:=by
     have:=mQ (s:=bs) (by unfold aR;rw[hqv.1];simp)
     unfold maxLen
     omega
    have y0:wr.cell? ⟨b2,o2+j*2,none⟩=some (.string ⟨bs.toArray⟩):=p3 0 _ (by decide) rfl;have y1:wr.cell? ⟨b2,o2+j*2+1,none⟩=some (.int .i64 y):=p3 1 _ (by decide) rfl;obtain⟨g2,hg2⟩:∃y,wr.heap.size=y:=⟨_,rfl⟩;obtain⟨wA,hwA⟩:∃x,wr.alloc (.cells #[.string ⟨bs.toArray⟩,.int .i64 y] 82)=x:=⟨_,rfl⟩;have kA:Kept [] wr wA:=hwA▸(Kept.refl _ _).alloc _;have hBA:Blk wA g2 82 #[.string ⟨bs.toArray⟩,.int .i64 y]:=hg2▸hwA▸Blk.new _ _ _;have x0:wA.cell? ⟨g2,0,none⟩=some (.string ⟨bs.toArray⟩):=hBA.cell 0;have x1:wA.cell? ⟨g2,1,none⟩=some (.int .i64 y):=hBA.cell 1;have hmA:=hmr.kept kA (by simp);have HMA:=hid hmA;have HWA:=hid hwA;have HG2:=hid hg2;have HKA:=hid ((HKR.out.trans (kA.mono (fun _ _ h=>by simp at h)):Kept [vb] wc wA));have HST:=hid hstep;have HFL:=hid hfail;clear hc hq p1 p3 hqv hstep hfail kA hBA hmA hwA hg2 hkr hmr hfo;go_upto_region 16 with(fail);rw[HG2.out];have hwA':=HWA.out;rw[hwA'];clear hwA' y0 y1
    have hNj:N+1+j < maxLen:=by unfold maxLen;omega
    have hKE:∀w6,Kept [vb] wA w6->Kept [] W0 w6:=fun w6 k=>HK7.out.fresh (HKA.out.trans k) (fun z hz=>by rw[List.mem_singleton]at hz;rw[hz];exact HVW.out);have HKE:=hid hKE;clear hKE
    cases hva:valOf acc bs with
    |some v0 =>
     have hvv:valV acc bs=some (.int .i64 v0):=by unfold valV;rw[hva];rfl
     by_cases hvy:v0=y
     ·subst hvy
      have hput:put1 acc (bs,v0)=.ok acc:=by unfold put1;rw[hva];simp
      have HPUT:=hid hput;have HVA:=hid hva;clear hput hva
      go_wp2_with (first
       |(at_lookup;refine bT (E:=aC) HMA.out (x:=bs) hsl rfl _ _ 142 3 rfl underlying142 (.int .i64 0) eQ rfl rfl ?_;rw[hvv];simp only[Option.getD_some,Option.isSome_some])
       |(at_mapUpdate;refine dQ (E:=aC) HMA.out (x:=bs) hsl rfl _ _ _ 142 3 rfl underlying142 hNj (.int .i64 v0) rfl rfl rfl ?_;intro w6 hm6 hg6 hs6;have HM6:=hid hm6;have HG6:=hid (Kept.of_turned (S:=[vb]) hg6 (List.mem_singleton_self vb));clear hm6 hg6 hs6)
       |go_in)
      go_roundw
      case rel =>
       refine⟨j+1,acc,by omega,by go_num,HKA.out.trans HG6.out,HM6.out.congr fun z _=>?_,by rw[HST.out];exact HPUT.out⟩
       by_cases e:z=bs
       ·rw[if_pos e,e];unfold valV;rw[HVA.out];rfl
       ·rw[if_neg e]
      case measure=>simp[intOf];omega
     ·have hput:put1 acc (bs,y)=.error 20:=by unfold put1;rw[hva];simp[hvy]
      have HPUT:=hid hput
      have hvy':(v0 != y)=true:=by simp[hvy]
      clear hput hva
      go_wp2_with (first
       |(at_lookup;refine bT (E:=aC) HMA.out (x:=bs) hsl rfl _ _ 142 3 rfl underlying142 (.int .i64 0) eQ rfl rfl ?_;rw[hvv];simp only[Option.getD_some,Option.isSome_some])
       |go_in)
      go_ret;refine⟨HKE.out _ (Kept.refl _ _),?_⟩;have hR3:=HR3.out;rw[HFL.out 20 HPUT.out]at hR3
      simp only at hR3
      subst hR3
      rfl
    |none =>
     have hvv:valV acc bs=none:=by unfold valV;rw[hva];rfl
     have hput:put1 acc (bs,y)=.ok (acc++[(bs,y)]):=by unfold put1;rw[hva]
     have HPUT:=hid hput;have HVA:=hid hva;clear hput hva
     go_wp2_with (first
      |(at_lookup;refine bT (E:=aC) HMA.out (x:=bs) hsl rfl _ _ 142 3 rfl underlying142 (.int .i64 0) eQ rfl rfl ?_;rw[hvv];simp only[Option.getD_none,Option.isSome_none])
      |(at_mapUpdate;refine dQ (E:=aC) HMA.out (x:=bs) hsl rfl _ _ _ 142 3 rfl underlying142 hNj (.int .i64 y) rfl rfl rfl ?_;intro w6 hm6 hg6 hs6;have HM6:=hid hm6;have HG6:=hid (Kept.of_turned (S:=[vb]) hg6 (List.mem_singleton_self vb));clear hm6 hg6 hs6)
      |go_in)
     go_roundw
     case rel =>
      refine⟨j+1,acc++[(bs,y)],by omega,by go_num,HKA.out.trans HG6.out,HM6.out.congr fun z _=>?_,by rw[HST.out];exact HPUT.out⟩
      show(valOf (acc++[(bs,y)]) z).map _=_
      rw[py]
      by_cases e:z=bs
      ·rw[if_pos e,e,HVA.out];simp
      ·rw[if_neg e]
       unfold valV
       simp only[Ne.symm e,if_false]
       cases valOf acc z <;> rfl
     case measure=>simp[intOf];omega
   ·obtain rfl:j=n:=by omega
    have hfo:=iS (by have:=HLN.out;omega) HFO.out;have hC8:=HC7.out.put HF.out (HVB.out▸hkr) (HVB.out▸hmr) (Nat.le_add_right _ _);rw[qT,HNUM.out]at hC8;obtain⟨tb,htb⟩:∃t,T' a0=t:=⟨_,rfl⟩
    have hF8:upd (findC P) a0 ⟨a0,acc,c0.tick⟩ a0=some ⟨a0,acc,c0.tick⟩:=by unfold upd;rw[if_pos rfl]
    have ht8:=(hC8.tick a0 _ hF8).1;rw[htb]at ht8
    dsimp only at ht8
    obtain⟨zl,zb⟩:=HZ.out
    have hil:i < c0.tick.length:=by omega
    obtain⟨t,ht⟩:∃t,c0.tick[i]=t:=⟨_,rfl⟩;have htz:=zb t (ht▸List.getElem_mem hil)
    have hgd:c0.tick.getD i 0=t:=by rw[List.getD_eq_getElem?_getD,List.getElem?_eq_getElem hil,ht];rfl
    have hbp:bump c0.tick i=c0.tick.set i (t+1):=by unfold bump;rw[hgd]
    have hgb:(bump c0.tick i).getD i 0=t+1:=by rw[pd hil,hgd]
    have hlook:∀w',Kept [] wr w'->(Instr.lookup 95 (.map (some bt)) (.int .i64 a0) false).run prog w'=.ok (.slice (some ⟨tb,0,none⟩) kn kn) w':=fun w' k=>by
     have:=(hC8.mt.kept k (by simp)).run_look (x:=a0) wfa0 underlying95 (.slice none 0 0) dP;rw[hF8,htb]at this;exact this
    have hbr:=HB7.out.kept hkr (by simpa using Ne.symm (HM7.out.ne_blk HB7.out));have s0:∀w',Kept [] wr w'->w'.cell? ⟨g,1,none⟩=some (.map (some bt)):=Kept.cellOf (hC8.blk.cell 1);have s1:∀w',Kept [] wr w'->w'.cell? ⟨gx,0,none⟩=some (.int .i64 (i:Int)):=Kept.cellOf (hbr.cell 0);have s2:∀w',Kept [] wr w'->w'.cell? ⟨tb,i,none⟩=some (.int .i64 t):=Kept.cellOf (by rw[ht8.cellI i hil,ht]);have s3:∀w',Kept [] wr w'->w'.frozen? ⟨tb,i,none⟩=false:=fun w' k=>(ht8.kept k (by simp)).frozen i
    have hw1:IntKind.i64.wrap (t+1)=t+1:=by rw[IntWalk.i64_left];unfold wrap64;omega
    have HC8:=hid hC8;have HT8:=hid ht8;have HBR:=hid hbr;have HFF:=hid hfo;have HF8:=hid hF8;have HTB:=hid htb;have HBP:=hid hbp;have HGB:=hid hgb;have HKRW:=hid (HK7.out.fresh hkr (fun z hz=>by rw[List.mem_singleton]at hz;rw[hz];exact HVW.out));have HZL:=hid zl;clear hfo hC8 hF8 ht8 hgd hbp hgb hbr hkr hmr htb zl zb hil ht;go_upto_region 21 with(fail);refine ar [12] (fun w'=>Kept [] wr w') (by kernel_rfl) (Kept.refl _ _).drew (fun hH=>?_);refine ah [12] (i:=0) (v:=?tv0u) rfl (by kernel_rfl) (by kernel_rfl) (by kernel_rfl) (by kernel_rfl) (fun _ _ _ h=>h) (Or.inl ⟨by rfl,?ty0u⟩) hH ?tr0u
    case ty0u=>intro w' hSw;(try dsimp only at hSw);go_simp;first|done|with_reducible rfl
    simp only[Act.put,List.setIfInBounds_toArray,List.set_cons_zero,List.set_cons_succ];refine ah [12] (i:=1) (v:=?tv1u) rfl (by kernel_rfl) (by kernel_rfl) (by kernel_rfl) (by kernel_rfl) (fun _ _ _ h=>h) (Or.inl ⟨by rfl,?ty1u⟩) hH ?tr1u
    case ty1u=>intro w' hSw;(try dsimp only at hSw);go_simp;first|done|with_reducible rfl
    simp only[Act.put,List.setIfInBounds_toArray,List.set_cons_zero,List.set_cons_succ];refine ah [12] (i:=2) (v:=?tv2u) rfl (by kernel_rfl) (by kernel_rfl) (by kernel_rfl) (by kernel_rfl) (fun _ _ _ h=>h) (Or.inl ⟨by rfl,?ty2u⟩) hH ?tr2u
    case ty2u=>intro w' hSw;(try dsimp only at hSw);go_simp;first|done|with_reducible rfl
    simp only[Act.put,List.setIfInBounds_toArray,List.set_cons_zero,List.set_cons_succ];refine ah [12] (i:=3) (v:=?tv3u) rfl (by kernel_rfl) (by kernel_rfl) (by kernel_rfl) (by kernel_rfl) (fun _ _ _ h=>h) (Or.inl ⟨by rfl,?ty3u⟩) hH ?tr3u
    case ty3u=>intro w' hSw;(try dsimp only at hSw);go_simp;first|done|with_reducible rfl
    simp only[Act.put,List.setIfInBounds_toArray,List.set_cons_zero,List.set_cons_succ];refine ah [12] (i:=4) (v:=?tv4u) rfl (by kernel_rfl) (by kernel_rfl) (by kernel_rfl) (by kernel_rfl) (fun _ _ _ h=>h) (Or.inl ⟨by rfl,?ty4u⟩) hH ?tr4u
    case ty4u=>intro w' hSw;(try dsimp only at hSw);go_simp;first|done|with_reducible rfl
    simp only[Act.put,List.setIfInBounds_toArray,List.set_cons_zero,List.set_cons_succ];refine ah [12] (i:=5) (v:=?tv5u) rfl (by kernel_rfl) (by kernel_rfl) (by kernel_rfl) (by kernel_rfl) (fun _ _ _ h=>h) (Or.inl ⟨by rfl,?ty5u⟩) hH ?tr5u
    case ty5u=>intro w' hSw;(try dsimp only at hSw);go_simp;first|done|with_reducible rfl
    simp only[Act.put,List.setIfInBounds_toArray,List.set_cons_zero,List.set_cons_succ];refine ah [12] (i:=6) (v:=?tv6u) rfl (by kernel_rfl) (by kernel_rfl) (by kernel_rfl) (by kernel_rfl) (fun _ _ _ h=>h) (Or.inl ⟨by rfl,?ty6u⟩) hH ?tr6u
    case ty6u=>intro w' hSw;(try dsimp only at hSw);go_simp;first|done|with_reducible rfl
    simp only[Act.put,List.setIfInBounds_toArray,List.set_cons_zero,List.set_cons_succ];refine ah [12] (i:=7) (v:=?tv7u) rfl (by kernel_rfl) (by kernel_rfl) (by kernel_rfl) (by kernel_rfl) (fun _ _ _ h=>h) (Or.inl ⟨by rfl,?ty7u⟩) hH ?tr7u
    case ty7u=>intro w' hSw;(try dsimp only at hSw);go_simp;first|done|with_reducible rfl
    simp only[Act.put,List.setIfInBounds_toArray,List.set_cons_zero,List.set_cons_succ];refine ah [12] (i:=8) (v:=?tv8u) rfl (by kernel_rfl) (by kernel_rfl) (by kernel_rfl) (by kernel_rfl) (fun _ _ _ h=>h) (Or.inl ⟨by rfl,?ty8u⟩) hH ?tr8u
    case ty8u=>intro w' hSw;(try dsimp only at hSw);go_simp;first|done|with_reducible rfl
    simp only[Act.put,List.setIfInBounds_toArray,List.set_cons_zero,List.set_cons_succ];refine ah [12] (i:=9) (v:=?tv9u) rfl (by kernel_rfl) (by kernel_rfl) (by kernel_rfl) (by kernel_rfl) (fun _ _ _ h=>h) (Or.inl ⟨by rfl,?ty9u⟩) hH ?tr9u
    case ty9u=>intro w' hSw;(try dsimp only at hSw);go_simp;first|done|with_reducible rfl
    simp only[Act.put,List.setIfInBounds_toArray,List.set_cons_zero,List.set_cons_succ];refine ah [12] (i:=10) (v:=?tv10u) rfl (by kernel_rfl) (by kernel_rfl) (by kernel_rfl) (by kernel_rfl) (fun _ _ _ h=>h) (Or.inl ⟨by rfl,?ty10u⟩) hH ?tr10u
    case ty10u=>intro w' hSw;(try dsimp only at hSw);go_simp;first|done|with_reducible rfl
    simp only[Act.put,List.setIfInBounds_toArray,List.set_cons_zero,List.set_cons_succ];refine ah [12] (i:=11) (v:=?tv11u) rfl (by kernel_rfl) (by kernel_rfl) (by kernel_rfl) (by kernel_rfl) (fun _ _ _ h=>h) (Or.inl ⟨by rfl,?ty11u⟩) hH ?tr11u
    case ty11u=>intro w' hSw;(try dsimp only at hSw);go_simp;first|done|with_reducible rfl
    simp only[Act.put,List.setIfInBounds_toArray,List.set_cons_zero,List.set_cons_succ];refine ai (rs:=[12]) (by kernel_rfl) (by simp) ?_;refine ae.last rfl (by kernel_rfl) (fun K hK=>?_);go_simp;refine hK.out _ _ ?_;clear hK K
    (try simp only[Act.put,List.setIfInBounds_toArray,List.set_cons_zero,List.set_cons_succ])
    refine ak (by kernel_rfl) ?_ _;obtain⟨w22,hw22⟩:∃y,(wr.setCell ⟨tb,i,none⟩ (.int .i64 (t+1))).drew=y:=⟨_,rfl⟩;rw[hw22];have k22:Kept [tb] wr w22:=hw22▸((Kept.refl _ _).setCell (Or.inl (by simp)) _).drew
    have hb22:Blk w22 tb 3 (ints (bump c0.tick i)).toArray:=by
     rw[HBP.out,<-hw22];exact(HT8.out.setI i (t+1)).drew
    have hC9:=HC8.out.ticked HF8.out (HTB.out▸k22) (HTB.out▸hb22) (by rw[oZ];exact HZL.out);rw[qT]at hC9
    dsimp only at hC9
    rw[show upd (findC P) a0 ⟨a0,acc,bump c0.tick i⟩=findC (setC P ⟨a0,acc,bump c0.tick i⟩)from vR P ⟨a0,acc,bump c0.tick i⟩]at hC9;obtain⟨P',hP'⟩:∃y,setC P ⟨a0,acc,bump c0.tick i⟩=y:=⟨_,rfl⟩;rw[hP']at hC9
    have hnd:(P'.map Cz.num).Nodup:=by rw[<-hP'];exact lK HI.out.nodup _
    have hwn:∀x∈P'.map Cz.num,aM.ok x:=fun x hx=>by
     obtain⟨c,hc,rfl⟩:=List.mem_map.1 hx;rw[<-hP']at hc
     rcases mem_setC.1 hc with⟨h,_⟩|rfl
     ·exact HNW.out c h
     ·exact wfa0
    have hmemP:∀x,(((findC P' x).map fun _=>Value.map (some (V' x))).isSome=true↔x∈P'.map Cz.num):=fun x=>by
     cases h:findC P' x with
     |none=>simp;exact fun c hc e=>kz h c hc e
     |some c=>simp;exact⟨c,ce h⟩
    have hlen:∀w',Kept [] w22 w'->(Builtin.len_ #[94] 3 #[.map (some bv)]).run prog w'=.ok (.int .i64 (P'.length:Int)) w':=fun w' k=>by
     have:=(hC9.mv.kept k (by simp)).run_len hnd hwn (fun x _=>hmemP x) underlying94 3
     rwa [List.length_map]at this
    have hlook2:∀w',Kept [] w22 w'->(Instr.lookup 95 (.map (some bt)) (.int .i64 a0) false).run prog w'=.ok (.slice (some ⟨tb,0,none⟩) kn kn) w':=fun w' k=>by
     have:=(hC9.mt.kept k (by simp)).run_look (x:=a0) wfa0 underlying95 (.slice none 0 0) dP
     have hf:findC P' a0=some ⟨a0,acc,bump c0.tick i⟩:=by
      rw[<-hP',lZ,if_pos rfl]
     rw[hf,HTB.out]at this;exact this
    have hb9:=HBR.out.kept k22 (by simpa using HBR.out.ne HT8.out (by decide));have s4:∀w',Kept [] w22 w'->w'.cell? ⟨g,0,none⟩=some (.map (some bv)):=Kept.cellOf (hC9.blk.cell 0);have s5:∀w',Kept [] w22 w'->w'.cell? ⟨g,1,none⟩=some (.map (some bt)):=Kept.cellOf (hC9.blk.cell 1);have s6:∀w',Kept [] w22 w'->w'.cell? ⟨gx,0,none⟩=some (.int .i64 (i:Int)):=Kept.cellOf (hb9.cell 0)
    have s7:∀w',Kept [] w22 w'->w'.cell? ⟨tb,i,none⟩=some (.int .i64 (t+1)):=Kept.cellOf (by
     have hq:=hb22;rw[HBP.out]at hq;rw[hq.cellI i (by rw[List.length_set];have:=HZL.out;omega)]
     simp)
    have hKF:Kept [] W0 w22:=HKRW.out.fresh k22 (fun z hz=>by rw[List.mem_singleton]at hz;rw[hz,<-HTB.out];exact(HC7.out.lowc a0 c0 HF.out).2.2.2.1);have hR3:=HR3.out;rw[HFF.out]at hR3
    simp only at hR3
    rw[hP',HGB.out]at hR3;have HKF:=hid hKF;have HC9:=hid hC9;have HR4:=hid hR3
    have hj5:N+1+j<=N+100:=by omega
    clear hlook s0 s1 s2 s3 hw1 k22 hb22 hnd hwn hmemP hb9 hKF hC9 hR3 hH hw22 hP' HR3
    by_cases hbig:64 < P'.length
    ·have hbig':(64:Int) < (P'.length:Int):=by omega
     have hR3:=HR4.out;rw[if_pos (Or.inl hbig)]at hR3;subst hR3;go_upto_region 22 with(fail);refine ar [] (fun w'=>Kept [] w22 w') (by kernel_rfl) (Kept.refl _ _).drew (fun hH=>?_);refine ah [] (i:=0) (v:=?tv0v) rfl (by kernel_rfl) (by kernel_rfl) (by kernel_rfl) (by kernel_rfl) (fun _ _ _ h=>h) (Or.inl ⟨by rfl,?ty0v⟩) hH ?tr0v
     case ty0v=>intro w' hSw;(try dsimp only at hSw);go_simp;first|done|with_reducible rfl
     simp only[Act.put,List.setIfInBounds_toArray,List.set_cons_zero,List.set_cons_succ];refine ah [] (i:=1) (v:=?tv1v) rfl (by kernel_rfl) (by kernel_rfl) (by kernel_rfl) (by kernel_rfl) (fun _ _ _ h=>h) (Or.inl ⟨by rfl,?ty1v⟩) hH ?tr1v
     case ty1v=>intro w' hSw;(try dsimp only at hSw);go_simp;first|done|with_reducible rfl
     simp only[Act.put,List.setIfInBounds_toArray,List.set_cons_zero,List.set_cons_succ];refine ah [] (i:=2) (v:=?tv2v) rfl (by kernel_rfl) (by kernel_rfl) (by kernel_rfl) (by kernel_rfl) (fun _ _ _ h=>h) (Or.inl ⟨by rfl,?ty2v⟩) hH ?tr2v
     case ty2v=>intro w' hSw;(try dsimp only at hSw);go_simp;first|done|with_reducible rfl
     simp only[Act.put,List.setIfInBounds_toArray,List.set_cons_zero,List.set_cons_succ];refine ah [] (i:=3) (v:=?tv3v) rfl (by kernel_rfl) (by kernel_rfl) (by kernel_rfl) (by kernel_rfl) (fun _ _ _ h=>h) (Or.inl ⟨by rfl,?ty3v⟩) hH ?tr3v
     case ty3v=>intro w' hSw;(try dsimp only at hSw);go_simp;first|done|with_reducible rfl
     simp only[Act.put,List.setIfInBounds_toArray,List.set_cons_zero,List.set_cons_succ];refine ah [] (i:=4) (v:=?tv4v) rfl (by kernel_rfl) (by kernel_rfl) (by kernel_rfl) (by kernel_rfl) (fun _ _ _ h=>h) (Or.inl ⟨by rfl,?ty4v⟩) hH ?tr4v
     case ty4v=>intro w' hSw;(try dsimp only at hSw);go_simp;first|done|with_reducible rfl
     simp only[Act.put,List.setIfInBounds_toArray,List.set_cons_zero,List.set_cons_succ];refine ah [] (i:=5) (v:=?tv5v) rfl (by kernel_rfl) (by kernel_rfl) (by kernel_rfl) (by kernel_rfl) (fun _ _ _ h=>h) (Or.inl ⟨by rfl,?ty5v⟩) hH ?tr5v
     case ty5v=>intro w' hSw;(try dsimp only at hSw);go_simp;first|done|with_reducible rfl
     simp only[Act.put,List.setIfInBounds_toArray,List.set_cons_zero,List.set_cons_succ];refine ah [] (i:=6) (v:=?tv6v) rfl (by kernel_rfl) (by kernel_rfl) (by kernel_rfl) (by kernel_rfl) (fun _ _ _ h=>h) (Or.inl ⟨by rfl,?ty6v⟩) hH ?tr6v
     case ty6v=>intro w' hSw;(try dsimp only at hSw);go_simp;first|done|with_reducible rfl
     simp only[Act.put,List.setIfInBounds_toArray,List.set_cons_zero,List.set_cons_succ];refine ah [] (i:=7) (v:=undef) rfl (by kernel_rfl) (by kernel_rfl) (by kernel_rfl) (by kernel_rfl) (fun _ _ _ h=>h) (Or.inr ⟨by rfl,rfl⟩) hH ?tr7v;simp only[Act.put,List.setIfInBounds_toArray,List.set_cons_zero,List.set_cons_succ];refine ah [] (i:=8) (v:=undef) rfl (by kernel_rfl) (by kernel_rfl) (by kernel_rfl) (by kernel_rfl) (fun _ _ _ h=>h) (Or.inr ⟨by rfl,rfl⟩) hH ?tr8v;simp only[Act.put,List.setIfInBounds_toArray,List.set_cons_zero,List.set_cons_succ];refine ah [] (i:=9) (v:=undef) rfl (by kernel_rfl) (by kernel_rfl) (by kernel_rfl) (by kernel_rfl) (fun _ _ _ h=>h) (Or.inr ⟨by rfl,rfl⟩) hH ?tr9v;simp only[Act.put,List.setIfInBounds_toArray,List.set_cons_zero,List.set_cons_succ];refine ah [] (i:=10) (v:=undef) rfl (by kernel_rfl) (by kernel_rfl) (by kernel_rfl) (by kernel_rfl) (fun _ _ _ h=>h) (Or.inr ⟨by rfl,rfl⟩) hH ?tr10v;simp only[Act.put,List.setIfInBounds_toArray,List.set_cons_zero,List.set_cons_succ];refine ah [] (i:=11) (v:=undef) rfl (by kernel_rfl) (by kernel_rfl) (by kernel_rfl) (by kernel_rfl) (fun _ _ _ h=>h) (Or.inr ⟨by rfl,rfl⟩) hH ?tr11v;simp only[Act.put,List.setIfInBounds_toArray,List.set_cons_zero,List.set_cons_succ];refine ah [] (i:=12) (v:=undef) rfl (by kernel_rfl) (by kernel_rfl) (by kernel_rfl) (by kernel_rfl) (fun _ _ _ h=>h) (Or.inr ⟨by rfl,rfl⟩) hH ?tr12v;simp only[Act.put,List.setIfInBounds_toArray,List.set_cons_zero,List.set_cons_succ]
     refine ah [] (i:=13) (v:=undef) rfl (by kernel_rfl) (by kernel_rfl) (by kernel_rfl) (by kernel_rfl) (fun _ _ _ h=>h) (Or.inr ⟨by rfl,rfl⟩) hH ?tr13v;simp only[Act.put,List.setIfInBounds_toArray,List.set_cons_zero,List.set_cons_succ];refine ah [] (i:=14) (v:=undef) rfl (by kernel_rfl) (by kernel_rfl) (by kernel_rfl) (by kernel_rfl) (fun _ _ _ h=>h) (Or.inr ⟨by rfl,rfl⟩) hH ?tr14v;simp only[Act.put,List.setIfInBounds_toArray,List.set_cons_zero,List.set_cons_succ];refine ah [] (i:=15) (v:=undef) rfl (by kernel_rfl) (by kernel_rfl) (by kernel_rfl) (by kernel_rfl) (fun _ _ _ h=>h) (Or.inr ⟨by rfl,rfl⟩) hH ?tr15v;simp only[Act.put,List.setIfInBounds_toArray,List.set_cons_zero,List.set_cons_succ];refine ah [] (i:=16) (v:=undef) rfl (by kernel_rfl) (by kernel_rfl) (by kernel_rfl) (by kernel_rfl) (fun _ _ _ h=>h) (Or.inr ⟨by rfl,rfl⟩) hH ?tr16v;simp only[Act.put,List.setIfInBounds_toArray,List.set_cons_zero,List.set_cons_succ];refine ah [] (i:=17) (v:=undef) rfl (by kernel_rfl) (by kernel_rfl) (by kernel_rfl) (by kernel_rfl) (fun _ _ _ h=>h) (Or.inr ⟨by rfl,rfl⟩) hH ?tr17v;simp only[Act.put,List.setIfInBounds_toArray,List.set_cons_zero,List.set_cons_succ];refine ah [] (i:=18) (v:=?tv18v) rfl (by kernel_rfl) (by kernel_rfl) (by kernel_rfl) (by kernel_rfl) (fun _ _ _ h=>h) (Or.inl ⟨by rfl,?ty18v⟩) hH ?tr18v
     case ty18v=>intro w' hSw;(try dsimp only at hSw);go_simp;first|done|with_reducible rfl
     simp only[Act.put,List.setIfInBounds_toArray,List.set_cons_zero,List.set_cons_succ];refine ak (by kernel_rfl) ?_ _;go_wp2_with fail;go_ret;exact⟨HKF.out.drew,rfl⟩
    ·have hbig':¬(64:Int) < (P'.length:Int):=by omega
     by_cases hmany:4096 < t+1
     ·have hR3:=HR4.out;rw[if_pos (Or.inr hmany)]at hR3;subst hR3;go_upto_region 22 with(fail);refine ar [] (fun w'=>Kept [] w22 w') (by kernel_rfl) (Kept.refl _ _).drew (fun hH=>?_);refine ah [] (i:=0) (v:=?tv0w) rfl (by kernel_rfl) (by kernel_rfl) (by kernel_rfl) (by kernel_rfl) (fun _ _ _ h=>h) (Or.inl ⟨by rfl,?ty0w⟩) hH ?tr0w
      case ty0w=>intro w' hSw;(try dsimp only at hSw);go_simp;first|done|with_reducible rfl
      simp only[Act.put,List.setIfInBounds_toArray,List.set_cons_zero,List.set_cons_succ];refine ah [] (i:=1) (v:=?tv1w) rfl (by kernel_rfl) (by kernel_rfl) (by kernel_rfl) (by kernel_rfl) (fun _ _ _ h=>h) (Or.inl ⟨by rfl,?ty1w⟩) hH ?tr1w
      case ty1w=>intro w' hSw;(try dsimp only at hSw);go_simp;first|done|with_reducible rfl
      simp only[Act.put,List.setIfInBounds_toArray,List.set_cons_zero,List.set_cons_succ];refine ah [] (i:=2) (v:=?tv2w) rfl (by kernel_rfl) (by kernel_rfl) (by kernel_rfl) (by kernel_rfl) (fun _ _ _ h=>h) (Or.inl ⟨by rfl,?ty2w⟩) hH ?tr2w
      case ty2w=>intro w' hSw;(try dsimp only at hSw);go_simp;first|done|with_reducible rfl
      simp only[Act.put,List.setIfInBounds_toArray,List.set_cons_zero,List.set_cons_succ];refine ah [] (i:=3) (v:=?tv3w) rfl (by kernel_rfl) (by kernel_rfl) (by kernel_rfl) (by kernel_rfl) (fun _ _ _ h=>h) (Or.inl ⟨by rfl,?ty3w⟩) hH ?tr3w
      case ty3w=>intro w' hSw;(try dsimp only at hSw);go_simp;first|done|with_reducible rfl
      simp only[Act.put,List.setIfInBounds_toArray,List.set_cons_zero,List.set_cons_succ];refine ah [] (i:=4) (v:=?tv4w) rfl (by kernel_rfl) (by kernel_rfl) (by kernel_rfl) (by kernel_rfl) (fun _ _ _ h=>h) (Or.inl ⟨by rfl,?ty4w⟩) hH ?tr4w
      case ty4w=>intro w' hSw;(try dsimp only at hSw);go_simp;first|done|with_reducible rfl
      simp only[Act.put,List.setIfInBounds_toArray,List.set_cons_zero,List.set_cons_succ];refine ah [] (i:=5) (v:=?tv5w) rfl (by kernel_rfl) (by kernel_rfl) (by kernel_rfl) (by kernel_rfl) (fun _ _ _ h=>h) (Or.inl ⟨by rfl,?ty5w⟩) hH ?tr5w
      case ty5w=>intro w' hSw;(try dsimp only at hSw);go_simp;first|done|with_reducible rfl
      simp only[Act.put,List.setIfInBounds_toArray,List.set_cons_zero,List.set_cons_succ];refine ah [] (i:=6) (v:=?tv6w) rfl (by kernel_rfl) (by kernel_rfl) (by kernel_rfl) (by kernel_rfl) (fun _ _ _ h=>h) (Or.inl ⟨by rfl,?ty6w⟩) hH ?tr6w
      case ty6w=>intro w' hSw;(try dsimp only at hSw);go_simp;first|done|with_reducible rfl
      simp only[Act.put,List.setIfInBounds_toArray,List.set_cons_zero,List.set_cons_succ];refine ah [] (i:=7) (v:=?tv7w) rfl (by kernel_rfl) (by kernel_rfl) (by kernel_rfl) (by kernel_rfl) (fun _ _ _ h=>h) (Or.inl ⟨by rfl,?ty7w⟩) hH ?tr7w
      case ty7w=>intro w' hSw;(try dsimp only at hSw);go_simp;first|done|with_reducible rfl
      simp only[Act.put,List.setIfInBounds_toArray,List.set_cons_zero,List.set_cons_succ];refine ah [] (i:=8) (v:=?tv8w) rfl (by kernel_rfl) (by kernel_rfl) (by kernel_rfl) (by kernel_rfl) (fun _ _ _ h=>h) (Or.inl ⟨by rfl,?ty8w⟩) hH ?tr8w
      case ty8w=>intro w' hSw;(try dsimp only at hSw);go_simp;first|done|with_reducible rfl
      simp only[Act.put,List.setIfInBounds_toArray,List.set_cons_zero,List.set_cons_succ];refine ah [] (i:=9) (v:=?tv9w) rfl (by kernel_rfl) (by kernel_rfl) (by kernel_rfl) (by kernel_rfl) (fun _ _ _ h=>h) (Or.inl ⟨by rfl,?ty9w⟩) hH ?tr9w
      case ty9w=>intro w' hSw;(try dsimp only at hSw);go_simp;first|done|with_reducible rfl
      simp only[Act.put,List.setIfInBounds_toArray,List.set_cons_zero,List.set_cons_succ];refine ah [] (i:=10) (v:=?tv10w) rfl (by kernel_rfl) (by kernel_rfl) (by kernel_rfl) (by kernel_rfl) (fun _ _ _ h=>h) (Or.inl ⟨by rfl,?ty10w⟩) hH ?tr10w
      case ty10w=>intro w' hSw;(try dsimp only at hSw);go_simp;first|done|with_reducible rfl
      simp only[Act.put,List.setIfInBounds_toArray,List.set_cons_zero,List.set_cons_succ];refine ah [] (i:=11) (v:=?tv11w) rfl (by kernel_rfl) (by kernel_rfl) (by kernel_rfl) (by kernel_rfl) (fun _ _ _ h=>h) (Or.inl ⟨by rfl,?ty11w⟩) hH ?tr11w
      case ty11w=>intro w' hSw;(try dsimp only at hSw);go_simp;first|done|with_reducible rfl
      simp only[Act.put,List.setIfInBounds_toArray,List.set_cons_zero,List.set_cons_succ];refine ah [] (i:=12) (v:=?tv12w) rfl (by kernel_rfl) (by kernel_rfl) (by kernel_rfl) (by kernel_rfl) (fun _ _ _ h=>h) (Or.inl ⟨by rfl,?ty12w⟩) hH ?tr12w
      case ty12w=>intro w' hSw;(try dsimp only at hSw);go_simp;first|done|with_reducible rfl
      simp only[Act.put,List.setIfInBounds_toArray,List.set_cons_zero,List.set_cons_succ];refine ah [] (i:=13) (v:=?tv13w) rfl (by kernel_rfl) (by kernel_rfl) (by kernel_rfl) (by kernel_rfl) (fun _ _ _ h=>h) (Or.inl ⟨by rfl,?ty13w⟩) hH ?tr13w
      case ty13w=>intro w' hSw;(try dsimp only at hSw);go_simp;first|done|with_reducible rfl
      simp only[Act.put,List.setIfInBounds_toArray,List.set_cons_zero,List.set_cons_succ];refine ah [] (i:=14) (v:=?tv14w) rfl (by kernel_rfl) (by kernel_rfl) (by kernel_rfl) (by kernel_rfl) (fun _ _ _ h=>h) (Or.inl ⟨by rfl,?ty14w⟩) hH ?tr14w
      case ty14w=>intro w' hSw;(try dsimp only at hSw);go_simp;first|done|with_reducible rfl
      simp only[Act.put,List.setIfInBounds_toArray,List.set_cons_zero,List.set_cons_succ];refine ah [] (i:=15) (v:=?tv15w) rfl (by kernel_rfl) (by kernel_rfl) (by kernel_rfl) (by kernel_rfl) (fun _ _ _ h=>h) (Or.inl ⟨by rfl,?ty15w⟩) hH ?tr15w
      case ty15w=>intro w' hSw;(try dsimp only at hSw);go_simp;first|done|with_reducible rfl
      simp only[Act.put,List.setIfInBounds_toArray,List.set_cons_zero,List.set_cons_succ];refine ah [] (i:=16) (v:=?tv16w) rfl (by kernel_rfl) (by kernel_rfl) (by kernel_rfl) (by kernel_rfl) (fun _ _ _ h=>h) (Or.inl ⟨by rfl,?ty16w⟩) hH ?tr16w
      case ty16w=>intro w' hSw;(try dsimp only at hSw);go_simp;first|done|with_reducible rfl
      simp only[Act.put,List.setIfInBounds_toArray,List.set_cons_zero,List.set_cons_succ];refine ah [] (i:=17) (v:=?tv17w) rfl (by kernel_rfl) (by kernel_rfl) (by kernel_rfl) (by kernel_rfl) (fun _ _ _ h=>h) (Or.inl ⟨by rfl,?ty17w⟩) hH ?tr17w
      case ty17w=>intro w' hSw;(try dsimp only at hSw);go_simp;first|done|with_reducible rfl
      simp only[Act.put,List.setIfInBounds_toArray,List.set_cons_zero,List.set_cons_succ];refine ah [] (i:=18) (v:=?tv18w) rfl (by kernel_rfl) (by kernel_rfl) (by kernel_rfl) (by kernel_rfl) (fun _ _ _ h=>h) (Or.inl ⟨by rfl,?ty18w⟩) hH ?tr18w
      case ty18w=>intro w' hSw;(try dsimp only at hSw);go_simp;first|done|with_reducible rfl
      simp only[Act.put,List.setIfInBounds_toArray,List.set_cons_zero,List.set_cons_succ];refine ak (by kernel_rfl) ?_ _;go_wp2_with fail;go_ret;exact⟨HKF.out.drew,rfl⟩
     ·have hR3:=HR4.out;rw[if_neg (by rw[not_or];exact⟨hbig,hmany⟩)]at hR3;subst hR3;go_upto_region 22 with(fail);refine ar [] (fun w'=>Kept [] w22 w') (by kernel_rfl) (Kept.refl _ _).drew (fun hH=>?_);refine ah [] (i:=0) (v:=?tv0x) rfl (by kernel_rfl) (by kernel_rfl) (by kernel_rfl) (by kernel_rfl) (fun _ _ _ h=>h) (Or.inl ⟨by rfl,?ty0x⟩) hH ?tr0x
      case ty0x=>intro w' hSw;(try dsimp only at hSw);go_simp;first|done|with_reducible rfl
      simp only[Act.put,List.setIfInBounds_toArray,List.set_cons_zero,List.set_cons_succ];refine ah [] (i:=1) (v:=?tv1x) rfl (by kernel_rfl) (by kernel_rfl) (by kernel_rfl) (by kernel_rfl) (fun _ _ _ h=>h) (Or.inl ⟨by rfl,?ty1x⟩) hH ?tr1x
      case ty1x=>intro w' hSw;(try dsimp only at hSw);go_simp;first|done|with_reducible rfl
      simp only[Act.put,List.setIfInBounds_toArray,List.set_cons_zero,List.set_cons_succ];refine ah [] (i:=2) (v:=?tv2x) rfl (by kernel_rfl) (by kernel_rfl) (by kernel_rfl) (by kernel_rfl) (fun _ _ _ h=>h) (Or.inl ⟨by rfl,?ty2x⟩) hH ?tr2x
      case ty2x=>intro w' hSw;(try dsimp only at hSw);go_simp;first|done|with_reducible rfl
      simp only[Act.put,List.setIfInBounds_toArray,List.set_cons_zero,List.set_cons_succ];refine ah [] (i:=3) (v:=?tv3x) rfl (by kernel_rfl) (by kernel_rfl) (by kernel_rfl) (by kernel_rfl) (fun _ _ _ h=>h) (Or.inl ⟨by rfl,?ty3x⟩) hH ?tr3x
      case ty3x=>intro w' hSw;(try dsimp only at hSw);go_simp;first|done|with_reducible rfl
      simp only[Act.put,List.setIfInBounds_toArray,List.set_cons_zero,List.set_cons_succ];refine ah [] (i:=4) (v:=?tv4x) rfl (by kernel_rfl) (by kernel_rfl) (by kernel_rfl) (by kernel_rfl) (fun _ _ _ h=>h) (Or.inl ⟨by rfl,?ty4x⟩) hH ?tr4x
      case ty4x=>intro w' hSw;(try dsimp only at hSw);go_simp;first|done|with_reducible rfl
      simp only[Act.put,List.setIfInBounds_toArray,List.set_cons_zero,List.set_cons_succ];refine ah [] (i:=5) (v:=?tv5x) rfl (by kernel_rfl) (by kernel_rfl) (by kernel_rfl) (by kernel_rfl) (fun _ _ _ h=>h) (Or.inl ⟨by rfl,?ty5x⟩) hH ?tr5x
      case ty5x=>intro w' hSw;(try dsimp only at hSw);go_simp;first|done|with_reducible rfl
      simp only[Act.put,List.setIfInBounds_toArray,List.set_cons_zero,List.set_cons_succ];refine ah [] (i:=6) (v:=?tv6x) rfl (by kernel_rfl) (by kernel_rfl) (by kernel_rfl) (by kernel_rfl) (fun _ _ _ h=>h) (Or.inl ⟨by rfl,?ty6x⟩) hH ?tr6x
      case ty6x=>intro w' hSw;(try dsimp only at hSw);go_simp;first|done|with_reducible rfl
      simp only[Act.put,List.setIfInBounds_toArray,List.set_cons_zero,List.set_cons_succ];refine ah [] (i:=7) (v:=?tv7x) rfl (by kernel_rfl) (by kernel_rfl) (by kernel_rfl) (by kernel_rfl) (fun _ _ _ h=>h) (Or.inl ⟨by rfl,?ty7x⟩) hH ?tr7x
      case ty7x=>intro w' hSw;(try dsimp only at hSw);go_simp;first|done|with_reducible rfl
      simp only[Act.put,List.setIfInBounds_toArray,List.set_cons_zero,List.set_cons_succ];refine ah [] (i:=8) (v:=?tv8x) rfl (by kernel_rfl) (by kernel_rfl) (by kernel_rfl) (by kernel_rfl) (fun _ _ _ h=>h) (Or.inl ⟨by rfl,?ty8x⟩) hH ?tr8x
      case ty8x=>intro w' hSw;(try dsimp only at hSw);go_simp;first|done|with_reducible rfl
      simp only[Act.put,List.setIfInBounds_toArray,List.set_cons_zero,List.set_cons_succ];refine ah [] (i:=9) (v:=?tv9x) rfl (by kernel_rfl) (by kernel_rfl) (by kernel_rfl) (by kernel_rfl) (fun _ _ _ h=>h) (Or.inl ⟨by rfl,?ty9x⟩) hH ?tr9x
      case ty9x=>intro w' hSw;(try dsimp only at hSw);go_simp;first|done|with_reducible rfl
      simp only[Act.put,List.setIfInBounds_toArray,List.set_cons_zero,List.set_cons_succ];refine ah [] (i:=10) (v:=?tv10x) rfl (by kernel_rfl) (by kernel_rfl) (by kernel_rfl) (by kernel_rfl) (fun _ _ _ h=>h) (Or.inl ⟨by rfl,?ty10x⟩) hH ?tr10x
      case ty10x=>intro w' hSw;(try dsimp only at hSw);go_simp;first|done|with_reducible rfl
      simp only[Act.put,List.setIfInBounds_toArray,List.set_cons_zero,List.set_cons_succ];refine ah [] (i:=11) (v:=?tv11x) rfl (by kernel_rfl) (by kernel_rfl) (by kernel_rfl) (by kernel_rfl) (fun _ _ _ h=>h) (Or.inl ⟨by rfl,?ty11x⟩) hH ?tr11x
      case ty11x=>intro w' hSw;(try dsimp only at hSw);go_simp;first|done|with_reducible rfl
      simp only[Act.put,List.setIfInBounds_toArray,List.set_cons_zero,List.set_cons_succ];refine ah [] (i:=12) (v:=?tv12x) rfl (by kernel_rfl) (by kernel_rfl) (by kernel_rfl) (by kernel_rfl) (fun _ _ _ h=>h) (Or.inl ⟨by rfl,?ty12x⟩) hH ?tr12x
      case ty12x=>intro w' hSw;(try dsimp only at hSw);go_simp;first|done|with_reducible rfl
      simp only[Act.put,List.setIfInBounds_toArray,List.set_cons_zero,List.set_cons_succ];refine ah [] (i:=13) (v:=?tv13x) rfl (by kernel_rfl) (by kernel_rfl) (by kernel_rfl) (by kernel_rfl) (fun _ _ _ h=>h) (Or.inl ⟨by rfl,?ty13x⟩) hH ?tr13x
      case ty13x=>intro w' hSw;(try dsimp only at hSw);go_simp;first|done|with_reducible rfl
      simp only[Act.put,List.setIfInBounds_toArray,List.set_cons_zero,List.set_cons_succ];refine ah [] (i:=14) (v:=?tv14x) rfl (by kernel_rfl) (by kernel_rfl) (by kernel_rfl) (by kernel_rfl) (fun _ _ _ h=>h) (Or.inl ⟨by rfl,?ty14x⟩) hH ?tr14x
      case ty14x=>intro w' hSw;(try dsimp only at hSw);go_simp;first|done|with_reducible rfl
      simp only[Act.put,List.setIfInBounds_toArray,List.set_cons_zero,List.set_cons_succ];refine ah [] (i:=15) (v:=?tv15x) rfl (by kernel_rfl) (by kernel_rfl) (by kernel_rfl) (by kernel_rfl) (fun _ _ _ h=>h) (Or.inl ⟨by rfl,?ty15x⟩) hH ?tr15x
      case ty15x=>intro w' hSw;(try dsimp only at hSw);go_simp;first|done|with_reducible rfl
      simp only[Act.put,List.setIfInBounds_toArray,List.set_cons_zero,List.set_cons_succ];refine ah [] (i:=16) (v:=?tv16x) rfl (by kernel_rfl) (by kernel_rfl) (by kernel_rfl) (by kernel_rfl) (fun _ _ _ h=>h) (Or.inl ⟨by rfl,?ty16x⟩) hH ?tr16x
      case ty16x=>intro w' hSw;(try dsimp only at hSw);go_simp;first|done|with_reducible rfl
      simp only[Act.put,List.setIfInBounds_toArray,List.set_cons_zero,List.set_cons_succ];refine ah [] (i:=17) (v:=?tv17x) rfl (by kernel_rfl) (by kernel_rfl) (by kernel_rfl) (by kernel_rfl) (fun _ _ _ h=>h) (Or.inl ⟨by rfl,?ty17x⟩) hH ?tr17x
      case ty17x=>intro w' hSw;(try dsimp only at hSw);go_simp;first|done|with_reducible rfl
      simp only[Act.put,List.setIfInBounds_toArray,List.set_cons_zero,List.set_cons_succ];refine ah [] (i:=18) (v:=?tv18x) rfl (by kernel_rfl) (by kernel_rfl) (by kernel_rfl) (by kernel_rfl) (fun _ _ _ h=>h) (Or.inl ⟨by rfl,?ty18x⟩) hH ?tr18x
      case ty18x=>intro w' hSw;(try dsimp only at hSw);go_simp;first|done|with_reducible rfl
      simp only[Act.put,List.setIfInBounds_toArray,List.set_cons_zero,List.set_cons_succ];refine ak (by kernel_rfl) ?_ _;go_wp2_with fail;go_ret;exact⟨HKF.out.drew,rfl,V',T',(HC9.out.mono hj5).kept (Kept.refl [] w22).drew⟩
end Go.Proofs.YtpcmamoomaddoaaGreatDoor
