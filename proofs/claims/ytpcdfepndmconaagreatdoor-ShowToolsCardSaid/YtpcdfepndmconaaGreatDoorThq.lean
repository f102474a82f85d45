/- The reference's polynomial through points. -/
import Derived.Test.YtpcdfepndmconaaGreatDoorPrm
import Derived.Test.YtpcdfepndmconaaGreatDoorPrq
import Derived.Test.YtpcdfepndmconaaGreatDoorChk
import Derived.Test.YtpcdfepndmconaaGreatDoorFnd
import Derived.Test.YtpcdfepndmconaaGreatDoorRf3
/- JOINED: Ptz Thq -/
/- Different points: the program's map, the reference's comparisons. -/
namespace Go.Proofs.YtpcdfepndmconaaGreatDoor
open Go.RowKit Go.Maps
abbrev tru:DataW Unit:=.lit (.bool true)
theorem key_ne {q:IntKind} {x y:Int} (h:x≠y):Lit.int q x≠Lit.int q y:=fun e=>h (by injection e)
theorem keyLit (q:IntKind) (l:List Int):∀ x∈l.map (Lit.int q),WideAt.IsKeyLit x:=by
 intro x hx;obtain ⟨y,_,rfl⟩:=List.mem_map.1 hx
 trivial
theorem has_keys (q:IntKind) (l:List Int) (x:Int):has (setOf tru (l.map (Lit.int q))) (.int q x)=decide (x∈l):=by
 rw [has_setOf tru _ _ (keyLit q l)]
 induction l with
 | nil=>simp
 | cons y l ih =>
  rw [List.map_cons,List.any_cons,ih]
  by_cases h:y=x
  ·subst h
   have:(Lit.int q y).sameKey (Lit.int q y)=true:=by simp [Lit.sameKey]
   rw [this];simp
  ·rw [sameKey_ne (key_ne h)]
   simp [show ¬ x=y from fun e=>h e.symm]
theorem size_keys (q:IntKind) (l:List Int) (hd:l.Pairwise (·≠·)):∀ k,k≤l.length→Maps.size (setOf tru ((l.take k).map (Lit.int q)))=k
 | 0,_=>rfl
 | k+1,h=>by
  have hlt:k < l.length:=by omega
  rw [List.take_succ_eq_append_getElem hlt,List.map_append,List.map_cons,List.map_nil,setOf_snoc,size_put (tidy_setOf tru _ (keyLit q _)),has_keys,size_keys q l hd k (by omega)]
  have hn:l[k]∉l.take k:=by
   intro hm;obtain ⟨i,hi,he⟩:=List.mem_iff_getElem.1 hm;rw [List.length_take] at hi;rw [List.getElem_take] at he;exact List.pairwise_iff_getElem.1 hd i k (by omega) hlt (by omega) he
  simp [hn]
set_option maxRecDepth 100000 in
set_option maxHeartbeats 1000000 in
theorem points_any (N:Nat) (xs:List Int) (v:Value) (w:World) (h1:2≤N) (h2:N < 2305843009213693952) (hp:Prm.primeN N=true) (hv:Row w 1 v xs.length (ints xs)) (hl:xs.length≤12)
  (hr:∀ x∈xs,0≤x∧x < N) (hd:xs.Pairwise (·≠·)) (hE:Env2 w) :
  Calls Tryz.prog 172 #[.int .i64 N,v] w fun e w'=>e=.returned (.bool true)∧Kept [] w w':=by
 obtain ⟨aa,ca,rfl,hla,_⟩:=hv.form;have HV:=Lib.hid hv;have HR:=Lib.hid hr;have hmm:=@run_makeMap Tryz.prog;have pr:=prime_any N w (by omega) h2 hE;rw [hp] at pr;have PR:=Lib.hid pr
 have RS:Hid (∀ (x:Int) w,0≤x→x < N→Calls Tryz.prog 156 #[.int .i64 N,.int .i64 x] w fun e w'=>e=.returned (.int .u64 x)∧w=w'):=fun x w hx hx'=>by
  have:=residue_any N x w (by omega) h2 ⟨by omega,by omega⟩
  rwa [res_eq N x (by omega),Int.emod_eq_of_lt hx hx'] at this
 have HSZ:=Lib.hid (size_keys .u64 xs hd xs.length (Nat.le_refl _))
 have d1:decide ((64:Int) < (xs.length:Int))=false:=by simp;omega
 clear hv hr pr hp hd
 go_enter Tryz.func172,Tryz.ntmps172
 go_wp2_with (go_at_call 199;with_reducible refine PR.out.mono ?_);rintro e w1 ⟨rfl,hk1⟩;go_wp2_with fail;have hown0:=World.ownsMap_made (H:=Unit) w1 Tryz.prog 170 (plainElem Tryz.prog 4);have hkM:Kept [] w1 (w1.alloc (.map #[] 0)):=(Kept.refl _ _).alloc _;have HO0:=Lib.hid hown0;clear hown0
 go_loopw [7,19] (fun _ vi wr=>∃ k:Nat,k≤xs.length∧vi=.int .i64 k∧Hid (wr.ownsMap Tryz.prog 170 (plainElem Tryz.prog 4) w1.heap.size k (setOf tru ((xs.take k).map (Lit.int .u64))))∧Kept [] w1 wr) (fun _ vi _=>xs.length - (intOf vi).toNat)
 case atStart=>exact ⟨0,by omega,rfl,HO0,hkM⟩
 case round =>
  obtain ⟨k,hk,rfl,HO,hkr⟩:=hrel
  by_cases hlt:k < xs.length
  ·obtain ⟨ba,oa,rfl,hca⟩:=(HV.out.kept (hk1.trans hkr)).at_ (by omega);have xa:=hca k _ (ints_get hlt);obtain ⟨hx0,hx1⟩:=HR.out xs[k] (List.getElem_mem hlt);have hd:xs.take (k+1)=xs.take k++[xs[k]]:=List.take_succ_eq_append_getElem hlt
   have HN:Hid ((setOf tru ((xs.take k).map (Lit.int .u64))).put (.int .u64 xs[k]) tru=setOf tru ((xs.take (k+1)).map (Lit.int .u64))):=by
    show _=_
    rw [hd,List.map_append,List.map_cons,List.map_nil,setOf_snoc]
   obtain ⟨x,hx⟩:∃ x,xs[k]=x:=⟨_,rfl⟩;rw [hx] at xa hx0 hx1 HN;obtain ⟨D,hD⟩:∃ D,setOf tru ((xs.take k).map (Lit.int .u64))=D:=⟨_,rfl⟩;rw [hD] at HO HN;have hown:=HO.out
   have hwf:(Lit.int .u64 x).wf=true:=by
    refine WalkArith.wf_u64 ?_;omega
   clear hca hx hd hD
   go_wp2_with (first
    | (go_at_call 156;with_reducible refine (RS.out x _ hx0 hx1).mono ?_;rintro e w' ⟨rfl,rfl⟩)
    | (at_mapUpdate;refine wpList_mapUpdate_own _ rfl _ _ _ 211 rfl 170 4 keyedU Tryz.underlying211 _ w1.heap.size k _ rfl hown (by unfold maxLen;omega) _ _ _ rfl rfl (keyOf_int_mk Tryz.underlying170 hwf) _ [] (plainElem_bool Tryz.underlying4 true) ?_;intro w2 hown2 hgrow2))
   have hk2:Kept [] w1 w2:=hkr.grown hgrow2 (fun k e=>by cases e;exact Or.inr (Nat.le_refl _))
   have HO2:Hid (w2.ownsMap Tryz.prog 170 (plainElem Tryz.prog 4) w1.heap.size (k+1) (setOf tru ((xs.take (k+1)).map (Lit.int .u64)))):=by
    rw [←HN.out];exact hown2
   clear hgrow2 hown hown2;go_wp2_with fail
   go_roundw
   case rel=>exact ⟨k+1,by omega,by go_num,HO2,hk2⟩
   case measure=>simp [intOf];omega
  ·obtain rfl:k=xs.length:=by omega
   have hsz:=HSZ.out;obtain ⟨D,hD⟩:∃ D,setOf tru ((xs.take xs.length).map (Lit.int .u64))=D:=⟨_,rfl⟩;rw [hD] at HO hsz;have hown:=HO.out;clear hD;go_wp2_with (at_len;refine wpList_len_own _ rfl _ 211 rfl 170 4 Tryz.underlying211 _ w1.heap.size xs.length _ rfl hown ?_);go_ret;exact ⟨rfl,hk1.trans hkr⟩
set_option maxRecDepth 100000 in
set_option maxHeartbeats 1000000 in
theorem rdifferent_any (N:Nat) (xs:List Int) (v:Value) (w:World) (h1:2≤N) (h2:N < 2305843009213693952) (hv:Row w 1 v xs.length (ints xs)) (hl:xs.length≤12)
  (hr:∀ x∈xs,0≤x∧x < N) (hd:xs.Pairwise (·≠·)) :
  Calls Tryz.prog 174 #[.int .i64 N,v] w fun e w'=>e=.returned (.bool true)∧Kept [] w w':=by
 obtain ⟨aa,ca,rfl,hla,_⟩:=hv.form;have HV:=Lib.hid hv;have HR:=Lib.hid hr;have HD:=Lib.hid (List.pairwise_iff_getElem.1 hd)
 have RS:Hid (∀ (x:Int) w,0≤x→x < N→Calls Tryz.prog 158 #[.int .i64 N,.int .i64 x] w fun e w'=>e=.returned (.int .i64 x)∧w=w'):=fun x w hx hx'=>by
  have:=rresidue_any N x w (by omega) h2 ⟨by omega,by omega⟩
  rwa [res_eq N x (by omega),Int.emod_eq_of_lt hx hx'] at this
 have d1:decide ((64:Int) < (xs.length:Int))=false:=by simp;omega
 clear hv hr hd
 go_enter Tryz.func174,Tryz.ntmps174
 go_wp2_with fail
 go_loopw [5,6] (fun vi _ wr=>∃ i:Nat,i≤xs.length∧vi=.int .i64 i∧Kept [] w wr) (fun vi _ _=>xs.length - (intOf vi).toNat)
 case atStart=>exact ⟨0,by omega,rfl,Kept.refl _ _⟩
 case round =>
  obtain ⟨i,hi,rfl,hkr⟩:=hrel
  by_cases hlt:i < xs.length
  ·obtain ⟨wr1,hwr1⟩:∃ W,W=wr:=⟨_,rfl⟩;subst hwr1;go_wp2_with fail
   go_loopw [6] (fun vk wr=>∃ k:Nat,k≤i∧vk=.int .i64 k∧Kept [] w wr) (fun vk _=>i - (intOf vk).toNat)
   case atStart=>exact ⟨0,by omega,rfl,hkr⟩
   case round =>
    obtain ⟨k,hk,rfl,hkq⟩:=hrel
    by_cases hlk:k < i
    ·obtain ⟨ba,oa,rfl,hca⟩:=(HV.out.kept hkq).at_ (by omega);have xi:∀ w',Kept [] wr w'→w'.cell? ⟨ba,oa+i,none⟩=some (.int .i64 xs[i]):=Kept.cellOf (hca i _ (ints_get hlt));have xk:∀ w',Kept [] wr w'→w'.cell? ⟨ba,oa+k,none⟩=some (.int .i64 xs[k]):=Kept.cellOf (hca k _ (ints_get (by omega)));obtain ⟨hx0,hx1⟩:=HR.out xs[i] (List.getElem_mem hlt);obtain ⟨hy0,hy1⟩:=HR.out (xs[k]'(by omega)) (List.getElem_mem _);have hne:=HD.out k i (by omega) hlt hlk
     have hkl:k < xs.length:=by omega
     obtain ⟨x,hx⟩:∃ x,xs[i]=x:=⟨_,rfl⟩;obtain ⟨y,hy⟩:∃ y,xs[k]'(by omega)=y:=⟨_,rfl⟩;rw [hx] at xi hx0 hx1 hne;rw [hy] at xk hy0 hy1 hne
     have RX:Hid (∀ w',Calls Tryz.prog 158 #[.int .i64 N,.int .i64 x] w' fun e w2=>e=.returned (.int .i64 x)∧Kept [] w' w2):=fun w'=>(RS.out x w' hx0 hx1).mono fun _ _ h=>⟨h.1,h.2▸Kept.refl _ _⟩
     have RY:Hid (∀ w',Calls Tryz.prog 158 #[.int .i64 N,.int .i64 y] w' fun e w2=>e=.returned (.int .i64 y)∧Kept [] w' w2):=fun w'=>(RS.out y w' hy0 hy1).mono fun _ _ h=>⟨h.1,h.2▸Kept.refl _ _⟩
     have hxy:(x==y)=false:=by simpa using fun e=>hne e.symm
     clear hca hx hy hne;go_upto_region 9 with (fail)
     go_region_held3 (fun w'=>Kept [] wr w') (first|assumption|exact (Kept.refl _ _).drew|exact Kept.alloc (by assumption) _)
      (first
       | (go_at_call 158;with_reducible refine (kept_from (W:=wr) (by assumption) (RX.out _)).mono ?_;rintro e w6 ⟨rfl,hk6⟩)
       | (go_at_call 158;with_reducible refine (kept_from (W:=wr) (by assumption) (RY.out _)).mono ?_;rintro e w7 ⟨rfl,hk7⟩)
       | fail)
     all_goals clear xi xk
     all_goals go_wp2
     all_goals go_roundw
     all_goals first
      | (refine ⟨k+1,by omega,by go_num,hkq.trans (by assumption)⟩)
      | (simp [intOf];omega)
    ·obtain rfl:k=i:=by omega
     go_wp2_with fail
     go_roundw
     case rel=>exact ⟨k+1,by omega,by go_num,hkq⟩
     case measure=>simp [intOf];omega
  ·obtain rfl:i=xs.length:=by omega
   go_wp2_with fail;go_ret;exact ⟨rfl,hkr⟩
end Go.Proofs.YtpcdfepndmconaaGreatDoor
namespace Go.Proofs.YtpcdfepndmconaaGreatDoor
open Go.RowKit
/-- what the inner loop keeps: a is a0 and y times the first m coefficients of p -/
def TnI (q:Nat) (y:Int) (p a0 a:List Int) (m:Nat):Prop:=a.length=a0.length∧ResL q a∧∀ z,Itp.Cg q (Itp.ev a z) (Itp.ev a0 z+y*Itp.ev (p.take m) z)
theorem TnI.start {q:Nat} {y:Int} {p a0:List Int} (h:ResL q a0):TnI q y p a0 a0 0:=⟨rfl,h,fun z=>Itp.Cg.of_eq (by simp [Itp.ev])⟩
theorem TnI.next {q:Nat} {y:Int} {p a0 a:List Int} {m:Nat} (h:TnI q y p a0 a m) (hq:1≤q) (hm:m < p.length) (ha:m < a.length) (pm am v:Nat) (hp:p[m]=pm) (hv0:a[m]=am)
  (hv:addN q (am:Int) ((mulN q (pm:Int) y:Nat):Int)=v):TnI q y p a0 (a.set m (v:Int)) (m+1):=by
 obtain ⟨hl,hr,he⟩:=h;refine ⟨by simp [hl],hr.set _ _ (hv▸ltAdd _ _ _ hq),fun z=>?_⟩;rw [Itp.ev_set _ _ _ _ ha,Itp.ev_take _ _ _ hm,hp,hv0];obtain ⟨t1,e1⟩:=add_cg q (am:Int) ((mulN q (pm:Int) y:Nat):Int) hq;obtain ⟨t2,e2⟩:=mul_cg q (pm:Int) y hq;obtain ⟨t3,e3⟩:=he z;rw [hv] at e1
 generalize ((mulN q (pm:Int) y:Nat):Int)=w at *
 generalize z ^ m=zn at *
 generalize Itp.ev (List.take m p) z=et at *
 exact ⟨t3+t1*zn+t2*zn,by grind⟩
/-- what the outer loop keeps -/
def ThI (q:Nat) (xs ys:List Int) (i:Nat) (a:List Int):Prop:=a.length=xs.length∧ResL q a∧∀ j (hj:j < xs.length) (hy:j < ys.length),Itp.Cg q (Itp.ev a xs[j]) (if j < i then ys[j] else 0)
theorem ThI.start (q:Nat) (xs ys:List Int) (h:1≤q):ThI q xs ys 0 (List.replicate xs.length 0) :=
 ⟨by simp,ResL.zeros _ _ h,fun j hj hy=>by rw [Itp.ev_zeros];exact Itp.Cg.of_eq (by simp)⟩
theorem ThI.next {q:Nat} {xs ys:List Int} {i:Nat} {a b p:List Int} (h:ThI q xs ys i a) (hi:i < xs.length) (hy:i < ys.length) (hp:FndI q xs i hi xs.length p) (hb:TnI q ys[i] p a b p.length):ThI q xs ys (i+1) b:=by
 obtain ⟨h1,h2,h3⟩:=h;obtain ⟨f1,f2,f3,f4⟩:=hp.done;obtain ⟨g1,g2,g3⟩:=hb;rw [List.take_length] at g3;refine ⟨by rw [g1,h1],g2,fun j hj hyj=>?_⟩;obtain ⟨t1,e1⟩:=g3 xs[j];obtain ⟨t2,e2⟩:=h3 j hj hyj
 by_cases hji:j=i
 ·subst hji;obtain ⟨t3,e3⟩:=f3;rw [if_neg (by omega)] at e2;rw [if_pos (by omega)];exact ⟨t1+t2+ys[j]*t3,by grind⟩
 ·obtain ⟨t3,e3⟩:=f4 j hj hji
  by_cases hlt:j < i
  ·rw [if_pos hlt] at e2;rw [if_pos (by omega)];exact ⟨t1+t2+ys[i]*t3,by grind⟩
  ·rw [if_neg hlt] at e2;rw [if_neg (by omega)];exact ⟨t1+t2+ys[i]*t3,by grind⟩
/-- how Through ends -/
def ThrQ (q:Nat) (xs ys:List Int) (w:World) (e:Ending) (w':World):Prop :=
 ∃ (v:Value) (l:List Int),e=.returned (.tuple #[v,.bool true])∧l.length=xs.length∧ResL q l∧(∀ j (hj:j < xs.length) (hy:j < ys.length),Itp.Cg q (Itp.ev l xs[j]) ys[j])∧Row w' 1 v l.length (ints l)∧Kept [] w w'
set_option maxRecDepth 100000 in
set_option maxHeartbeats 4000000 in
theorem rthrough_any (q:Nat) (xs ys:List Int) (v vy:Value) (w:World) (h2:2≤q) (h3:q < 2305843009213693952) (hp:Prm.primeN q=true) (hv:Row w 1 v xs.length (ints xs)) (hvy:Row w 1 vy ys.length (ints ys)) (hl:xs.length≤12)
  (hyl:ys.length=xs.length) (hr:∀ x∈xs,0≤x∧x≤12∧x < q) (hd:xs.Pairwise (·≠·)) (hiy:∀ y∈ys,Wire.I64 y) :
  Calls Tryz.prog 105 #[.int .i64 q,v,vy] w (ThrQ q xs ys w):=by
 obtain ⟨va,vc,rfl,hlv,_⟩:=hv.form;obtain ⟨ya,yc,rfl,hly,_⟩:=hvy.form;have HV:=Lib.hid hv;have HY:=Lib.hid hvy;have HYL:=Lib.hid hyl;have HIY:=Lib.hid hiy;have pr:=rprime_any q w h2 h3;rw [hp] at pr;have PR:=Lib.hid pr;have DF:Hid (∀ w',Kept [] w w'→Calls Tryz.prog 174 #[.int .i64 q,.slice va xs.length vc] w' fun e w2=>e=.returned (.bool true)∧Kept [] w' w2):=fun w' k=>rdifferent_any q xs _ w' h2 h3 (hv.kept k) hl (fun x hx=>⟨(hr x hx).1,(hr x hx).2.2⟩) hd;have FD:Hid (∀ i (hi:i < xs.length) w',Kept [] w w'→Calls Tryz.prog 175 #[.int .i64 q,.slice va xs.length vc,.int .i64 i] w' (FundQ q xs i hi w')):=fun i hi w' k=>fund_any q xs i _ w' h2 h3 hp (hv.kept k) hl hr hd hi;have hms:∀ w,(Instr.makeSlice 24 (.int .i64 (xs.length:Int)) (.int .i64 (xs.length:Int))).run Tryz.prog w=.ok (.slice (some ⟨w.heap.size,0,none⟩) xs.length xs.length) (w.alloc (.cells (ints (List.replicate xs.length 0)).toArray 3)):=fun w=>make_n xs.length w (by omega)
 have hne:((xs.length:Int) != (ys.length:Int))=false:=by simp;omega
 clear hv hvy hyl hr hd hp pr hiy
 go_enter Tryz.func105,Tryz.ntmps105
 go_wp2_with (go_at_call 173;with_reducible refine PR.out.mono ?_);rintro e w1 ⟨rfl,k1⟩;go_wp2_with (go_at_call 174;with_reducible refine (DF.out _ k1).mono ?_);rintro e w2 ⟨rfl,hk2⟩;have k2:=k1.trans hk2;go_wp2_with fail;have HW8:Hid (Blk (w2.alloc (.cells (ints (List.replicate xs.length 0)).toArray 3)) w2.heap.size 3 (ints (List.replicate xs.length 0)).toArray):=Blk.new _ _ _;have hk8:Kept [] w (w2.alloc (.cells (ints (List.replicate xs.length 0)).toArray 3)):=k2.alloc _;have hs2:=k2.size;obtain ⟨W8,hW8⟩:∃ W,w2.alloc (.cells (ints (List.replicate xs.length 0)).toArray 3)=W:=⟨_,rfl⟩;obtain ⟨g2,hg2⟩:∃ g,w2.heap.size=g:=⟨_,rfl⟩;rw [hW8] at HW8 hk8 ⊢;rw [hg2] at HW8 hs2 ⊢;have hg28:g2 < W8.heap.size:=HW8.out.lt;clear hW8 hg2 hms hne
 go_loopw [9,10,11] (fun vi _ _ wr=>∃ (i:Nat) (a:List Int),i≤xs.length∧vi=.int .i64 i∧Hid (ThI q xs ys i a)∧Hid (Blk wr g2 3 (ints a).toArray)∧Kept [g2] W8 wr) (fun vi _ _ _=>xs.length - (intOf vi).toNat)
 case atStart=>exact ⟨0,_,by omega,rfl,ThI.start q xs ys (by omega),HW8,Kept.refl _ _⟩
 case round =>
  obtain ⟨i,a0l,hi,rfl,HT,HB,hkr⟩:=hrel;have hkw:Kept [] w wr:=hk8.fresh hkr (by simp;omega)
  by_cases hlt:i < xs.length
  ·have hlty:i < ys.length:=by have:=HYL.out;omega
   have HFD:=Lib.hid (FD.out i hlt wr hkw);go_wp2_with (go_at_call 175;refine HFD.out.mono ?_);rintro e wF ⟨gp,p,rfl,hgp,hfn,hrp,kF⟩;have HRP:=Lib.hid hrp;have HFN:=Lib.hid hfn;have hpl:p.length=xs.length:=hfn.done.1;have HPR:Hid (ResL q p):=hfn.2.1;have HPL:=Lib.hid hpl;have HBF:=Lib.hid (HB.out.kept kF (by simp));have hgw:=HB.out.lt;obtain ⟨wO,hwO⟩:∃ W,W=wF:=⟨_,rfl⟩;subst hwO;clear hrp hfn hpl;go_wp2_with fail
   go_loopw [11] (fun vn wq=>∃ (n:Nat) (a:List Int),n≤p.length∧vn=.int .i64 n∧Hid (TnI q ys[i] p a0l a n)∧Hid (Blk wq g2 3 (ints a).toArray)∧Kept [g2] wO wq) (fun vn _=>p.length - (intOf vn).toNat)
   case atStart=>exact ⟨0,a0l,by omega,rfl,TnI.start HT.out.2.1,HBF,Kept.refl _ _⟩
   case round =>
    obtain ⟨n,a,hn,rfl,HTN,HBA,hkq⟩:=hrel
    by_cases hln:n < p.length
    ·have hal:a.length=xs.length:=by rw [HTN.out.1];exact HT.out.1
     have hpl:=HPL.out;have lift:∀ w',Kept [g2] wr w'→Kept [] w w':=fun w' kk=>(hkw.trans kF).fresh (hkq.trans kk) (by simp;omega);obtain ⟨yb,yo,rfl,hcy⟩:=HY.out.at_ (by omega);have xy:∀ w',Kept [g2] wr w'→w'.cell? ⟨yb,yo+i,none⟩=some (.int .i64 ys[i]):=fun w' kk=>Kept.cellOf (hcy i _ (ints_get hlty)) w' (lift w' kk);obtain ⟨pn,hpn,hpq⟩:=HPR.out.get n hln;obtain ⟨a0,ha0,ha0q⟩:=HTN.out.2.1.get n (by omega);obtain ⟨pb,po,hpe,hcp⟩:=HRP.out.at_ (by omega)
     have hpe2:pb=gp∧po=0:=by
      injection hpe with hpe;injection hpe with h1 h2;exact ⟨h1.symm,h2.symm⟩
     obtain ⟨rfl,rfl⟩:=hpe2;have hcn:=hcp n _ (ints_get hln);rw [Nat.zero_add,hpn] at hcn
     have xp:∀ w',Kept [g2] wr w'→w'.cell? ⟨pb,n,none⟩=some (.int .i64 pn):=fun w' kk =>
      ((hkq.trans kk).cell (p:=⟨pb,n,none⟩) (World.block_lt_of_cell? wO _ hcn) (by simp;omega)).trans hcn
     have hL0:wr.drew.cell? ⟨g2,n,none⟩=some (.int .i64 a0):=by
      have:=HBA.out.cellI n (by omega);rw [ha0] at this;exact this
     have iy:=HIY.out ys[i] (List.getElem_mem hlty);have HNX:Hid (∀ v,addN q (a0:Int) ((mulN q (pn:Int) ys[i]:Nat):Int)=v→TnI q ys[i] p a0l (a.set n (v:Int)) (n+1)):=fun v hv=>HTN.out.next (by omega) hln (by omega) pn a0 v hpn ha0 hv;have MX:Hid (∀ w',Calls Tryz.prog 82 #[.int .i64 q,.int .i64 pn,.int .i64 ys[i]] w' fun e w2=>e=.returned (.int .i64 ((mulN q (pn:Int) ys[i]:Nat):Int))∧w'=w2):=fun w'=>rmul_any q pn ys[i] w' (by omega) h3 ⟨by omega,by omega⟩ iy;have lp:=ltMul q (pn:Int) ys[i] (by omega);obtain ⟨pp,hpp⟩:∃ p,mulN q (pn:Int) ys[i]=p:=⟨_,rfl⟩;rw [hpp] at MX lp HNX;have SX:Hid (∀ w',Calls Tryz.prog 140 #[.int .i64 q,.int .i64 a0,.int .i64 pp] w' fun e w2=>e=.returned (.int .i64 ((addN q (a0:Int) (pp:Int):Nat):Int))∧w'=w2):=fun w'=>radd_any q a0 pp w' (by omega) h3 ⟨by omega,by omega⟩ ⟨by omega,by omega⟩;obtain ⟨v2,hv2⟩:∃ v,addN q (a0:Int) (pp:Int)=v:=⟨_,rfl⟩;rw [hv2] at SX;have HN2:Hid (TnI q ys[i] p a0l (a.set n (v2:Int)) (n+1)):=HNX.out v2 hv2;obtain ⟨wB,hwB⟩:∃ W,W=wr:=⟨_,rfl⟩;subst hwB
     have hnx:n < xs.length:=by omega
     clear hal lift hcy hpn ha0 hpe hcp hcn hpp hv2 hpl iy;go_upto_region 11 with (fail);refine wp_region_held_drew (S:=fun w'=>Kept [g2] wB w') (by kernel_rfl) (Kept.refl _ _).drew (fun hHeld=>?_);refine take_of (i:=0) (v:=?v1x0) rfl (by kernel_rfl) (by kernel_rfl) (by kernel_rfl) (fun _ _ _ h=>h) (Or.inl ⟨by rfl,?hy1x0⟩) hHeld ?rest1x0
     case hy1x0=>intro w' hSw;(try dsimp only at hSw);go_simp;first|done|with_reducible rfl
     simp only [Act.put,List.setIfInBounds_toArray,List.set_cons_zero,List.set_cons_succ];refine take_of (i:=1) (v:=?v1x1) rfl (by kernel_rfl) (by kernel_rfl) (by kernel_rfl) (fun _ _ _ h=>h) (Or.inl ⟨by rfl,?hy1x1⟩) hHeld ?rest1x1
     case hy1x1=>intro w' hSw;(try dsimp only at hSw);go_simp;first|done|with_reducible rfl
     simp only [Act.put,List.setIfInBounds_toArray,List.set_cons_zero,List.set_cons_succ];refine take_of (i:=2) (v:=?v1x2) rfl (by kernel_rfl) (by kernel_rfl) (by kernel_rfl) (fun _ _ _ h=>h) (Or.inl ⟨by rfl,?hy1x2⟩) hHeld ?rest1x2
     case hy1x2=>intro w' hSw;(try dsimp only at hSw);go_simp;first|done|with_reducible rfl
     simp only [Act.put,List.setIfInBounds_toArray,List.set_cons_zero,List.set_cons_succ];refine take_of (i:=3) (v:=?v1x3) rfl (by kernel_rfl) (by kernel_rfl) (by kernel_rfl) (fun _ _ _ h=>h) (Or.inl ⟨by rfl,?hy1x3⟩) hHeld ?rest1x3
     case hy1x3=>intro w' hSw;(try dsimp only at hSw);go_simp;first|done|with_reducible rfl
     simp only [Act.put,List.setIfInBounds_toArray,List.set_cons_zero,List.set_cons_succ];refine take_of (i:=4) (v:=?v1x4) rfl (by kernel_rfl) (by kernel_rfl) (by kernel_rfl) (fun _ _ _ h=>h) (Or.inl ⟨by rfl,?hy1x4⟩) hHeld ?rest1x4
     case hy1x4=>intro w' hSw;(try dsimp only at hSw);go_simp;first|done|with_reducible rfl
     simp only [Act.put,List.setIfInBounds_toArray,List.set_cons_zero,List.set_cons_succ];refine take_of (i:=5) (v:=?v1x5) rfl (by kernel_rfl) (by kernel_rfl) (by kernel_rfl) (fun _ _ _ h=>h) (Or.inl ⟨by rfl,?hy1x5⟩) hHeld ?rest1x5
     case hy1x5=>intro w' hSw;(try dsimp only at hSw);go_simp;first|done|with_reducible rfl
     simp only [Act.put,List.setIfInBounds_toArray,List.set_cons_zero,List.set_cons_succ];refine take_of (i:=7) (v:=?v1x7) rfl (by kernel_rfl) (by kernel_rfl) (by kernel_rfl) (fun _ _ _ h=>h) (Or.inl ⟨by rfl,?hy1x7⟩) hHeld ?rest1x7
     case hy1x7=>intro w' hSw;(try dsimp only at hSw);go_simp;first|done|with_reducible rfl
     simp only [Act.put,List.setIfInBounds_toArray,List.set_cons_zero,List.set_cons_succ];refine take_of (i:=8) (v:=?v1x8) rfl (by kernel_rfl) (by kernel_rfl) (by kernel_rfl) (fun _ _ _ h=>h) (Or.inl ⟨by rfl,?hy1x8⟩) hHeld ?rest1x8
     case hy1x8=>intro w' hSw;(try dsimp only at hSw);go_simp;first|done|with_reducible rfl
     simp only [Act.put,List.setIfInBounds_toArray,List.set_cons_zero,List.set_cons_succ];refine take_of (i:=9) (v:=?v1x9) rfl (by kernel_rfl) (by kernel_rfl) (by kernel_rfl) (fun _ _ _ h=>h) (Or.inl ⟨by rfl,?hy1x9⟩) hHeld ?rest1x9
     case hy1x9=>intro w' hSw;(try dsimp only at hSw);go_simp;first|done|with_reducible rfl
     simp only [Act.put,List.setIfInBounds_toArray,List.set_cons_zero,List.set_cons_succ];refine take_of (i:=10) (v:=?v1x10) rfl (by kernel_rfl) (by kernel_rfl) (by kernel_rfl) (fun _ _ _ h=>h) (Or.inl ⟨by rfl,?hy1x10⟩) hHeld ?rest1x10
     case hy1x10=>intro w' hSw;(try dsimp only at hSw);go_simp;first|done|with_reducible rfl
     simp only [Act.put,List.setIfInBounds_toArray,List.set_cons_zero,List.set_cons_succ];refine take_of (i:=11) (v:=?v1x11) rfl (by kernel_rfl) (by kernel_rfl) (by kernel_rfl) (fun _ _ _ h=>h) (Or.inl ⟨by rfl,?hy1x11⟩) hHeld ?rest1x11
     case hy1x11=>intro w' hSw;(try dsimp only at hSw);go_simp;first|done|with_reducible rfl
     simp only [Act.put,List.setIfInBounds_toArray,List.set_cons_zero,List.set_cons_succ];refine take_of (i:=12) (v:=?v1x12) rfl (by kernel_rfl) (by kernel_rfl) (by kernel_rfl) (fun _ _ _ h=>h) (Or.inl ⟨by rfl,?hy1x12⟩) hHeld ?rest1x12
     case hy1x12=>intro w' hSw;(try dsimp only at hSw);go_simp;first|done|with_reducible rfl
     simp only [Act.put,List.setIfInBounds_toArray,List.set_cons_zero,List.set_cons_succ];refine take_of (i:=13) (v:=?v1x13) rfl (by kernel_rfl) (by kernel_rfl) (by kernel_rfl) (fun _ _ _ h=>h) (Or.inl ⟨by rfl,?hy1x13⟩) hHeld ?rest1x13
     case hy1x13=>intro w' hSw;(try dsimp only at hSw);go_simp;first|done|with_reducible rfl
     simp only [Act.put,List.setIfInBounds_toArray,List.set_cons_zero,List.set_cons_succ];refine take_of (i:=14) (v:=?v1x14) rfl (by kernel_rfl) (by kernel_rfl) (by kernel_rfl) (fun _ _ _ h=>h) (Or.inl ⟨by rfl,?hy1x14⟩) hHeld ?rest1x14
     case hy1x14=>intro w' hSw;(try dsimp only at hSw);go_simp;first|done|with_reducible rfl
     simp only [Act.put,List.setIfInBounds_toArray,List.set_cons_zero,List.set_cons_succ];refine take_of (i:=15) (v:=?v1x15) rfl (by kernel_rfl) (by kernel_rfl) (by kernel_rfl) (fun _ _ _ h=>h) (Or.inl ⟨by rfl,?hy1x15⟩) hHeld ?rest1x15
     case hy1x15=>intro w' hSw;(try dsimp only at hSw);go_simp;first|done|with_reducible rfl
     simp only [Act.put,List.setIfInBounds_toArray,List.set_cons_zero,List.set_cons_succ];have ld:wB.drew.cell? ⟨g2,n,none⟩=some (.int .i64 a0):=hL0;have fL:wB.drew.frozen? ⟨g2,n,none⟩=false:=HBA.out.frozen n;have hkF:Kept [g2] wB (wB.drew.setCell ⟨g2,n,none⟩ (.int .i64 v2)):=Kept.setCell hHeld (p:=⟨g2,n,none⟩) (Or.inl (by simp)) _;refine wpAnyH_ready (rs:=[6,16]) (by kernel_rfl) (by simp) ?_;refine AllReadyH.cons rfl (fun K hK=>?_) (AllReadyH.cons rfl (fun K hK=>?_) AllReadyH.nil)
     ·go_simp;refine hK.out _ _ hHeld (fun _=>?_);clear hK K
      (try simp only [Act.put,List.setIfInBounds_toArray,List.set_cons_zero,List.set_cons_succ])
      refine wpAnyH_ready (rs:=[16]) (by kernel_rfl) (by simp) ?_;refine AllReadyH.cons rfl (fun K hK=>?_) AllReadyH.nil;go_simp;refine (MX.out _).mono ?_;rintro e wC ⟨rfl,rfl⟩;refine hK.out _ _ hHeld (fun _=>?_);clear hK K
      (try simp only [Act.put,List.setIfInBounds_toArray,List.set_cons_zero,List.set_cons_succ])
      refine wpAnyH_ready (rs:=[17]) (by kernel_rfl) (by simp) ?_;refine AllReadyH.cons rfl (fun K hK=>?_) AllReadyH.nil;go_simp;refine (SX.out _).mono ?_;rintro e wD ⟨rfl,rfl⟩;refine hK.out _ _ hHeld (fun _=>?_);clear hK K
      (try simp only [Act.put,List.setIfInBounds_toArray,List.set_cons_zero,List.set_cons_succ])
      refine wpAnyH_ready (rs:=[18]) (by kernel_rfl) (by simp) ?_;refine AllReadyH.cons rfl (fun K hK=>?_) AllReadyH.nil;go_simp;refine hK.out _ _ hHeld (fun _=>?_);clear hK K
      (try simp only [Act.put,List.setIfInBounds_toArray,List.set_cons_zero,List.set_cons_succ])
      refine wpAnyH_ready (rs:=[19]) (by kernel_rfl) (by simp) ?_;refine AllReadyH.cons rfl (fun K hK=>?_) AllReadyH.nil;go_simp;refine hK.out _ _ hkF (fun _=>?_);clear hK K
      (try simp only [Act.put,List.setIfInBounds_toArray,List.set_cons_zero,List.set_cons_succ])
      refine wpAnyH_done (by kernel_rfl) ?_ _;have HBN:Hid (Blk ((wB.setCell ⟨g2,n,none⟩ (.int .i64 v2)).drew) g2 3 (ints (a.set n (v2:Int))).toArray):=Blk.drew (Blk.setI HBA.out n (v2:Int));have hkG:Kept [g2] wB (wB.setCell ⟨g2,n,none⟩ (.int .i64 v2)).drew:=hkF;obtain ⟨wE,hwE⟩:∃ W,(wB.setCell ⟨g2,n,none⟩ (.int .i64 v2)).drew=W:=⟨_,rfl⟩;rw [hwE] at hkG HBN ⊢;clear hwE fL ld hHeld hkF;clear xy xp hL0;go_wp2_with fail
      go_roundw
      case rel=>exact ⟨n+1,_,by omega,by go_num,HN2,HBN,hkq.trans hkG⟩
      case measure=>simp [intOf];omega
     ·go_simp;refine (MX.out _).mono ?_;rintro e wC ⟨rfl,rfl⟩;refine hK.out _ _ hHeld (fun _=>?_);clear hK K
      (try simp only [Act.put,List.setIfInBounds_toArray,List.set_cons_zero,List.set_cons_succ])
      refine wpAnyH_ready (rs:=[6]) (by kernel_rfl) (by simp) ?_;refine AllReadyH.cons rfl (fun K hK=>?_) AllReadyH.nil;go_simp;refine hK.out _ _ hHeld (fun _=>?_);clear hK K
      (try simp only [Act.put,List.setIfInBounds_toArray,List.set_cons_zero,List.set_cons_succ])
      refine wpAnyH_ready (rs:=[17]) (by kernel_rfl) (by simp) ?_;refine AllReadyH.cons rfl (fun K hK=>?_) AllReadyH.nil;go_simp;refine (SX.out _).mono ?_;rintro e wD ⟨rfl,rfl⟩;refine hK.out _ _ hHeld (fun _=>?_);clear hK K
      (try simp only [Act.put,List.setIfInBounds_toArray,List.set_cons_zero,List.set_cons_succ])
      refine wpAnyH_ready (rs:=[18]) (by kernel_rfl) (by simp) ?_;refine AllReadyH.cons rfl (fun K hK=>?_) AllReadyH.nil;go_simp;refine hK.out _ _ hHeld (fun _=>?_);clear hK K
      (try simp only [Act.put,List.setIfInBounds_toArray,List.set_cons_zero,List.set_cons_succ])
      refine wpAnyH_ready (rs:=[19]) (by kernel_rfl) (by simp) ?_;refine AllReadyH.cons rfl (fun K hK=>?_) AllReadyH.nil;go_simp;refine hK.out _ _ hkF (fun _=>?_);clear hK K
      (try simp only [Act.put,List.setIfInBounds_toArray,List.set_cons_zero,List.set_cons_succ])
      refine wpAnyH_done (by kernel_rfl) ?_ _;have HBN:Hid (Blk ((wB.setCell ⟨g2,n,none⟩ (.int .i64 v2)).drew) g2 3 (ints (a.set n (v2:Int))).toArray):=Blk.drew (Blk.setI HBA.out n (v2:Int));have hkG:Kept [g2] wB (wB.setCell ⟨g2,n,none⟩ (.int .i64 v2)).drew:=hkF;obtain ⟨wE,hwE⟩:∃ W,(wB.setCell ⟨g2,n,none⟩ (.int .i64 v2)).drew=W:=⟨_,rfl⟩;rw [hwE] at hkG HBN ⊢;clear hwE fL ld hHeld hkF;clear xy xp hL0;go_wp2_with fail
      go_roundw
      case rel=>exact ⟨n+1,_,by omega,by go_num,HN2,HBN,hkq.trans hkG⟩
      case measure=>simp [intOf];omega
    ·obtain rfl:n=p.length:=by omega
     have HTE:Hid (ThI q xs ys (i+1) a):=HT.out.next hlt hlty HFN.out HTN.out;have hd1:p.length=xs.length:=HPL.out;go_wp2_with fail
     go_roundw
     case rel=>exact ⟨i+1,a,by omega,by go_num,HTE,HBA,hkr.trans ((kF.mono (by simp)).trans hkq)⟩
     case measure=>simp [intOf];omega
  ·obtain rfl:i=xs.length:=by omega
   have hll:=HT.out.1;go_wp2_with fail
   go_ret2
   refine ⟨_,a0l,rfl,hll,HT.out.2.1,fun j hj hy=>?_,(by rw [hll];exact row_of_blk (cs:=ints a0l) (size:=1) (n:=xs.length) HB.out (by simp [ints,hll]) (by omega)),hkw⟩;have:=HT.out.2.2 j hj hy
   rwa [if_pos hj] at this
end Go.Proofs.YtpcdfepndmconaaGreatDoor
