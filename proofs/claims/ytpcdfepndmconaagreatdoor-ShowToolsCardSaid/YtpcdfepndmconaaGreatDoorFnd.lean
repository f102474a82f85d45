/- The reference's fundamental polynomials. -/
import Derived.Test.YtpcdfepndmconaaGreatDoorIvu
import Derived.Laws.MakeOwn
import Derived.Test.YtpcdfepndmconaaGreatDoorSg1
import Derived.Test.YtpcdfepndmconaaGreatDoorRound
import Derived.Deep.RegionHeld3
import Derived.StillTailTactics
import Derived.Deep.RegionWith
/- JOINED: Fun Mkn Fnd -/
/- Polynomials through points: one step of the reference's fundamental polynomials, in plain numbers. -/
namespace Go.Proofs.YtpcdfepndmconaaGreatDoor
open Go.RowKit
/-- residues -/
def ResL (q:Nat) (l:List Int):Prop:=∀ c∈l,0≤c∧c < (q:Int)
theorem ResL.set {q:Nat} {l:List Int} (h:ResL q l) (j:Nat) (v:Nat) (hv:v < q):ResL q (l.set j (v:Int)):=fun c hc=>by
 rcases List.mem_or_eq_of_mem_set hc with h1|h1
 ·exact h c h1
 ·subst h1;exact ⟨by omega,by omega⟩
theorem ResL.get {q:Nat} {l:List Int} (h:ResL q l) (j:Nat) (hj:j < l.length):∃ n:Nat,l[j]=n∧n < q:=by
 have:=h l[j] (List.getElem_mem hj);exact ⟨l[j].toNat,by omega,by omega⟩
theorem ResL.zeros (q n:Nat) (h:1≤q):ResL q (List.replicate n 0):=fun c hc=>by
 rw [List.eq_of_mem_replicate hc];exact ⟨by omega,by omega⟩
/-- what the inner loop of fundamental keeps: a is s (z - x) times the first n coefficients of l -/
def FunI (q:Nat) (s x:Int) (l a:List Int) (n:Nat):Prop:=a.length=l.length+1∧ResL q a∧∀ z,Itp.Cg q (Itp.ev a z) (s*(z - x)*Itp.ev (l.take n) z)
theorem FunI.start (q:Nat) (s x:Int) (l:List Int) (h:1≤q):FunI q s x l (List.replicate (l.length+1) 0) 0:=by
 refine ⟨by simp,ResL.zeros _ _ h,fun z=>?_⟩;rw [Itp.ev_zeros];exact Itp.Cg.of_eq (by simp [Itp.ev])
theorem FunI.next {q:Nat} {s x:Int} {l a:List Int} {n:Nat} (h:FunI q s x l a n) (hq:1≤q) (hn:n < l.length) (c v1 v2:Nat) (a1 a0:Int)
  (h1:a[n+1]'(by have:=h.1;omega)=a1) (h0:a[n]'(by have:=h.1;omega)=a0) (hc:mulN q l[n] s=c) (hv1:addN q a1 (c:Int)=v1) (hv2:subN q a0 ((mulN q (c:Int) x:Nat):Int)=v2) :
  FunI q s x l ((a.set (n+1) (v1:Int)).set n (v2:Int)) (n+1):=by
 obtain ⟨hl,hr,he⟩:=h;refine ⟨by simp [hl],(hr.set _ _ (hv1▸ltAdd _ _ _ hq)).set _ _ (hv2▸ltSub _ _ _ hq),fun z=>?_⟩;rw [Itp.ev_set _ _ _ _ (by simp;omega),Itp.ev_set _ _ _ _ (by omega),List.getElem_set_ne (by omega),h1,h0,Itp.ev_take _ _ _ hn];obtain ⟨t1,e1⟩:=add_cg q a1 (c:Int) hq;obtain ⟨t2,e2⟩:=sub_cg q a0 ((mulN q (c:Int) x:Nat):Int) hq;obtain ⟨t3,e3⟩:=mul_cg q (c:Int) x hq;obtain ⟨t4,e4⟩:=mul_cg q l[n] s hq;obtain ⟨t5,e5⟩:=he z;rw [hv1] at e1;rw [hv2] at e2;rw [hc] at e4;rw [Int.pow_succ]
 generalize ((mulN q (c:Int) x:Nat):Int)=p at *
 generalize z ^ n=zn at *
 generalize l[n]=ln at *
 generalize Itp.ev (List.take n l) z=et at *
 exact ⟨t5+t1*(zn*z)+t2*zn - t3*zn+t4*(zn*z) - t4*x*zn,by grind⟩
/-- what the outer loop of fundamental keeps -/
def FndI (q:Nat) (xs:List Int) (i:Nat) (hi:i < xs.length) (k:Nat) (l:List Int):Prop :=
 l.length=(if i < k then k else k+1)∧ResL q l∧Itp.Cg q (Itp.ev l xs[i]) 1∧∀ j (hj:j < xs.length),j < k→j≠i→Itp.Cg q (Itp.ev l xs[j]) 0
theorem FndI.start (q:Nat) (xs:List Int) (i:Nat) (hi:i < xs.length) (h:2≤q):FndI q xs i hi 0 [1] :=
 ⟨by simp,fun c hc=>by rw [List.mem_singleton] at hc;subst hc;exact ⟨by omega,by omega⟩,Itp.Cg.of_eq (by simp [Itp.ev]),fun j _ hj=>by omega⟩
theorem FndI.skip {q:Nat} {xs:List Int} {i:Nat} {hi:i < xs.length} {l:List Int} (h:FndI q xs i hi i l):FndI q xs i hi (i+1) l:=by
 obtain ⟨h1,h2,h3,h4⟩:=h;exact ⟨by simp at h1 ⊢;omega,h2,h3,fun j hj hk hne=>h4 j hj (by omega) hne⟩
theorem FndI.next {q:Nat} {xs:List Int} {i:Nat} {hi:i < xs.length} {k:Nat} {l a:List Int} (h:FndI q xs i hi k l) (hk:k < xs.length) (hne:k≠i) (u:Nat)
  (hu:Itp.Cg q (u*((subN q xs[i] xs[k]:Nat):Int)) 1) (hq:1≤q) (ha:FunI q u xs[k] l a l.length):FndI q xs i hi (k+1) a:=by
 obtain ⟨h1,h2,h3,h4⟩:=h;obtain ⟨f1,f2,f3⟩:=ha;rw [List.take_length] at f3;refine ⟨?_,f2,?_,fun j hj hjk hji=>?_⟩
 ·rw [f1,h1]
  split <;> split <;> omega
 ·obtain ⟨t1,e1⟩:=f3 xs[i];obtain ⟨t2,e2⟩:=h3;obtain ⟨t3,e3⟩:=hu;obtain ⟨t4,e4⟩:=sub_cg q xs[i] xs[k] hq
  generalize ((subN q xs[i] xs[k]:Nat):Int)=d at *
  generalize xs[i]=xi at *
  generalize xs[k]=xk at *
  exact ⟨t1+u*(xi - xk)*t2+t3 - u*t4,by grind⟩
 ·obtain ⟨t1,e1⟩:=f3 xs[j]
  by_cases hjk':j=k
  ·subst hjk';exact ⟨t1,by grind⟩
  ·obtain ⟨t2,e2⟩:=h4 j hj (by omega) hji;exact ⟨t1+u*(xs[j] - xs[k])*t2,by grind⟩
theorem FndI.done {q:Nat} {xs:List Int} {i:Nat} {hi:i < xs.length} {l:List Int} (h:FndI q xs i hi xs.length l) :
  l.length=xs.length∧ResL q l∧Itp.Cg q (Itp.ev l xs[i]) 1∧∀ j (hj:j < xs.length),j≠i→Itp.Cg q (Itp.ev l xs[j]) 0:=by
 obtain ⟨h1,h2,h3,h4⟩:=h;exact ⟨by rw [h1,if_pos hi],h2,h3,fun j hj hne=>h4 j hj hj hne⟩
end Go.Proofs.YtpcdfepndmconaaGreatDoor
/- make([]int, n); a cell of a block of ints is set. -/
namespace Go.Proofs.YtpcdfepndmconaaGreatDoor
open Go.RowKit
theorem madeN (n:Nat):madeCells #[Value.int .i64 0] (n*1)=(ints (List.replicate n 0)).toArray:=by
 have h1:∀ j,(#[Value.int .i64 0]:Array Value)[j % (#[Value.int .i64 0]:Array Value).size]! = .int .i64 0:=fun j=>by
  have:j % 1=0:=Nat.mod_one j
  simp [this]
 unfold madeCells
 apply Array.ext
 ·simp [ints]
 ·intro j h2 h3;rw [Array.getElem_map,h1]
  simp [ints]
theorem make_n (n:Nat) (w:World) (h:n≤1000) :
  (Instr.makeSlice 24 (.int .i64 (n:Int)) (.int .i64 (n:Int))).run Tryz.prog w=.ok (.slice (some ⟨w.heap.size,0,none⟩) n n) (w.alloc (.cells (ints (List.replicate n 0)).toArray 3)):=by
 obtain ⟨i0,hi,hz0,hz1,hz2⟩:=info_parts infoInt;have:=run_makeSlice (P:=Tryz.prog) w 24 3 i0 (.int .i64 0) Tryz.underlying24 hi hz0 .i64 .i64 (n:Int) (n:Int) (by omega) (by omega) (by rw [hz1];simp;omega) (by rw [hz2];omega) (by omega);rw [hz1] at this;simp only [Int.toNat_natCast,Value.cells] at this;rw [this,madeN]
theorem Blk.setI {w:World} {b:Nat} {T:TypeId} {l:List Int} (h:Blk w b T (ints l).toArray) (i:Nat) (v:Int):Blk (w.setCell ⟨b,i,none⟩ (.int .i64 v)) b T (ints (l.set i v)).toArray:=by
 have:=h.set_ i (.int .i64 v)
 rwa [show (ints l).toArray.setIfInBounds i (.int .i64 v)=(ints (l.set i v)).toArray by simp [ints,List.map_set]] at this
theorem Blk.cellI {w:World} {b:Nat} {T:TypeId} {l:List Int} (h:Blk w b T (ints l).toArray) (i:Nat) (hi:i < l.length):w.cell? ⟨b,i,none⟩=some (.int .i64 l[i]):=by
 rw [h.cell]
 simp [ints,hi]
end Go.Proofs.YtpcdfepndmconaaGreatDoor
namespace Go.Proofs.YtpcdfepndmconaaGreatDoor
open Go.RowKit
theorem cop_subI {q:Nat} (h:Prm.primeN q=true) (x y:Int) (hx:0≤x) (hx2:x≤12) (hy:0≤y) (hy2:y≤12) (hxq:x < q) (hyq:y < q) (hne:x≠y) :
  Nat.gcd q (res q ((subN q x y:Nat):Int))=1:=by
 obtain ⟨a,rfl⟩:=Int.eq_ofNat_of_zero_le hx;obtain ⟨b,rfl⟩:=Int.eq_ofNat_of_zero_le hy;exact cop_sub h a b (by omega) (by omega) (by omega) (by omega) (by omega)
/-- how fundamental ends -/
def FundQ (q:Nat) (xs:List Int) (i:Nat) (hi:i < xs.length) (w:World) (e:Ending) (w':World):Prop :=
 ∃ (g:Nat) (l:List Int),e=.returned (.slice (some ⟨g,0,none⟩) l.length l.length)∧w.heap.size≤g∧FndI q xs i hi xs.length l∧Row w' 1 (.slice (some ⟨g,0,none⟩) l.length l.length) l.length (ints l)∧Kept [] w w'
set_option maxRecDepth 100000 in
set_option maxHeartbeats 4000000 in
theorem fund_any (q:Nat) (xs:List Int) (i:Nat) (v:Value) (w:World) (h2:2≤q) (h3:q < 2305843009213693952) (hp:Prm.primeN q=true) (hv:Row w 1 v xs.length (ints xs)) (hl:xs.length≤12)
  (hr:∀ x∈xs,0≤x∧x≤12∧x < q) (hd:xs.Pairwise (·≠·)) (hi:i < xs.length) :
  Calls Tryz.prog 175 #[.int .i64 q,v,.int .i64 i] w (FundQ q xs i hi w):=by
 obtain ⟨va,vc,rfl,hlv,_⟩:=hv.form;have HV:=Lib.hid hv;have HR:=Lib.hid hr;have HD:=Lib.hid (List.pairwise_iff_getElem.1 hd);have HP:=Lib.hid hp;have hm1:(1:Int).tmod (q:Int)=1:=tmod_nat (x:=1) (by omega)
 have hz':¬ (q:Int)=0:=by omega
 have HB0:Hid (Blk (w.alloc (.cells #[.int .i64 1] 3)) w.heap.size 3 (ints [1]).toArray):=Blk.new _ _ _;clear hv hr hd hp
 go_enter Tryz.func175,Tryz.ntmps175
 go_wp2_with fail
 go_loopw [7,8,9,10,11,12,13] (fun vo vk _ _ _ _ _ wr=>∃ (k g:Nat) (l:List Int),k≤xs.length∧vk=.int .i64 k∧vo=.slice (some ⟨g,0,none⟩) l.length l.length∧Hid (FndI q xs i hi k l)∧Hid (Blk wr g 3 (ints l).toArray)∧w.heap.size≤g∧Kept [] w wr)
  (fun _ vk _ _ _ _ _ _=>xs.length - (intOf vk).toNat)
 case atStart=>exact ⟨0,w.heap.size,[1],by omega,rfl,rfl,FndI.start q xs i hi h2,HB0,Nat.le_refl _,(Kept.refl _ _).alloc _⟩
 case round =>
  obtain ⟨k,g,l,hk,rfl,rfl,HF,HB,hg,hkr⟩:=hrel
  by_cases hlt:k < xs.length
  ·by_cases hki:k=i
   ·subst hki;go_wp2_with fail
    go_roundw
    case rel=>exact ⟨k+1,g,l,by omega,by go_num,rfl,HF.out.skip,HB,hg,hkr⟩
    case measure=>simp [intOf];omega
   ·have hxi:=HR.out xs[i] (List.getElem_mem hi);have hxk:=HR.out xs[k] (List.getElem_mem hlt)
    have hne:xs[i]≠xs[k]:=by
     rcases Nat.lt_or_ge i k with h|h
     ·exact HD.out i k hi hlt h
     ·exact fun e=>HD.out k i hlt hi (by omega) e.symm
    have hgc:=cop_subI HP.out xs[i] xs[k] hxi.1 hxi.2.1 hxk.1 hxk.2.1 hxi.2.2 hxk.2.2 hne;obtain ⟨u,hu,hcu⟩:=inv_ex q ((subN q xs[i] xs[k]:Nat):Int) h2 hgc;have HNX:Hid (∀ a,FunI q u xs[k] l a l.length→FndI q xs i hi (k+1) a):=fun a ha=>HF.out.next hlt hki u hcu (by omega) ha;obtain ⟨ba,oa,rfl,hca⟩:=HV.out.at_ (by omega);have XK0:Hid (∀ w',Kept [] w w'→w'.cell? ⟨ba,oa+k,none⟩=some (.int .i64 xs[k])):=Kept.cellOf (hca k _ (ints_get hlt));have xi:∀ w',Kept [] wr w'→w'.cell? ⟨ba,oa+i,none⟩=some (.int .i64 xs[i]):=fun w' kk=>Kept.cellOf (hca i _ (ints_get hi)) w' (hkr.trans kk);have xk:∀ w',Kept [] wr w'→w'.cell? ⟨ba,oa+k,none⟩=some (.int .i64 xs[k]):=fun w' kk=>XK0.out w' (hkr.trans kk)
    have SB:Hid (∀ w',Calls Tryz.prog 83 #[.int .i64 q,.int .i64 xs[i],.int .i64 xs[k]] w' fun e w2=>e=.returned (.int .i64 ((subN q xs[i] xs[k]:Nat):Int))∧Kept [] w' w2):=fun w'=>(rsub_any q xs[i] xs[k] w' (by omega) h3 ⟨by omega,by omega⟩ ⟨by omega,by omega⟩).mono fun _ _ h=>⟨h.1,h.2▸Kept.refl _ _⟩
    have lsb:=ltSub q xs[i] xs[k] (by omega);have IV:Hid (∀ w',Calls Tryz.prog 204 #[.int .i64 q,.int .i64 ((subN q xs[i] xs[k]:Nat):Int)] w' fun e w2=>e=.returned (.tuple #[.int .i64 (u:Int),.bool true])∧Kept [] w' w2):=fun w'=>rinv_u q _ u w' h2 h3 ⟨by omega,by omega⟩ hgc hu hcu
    have hll:l.length≤13:=by
     have:=HF.out.1
     split at this <;> omega
    have hik:((k:Int)==(i:Int))=false:=by
     have:¬ (k:Int)=(i:Int):=by omega
     simpa using this
    obtain ⟨x,hx⟩:∃ x,xs[k]=x:=⟨_,rfl⟩;rw [hx] at HNX xk XK0 hxk SB IV lsb;obtain ⟨y,hy⟩:∃ y,xs[i]=y:=⟨_,rfl⟩;rw [hy] at xi SB IV lsb;obtain ⟨d,hd⟩:∃ d,subN q y x=d:=⟨_,rfl⟩;rw [hd] at SB IV lsb
    have hwl:IntKind.i64.wrap ((l.length:Int)+1)=((l.length+1:Nat):Int):=by rw [IntKind.wrap_i64];omega
    have HMS:Hid (∀ w,(Instr.makeSlice 24 (.int .i64 ((l.length:Int)+1)) (.int .i64 ((l.length:Int)+1))).run Tryz.prog w=.ok (.slice (some ⟨w.heap.size,0,none⟩) (l.length+1) (l.length+1)) (w.alloc (.cells (ints (List.replicate (l.length+1) 0)).toArray 3))):=fun w=>by
     have:=make_n (l.length+1) w (by omega)
     rwa [show ((l.length+1:Nat):Int)=(l.length:Int)+1 by omega] at this
    have HRL:Hid (ResL q l):=HF.out.2.1;clear hca hx hy hd hgc hcu hne hxi HF;go_upto_region 6 with (fail)
    go_region_held3 (fun w'=>Kept [] wr w') (first|assumption|exact (Kept.refl _ _).drew|exact Kept.alloc (by assumption) _)
     (first
      | (go_at_call 83;with_reducible refine (kept_from (W:=wr) (by assumption) (SB.out _)).mono ?_;rintro e w6 ⟨rfl,hk6⟩)
      | (go_at_call 204;with_reducible refine (kept_from (W:=wr) (by assumption) (IV.out _)).mono ?_;rintro e w7 ⟨rfl,hk7⟩)
      | fail)
    clear xi xk hk6;have hms:=HMS.out;have hgl:=HB.out.lt;have hs7:=hk7.size;have HW8:Hid (Blk (w7.alloc (.cells (ints (List.replicate (l.length+1) 0)).toArray 3)) w7.heap.size 3 (ints (List.replicate (l.length+1) 0)).toArray):=Blk.new _ _ _;have hk8:Kept [] wr (w7.alloc (.cells (ints (List.replicate (l.length+1) 0)).toArray 3)):=hk7.alloc _;go_wp2_with fail;obtain ⟨W8,hW8⟩:∃ W,w7.alloc (.cells (ints (List.replicate (l.length+1) 0)).toArray 3)=W:=⟨_,rfl⟩;obtain ⟨g2,hg2⟩:∃ g,w7.heap.size=g:=⟨_,rfl⟩;rw [hW8] at HW8 hk8 ⊢;rw [hg2] at HW8 hs7 ⊢;have HB8:=Lib.hid (HB.out.kept hk8 (by simp));have hg28:g2 < W8.heap.size:=HW8.out.lt
    have hng:g≠g2:=by omega
    have hbg:wr.heap.size≤g2:=by omega
    clear hW8 hg2 hms hwl;obtain ⟨wO,hwO⟩:∃ W,W=wr:=⟨_,rfl⟩;subst hwO
    go_loopw [12,13] (fun vn _ wq=>∃ (n:Nat) (a:List Int),n≤l.length∧vn=.int .i64 n∧Hid (FunI q u x l a n)∧Hid (Blk wq g2 3 (ints a).toArray)∧Kept [g2] W8 wq) (fun vn _ _=>l.length - (intOf vn).toNat)
    case atStart=>exact ⟨0,_,by omega,rfl,FunI.start q u x l (by omega),HW8,Kept.refl _ _⟩
    case round =>
     obtain ⟨n,a,hn,rfl,HFI,HBA,hkq⟩:=hrel
     by_cases hln:n < l.length
     ·have hal:=HFI.out.1;have HBG:Hid (Blk wr g 3 (ints l).toArray):=HB8.out.kept hkq (by simp;omega);have el:=HBG.out.cellI n hln;obtain ⟨ln,hln1,hln2⟩:=HRL.out.get n hln;obtain ⟨a1,ha1,ha1q⟩:=HFI.out.2.1.get (n+1) (by omega);obtain ⟨a0,ha0,ha0q⟩:=HFI.out.2.1.get n (by omega);have e1:=HBA.out.cellI (n+1) (by omega);rw [hln1] at el;rw [ha1] at e1;have f1:=HBA.out.frozen (n+1);have MU:Hid (∀ w',Calls Tryz.prog 82 #[.int .i64 q,.int .i64 ln,.int .i64 u] w' fun e w2=>e=.returned (.int .i64 ((mulN q (ln:Int) (u:Int):Nat):Int))∧w'=w2):=fun w'=>rmul_any q ln u w' (by omega) h3 ⟨by omega,by omega⟩ ⟨by omega,by omega⟩;have lc:=ltMul q (ln:Int) (u:Int) (by omega)
      have HFN:Hid (∀ c v1 v2,mulN q (ln:Int) (u:Int)=c→addN q (a1:Int) (c:Int)=v1→subN q (a0:Int) ((mulN q (c:Int) x:Nat):Int)=v2→FunI q u x l ((a.set (n+1) (v1:Int)).set n (v2:Int)) (n+1)):=fun c v1 v2 e1 e2 e3 =>
       HFI.out.next (by omega) hln c v1 v2 a1 a0 ha1 ha0 (by rw [hln1];exact e1) e2 e3
      obtain ⟨c,hc⟩:∃ c,mulN q (ln:Int) (u:Int)=c:=⟨_,rfl⟩;rw [hc] at MU lc;have AD:Hid (∀ w',Calls Tryz.prog 140 #[.int .i64 q,.int .i64 a1,.int .i64 c] w' fun e w2=>e=.returned (.int .i64 ((addN q (a1:Int) (c:Int):Nat):Int))∧w'=w2):=fun w'=>radd_any q a1 c w' (by omega) h3 ⟨by omega,by omega⟩ ⟨by omega,by omega⟩;obtain ⟨v1,hv1⟩:∃ v,addN q (a1:Int) (c:Int)=v:=⟨_,rfl⟩;rw [hv1] at AD;have MX:Hid (∀ w',Calls Tryz.prog 82 #[.int .i64 q,.int .i64 c,.int .i64 x] w' fun e w2=>e=.returned (.int .i64 ((mulN q (c:Int) x:Nat):Int))∧w'=w2):=fun w'=>rmul_any q c x w' (by omega) h3 ⟨by omega,by omega⟩ ⟨by omega,by omega⟩;have lp:=ltMul q (c:Int) x (by omega);have HFN2:=HFN.out c v1;obtain ⟨pp,hpp⟩:∃ p,mulN q (c:Int) x=p:=⟨_,rfl⟩;rw [hpp] at MX lp HFN2;have SX:Hid (∀ w',Calls Tryz.prog 83 #[.int .i64 q,.int .i64 a0,.int .i64 pp] w' fun e w2=>e=.returned (.int .i64 ((subN q (a0:Int) (pp:Int):Nat):Int))∧w'=w2):=fun w'=>rsub_any q a0 pp w' (by omega) h3 ⟨by omega,by omega⟩ ⟨by omega,by omega⟩;obtain ⟨v2,hv2⟩:∃ v,subN q (a0:Int) (pp:Int)=v:=⟨_,rfl⟩;rw [hv2] at SX;have HN2:Hid (FunI q u x l ((a.set (n+1) (v1:Int)).set n (v2:Int)) (n+1)):=HFN2 v2 hc hv1 hv2;have hkqx:∀ w',Kept [g2] wr w'→Kept [] w w':=fun w' kk=>hkr.trans (hk8.fresh (hkq.trans kk) (by simp;omega));have XK:Hid (∀ w',Kept [g2] wr w'→w'.cell? ⟨ba,oa+k,none⟩=some (.int .i64 x)):=fun w' kk=>XK0.out w' (hkqx w' kk)
      have HE0:Hid (wr.cell? ⟨g2,n,none⟩=some (.int .i64 a0)):=by
       have:=HBA.out.cellI n (by omega)
       rwa [ha0] at this
      have hwn:IntKind.i64.wrap ((n:Int)+1)=(n:Int)+1:=by rw [IntKind.wrap_i64];omega
      have hn1:n+1 < l.length+1:=by omega
      have hn2:n < l.length+1:=by omega
      have hn3:(n:Int) < (l.length:Int)+1:=by omega
      have ha0':Hid (∀ h:n < a.length,a[n]=(a0:Int)):=fun _=>ha0;clear hln1 ha1 ha0 hc hv1 hpp hv2 HFN HFN2 hkqx hal
      go_upto_region 13 with (first
       | (go_at_call 82;with_reducible refine (MU.out _).mono ?_;rintro e w' ⟨rfl,rfl⟩)
       | (go_at_call 140;with_reducible refine (AD.out _).mono ?_;rintro e w' ⟨rfl,rfl⟩))
      obtain ⟨wB,hwB⟩:∃ W,wr.setCell ⟨g2,n+1,none⟩ (.int .i64 v1)=W:=⟨_,rfl⟩;have HB1:Hid (Blk wB g2 3 (ints (a.set (n+1) (v1:Int))).toArray):=hwB▸Blk.setI HBA.out (n+1) (v1:Int);have hkB:Kept [g2] wr wB:=hwB▸Kept.setCell (Kept.refl _ _) (p:=⟨g2,n+1,none⟩) (Or.inl (by simp)) _
      have hL0:wB.drew.cell? ⟨g2,n,none⟩=some (.int .i64 a0):=by
       show wB.cell? ⟨g2,n,none⟩=some (.int .i64 a0)
       have h1:=HB1.out.cellI n (by rw [List.length_set,HFI.out.1];omega);rw [List.getElem_set_ne (by omega)] at h1;rw [h1];rw [ha0'.out]
      have xkB:∀ w',Kept [g2] wB w'→w'.cell? ⟨ba,oa+k,none⟩=some (.int .i64 x):=fun w' kk=>XK.out w' (hkB.trans kk);rw [hwB];clear hwB el e1 f1;refine wp_region_held_drew (S:=fun w'=>Kept [g2] wB w') (by kernel_rfl) (Kept.refl _ _).drew (fun hHeld=>?_);refine take_of (i:=0) (v:=?v1x0) rfl (by kernel_rfl) (by kernel_rfl) (by kernel_rfl) (fun _ _ _ h=>h) (Or.inl ⟨by rfl,?hy1x0⟩) hHeld ?rest1x0
      case hy1x0=>intro w' hSw;(try dsimp only at hSw);go_simp;first|done|with_reducible rfl
      simp only [Act.put,List.setIfInBounds_toArray,List.set_cons_zero,List.set_cons_succ];refine take_of (i:=1) (v:=?v1x1) rfl (by kernel_rfl) (by kernel_rfl) (by kernel_rfl) (fun _ _ _ h=>h) (Or.inl ⟨by rfl,?hy1x1⟩) hHeld ?rest1x1
      case hy1x1=>intro w' hSw;(try dsimp only at hSw);go_simp;first|done|with_reducible rfl
      simp only [Act.put,List.setIfInBounds_toArray,List.set_cons_zero,List.set_cons_succ];refine take_of (i:=2) (v:=?v1x2) rfl (by kernel_rfl) (by kernel_rfl) (by kernel_rfl) (fun _ _ _ h=>h) (Or.inl ⟨by rfl,?hy1x2⟩) hHeld ?rest1x2
      case hy1x2=>intro w' hSw;(try dsimp only at hSw);go_simp;first|done|with_reducible rfl
      simp only [Act.put,List.setIfInBounds_toArray,List.set_cons_zero,List.set_cons_succ];refine take_of (i:=3) (v:=?v1x3) rfl (by kernel_rfl) (by kernel_rfl) (by kernel_rfl) (fun _ _ _ h=>h) (Or.inl ⟨by rfl,?hy1x3⟩) hHeld ?rest1x3
      case hy1x3=>intro w' hSw;(try dsimp only at hSw);go_simp;first|done|with_reducible rfl
      simp only [Act.put,List.setIfInBounds_toArray,List.set_cons_zero,List.set_cons_succ];refine take_of (i:=4) (v:=?v1x4) rfl (by kernel_rfl) (by kernel_rfl) (by kernel_rfl) (fun _ _ _ h=>h) (Or.inl ⟨by rfl,?hy1x4⟩) hHeld ?rest1x4
      case hy1x4=>intro w' hSw;(try dsimp only at hSw);go_simp;first|done|with_reducible rfl
      simp only [Act.put,List.setIfInBounds_toArray,List.set_cons_zero,List.set_cons_succ];refine take_of (i:=5) (v:=?v1x5) rfl (by kernel_rfl) (by kernel_rfl) (by kernel_rfl) (fun _ _ _ h=>h) (Or.inl ⟨by rfl,?hy1x5⟩) hHeld ?rest1x5
      case hy1x5=>intro w' hSw;(try dsimp only at hSw);go_simp;first|done|with_reducible rfl
      simp only [Act.put,List.setIfInBounds_toArray,List.set_cons_zero,List.set_cons_succ];refine take_of (i:=7) (v:=?v1x7) rfl (by kernel_rfl) (by kernel_rfl) (by kernel_rfl) (fun _ _ _ h=>h) (Or.inl ⟨by rfl,?hy1x7⟩) hHeld ?rest1x7
      case hy1x7=>intro w' hSw;(try dsimp only at hSw);go_simp;first|done|with_reducible rfl
      simp only [Act.put,List.setIfInBounds_toArray,List.set_cons_zero,List.set_cons_succ];refine take_of (i:=8) (v:=?v1x8) rfl (by kernel_rfl) (by kernel_rfl) (by kernel_rfl) (fun _ _ _ h=>h) (Or.inl ⟨by rfl,?hy1x8⟩) hHeld ?rest1x8
      case hy1x8=>intro w' hSw;(try dsimp only at hSw);go_simp;first|done|with_reducible rfl
      simp only [Act.put,List.setIfInBounds_toArray,List.set_cons_zero,List.set_cons_succ];refine take_of (i:=9) (v:=?v1x9) rfl (by kernel_rfl) (by kernel_rfl) (by kernel_rfl) (fun _ _ _ h=>h) (Or.inl ⟨by rfl,?hy1x9⟩) hHeld ?rest1x9
      case hy1x9=>intro w' hSw;(try dsimp only at hSw);go_simp;first|done|with_reducible rfl
      simp only [Act.put,List.setIfInBounds_toArray,List.set_cons_zero,List.set_cons_succ];refine take_of (i:=10) (v:=?v1x10) rfl (by kernel_rfl) (by kernel_rfl) (by kernel_rfl) (fun _ _ _ h=>h) (Or.inl ⟨by rfl,?hy1x10⟩) hHeld ?rest1x10
      case hy1x10=>intro w' hSw;(try dsimp only at hSw);go_simp;first|done|with_reducible rfl
      simp only [Act.put,List.setIfInBounds_toArray,List.set_cons_zero,List.set_cons_succ];refine take_of (i:=11) (v:=?v1x11) rfl (by kernel_rfl) (by kernel_rfl) (by kernel_rfl) (fun _ _ _ h=>h) (Or.inl ⟨by rfl,?hy1x11⟩) hHeld ?rest1x11
      case hy1x11=>intro w' hSw;(try dsimp only at hSw);go_simp;first|done|with_reducible rfl
      simp only [Act.put,List.setIfInBounds_toArray,List.set_cons_zero,List.set_cons_succ];refine take_of (i:=12) (v:=?v1x12) rfl (by kernel_rfl) (by kernel_rfl) (by kernel_rfl) (fun _ _ _ h=>h) (Or.inl ⟨by rfl,?hy1x12⟩) hHeld ?rest1x12
      case hy1x12=>intro w' hSw;(try dsimp only at hSw);go_simp;first|done|with_reducible rfl
      simp only [Act.put,List.setIfInBounds_toArray,List.set_cons_zero,List.set_cons_succ];have ld:wB.drew.cell? ⟨g2,n,none⟩=some (.int .i64 a0):=hL0;have fL:wB.drew.frozen? ⟨g2,n,none⟩=false:=HB1.out.frozen n;have hkF:Kept [g2] wB (wB.drew.setCell ⟨g2,n,none⟩ (.int .i64 v2)):=Kept.setCell hHeld (p:=⟨g2,n,none⟩) (Or.inl (by simp)) _;refine wpAnyH_ready (rs:=[6,13]) (by kernel_rfl) (by simp) ?_;refine AllReadyH.cons rfl (fun K hK=>?_) (AllReadyH.cons rfl (fun K hK=>?_) AllReadyH.nil)
      ·go_simp;refine hK.out _ _ hHeld (fun _=>?_);clear hK K
       (try simp only [Act.put,List.setIfInBounds_toArray,List.set_cons_zero,List.set_cons_succ])
       refine wpAnyH_ready (rs:=[13]) (by kernel_rfl) (by simp) ?_;refine AllReadyH.cons rfl (fun K hK=>?_) AllReadyH.nil;go_simp;refine (MX.out _).mono ?_;rintro e wC ⟨rfl,rfl⟩;refine hK.out _ _ hHeld (fun _=>?_);clear hK K
       (try simp only [Act.put,List.setIfInBounds_toArray,List.set_cons_zero,List.set_cons_succ])
       refine wpAnyH_ready (rs:=[14]) (by kernel_rfl) (by simp) ?_;refine AllReadyH.cons rfl (fun K hK=>?_) AllReadyH.nil;go_simp;refine (SX.out _).mono ?_;rintro e wD ⟨rfl,rfl⟩;refine hK.out _ _ hHeld (fun _=>?_);clear hK K
       (try simp only [Act.put,List.setIfInBounds_toArray,List.set_cons_zero,List.set_cons_succ])
       refine wpAnyH_ready (rs:=[15]) (by kernel_rfl) (by simp) ?_;refine AllReadyH.cons rfl (fun K hK=>?_) AllReadyH.nil;go_simp;refine hK.out _ _ hHeld (fun _=>?_);clear hK K
       (try simp only [Act.put,List.setIfInBounds_toArray,List.set_cons_zero,List.set_cons_succ])
       refine wpAnyH_ready (rs:=[16]) (by kernel_rfl) (by simp) ?_;refine AllReadyH.cons rfl (fun K hK=>?_) AllReadyH.nil;go_simp;refine hK.out _ _ hkF (fun _=>?_);clear hK K
       (try simp only [Act.put,List.setIfInBounds_toArray,List.set_cons_zero,List.set_cons_succ])
       refine wpAnyH_done (by kernel_rfl) ?_ _;have HBN:Hid (Blk ((wB.setCell ⟨g2,n,none⟩ (.int .i64 v2)).drew) g2 3 (ints ((a.set (n+1) (v1:Int)).set n (v2:Int))).toArray):=Blk.drew (Blk.setI HB1.out n (v2:Int));have hkG:Kept [g2] wB (wB.setCell ⟨g2,n,none⟩ (.int .i64 v2)).drew:=hkF;obtain ⟨wE,hwE⟩:∃ W,(wB.setCell ⟨g2,n,none⟩ (.int .i64 v2)).drew=W:=⟨_,rfl⟩;rw [hwE] at hkG HBN ⊢;clear hwE fL ld hHeld hkF;clear xkB hL0;go_wp2_with fail
       go_roundw
       case rel=>exact ⟨n+1,_,by omega,by go_num,HN2,HBN,hkq.trans (hkB.trans hkG)⟩
       case measure=>simp [intOf];omega
      ·go_simp;refine (MX.out _).mono ?_;rintro e wC ⟨rfl,rfl⟩;refine hK.out _ _ hHeld (fun _=>?_);clear hK K
       (try simp only [Act.put,List.setIfInBounds_toArray,List.set_cons_zero,List.set_cons_succ])
       refine wpAnyH_ready (rs:=[6]) (by kernel_rfl) (by simp) ?_;refine AllReadyH.cons rfl (fun K hK=>?_) AllReadyH.nil;go_simp;refine hK.out _ _ hHeld (fun _=>?_);clear hK K
       (try simp only [Act.put,List.setIfInBounds_toArray,List.set_cons_zero,List.set_cons_succ])
       refine wpAnyH_ready (rs:=[14]) (by kernel_rfl) (by simp) ?_;refine AllReadyH.cons rfl (fun K hK=>?_) AllReadyH.nil;go_simp;refine (SX.out _).mono ?_;rintro e wD ⟨rfl,rfl⟩;refine hK.out _ _ hHeld (fun _=>?_);clear hK K
       (try simp only [Act.put,List.setIfInBounds_toArray,List.set_cons_zero,List.set_cons_succ])
       refine wpAnyH_ready (rs:=[15]) (by kernel_rfl) (by simp) ?_;refine AllReadyH.cons rfl (fun K hK=>?_) AllReadyH.nil;go_simp;refine hK.out _ _ hHeld (fun _=>?_);clear hK K
       (try simp only [Act.put,List.setIfInBounds_toArray,List.set_cons_zero,List.set_cons_succ])
       refine wpAnyH_ready (rs:=[16]) (by kernel_rfl) (by simp) ?_;refine AllReadyH.cons rfl (fun K hK=>?_) AllReadyH.nil;go_simp;refine hK.out _ _ hkF (fun _=>?_);clear hK K
       (try simp only [Act.put,List.setIfInBounds_toArray,List.set_cons_zero,List.set_cons_succ])
       refine wpAnyH_done (by kernel_rfl) ?_ _;have HBN:Hid (Blk ((wB.setCell ⟨g2,n,none⟩ (.int .i64 v2)).drew) g2 3 (ints ((a.set (n+1) (v1:Int)).set n (v2:Int))).toArray):=Blk.drew (Blk.setI HB1.out n (v2:Int));have hkG:Kept [g2] wB (wB.setCell ⟨g2,n,none⟩ (.int .i64 v2)).drew:=hkF;obtain ⟨wE,hwE⟩:∃ W,(wB.setCell ⟨g2,n,none⟩ (.int .i64 v2)).drew=W:=⟨_,rfl⟩;rw [hwE] at hkG HBN ⊢;clear hwE fL ld hHeld hkF;clear xkB hL0;go_wp2_with fail
       go_roundw
       case rel=>exact ⟨n+1,_,by omega,by go_num,HN2,HBN,hkq.trans (hkB.trans hkG)⟩
       case measure=>simp [intOf];omega
     ·obtain rfl:n=l.length:=by omega
      have hal:=HFI.out.1;have hkw:Kept [] w wr:=hkr.trans (hk8.fresh hkq (by simp;omega));have HFE:=Lib.hid (HNX.out a HFI.out);go_wp2_with fail
      go_roundw
      case rel=>exact ⟨k+1,g2,a,by omega,by go_num,by rw [hal],HFE,HBA,by have:=hkr.size;omega,hkw⟩
      case measure=>simp [intOf];omega
  ·obtain rfl:k=xs.length:=by omega
   have hll:=HF.out.done.1;go_wp2_with fail;go_ret;exact ⟨g,l,rfl,hg,HF.out,row_of_blk (cs:=ints l) HB.out (by simp [ints]) (by omega),hkr⟩
end Go.Proofs.YtpcdfepndmconaaGreatDoor
