/- The program's polynomial through points. -/
import Derived.Test.YtpcdfepndmconaaGreatDoorNwh
namespace Go.Proofs.YtpcdfepndmconaaGreatDoor
open Go.RowKit
theorem Blk_far {w:World} (g p i:Nat) (v:Value) (h:p≠i):(w.setCell ⟨g,i,none⟩ v).cell? ⟨g,p,none⟩=w.cell? ⟨g,p,none⟩:=by
 unfold World.setCell World.cell?
 simp only [Array.getElem?_modify,if_pos]
 cases hw:w.heap[g]? with
 | none=>rfl
 | some o =>
  cases o with
  | cells c e f=>simp [Ne.symm h]
  | map _ _=>rfl
  | _=>rfl
theorem addN_zero (q s:Nat) (h:s < q):addN q (s:Int) 0=s:=by
 have e0:res q 0=0:=by unfold res;simp
 have e1:=res_eq q (s:Int) (by omega);rw [Int.emod_eq_of_lt (by omega) (by omega)] at e1
 unfold addN
 rw [e0,show res q (s:Int)=s by omega,Nat.add_zero,Nat.mod_eq_of_lt h]
set_option maxRecDepth 100000 in
set_option maxHeartbeats 8000000 in
theorem fthrough_any (q:Nat) (xs ys:List Int) (v vy:Value) (w:World) (h2:2≤q) (h3:q < 2305843009213693952) (hp:Prm.primeN q=true) (hv:Row w 1 v xs.length (ints xs)) (hvy:Row w 1 vy ys.length (ints ys)) (hl:xs.length≤12) (hl0:0 < xs.length)
  (hyl:ys.length=xs.length) (hr:∀ x∈xs,0≤x∧x≤12∧x < q) (hd:xs.Pairwise (·≠·)) (hiy:∀ y∈ys,Wire.I64 y) (hE:Env2 w) :
  Calls Tryz.prog 103 #[.int .i64 q,v,vy] w (ThrQ q xs ys w):=by
 obtain ⟨va,vc,rfl,hlv,_⟩:=hv.form;obtain ⟨ya,yc,rfl,hly,_⟩:=hvy.form;have HV:=Lib.hid hv;have HY:=Lib.hid hvy;have HYL:=Lib.hid hyl;have PX:=Lib.hid (points_any q xs _ w h2 h3 hp hv hl (fun x hx=>⟨(hr x hx).1,(hr x hx).2.2⟩) hd hE);obtain ⟨x,hx⟩:∃ x:Nat→Int,∀ i (h:i < xs.length),xs[i]=x i:=⟨fun i=>xs[i]?.getD 0,fun i h=>by simp [h]⟩;obtain ⟨y,hy⟩:∃ y:Nat→Int,∀ i (h:i < ys.length),ys[i]=y i:=⟨fun i=>ys[i]?.getD 0,fun i h=>by simp [h]⟩
 have hxb:∀ i,i < xs.length→0≤x i∧x i≤12∧x i < q:=fun i h=>by rw [←hx i h];exact hr _ (List.getElem_mem h)
 have hyb:∀ i,i < ys.length→Wire.I64 (y i):=fun i h=>by rw [←hy i h];exact hiy _ (List.getElem_mem h)
 have hgc:∀ i j,i < xs.length→j < xs.length→i≠j→Nat.gcd q (res q ((subN q (x i) (x j):Nat):Int))=1:=fun i j hi hj hij=>by
  have hne:x i≠x j:=by
   rw [←hx i hi,←hx j hj];have HD:=List.pairwise_iff_getElem.1 hd
   rcases Nat.lt_or_ge i j with h|h
   ·exact HD i j hi hj h
   ·exact fun e=>HD j i hj hi (by omega) e.symm
  obtain ⟨a1,a2,a3⟩:=hxb i hi;obtain ⟨b1,b2,b3⟩:=hxb j hj;exact cop_subI hp (x i) (x j) a1 a2 b1 b2 a3 b3 hne
 obtain ⟨f,hf⟩:∃ f:Nat→Nat→Nat,∀ i j,i < xs.length→j < xs.length→i≠j→f i j < q∧Itp.Cg q (f i j*((subN q (x i) (x j):Nat):Int)) 1:=by
  have:∀ i j,∃ u:Nat,i < xs.length→j < xs.length→i≠j→u < q∧Itp.Cg q (u*((subN q (x i) (x j):Nat):Int)) 1:=fun i j=>by
   by_cases h:i < xs.length∧j < xs.length∧i≠j
   ·obtain ⟨u,hu⟩:=inv_ex q ((subN q (x i) (x j):Nat):Int) h2 (hgc i j h.1 h.2.1 h.2.2);exact ⟨u,fun _ _ _=>hu⟩
   ·exact ⟨0,fun a b c=>absurd ⟨a,b,c⟩ h⟩
  exact ⟨fun i j=>Classical.choose (this i j),fun i j=>Classical.choose_spec (this i j)⟩
 have SUBX:Hid (∀ i j w',i < xs.length→j < xs.length→Calls Tryz.prog 81 #[.int .i64 q,.int .i64 (x i),.int .i64 (x j)] w' fun e w2=>e=.returned (.int .i64 ((subN q (x i) (x j):Nat):Int))∧Kept [] w' w2):=fun i j w' hi hj=>by
  have:=hxb i hi;have:=hxb j hj;exact fsub_any q (x i) (x j) w' (by omega) h3 ⟨by omega,by omega⟩ ⟨by omega,by omega⟩
 have INVX:Hid (∀ i j w',i < xs.length→j < xs.length→i≠j→Calls Tryz.prog 169 #[.int .i64 q,.int .i64 ((subN q (x i) (x j):Nat):Int)] w' fun e w2=>e=.returned (.tuple #[.int .i64 ((f i j:Nat):Int),.bool true])∧Kept [] w' w2):=fun i j w' hi hj hij=>by
  have:=ltSub q (x i) (x j) (by omega);exact finv_u q _ (f i j) w' h2 h3 ⟨by omega,by omega⟩ (hgc i j hi hj hij) (hf i j hi hj hij).1 (hf i j hi hj hij).2
 have HFQ:Hid (∀ i j,i < xs.length→j < xs.length→i≠j→f i j < q):=fun i j a b c=>(hf i j a b c).1;have HDL:Hid (∀ k i,ddF q f y k i < q):=fun k i=>ddF_lt q f y (by omega) k i
 have HDN:Hid (∀ o,NwI q xs.length x (fun i=>ddF q f y i i) 0 o→∀ j (hj:j < xs.length) (hj':j < ys.length),Itp.Cg q (Itp.ev o xs[j]) ys[j]):=fun o ho j hj hj'=>by
  rw [hx j hj,hy j hj'];exact ho.done (f:=f) (by omega) (fun i j a b c=>(hf i j a b c).2) j hj
 have HXS:Hid (∀ i (h:i < xs.length),xs[i]=x i):=hx;have HYS:Hid (∀ i (h:i < ys.length),ys[i]=y i):=hy;have HXB:=Lib.hid hxb
 have HL0:Hid (ys.map (fun v=>((res q v:Nat):Int))=lvlZ q f y xs.length 0):=by
  show _=_
  rw [←hyl];exact (lvlZ_zero q f ys y hy).symm
 obtain ⟨rz,hrz⟩:∃ r:Nat→Nat,r=fun i=>res q (y i):=⟨_,rfl⟩
 have RES:Hid (∀ k w,k < ys.length→Calls Tryz.prog 156 #[.int .i64 q,.int .i64 (y k)] w fun e w'=>e=.returned (.int .u64 ((rz k:Nat):Int))∧w=w'):=fun k w hk=>by
  rw [hrz];exact residue_any q (y k) w (by omega) h3 (hyb k hk)
 have HRZ:Hid (∀ k,rz k < q):=fun k=>by rw [hrz];exact res_lt q _ (by omega)
 have HTK:Hid (∀ k (h:k < ys.length),(ys.map (fun v=>((res q v:Nat):Int))).take (k+1)=(ys.map (fun v=>((res q v:Nat):Int))).take k++[((rz k:Nat):Int)]):=fun k h=>by
  show _=_
  rw [List.take_succ_eq_append_getElem (by simpa using h),List.getElem_map,hrz,hy k h]
 obtain ⟨D0,hD0⟩:∃ D,ys.map (fun v=>((res q v:Nat):Int))=D:=⟨_,rfl⟩;rw [hD0] at HL0 HTK
 have hD0l:D0.length=ys.length:=by rw [←hD0];simp
 have HMS:Hid (∀ w,(Instr.makeSlice 24 (.int .i64 (xs.length:Int)) (.int .i64 (xs.length:Int))).run Tryz.prog w=.ok (.slice (some ⟨w.heap.size,0,none⟩) xs.length xs.length) (w.alloc (.cells (ints (List.replicate xs.length 0)).toArray 3))):=fun w=>make_n xs.length w (by omega);obtain ⟨N1,hN1⟩:∃ N1,N1+1=xs.length:=⟨xs.length - 1,by omega⟩
 have hwn:IntKind.i64.wrap ((xs.length:Int) - 1)=(N1:Int):=by rw [IntKind.wrap_i64];omega
 have hne:((xs.length:Int) != (ys.length:Int))=false:=by simp;omega
 obtain ⟨i0,hi,hz0,hz1,hz2⟩:=info_parts infoInt;have HN1:=Lib.hid hN1;clear hv hvy hyl hr hd hp hiy hx hy hxb hyb hgc hf hrz hD0 hN1
 go_enter Tryz.func103,Tryz.ntmps103
 go_wp2_with (go_at_call 172;refine PX.out.mono ?_);rintro e w1 ⟨rfl,hk1⟩;go_wp2_with fail;clear hne
 go_loopw [8,10,31] (fun vd _ vi wr=>∃ k:Nat,k≤ys.length∧vi=.int .i64 k∧Hid (wr.ownsRow w1.heap.size 3 1 vd k (ints (D0.take k)))∧Kept [] w1 wr) (fun _ _ vi _=>ys.length - (intOf vi).toNat)
 case atStart=>exact ⟨0,by omega,rfl,World.ownsRow_nil _ _ _ _,Kept.refl _ _⟩
 case round =>
  obtain ⟨k,hk,rfl,HO,hkr⟩:=hrel;have hsz:=hkr.size
  by_cases hlt:k < ys.length
  ·obtain ⟨ba,oa,rfl,hca⟩:=(HY.out.kept (hk1.trans hkr)).at_ (by omega)
   have xa:wr.cell? ⟨ba,oa+k,none⟩=some (.int .i64 (y k)):=by
    rw [←HYS.out k hlt];exact hca k _ (ints_get hlt)
   have RX:=Lib.hid (RES.out k wr hlt);have HT:=Lib.hid (HTK.out k hlt);have hrq:=HRZ.out k;obtain ⟨yk,hyk⟩:∃ z,y k=z:=⟨_,rfl⟩;obtain ⟨rk,hrk⟩:∃ z,rz k=z:=⟨_,rfl⟩;rw [hyk] at xa RX;rw [hrk] at RX HT hrq;have hown:=HO.out
   have hk12:k≤12:=by have:=HYL.out;omega
   clear hca hyk hrk
   go_wp2_with (first
    | (go_at_call 156;with_reducible refine RX.out.mono ?_;rintro e w' ⟨rfl,rfl⟩)
    | (at_builtin;refine wpList_append_own _ rfl _ _ 24 rfl w1.heap.size 3 i0 (.int .i64 0) 1 8 Tryz.underlying24 hi hz0 hz1 hz2 rfl (by decide) _ _ _ rfl (hown.alloc _) ⟨wr.heap.size,0,none⟩ 1 1 [.int .i64 rk] rfl rfl (cell_one_new _ _ _) (by intro u hu;rw [List.mem_singleton] at hu;subst hu;rfl) (by unfold maxLen;omega) (by omega) (by simp;omega) ?_;intro v' w3 hown3 hg3 _))
   have hk3:Kept [] w1 w3:=(hkr.alloc _).grown hg3 (fun k hk=>Or.inr (hown.lt k hk).1)
   have HO3:Hid (w3.ownsRow w1.heap.size 3 1 v' (k+1) (ints (D0.take (k+1)))):=by
    rw [HT.out]
    show World.ownsRow _ _ _ _ _ _ _
    simpa [ints] using hown3
   clear hg3 hown3 hown xa;go_wp2_with fail
   go_roundw
   case rel=>exact ⟨k+1,by omega,by go_num,HO3,hk3⟩
   case measure=>simp [intOf];omega
  ·obtain rfl:k=ys.length:=by omega
   have hyl:=HYL.out;have hown:=HO.out;rw [List.take_of_length_le (by omega)] at hown
   have hD0x:D0.length=xs.length:=by omega
   obtain ⟨g,cg,rfl,hBg,hcg,hbp⟩:=BlkP.of_own (l:=D0) (v:=_) (by rw [hD0l];exact hown) (by omega);rw [HL0.out] at hbp;have HB0:=Lib.hid hbp;have hkD:Kept [] w wr:=hk1.trans hkr
   have hwg:w.heap.size≤g:=by have:=hk1.size;omega
   rw [hD0x] at hcg ⊢;obtain ⟨wD,hwD⟩:∃ W,W=wr:=⟨_,rfl⟩;subst hwD;have hgD:g < wD.heap.size:=hbp.lt;clear hown HO hbp hyl hcg hBg hkr hsz hlt hk;go_wp2_with fail
   go_loopw [11,12,13,14] (fun vk _ _ _ wr'=>∃ k:Nat,k+1≤xs.length∧vk=.int .i64 ((k:Int)+1)∧Hid (BlkP wr' g (lvlZ q f y xs.length k))∧Kept [g] wD wr') (fun vk _ _ _ _=>xs.length - (intOf vk).toNat)
   case atStart=>exact ⟨0,by omega,rfl,HB0,Kept.refl _ _⟩
   case round =>
    obtain ⟨k,hk,rfl,HB,hkr⟩:=hrel
    by_cases hlt:k+1 < xs.length
    ·have hn1:=HN1.out;have dk:decide ((k:Int)+1 < (xs.length:Int))=true:=decide_eq_true (by omega)
     have HBS:Hid (BlkP wr g (mixZ q f y xs.length k N1)):=by
      show BlkP _ _ _
      rw [show N1=xs.length - 1 by omega,mixZ_start];exact HB.out
     go_wp2_with fail
     go_loopw [12,13,14] (fun vi _ _ wq=>∃ i:Nat,k≤i∧i≤N1∧vi=.int .i64 i∧Hid (BlkP wq g (mixZ q f y xs.length k i))∧Kept [g] wD wq) (fun vi _ _ _=>(intOf vi).toNat)
     case atStart=>exact ⟨N1,by omega,by omega,rfl,HBS,hkr⟩
     case round =>
      obtain ⟨i,hki,hiN,rfl,HBM,hkq⟩:=hrel
      by_cases hik:k+1≤i
      ·obtain ⟨p,hp⟩:∃ p,p+1=i:=⟨i - 1,by omega⟩;obtain ⟨j,hj⟩:∃ j,j+(k+1)=i:=⟨i - (k+1),by omega⟩
       have hin:i < xs.length:=by omega
       have hjn:j < xs.length:=by omega
       have hpn:p < xs.length:=by omega
       have hwp:IntKind.i64.wrap ((i:Int) - 1)=(p:Int):=by rw [IntKind.wrap_i64];omega
       have hwj:IntKind.i64.wrap ((i:Int) - ((k:Int)+1))=(j:Int):=by rw [IntKind.wrap_i64];omega
       have kw:Kept [] w wr:=hkD.fresh hkq (by simpa using hwg);obtain ⟨bx,ox,rfl,hcx⟩:=HV.out.at_ (by omega)
       have xi:∀ w',Kept [] wr w'→w'.cell? ⟨bx,ox+i,none⟩=some (.int .i64 (x i)):=fun w' kk=>by
        rw [←HXS.out i hin];exact Kept.cellOf (hcx i _ (ints_get hin)) w' (kw.trans kk)
       have xj:∀ w',Kept [] wr w'→w'.cell? ⟨bx,ox+j,none⟩=some (.int .i64 (x j)):=fun w' kk=>by
        rw [←HXS.out j hjn];exact Kept.cellOf (hcx j _ (ints_get hjn)) w' (kw.trans kk)
       have SB:Hid (∀ w',Calls Tryz.prog 81 #[.int .i64 q,.int .i64 (x i),.int .i64 (x j)] w' fun e w2=>e=.returned (.int .i64 ((subN q (x i) (x j):Nat):Int))∧Kept [] w' w2):=fun w'=>SUBX.out i j w' hin hjn;have IV:Hid (∀ w',Calls Tryz.prog 169 #[.int .i64 q,.int .i64 ((subN q (x i) (x j):Nat):Int)] w' fun e w2=>e=.returned (.tuple #[.int .i64 ((f i j:Nat):Int),.bool true])∧Kept [] w' w2):=fun w'=>INVX.out i j w' hin hjn (by omega);have ga:=HBM.out.cell i (by rw [mixZ_len];exact hin);have gb:=HBM.out.cell p (by rw [mixZ_len];exact hpn);rw [mixZ_get,if_neg (by omega)] at ga;rw [mixZ_get,if_neg (by omega)] at gb
       have hdd:ddF q f y (k+1) i=mulN q ((subN q ((ddF q f y k i:Nat):Int) ((ddF q f y k p:Nat):Int):Nat):Int) ((f i j:Nat):Int):=by
        rw [ddF,if_pos hik,show i - (k+1)=j by omega,show i - 1=p by omega]
       have HSET:Hid (∀ v,mulN q ((subN q ((ddF q f y k i:Nat):Int) ((ddF q f y k p:Nat):Int):Nat):Int) ((f i j:Nat):Int)=v→(mixZ q f y xs.length k i).set i (v:Int)=mixZ q f y xs.length k p):=fun v hv=>by
        rw [←hv,←hdd,←hp];exact mixZ_next q f y xs.length k p
       have lA:=HDL.out k i;have lB:=HDL.out k p;have lU:=HFQ.out i j hin hjn (by omega)
       have HGI:Hid (i < (mixZ q f y xs.length k i).length):=by show _ < _;rw [mixZ_len];exact hin
       obtain ⟨xI,hxI⟩:∃ z,x i=z:=⟨_,rfl⟩;obtain ⟨xJ,hxJ⟩:∃ z,x j=z:=⟨_,rfl⟩;obtain ⟨u,hu⟩:∃ z,f i j=z:=⟨_,rfl⟩;rw [hxI] at xi SB IV;rw [hxJ] at xj SB IV;rw [hu] at IV HSET lU;obtain ⟨dx,hdx⟩:∃ z,subN q xI xJ=z:=⟨_,rfl⟩;rw [hdx] at SB IV;obtain ⟨A,hA⟩:∃ z,ddF q f y k i=z:=⟨_,rfl⟩;rw [hA] at ga lA HSET;obtain ⟨B,hB⟩:∃ z,ddF q f y k p=z:=⟨_,rfl⟩;rw [hB] at gb lB HSET;have SD:Hid (∀ w',Calls Tryz.prog 81 #[.int .i64 q,.int .i64 A,.int .i64 B] w' fun e w2=>e=.returned (.int .i64 ((subN q (A:Int) (B:Int):Nat):Int))∧Kept [] w' w2):=fun w'=>fsub_any q A B w' (by omega) h3 ⟨by omega,by omega⟩ ⟨by omega,by omega⟩;have lS:=ltSub q (A:Int) (B:Int) (by omega);obtain ⟨sd,hsd⟩:∃ z,subN q (A:Int) (B:Int)=z:=⟨_,rfl⟩;rw [hsd] at SD lS HSET;have MD:Hid (∀ w',Calls Tryz.prog 80 #[.int .i64 q,.int .i64 sd,.int .i64 u] w' fun e w2=>e=.returned (.int .i64 ((mulN q (sd:Int) (u:Int):Nat):Int))∧Kept [] w' w2):=fun w'=>fmul_any q sd u w' (by omega) h3 ⟨by omega,by omega⟩ ⟨by omega,by omega⟩;have HSE2:=HSET.out (mulN q (sd:Int) (u:Int)) rfl;obtain ⟨v,hv⟩:∃ z,mulN q (sd:Int) (u:Int)=z:=⟨_,rfl⟩;rw [hv] at MD HSE2;have HSE:=Lib.hid HSE2;have HGA:=Lib.hid ga;have HGB:=Lib.hid gb
       have HPI:Hid (p≠i):=by show p≠i;omega
       clear hcx hdd HSET HSE2 hxI hxJ hu hdx hA hB hsd hv ga gb kw hwp;go_upto_region 15 with (fail)
       go_region_held3 (fun w'=>Kept [] wr w') (first|assumption|exact (Kept.refl _ _).drew|exact Kept.alloc (by assumption) _)
        (first
         | (go_at_call 81;with_reducible refine (kept_from (W:=wr) (by assumption) (SB.out _)).mono ?_;rintro e w4 ⟨rfl,hk4⟩)
         | (go_at_call 169;with_reducible refine (kept_from (W:=wr) (by assumption) (IV.out _)).mono ?_;rintro e w5 ⟨rfl,hk5⟩)
         | fail)
       clear xi xj hk4
       have hwp:IntKind.i64.wrap ((i:Int) - 1)=(p:Int):=by rw [IntKind.wrap_i64];omega
       have HBO:Hid (BlkP w5 g (mixZ q f y xs.length k i)):=HBM.out.kept hk5 (by simp);have hgw:=HBM.out.lt;have hL0:w5.drew.cell? ⟨g,i,none⟩=some (.int .i64 A):=(hk5.cell (p:=⟨g,i,none⟩) hgw (by simp)).trans HGA.out;have d0:w5.cell? ⟨g,p,none⟩=some (.int .i64 B):=(hk5.cell (p:=⟨g,p,none⟩) hgw (by simp)).trans HGB.out;go_upto_region 16 with (fail);refine wp_region_held_drew (S:=fun w'=>Kept [g] w5 w'∧w'.cell? ⟨g,p,none⟩=some (.int .i64 B)) (by kernel_rfl) ⟨(Kept.refl _ _).drew,d0⟩ (fun hHeld=>?_);refine take_of (i:=0) (v:=?v1x0) rfl (by kernel_rfl) (by kernel_rfl) (by kernel_rfl) (fun _ _ _ h=>h) (Or.inl ⟨by rfl,?hy1x0⟩) hHeld ?rest1x0
       case hy1x0=>intro w' hSw;(try dsimp only at hSw);obtain ⟨hSw,hSc⟩:=hSw;go_simp;first|done|with_reducible rfl
       simp only [Act.put,List.setIfInBounds_toArray,List.set_cons_zero,List.set_cons_succ];refine take_of (i:=1) (v:=?v1x1) rfl (by kernel_rfl) (by kernel_rfl) (by kernel_rfl) (fun _ _ _ h=>h) (Or.inl ⟨by rfl,?hy1x1⟩) hHeld ?rest1x1
       case hy1x1=>intro w' hSw;(try dsimp only at hSw);obtain ⟨hSw,hSc⟩:=hSw;go_simp;first|done|with_reducible rfl
       simp only [Act.put,List.setIfInBounds_toArray,List.set_cons_zero,List.set_cons_succ];refine take_of (i:=2) (v:=?v1x2) rfl (by kernel_rfl) (by kernel_rfl) (by kernel_rfl) (fun _ _ _ h=>h) (Or.inl ⟨by rfl,?hy1x2⟩) hHeld ?rest1x2
       case hy1x2=>intro w' hSw;(try dsimp only at hSw);obtain ⟨hSw,hSc⟩:=hSw;go_simp;first|done|with_reducible rfl
       simp only [Act.put,List.setIfInBounds_toArray,List.set_cons_zero,List.set_cons_succ];refine take_of (i:=3) (v:=?v1x3) rfl (by kernel_rfl) (by kernel_rfl) (by kernel_rfl) (fun _ _ _ h=>h) (Or.inl ⟨by rfl,?hy1x3⟩) hHeld ?rest1x3
       case hy1x3=>intro w' hSw;(try dsimp only at hSw);obtain ⟨hSw,hSc⟩:=hSw;go_simp;first|done|with_reducible rfl
       simp only [Act.put,List.setIfInBounds_toArray,List.set_cons_zero,List.set_cons_succ];refine take_of (i:=4) (v:=?v1x4) rfl (by kernel_rfl) (by kernel_rfl) (by kernel_rfl) (fun _ _ _ h=>h) (Or.inl ⟨by rfl,?hy1x4⟩) hHeld ?rest1x4
       case hy1x4=>intro w' hSw;(try dsimp only at hSw);obtain ⟨hSw,hSc⟩:=hSw;go_simp;first|done|with_reducible rfl
       simp only [Act.put,List.setIfInBounds_toArray,List.set_cons_zero,List.set_cons_succ];refine take_of (i:=5) (v:=?v1x5) rfl (by kernel_rfl) (by kernel_rfl) (by kernel_rfl) (fun _ _ _ h=>h) (Or.inl ⟨by rfl,?hy1x5⟩) hHeld ?rest1x5
       case hy1x5=>intro w' hSw;(try dsimp only at hSw);obtain ⟨hSw,hSc⟩:=hSw;go_simp;first|done|with_reducible rfl
       simp only [Act.put,List.setIfInBounds_toArray,List.set_cons_zero,List.set_cons_succ];refine take_of (i:=6) (v:=?v1x6) rfl (by kernel_rfl) (by kernel_rfl) (by kernel_rfl) (fun _ _ _ h=>h) (Or.inl ⟨by rfl,?hy1x6⟩) hHeld ?rest1x6
       case hy1x6=>intro w' hSw;(try dsimp only at hSw);obtain ⟨hSw,hSc⟩:=hSw;go_simp;first|done|with_reducible rfl
       simp only [Act.put,List.setIfInBounds_toArray,List.set_cons_zero,List.set_cons_succ];refine take_of (i:=8) (v:=?v1x8) rfl (by kernel_rfl) (by kernel_rfl) (by kernel_rfl) (fun _ _ _ h=>h) (Or.inl ⟨by rfl,?hy1x8⟩) hHeld ?rest1x8
       case hy1x8=>intro w' hSw;(try dsimp only at hSw);obtain ⟨hSw,hSc⟩:=hSw;go_simp;first|done|with_reducible rfl
       simp only [Act.put,List.setIfInBounds_toArray,List.set_cons_zero,List.set_cons_succ];refine take_of (i:=9) (v:=?v1x9) rfl (by kernel_rfl) (by kernel_rfl) (by kernel_rfl) (fun _ _ _ h=>h) (Or.inl ⟨by rfl,?hy1x9⟩) hHeld ?rest1x9
       case hy1x9=>intro w' hSw;(try dsimp only at hSw);obtain ⟨hSw,hSc⟩:=hSw;go_simp;first|done|with_reducible rfl
       simp only [Act.put,List.setIfInBounds_toArray,List.set_cons_zero,List.set_cons_succ];refine take_of (i:=10) (v:=?v1x10) rfl (by kernel_rfl) (by kernel_rfl) (by kernel_rfl) (fun _ _ _ h=>h) (Or.inl ⟨by rfl,?hy1x10⟩) hHeld ?rest1x10
       case hy1x10=>intro w' hSw;(try dsimp only at hSw);obtain ⟨hSw,hSc⟩:=hSw;go_simp;first|done|with_reducible rfl
       simp only [Act.put,List.setIfInBounds_toArray,List.set_cons_zero,List.set_cons_succ];refine take_of (i:=11) (v:=?v1x11) rfl (by kernel_rfl) (by kernel_rfl) (by kernel_rfl) (fun _ _ _ h=>h) (Or.inl ⟨by rfl,?hy1x11⟩) hHeld ?rest1x11
       case hy1x11=>intro w' hSw;(try dsimp only at hSw);obtain ⟨hSw,hSc⟩:=hSw;go_simp;first|done|with_reducible rfl
       simp only [Act.put,List.setIfInBounds_toArray,List.set_cons_zero,List.set_cons_succ];refine take_of (i:=12) (v:=?v1x12) rfl (by kernel_rfl) (by kernel_rfl) (by kernel_rfl) (fun _ _ _ h=>h) (Or.inl ⟨by rfl,?hy1x12⟩) hHeld ?rest1x12
       case hy1x12=>intro w' hSw;(try dsimp only at hSw);obtain ⟨hSw,hSc⟩:=hSw;go_simp;first|done|with_reducible rfl
       simp only [Act.put,List.setIfInBounds_toArray,List.set_cons_zero,List.set_cons_succ];refine take_of (i:=14) (v:=?v1x14) rfl (by kernel_rfl) (by kernel_rfl) (by kernel_rfl) (fun _ _ _ h=>h) (Or.inl ⟨by rfl,?hy1x14⟩) hHeld ?rest1x14
       case hy1x14=>intro w' hSw;(try dsimp only at hSw);obtain ⟨hSw,hSc⟩:=hSw;go_simp;first|done|with_reducible rfl
       simp only [Act.put,List.setIfInBounds_toArray,List.set_cons_zero,List.set_cons_succ];have ld:w5.drew.cell? ⟨g,i,none⟩=some (.int .i64 A):=hL0;refine wpAnyH_ready (rs:=[7]) (by kernel_rfl) (by simp) ?_;refine AllReadyH.cons rfl (fun K hK=>?_) AllReadyH.nil;go_simp;refine hK.out _ _ hHeld (fun _=>?_);clear hK K
       (try simp only [Act.put,List.setIfInBounds_toArray,List.set_cons_zero,List.set_cons_succ])
       clear ld;refine wpAnyH_ready (rs:=[13]) (by kernel_rfl) (by simp) ?_;refine AllReadyH.cons rfl (fun K hK=>?_) AllReadyH.nil;go_simp;refine (SD.out _).mono ?_;rintro e w6 ⟨rfl,hcw6⟩;have hkw6:Kept [] w5 w6:=(Kept.refl [] w5).drew.trans hcw6;refine hK.out _ _ ⟨hkw6.mono (by simp),(hkw6.cell (p:=⟨g,p,none⟩) HBO.out.lt (by simp)).trans d0⟩ (fun _=>?_);clear hK K
       (try simp only [Act.put,List.setIfInBounds_toArray,List.set_cons_zero,List.set_cons_succ])
       refine wpAnyH_ready (rs:=[15]) (by kernel_rfl) (by simp) ?_;refine AllReadyH.cons rfl (fun K hK=>?_) AllReadyH.nil;go_simp;refine (MD.out _).mono ?_;rintro e w7 ⟨rfl,hcw7⟩;have hkw7:Kept [] w5 w7:=hkw6.trans hcw7;refine hK.out _ _ ⟨hkw7.mono (by simp),(hkw7.cell (p:=⟨g,p,none⟩) HBO.out.lt (by simp)).trans d0⟩ (fun _=>?_);clear hK K
       (try simp only [Act.put,List.setIfInBounds_toArray,List.set_cons_zero,List.set_cons_succ])
       refine wpAnyH_ready (rs:=[16]) (by kernel_rfl) (by simp) ?_;refine AllReadyH.cons rfl (fun K hK=>?_) AllReadyH.nil;go_simp;refine hK.out _ _ ⟨hkw7.mono (by simp),(hkw7.cell (p:=⟨g,p,none⟩) HBO.out.lt (by simp)).trans d0⟩ (fun _=>?_);clear hK K
       (try simp only [Act.put,List.setIfInBounds_toArray,List.set_cons_zero,List.set_cons_succ])
       have hbL:=HBO.out.kept hkw7 (by simp);have fL:=hbL.frozen i;have dL:w7.cell? ⟨g,i,none⟩=some (.int .i64 A):=(hkw7.cell (p:=⟨g,i,none⟩) HBO.out.lt (by simp)).trans hL0;refine wpAnyH_ready (rs:=[17]) (by kernel_rfl) (by simp) ?_;refine AllReadyH.cons rfl (fun K hK=>?_) AllReadyH.nil;go_simp;have hkF:Kept [g] w5 (w7.setCell ⟨g,i,none⟩ (.int .i64 v)):=Kept.setCell (hkw7.mono (S':=[g]) (by simp)) (p:=⟨g,i,none⟩) (Or.inl (by simp)) _;have hbN:BlkP (w7.setCell ⟨g,i,none⟩ (.int .i64 v)) g (mixZ q f y xs.length k p):=HSE.out▸BlkP.set hbL i _ HGI.out;have hxt:(w7.setCell ⟨g,i,none⟩ (.int .i64 v)).cell? ⟨g,p,none⟩=some (.int .i64 B):=((Blk_far g p i _ HPI.out).trans ((hkw7.cell (p:=⟨g,p,none⟩) HBO.out.lt (by simp)).trans d0));refine hK.out _ _ ⟨hkF,hxt⟩ (fun _=>?_);clear hK K
       (try simp only [Act.put,List.setIfInBounds_toArray,List.set_cons_zero,List.set_cons_succ])
       refine wpAnyH_done (by kernel_rfl) ?_ _;have HBN:=Lib.hid hbN;clear hxt;clear hbN;obtain ⟨wE,hwo⟩:∃ W,w7.setCell ⟨g,i,none⟩ (.int .i64 v)=W:=⟨_,rfl⟩;rw [hwo] at hkF HBN ⊢;clear hwo hbL fL dL hHeld HBO hL0 hcw6 hkw6 hcw7 hkw7;have hkG:Kept [g] wD wE:=hkq.trans ((hk5.mono (S':=[g]) (by simp)).trans hkF);clear d0 hwj;go_wp2_with fail
       go_roundw
       case rel=>exact ⟨p,by omega,by omega,by go_num,HBN,hkG⟩
       case measure=>simp [intOf];omega
      ·obtain rfl:i=k:=by omega
       have HBE:Hid (BlkP wr g (lvlZ q f y xs.length (i+1))):=by
        show BlkP _ _ _
        rw [←mixZ_done];exact HBM.out
       go_wp2_with fail
       go_roundw
       case rel=>exact ⟨i+1,by omega,by go_num,HBE,hkq⟩
       case measure=>simp [intOf];omega
    ·have hms:=HMS.out;go_wp2_with fail;have hkw:Kept [] w wr:=hkD.fresh hkr (by simpa using hwg);have HW8:Hid (Blk (wr.alloc (.cells (ints (List.replicate xs.length 0)).toArray 3)) wr.heap.size 3 (ints (List.replicate xs.length 0)).toArray):=Blk.new _ _ _;have hk8:Kept [] wr (wr.alloc (.cells (ints (List.replicate xs.length 0)).toArray 3)):=(Kept.refl _ _).alloc _;have hgl:=HB.out.lt;obtain ⟨W8,hW8⟩:∃ W,wr.alloc (.cells (ints (List.replicate xs.length 0)).toArray 3)=W:=⟨_,rfl⟩;obtain ⟨b,hb⟩:∃ b,wr.heap.size=b:=⟨_,rfl⟩;have hszw:=hkw.size;rw [hW8] at HW8 hk8 ⊢;rw [hb] at HW8 hgl hszw ⊢;have hbW:b < W8.heap.size:=HW8.out.lt;have hk8w:Kept [] w W8:=hkw.trans hk8
     have hkk:∀ c,c < xs.length→c≤k:=fun c hc=>by omega
     have DF:Hid (∀ c,c < xs.length→∀ w',Kept [b] W8 w'→w'.cell? ⟨g,c,none⟩=some (.int .i64 ((ddF q f y c c:Nat):Int))):=fun c hc w' kk=>by
      have h1:=(HB.out.kept hk8 (by simp)).cell c (by rw [lvlZ_len];exact hc);rw [lvlZ_get,ddF_stay q f y c k (hkk c hc)] at h1;exact (kk.cell (p:=⟨g,c,none⟩) (HB.out.kept hk8 (by simp)).lt (by simp;omega)).trans h1
     obtain ⟨bx,ox,rfl,hcx⟩:=HV.out.at_ (by omega)
     have XF:Hid (∀ c,c < xs.length→∀ w',Kept [b] W8 w'→w'.cell? ⟨bx,ox+c,none⟩=some (.int .i64 (x c))):=fun c hc w' kk=>by
      rw [←HXS.out c hc];exact Kept.cellOf (hcx c _ (ints_get hc)) w' (hk8w.fresh kk (by simp;omega))
     have DQ:Hid (∀ c,ddF q f y c c < q):=fun c=>HDL.out c c;obtain ⟨D,hD⟩:∃ D:Nat→Nat,(fun i=>ddF q f y i i)=D:=⟨_,rfl⟩
     have DF2:Hid (∀ c,c < xs.length→∀ w',Kept [b] W8 w'→w'.cell? ⟨g,c,none⟩=some (.int .i64 ((D c:Nat):Int))):=by rw [←hD];exact DF
     have DQ2:Hid (∀ c,D c < q):=by rw [←hD];exact DQ
     rw [hD] at HDN;have hN1:=HN1.out;clear hW8 hb hms hcx hkk DF DQ hD hk8 hgl hlt hk HB hkr
     have HS0:Hid (((N1:Nat):Int)=(xs.length:Int) - 1):=by show _=_;omega
     go_loopw [16,17] (fun vi _ wr2=>∃ (i:Nat) (o:List Int),i≤xs.length∧vi=.int .i64 ((i:Int) - 1)∧Hid (NwI q xs.length x D i o)∧Hid (Blk wr2 b 3 (ints o).toArray)∧Kept [b] W8 wr2) (fun vi _ _=>(intOf vi+1).toNat)
     case atStart=>exact ⟨xs.length,_,by omega,by rw [HS0.out],NwI.start q xs.length x D (by omega),HW8,Kept.refl _ _⟩
     case round =>
      obtain ⟨i,o,hi',hvi,HNW,HBB,hkr⟩:=hrel
      rcases i with _|c
      ·rw [show (((0:Nat):Int) - 1)=-1 from rfl] at hvi;subst hvi;have hoo:=HNW.out.1;go_wp2_with fail
       go_ret2
       refine ⟨_,o,rfl,hoo,HNW.out.2.1,HDN.out o HNW.out,(by rw [hoo];exact row_of_blk (cs:=ints o) (size:=1) (n:=xs.length) HBB.out (by simp [ints,hoo]) (by omega)),hk8w.fresh hkr (by simp;omega)⟩
      ·rw [show ((c+1:Nat):Int) - 1=(c:Int) by omega] at hvi;subst hvi
       have hcn:c < xs.length:=by omega
       have HH0:=Lib.hid (HoI.start HNW.out hcn (x c));go_wp2_with fail
       go_loopw [17] (fun vn wq=>∃ (m:Nat) (a:List Int),m≤xs.length∧vn=.int .i64 ((m:Int) - 1)∧Hid (HoI q xs.length (xs.length - 1 - c) (x c) o a m)∧Hid (Blk wq b 3 (ints a).toArray)∧Kept [b] W8 wq) (fun vn _=>(intOf vn+1).toNat)
       case atStart=>exact ⟨xs.length,o,by omega,by rw [HS0.out],HH0,HBB,hkr⟩
       case round =>
        obtain ⟨m,a,hm,hvn,HHO,HBA,hkq⟩:=hrel
        rcases m with _|m
        ·rw [show (((0:Nat):Int) - 1)=-1 from rfl] at hvn;subst hvn;have hal:=HHO.out.1;obtain ⟨a0,ha0,ha0q⟩:=HHO.out.2.1.get 0 (by omega)
         have hL0:wr.drew.cell? ⟨b,0,none⟩=some (.int .i64 a0):=by
          have:=HBA.out.cellI 0 (by omega);rw [ha0] at this;exact this
         have dF:∀ w',Kept [b] wr w'→w'.cell? ⟨g,c,none⟩=some (.int .i64 ((D c:Nat):Int)):=fun w' kk=>DF2.out c hcn w' (hkq.trans kk);have dq:=DQ2.out c;have HNN:Hid (∀ v,addN q (a0:Int) (D c:Int)=v→NwI q xs.length x D c (a.set 0 (v:Int))):=fun v hv=>HNW.out.next hcn (by omega) (x c) rfl HHO.out a0 v ha0 hv;obtain ⟨dc,hdc⟩:∃ z,D c=z:=⟨_,rfl⟩;rw [hdc] at dF dq HNN;have AD:Hid (∀ w',Calls Tryz.prog 138 #[.int .i64 q,.int .i64 a0,.int .i64 dc] w' fun e w2=>e=.returned (.int .i64 ((addN q (a0:Int) (dc:Int):Nat):Int))∧Kept [] w' w2):=fun w'=>fadd_any q a0 dc w' (by omega) h3 ⟨by omega,by omega⟩ ⟨by omega,by omega⟩;obtain ⟨v,hv⟩:∃ z,addN q (a0:Int) (dc:Int)=z:=⟨_,rfl⟩;rw [hv] at AD;have HNE:=Lib.hid (HNN.out v hv);have HBO:=HBA;obtain ⟨wB,hwB⟩:∃ W,W=wr:=⟨_,rfl⟩;subst hwB
         have hwc:IntKind.i64.wrap ((c:Int) - 1)=(c:Int) - 1:=by rw [IntKind.wrap_i64];omega
         clear hal ha0 HNN hdc hv HBA;go_upto_region 27 with (fail);refine wp_region_held_drew (S:=fun w'=>Kept [b] wB w') (by kernel_rfl) (Kept.refl _ _).drew (fun hHeld=>?_);refine take_of (i:=0) (v:=?v2x0) rfl (by kernel_rfl) (by kernel_rfl) (by kernel_rfl) (fun _ _ _ h=>h) (Or.inl ⟨by rfl,?hy2x0⟩) hHeld ?rest2x0
         case hy2x0=>intro w' hSw;(try dsimp only at hSw);go_simp;first|done|with_reducible rfl
         simp only [Act.put,List.setIfInBounds_toArray,List.set_cons_zero,List.set_cons_succ];refine take_of (i:=1) (v:=?v2x1) rfl (by kernel_rfl) (by kernel_rfl) (by kernel_rfl) (fun _ _ _ h=>h) (Or.inl ⟨by rfl,?hy2x1⟩) hHeld ?rest2x1
         case hy2x1=>intro w' hSw;(try dsimp only at hSw);go_simp;first|done|with_reducible rfl
         simp only [Act.put,List.setIfInBounds_toArray,List.set_cons_zero,List.set_cons_succ];refine take_of (i:=2) (v:=?v2x2) rfl (by kernel_rfl) (by kernel_rfl) (by kernel_rfl) (fun _ _ _ h=>h) (Or.inl ⟨by rfl,?hy2x2⟩) hHeld ?rest2x2
         case hy2x2=>intro w' hSw;(try dsimp only at hSw);go_simp;first|done|with_reducible rfl
         simp only [Act.put,List.setIfInBounds_toArray,List.set_cons_zero,List.set_cons_succ];refine take_of (i:=3) (v:=?v2x3) rfl (by kernel_rfl) (by kernel_rfl) (by kernel_rfl) (fun _ _ _ h=>h) (Or.inl ⟨by rfl,?hy2x3⟩) hHeld ?rest2x3
         case hy2x3=>intro w' hSw;(try dsimp only at hSw);go_simp;first|done|with_reducible rfl
         simp only [Act.put,List.setIfInBounds_toArray,List.set_cons_zero,List.set_cons_succ];refine take_of (i:=5) (v:=?v2x5) rfl (by kernel_rfl) (by kernel_rfl) (by kernel_rfl) (fun _ _ _ h=>h) (Or.inl ⟨by rfl,?hy2x5⟩) hHeld ?rest2x5
         case hy2x5=>intro w' hSw;(try dsimp only at hSw);go_simp;first|done|with_reducible rfl
         simp only [Act.put,List.setIfInBounds_toArray,List.set_cons_zero,List.set_cons_succ];refine take_of (i:=6) (v:=?v2x6) rfl (by kernel_rfl) (by kernel_rfl) (by kernel_rfl) (fun _ _ _ h=>h) (Or.inl ⟨by rfl,?hy2x6⟩) hHeld ?rest2x6
         case hy2x6=>intro w' hSw;(try dsimp only at hSw);go_simp;first|done|with_reducible rfl
         simp only [Act.put,List.setIfInBounds_toArray,List.set_cons_zero,List.set_cons_succ];refine take_of (i:=7) (v:=?v2x7) rfl (by kernel_rfl) (by kernel_rfl) (by kernel_rfl) (fun _ _ _ h=>h) (Or.inl ⟨by rfl,?hy2x7⟩) hHeld ?rest2x7
         case hy2x7=>intro w' hSw;(try dsimp only at hSw);go_simp;first|done|with_reducible rfl
         simp only [Act.put,List.setIfInBounds_toArray,List.set_cons_zero,List.set_cons_succ];refine take_of (i:=8) (v:=?v2x8) rfl (by kernel_rfl) (by kernel_rfl) (by kernel_rfl) (fun _ _ _ h=>h) (Or.inl ⟨by rfl,?hy2x8⟩) hHeld ?rest2x8
         case hy2x8=>intro w' hSw;(try dsimp only at hSw);go_simp;first|done|with_reducible rfl
         simp only [Act.put,List.setIfInBounds_toArray,List.set_cons_zero,List.set_cons_succ];have ld:wB.drew.cell? ⟨b,0,none⟩=some (.int .i64 a0):=hL0;refine wpAnyH_ready (rs:=[4]) (by kernel_rfl) (by simp) ?_;refine AllReadyH.cons rfl (fun K hK=>?_) AllReadyH.nil;go_simp;refine hK.out _ _ hHeld (fun _=>?_);clear hK K
         (try simp only [Act.put,List.setIfInBounds_toArray,List.set_cons_zero,List.set_cons_succ])
         clear ld;refine wpAnyH_ready (rs:=[9]) (by kernel_rfl) (by simp) ?_;refine AllReadyH.cons rfl (fun K hK=>?_) AllReadyH.nil;go_simp;refine (AD.out _).mono ?_;rintro e wp ⟨rfl,hcwp⟩;have hkwp:Kept [] wB wp:=(Kept.refl [] wB).drew.trans hcwp;refine hK.out _ _ (hkwp.mono (by simp)) (fun _=>?_);clear hK K
         (try simp only [Act.put,List.setIfInBounds_toArray,List.set_cons_zero,List.set_cons_succ])
         refine wpAnyH_ready (rs:=[10]) (by kernel_rfl) (by simp) ?_;refine AllReadyH.cons rfl (fun K hK=>?_) AllReadyH.nil;go_simp;refine hK.out _ _ (hkwp.mono (by simp)) (fun _=>?_);clear hK K
         (try simp only [Act.put,List.setIfInBounds_toArray,List.set_cons_zero,List.set_cons_succ])
         have hbL:=HBO.out.kept hkwp (by simp);have fL:=hbL.frozen 0;have dL:wp.cell? ⟨b,0,none⟩=some (.int .i64 a0):=(hkwp.cell (p:=⟨b,0,none⟩) HBO.out.lt (by simp)).trans hL0;refine wpAnyH_ready (rs:=[11]) (by kernel_rfl) (by simp) ?_;refine AllReadyH.cons rfl (fun K hK=>?_) AllReadyH.nil;go_simp;have hkF:Kept [b] wB (wp.setCell ⟨b,0,none⟩ (.int .i64 v)):=Kept.setCell (hkwp.mono (S':=[b]) (by simp)) (p:=⟨b,0,none⟩) (Or.inl (by simp)) _;have hbN:Blk (wp.setCell ⟨b,0,none⟩ (.int .i64 v)) b 3 (ints (a.set 0 (v:Int))).toArray:=Blk.setI hbL 0 _;refine hK.out _ _ hkF (fun _=>?_);clear hK K
         (try simp only [Act.put,List.setIfInBounds_toArray,List.set_cons_zero,List.set_cons_succ])
         refine wpAnyH_done (by kernel_rfl) ?_ _;have HBN:=Lib.hid hbN;clear hbN;obtain ⟨wa,hwo⟩:∃ W,wp.setCell ⟨b,0,none⟩ (.int .i64 v)=W:=⟨_,rfl⟩;rw [hwo] at hkF HBN ⊢;clear hwo hbL fL dL hHeld HBO hL0 hcwp hkwp;clear dF;go_wp2_with fail
         go_roundw
         case rel=>exact ⟨c,_,by omega,by go_num,HNE,HBN,hkq.trans hkF⟩
         case measure=>simp [intOf]
        ·rw [show ((m+1:Nat):Int) - 1=(m:Int) by omega] at hvn;subst hvn;have hal:=HHO.out.1;have hol:=HNW.out.1
         have hmn:m < xs.length:=by omega
         obtain ⟨om,hom,homq⟩:=HNW.out.2.1.get m (by omega)
         have ham:a[m]'(by omega)=om:=by rw [HHO.out.2.2.1 m (by omega) (by omega) (by omega),hom]
         have hL0:wr.drew.cell? ⟨b,m,none⟩=some (.int .i64 om):=by
          have:=HBA.out.cellI m (by omega);rw [ham] at this;exact this
         have xF:∀ w',Kept [b] wr w'→w'.cell? ⟨bx,ox+c,none⟩=some (.int .i64 (x c)):=fun w' kk=>XF.out c hcn w' (hkq.trans kk);have xb:=HXB.out c hcn
         have HNN:Hid (∀ (op p s v:Nat),(m=0→op=0)→(∀ k (_:k+1=m) (h:k < o.length),o[k]=op)→mulN q (om:Int) (x c)=p→subN q 0 (p:Int)=s→addN q (s:Int) (op:Int)=v→(m=0→v=s)→HoI q xs.length (xs.length - 1 - c) (x c) o (a.set m (v:Int)) m):=fun op p s v e1 e2 e3 e4 e5 e6 =>
          HHO.out.next hol (fun j hj ht=>HNW.out.2.2.1 j hj (by omega)) (by omega) hmn om op p s v hom e1 (fun k hk=>e2 k hk (by omega)) e3 e4 e5 e6
         obtain ⟨xc,hxc⟩:∃ z,x c=z:=⟨_,rfl⟩;rw [hxc] at xF xb;rw [hxc] at HNN;have MU:Hid (∀ w',Calls Tryz.prog 80 #[.int .i64 q,.int .i64 om,.int .i64 xc] w' fun e w2=>e=.returned (.int .i64 ((mulN q (om:Int) xc:Nat):Int))∧Kept [] w' w2):=fun w'=>fmul_any q om xc w' (by omega) h3 ⟨by omega,by omega⟩ ⟨by omega,by omega⟩;have lp:=ltMul q (om:Int) xc (by omega);obtain ⟨p,hp⟩:∃ z,mulN q (om:Int) xc=z:=⟨_,rfl⟩;rw [hp] at MU lp;have SU:Hid (∀ w',Calls Tryz.prog 81 #[.int .i64 q,.int .i64 0,.int .i64 p] w' fun e w2=>e=.returned (.int .i64 ((subN q 0 (p:Int):Nat):Int))∧Kept [] w' w2):=fun w'=>fsub_any q 0 p w' (by omega) h3 ⟨by omega,by omega⟩ ⟨by omega,by omega⟩;have ls:=ltSub q 0 (p:Int) (by omega);obtain ⟨s,hs⟩:∃ z,subN q 0 (p:Int)=z:=⟨_,rfl⟩;rw [hs] at SU ls;have HN2:Hid (∀ (op v:Nat),(m=0→op=0)→(∀ k (_:k+1=m) (h:k < o.length),o[k]=op)→addN q (s:Int) (op:Int)=v→(m=0→v=s)→HoI q xs.length (xs.length - 1 - c) xc o (a.set m (v:Int)) m):=fun op v e1 e2 e3 e4=>HNN.out op p s v e1 e2 hp hs e3 e4;have HBO:=HBA;have HAL:=Lib.hid hal;have HOL:=Lib.hid hol;have HAO:Hid (∀ j (h:j < a.length) (h':j < o.length),j < m→a[j]=o[j]):=fun j h h' hj=>HHO.out.2.2.1 j h h' (by omega);have HRO:=Lib.hid HNW.out.2.1;obtain ⟨wB,hwB⟩:∃ W,W=wr:=⟨_,rfl⟩;subst hwB;clear hal hol hom ham HNN hp hs HBA;go_upto_region 24 with (fail);refine wp_region_held_drew (S:=fun w'=>Kept [b] wB w') (by kernel_rfl) (Kept.refl _ _).drew (fun hHeld=>?_);refine take_of (i:=0) (v:=?v3x0) rfl (by kernel_rfl) (by kernel_rfl) (by kernel_rfl) (fun _ _ _ h=>h) (Or.inl ⟨by rfl,?hy3x0⟩) hHeld ?rest3x0
         case hy3x0=>intro w' hSw;(try dsimp only at hSw);go_simp;first|done|with_reducible rfl
         simp only [Act.put,List.setIfInBounds_toArray,List.set_cons_zero,List.set_cons_succ];refine take_of (i:=1) (v:=?v3x1) rfl (by kernel_rfl) (by kernel_rfl) (by kernel_rfl) (fun _ _ _ h=>h) (Or.inl ⟨by rfl,?hy3x1⟩) hHeld ?rest3x1
         case hy3x1=>intro w' hSw;(try dsimp only at hSw);go_simp;first|done|with_reducible rfl
         simp only [Act.put,List.setIfInBounds_toArray,List.set_cons_zero,List.set_cons_succ];refine take_of (i:=2) (v:=?v3x2) rfl (by kernel_rfl) (by kernel_rfl) (by kernel_rfl) (fun _ _ _ h=>h) (Or.inl ⟨by rfl,?hy3x2⟩) hHeld ?rest3x2
         case hy3x2=>intro w' hSw;(try dsimp only at hSw);go_simp;first|done|with_reducible rfl
         simp only [Act.put,List.setIfInBounds_toArray,List.set_cons_zero,List.set_cons_succ];refine take_of (i:=3) (v:=?v3x3) rfl (by kernel_rfl) (by kernel_rfl) (by kernel_rfl) (fun _ _ _ h=>h) (Or.inl ⟨by rfl,?hy3x3⟩) hHeld ?rest3x3
         case hy3x3=>intro w' hSw;(try dsimp only at hSw);go_simp;first|done|with_reducible rfl
         simp only [Act.put,List.setIfInBounds_toArray,List.set_cons_zero,List.set_cons_succ];refine take_of (i:=4) (v:=?v3x4) rfl (by kernel_rfl) (by kernel_rfl) (by kernel_rfl) (fun _ _ _ h=>h) (Or.inl ⟨by rfl,?hy3x4⟩) hHeld ?rest3x4
         case hy3x4=>intro w' hSw;(try dsimp only at hSw);go_simp;first|done|with_reducible rfl
         simp only [Act.put,List.setIfInBounds_toArray,List.set_cons_zero,List.set_cons_succ];refine take_of (i:=5) (v:=?v3x5) rfl (by kernel_rfl) (by kernel_rfl) (by kernel_rfl) (fun _ _ _ h=>h) (Or.inl ⟨by rfl,?hy3x5⟩) hHeld ?rest3x5
         case hy3x5=>intro w' hSw;(try dsimp only at hSw);go_simp;first|done|with_reducible rfl
         simp only [Act.put,List.setIfInBounds_toArray,List.set_cons_zero,List.set_cons_succ];refine take_of (i:=6) (v:=?v3x6) rfl (by kernel_rfl) (by kernel_rfl) (by kernel_rfl) (fun _ _ _ h=>h) (Or.inl ⟨by rfl,?hy3x6⟩) hHeld ?rest3x6
         case hy3x6=>intro w' hSw;(try dsimp only at hSw);go_simp;first|done|with_reducible rfl
         simp only [Act.put,List.setIfInBounds_toArray,List.set_cons_zero,List.set_cons_succ];refine take_of (i:=8) (v:=?v3x8) rfl (by kernel_rfl) (by kernel_rfl) (by kernel_rfl) (fun _ _ _ h=>h) (Or.inl ⟨by rfl,?hy3x8⟩) hHeld ?rest3x8
         case hy3x8=>intro w' hSw;(try dsimp only at hSw);go_simp;first|done|with_reducible rfl
         simp only [Act.put,List.setIfInBounds_toArray,List.set_cons_zero,List.set_cons_succ];refine take_of (i:=9) (v:=?v3x9) rfl (by kernel_rfl) (by kernel_rfl) (by kernel_rfl) (fun _ _ _ h=>h) (Or.inl ⟨by rfl,?hy3x9⟩) hHeld ?rest3x9
         case hy3x9=>intro w' hSw;(try dsimp only at hSw);go_simp;first|done|with_reducible rfl
         simp only [Act.put,List.setIfInBounds_toArray,List.set_cons_zero,List.set_cons_succ];refine take_of (i:=10) (v:=?v3x10) rfl (by kernel_rfl) (by kernel_rfl) (by kernel_rfl) (fun _ _ _ h=>h) (Or.inl ⟨by rfl,?hy3x10⟩) hHeld ?rest3x10
         case hy3x10=>intro w' hSw;(try dsimp only at hSw);go_simp;first|done|with_reducible rfl
         simp only [Act.put,List.setIfInBounds_toArray,List.set_cons_zero,List.set_cons_succ];refine take_of (i:=11) (v:=?v3x11) rfl (by kernel_rfl) (by kernel_rfl) (by kernel_rfl) (fun _ _ _ h=>h) (Or.inl ⟨by rfl,?hy3x11⟩) hHeld ?rest3x11
         case hy3x11=>intro w' hSw;(try dsimp only at hSw);go_simp;first|done|with_reducible rfl
         simp only [Act.put,List.setIfInBounds_toArray,List.set_cons_zero,List.set_cons_succ];have ld:wB.drew.cell? ⟨b,m,none⟩=some (.int .i64 om):=hL0;refine wpAnyH_ready (rs:=[7]) (by kernel_rfl) (by simp) ?_;refine AllReadyH.cons rfl (fun K hK=>?_) AllReadyH.nil;go_simp;refine hK.out _ _ hHeld (fun _=>?_);clear hK K
         (try simp only [Act.put,List.setIfInBounds_toArray,List.set_cons_zero,List.set_cons_succ])
         clear ld;refine wpAnyH_ready (rs:=[12]) (by kernel_rfl) (by simp) ?_;refine AllReadyH.cons rfl (fun K hK=>?_) AllReadyH.nil;go_simp;refine (MU.out _).mono ?_;rintro e wp ⟨rfl,hcwp⟩;have hkwp:Kept [] wB wp:=(Kept.refl [] wB).drew.trans hcwp;refine hK.out _ _ (hkwp.mono (by simp)) (fun _=>?_);clear hK K
         (try simp only [Act.put,List.setIfInBounds_toArray,List.set_cons_zero,List.set_cons_succ])
         refine wpAnyH_ready (rs:=[13]) (by kernel_rfl) (by simp) ?_;refine AllReadyH.cons rfl (fun K hK=>?_) AllReadyH.nil;go_simp;refine (SU.out _).mono ?_;rintro e wq ⟨rfl,hcwq⟩;have hkwq:Kept [] wB wq:=hkwp.trans hcwq;refine hK.out _ _ (hkwq.mono (by simp)) (fun _=>?_);clear hK K
         (try simp only [Act.put,List.setIfInBounds_toArray,List.set_cons_zero,List.set_cons_succ])
         refine wpAnyH_ready (rs:=[14]) (by kernel_rfl) (by simp) ?_;refine AllReadyH.cons rfl (fun K hK=>?_) AllReadyH.nil;go_simp;refine hK.out _ _ (hkwq.mono (by simp)) (fun _=>?_);clear hK K
         (try simp only [Act.put,List.setIfInBounds_toArray,List.set_cons_zero,List.set_cons_succ])
         have hbL:=HBO.out.kept hkwq (by simp);have fL:=hbL.frozen m;have dL:wq.cell? ⟨b,m,none⟩=some (.int .i64 om):=(hkwq.cell (p:=⟨b,m,none⟩) HBO.out.lt (by simp)).trans hL0;refine wpAnyH_ready (rs:=[15]) (by kernel_rfl) (by simp) ?_;refine AllReadyH.cons rfl (fun K hK=>?_) AllReadyH.nil;go_simp;have hkF:Kept [b] wB (wq.setCell ⟨b,m,none⟩ (.int .i64 s)):=Kept.setCell (hkwq.mono (S':=[b]) (by simp)) (p:=⟨b,m,none⟩) (Or.inl (by simp)) _;have hbN:Blk (wq.setCell ⟨b,m,none⟩ (.int .i64 s)) b 3 (ints (a.set m (s:Int))).toArray:=Blk.setI hbL m _;refine hK.out _ _ hkF (fun _=>?_);clear hK K
         (try simp only [Act.put,List.setIfInBounds_toArray,List.set_cons_zero,List.set_cons_succ])
         refine wpAnyH_done (by kernel_rfl) ?_ _;have HBN:=Lib.hid hbN;clear hbN;obtain ⟨wa,hwo⟩:∃ W,wq.setCell ⟨b,m,none⟩ (.int .i64 s)=W:=⟨_,rfl⟩;rw [hwo] at hkF HBN ⊢;clear hwo hbL fL dL hHeld HBO hL0 hcwp hkwp hcwq hkwq;clear xF
         rcases m with _|m'
         ·have HHN:Hid (HoI q xs.length (xs.length - 1 - c) xc o (a.set 0 (s:Int)) 0):=HN2.out 0 s (fun _=>rfl) (fun k hk _=>by omega) (addN_zero q s ls) (fun _=>rfl);rw [show ((0:Nat):Int)=0 from rfl];go_wp2_with fail
          go_roundw
          case rel=>exact ⟨0,_,by omega,by go_num,hxc▸HHN,HBN,hkq.trans hkF⟩
          case measure=>simp [intOf]
         ·have hol:=HOL.out;have hal:=HAL.out;obtain ⟨op,hop,hopq⟩:=HRO.out.get m' (by omega)
          have h0':(a.set (m'+1) (s:Int))[m']'(by simp;omega)=op:=by
           rw [List.getElem_set_ne (by omega),HAO.out m' (by omega) (by omega) (by omega),hop]
          have hL0:wa.drew.cell? ⟨b,m'+1,none⟩=some (.int .i64 s):=by
           have:=HBN.out.cellI (m'+1) (by simp;omega);rw [List.getElem_set_self] at this;exact this
          have e0:wa.cell? ⟨b,m',none⟩=some (.int .i64 op):=by
           have:=HBN.out.cellI m' (by simp;omega);rw [h0'] at this;exact this
          have AD:Hid (∀ w',Calls Tryz.prog 138 #[.int .i64 q,.int .i64 s,.int .i64 op] w' fun e w2=>e=.returned (.int .i64 ((addN q (s:Int) (op:Int):Nat):Int))∧Kept [] w' w2):=fun w'=>fadd_any q s op w' (by omega) h3 ⟨by omega,by omega⟩ ⟨by omega,by omega⟩
          have HN3:Hid (∀ v,addN q (s:Int) (op:Int)=v→HoI q xs.length (xs.length - 1 - c) xc o (a.set (m'+1) (v:Int)) (m'+1)):=fun v hv=>HN2.out op v (fun e=>by omega) (fun k hk _=>(by
           obtain rfl:k=m':=by omega
           exact hop)) hv (fun e=>by omega)
          obtain ⟨v,hv⟩:∃ z,addN q (s:Int) (op:Int)=z:=⟨_,rfl⟩;rw [hv] at AD;have HHN:=Lib.hid (HN3.out v hv);have HBO:=HBN;obtain ⟨m,hm1⟩:∃ m,m=m'+1:=⟨_,rfl⟩;rw [←hm1] at HHN HBO hL0 HBN hmn ⊢
          have hmm:m'≠m:=by omega
          have hwm:IntKind.i64.wrap ((m:Int) - 1)=(m':Int):=by rw [IntKind.wrap_i64];omega
          have hm0:(0:Int) < (m:Int):=by omega
          have hm'n:m' < xs.length:=by omega
          have hkA:=hkq.trans hkF;have HMM:=Lib.hid hm1;clear hol hal hop h0' hv HN3 HBN hkF hm1 HN2 HAO HAL HOL HRO hm;go_upto_region 26 with (fail);refine wp_region_held_drew (S:=fun w'=>Kept [b] wa w'∧w'.cell? ⟨b,m',none⟩=some (.int .i64 op)) (by kernel_rfl) ⟨(Kept.refl _ _).drew,e0⟩ (fun hHeld=>?_);refine take_of (i:=0) (v:=?v4x0) rfl (by kernel_rfl) (by kernel_rfl) (by kernel_rfl) (fun _ _ _ h=>h) (Or.inl ⟨by rfl,?hy4x0⟩) hHeld ?rest4x0
          case hy4x0=>intro w' hSw;(try dsimp only at hSw);obtain ⟨hSw,hSc⟩:=hSw;go_simp;first|done|with_reducible rfl
          simp only [Act.put,List.setIfInBounds_toArray,List.set_cons_zero,List.set_cons_succ];refine take_of (i:=1) (v:=?v4x1) rfl (by kernel_rfl) (by kernel_rfl) (by kernel_rfl) (fun _ _ _ h=>h) (Or.inl ⟨by rfl,?hy4x1⟩) hHeld ?rest4x1
          case hy4x1=>intro w' hSw;(try dsimp only at hSw);obtain ⟨hSw,hSc⟩:=hSw;go_simp;first|done|with_reducible rfl
          simp only [Act.put,List.setIfInBounds_toArray,List.set_cons_zero,List.set_cons_succ];refine take_of (i:=2) (v:=?v4x2) rfl (by kernel_rfl) (by kernel_rfl) (by kernel_rfl) (fun _ _ _ h=>h) (Or.inl ⟨by rfl,?hy4x2⟩) hHeld ?rest4x2
          case hy4x2=>intro w' hSw;(try dsimp only at hSw);obtain ⟨hSw,hSc⟩:=hSw;go_simp;first|done|with_reducible rfl
          simp only [Act.put,List.setIfInBounds_toArray,List.set_cons_zero,List.set_cons_succ];refine take_of (i:=3) (v:=?v4x3) rfl (by kernel_rfl) (by kernel_rfl) (by kernel_rfl) (fun _ _ _ h=>h) (Or.inl ⟨by rfl,?hy4x3⟩) hHeld ?rest4x3
          case hy4x3=>intro w' hSw;(try dsimp only at hSw);obtain ⟨hSw,hSc⟩:=hSw;go_simp;first|done|with_reducible rfl
          simp only [Act.put,List.setIfInBounds_toArray,List.set_cons_zero,List.set_cons_succ];refine take_of (i:=4) (v:=?v4x4) rfl (by kernel_rfl) (by kernel_rfl) (by kernel_rfl) (fun _ _ _ h=>h) (Or.inl ⟨by rfl,?hy4x4⟩) hHeld ?rest4x4
          case hy4x4=>intro w' hSw;(try dsimp only at hSw);obtain ⟨hSw,hSc⟩:=hSw;go_simp;first|done|with_reducible rfl
          simp only [Act.put,List.setIfInBounds_toArray,List.set_cons_zero,List.set_cons_succ];refine take_of (i:=5) (v:=?v4x5) rfl (by kernel_rfl) (by kernel_rfl) (by kernel_rfl) (fun _ _ _ h=>h) (Or.inl ⟨by rfl,?hy4x5⟩) hHeld ?rest4x5
          case hy4x5=>intro w' hSw;(try dsimp only at hSw);obtain ⟨hSw,hSc⟩:=hSw;go_simp;first|done|with_reducible rfl
          simp only [Act.put,List.setIfInBounds_toArray,List.set_cons_zero,List.set_cons_succ];refine take_of (i:=7) (v:=?v4x7) rfl (by kernel_rfl) (by kernel_rfl) (by kernel_rfl) (fun _ _ _ h=>h) (Or.inl ⟨by rfl,?hy4x7⟩) hHeld ?rest4x7
          case hy4x7=>intro w' hSw;(try dsimp only at hSw);obtain ⟨hSw,hSc⟩:=hSw;go_simp;first|done|with_reducible rfl
          simp only [Act.put,List.setIfInBounds_toArray,List.set_cons_zero,List.set_cons_succ];refine take_of (i:=8) (v:=?v4x8) rfl (by kernel_rfl) (by kernel_rfl) (by kernel_rfl) (fun _ _ _ h=>h) (Or.inl ⟨by rfl,?hy4x8⟩) hHeld ?rest4x8
          case hy4x8=>intro w' hSw;(try dsimp only at hSw);obtain ⟨hSw,hSc⟩:=hSw;go_simp;first|done|with_reducible rfl
          simp only [Act.put,List.setIfInBounds_toArray,List.set_cons_zero,List.set_cons_succ];refine take_of (i:=9) (v:=?v4x9) rfl (by kernel_rfl) (by kernel_rfl) (by kernel_rfl) (fun _ _ _ h=>h) (Or.inl ⟨by rfl,?hy4x9⟩) hHeld ?rest4x9
          case hy4x9=>intro w' hSw;(try dsimp only at hSw);obtain ⟨hSw,hSc⟩:=hSw;go_simp;first|done|with_reducible rfl
          simp only [Act.put,List.setIfInBounds_toArray,List.set_cons_zero,List.set_cons_succ];refine take_of (i:=10) (v:=?v4x10) rfl (by kernel_rfl) (by kernel_rfl) (by kernel_rfl) (fun _ _ _ h=>h) (Or.inl ⟨by rfl,?hy4x10⟩) hHeld ?rest4x10
          case hy4x10=>intro w' hSw;(try dsimp only at hSw);obtain ⟨hSw,hSc⟩:=hSw;go_simp;first|done|with_reducible rfl
          simp only [Act.put,List.setIfInBounds_toArray,List.set_cons_zero,List.set_cons_succ];refine take_of (i:=11) (v:=?v4x11) rfl (by kernel_rfl) (by kernel_rfl) (by kernel_rfl) (fun _ _ _ h=>h) (Or.inl ⟨by rfl,?hy4x11⟩) hHeld ?rest4x11
          case hy4x11=>intro w' hSw;(try dsimp only at hSw);obtain ⟨hSw,hSc⟩:=hSw;go_simp;first|done|with_reducible rfl
          simp only [Act.put,List.setIfInBounds_toArray,List.set_cons_zero,List.set_cons_succ];have ld:wa.drew.cell? ⟨b,m,none⟩=some (.int .i64 s):=hL0;refine wpAnyH_ready (rs:=[6]) (by kernel_rfl) (by simp) ?_;refine AllReadyH.cons rfl (fun K hK=>?_) AllReadyH.nil;go_simp;refine hK.out _ _ hHeld (fun _=>?_);clear hK K
          (try simp only [Act.put,List.setIfInBounds_toArray,List.set_cons_zero,List.set_cons_succ])
          clear ld;refine wpAnyH_ready (rs:=[12]) (by kernel_rfl) (by simp) ?_;refine AllReadyH.cons rfl (fun K hK=>?_) AllReadyH.nil;go_simp;refine (AD.out _).mono ?_;rintro e wp ⟨rfl,hcwp⟩;have hkwp:Kept [] wa wp:=(Kept.refl [] wa).drew.trans hcwp;refine hK.out _ _ ⟨hkwp.mono (by simp),(hkwp.cell (p:=⟨b,m',none⟩) HBO.out.lt (by simp)).trans e0⟩ (fun _=>?_);clear hK K
          (try simp only [Act.put,List.setIfInBounds_toArray,List.set_cons_zero,List.set_cons_succ])
          refine wpAnyH_ready (rs:=[13]) (by kernel_rfl) (by simp) ?_;refine AllReadyH.cons rfl (fun K hK=>?_) AllReadyH.nil;go_simp;refine hK.out _ _ ⟨hkwp.mono (by simp),(hkwp.cell (p:=⟨b,m',none⟩) HBO.out.lt (by simp)).trans e0⟩ (fun _=>?_);clear hK K
          (try simp only [Act.put,List.setIfInBounds_toArray,List.set_cons_zero,List.set_cons_succ])
          have hbL:=HBO.out.kept hkwp (by simp);have fL:=hbL.frozen m;have dL:wp.cell? ⟨b,m,none⟩=some (.int .i64 s):=(hkwp.cell (p:=⟨b,m,none⟩) HBO.out.lt (by simp)).trans hL0;refine wpAnyH_ready (rs:=[14]) (by kernel_rfl) (by simp) ?_;refine AllReadyH.cons rfl (fun K hK=>?_) AllReadyH.nil;go_simp;have hkF:Kept [b] wa (wp.setCell ⟨b,m,none⟩ (.int .i64 v)):=Kept.setCell (hkwp.mono (S':=[b]) (by simp)) (p:=⟨b,m,none⟩) (Or.inl (by simp)) _;have hbN:Blk (wp.setCell ⟨b,m,none⟩ (.int .i64 v)) b 3 (ints ((a.set m (s:Int)).set m (v:Int))).toArray:=Blk.setI hbL m _;have hxt:(wp.setCell ⟨b,m,none⟩ (.int .i64 v)).cell? ⟨b,m',none⟩=some (.int .i64 op):=(Blk_far b m' m _ hmm).trans ((hkwp.cell (p:=⟨b,m',none⟩) HBO.out.lt (by simp)).trans e0);refine hK.out _ _ ⟨hkF,hxt⟩ (fun _=>?_);clear hK K
          (try simp only [Act.put,List.setIfInBounds_toArray,List.set_cons_zero,List.set_cons_succ])
          refine wpAnyH_done (by kernel_rfl) ?_ _;have HBN:=Lib.hid hbN;clear hxt;clear hbN;obtain ⟨wb,hwo⟩:∃ W,wp.setCell ⟨b,m,none⟩ (.int .i64 v)=W:=⟨_,rfl⟩;rw [hwo] at hkF HBN ⊢;clear hwo hbL fL dL hHeld HBO hL0 hcwp hkwp
          have HB2:Hid (Blk wb b 3 (ints (a.set m (v:Int))).toArray):=by
           have:=HBN.out
           rwa [List.set_set] at this
          clear e0;go_wp2_with fail
          go_roundw
          case rel=>exact ⟨m,_,by omega,by have:=HMM.out;rw [show ((m:Nat):Int) - 1=(m':Int) by omega],hxc▸HHN,HB2,hkA.trans hkF⟩
          case measure=>have:=HMM.out;simp [intOf];omega
end Go.Proofs.YtpcdfepndmconaaGreatDoor
