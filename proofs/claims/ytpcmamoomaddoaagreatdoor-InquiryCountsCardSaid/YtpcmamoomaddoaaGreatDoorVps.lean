/- inquiry's validPass. -/
import Derived.Test.YtpcmamoomaddoaaGreatDoorSnk
import Derived.Test.YtpcmamoomaddoaaGreatDoorSrk
import Derived.Test.YtpcmamoomaddoaaGreatDoorShelf
import Derived.Test.YtpcmamoomaddoaaGreatDoorPs4
import Derived.Test.YtpcmamoomaddoaaGreatDoorPd
import Derived.Lib.IndexMore
/- JOINED: Nms Vlg Vnm Vps -/
/- The names of predicates, sorted. -/
namespace Go.Proofs.YtpcmamoomaddoaaGreatDoor
open Go.RowKit Go.Maps Go.Sort Go.Shelf Go.Lib
theorem step_set {P:Program} {kt:TypeId} {α:Type} {E:KeyEnc P kt α} {w:World} {b n:Nat} {f:α→Option Value} {ops:Array Oper} {o:Oper} {a:Act} {Q:Exit→Act→World→Prop} {X:Prop} [DecidableEq α] (hgd:o.guard=none) (hd:o.dst=none)
  (m k v:Operand) (t e:TypeId) (hop:o.op=Op.mapUpdate t m k v) (ht:P.underlying t=some (.map kt e)) (u:Value) {x:α}
  (hm:a.eval m=.map (some b)) (hk:a.eval k=E.val x) (hv:a.eval v=u) (h:MapAt E w b n f) (hx:E.ok x) (hn:n < maxLen) {K:Act→World→Prop}
  (hK:∀ w',MapAt E w' b (n+1) (fun y=>if y=x then some u else f y)→w.grownBy w' (some b)→w'.heap.size=w.heap.size→K a w') :
  if Region.wanted o (yielded ops a.tmps)=true then Oper.wp P o a w K Q else X:=by
 rw [if_pos (by simp [Region.wanted,hgd])]
 exact wp_set h hx m k v t e hop ht hn u hm hk hv fun w' h1 h2 h3=>by rw [hd];exact hK w' h1 h2 h3
def colS (N:List Bs):List UInt8→Option Value:=fun s=>if s∈N then some (.bool true) else none
def namesK (ks:List K3):List Bs:=ks.flatMap fun x=>[x.1,x.2.1]
theorem mem_namesK {ks:List K3} {s:Bs}:s∈namesK ks↔∃ x∈ks,s=x.1∨s=x.2.1:=by
 unfold namesK
 simp [List.mem_flatMap]
theorem namesK_app (a b:List K3):namesK (a++b)=namesK a++namesK b:=by unfold namesK;rw [List.flatMap_append]
theorem colS_congr {N M:List Bs} (h:∀ s,s∈N↔s∈M):colS N=colS M:=by
 funext s
 unfold colS
 by_cases e:s∈N
 ·rw [if_pos e,if_pos ((h s).1 e)]
 ·rw [if_neg e,if_neg (fun k=>e ((h s).2 k))]
theorem colS_add (N:List Bs) (s t y:Bs):colS (N++[s,t]) y=if y=t then some (Value.bool true) else if y=s then some (Value.bool true) else colS N y:=by
 unfold colS
 by_cases e1:y=t
 ·simp [e1]
 ·by_cases e2:y=s
  ·simp [e2]
  ·by_cases e3:y∈N <;> simp [e1,e2,e3]
theorem keys_row {w:World} {B:Nat} {a:Option Addr} {c:Nat} {ks:List K3} (h:w.ownsRow B 182 3 (.slice a ks.length c) ks.length (cellsL ks)) (hn:ks.length≤100000) (hp:0 < ks.length) :
  ∃ b,b∈obl (.slice a ks.length c)∧a=some ⟨b,0,none⟩∧∀ (k:Nat) x,ks[k]?=some x→∀ (j:Nat) v,j < 3→(cells3 x)[j]?=some v→∀ S w',Kept S w w'→b∉S→w'.cell? ⟨b,k*3+j,none⟩=some v:=by
 have hr:=Row.of_own h (by omega);obtain ⟨b,off,ha,hc⟩:=hr.at_ hp;subst ha
 rcases h.2 with ⟨h1,_⟩|⟨g,cap,cur,h1,_⟩
 ·injection h1 with h1;cases h1
 ·injection h1 with h1;injection h1 with h1;injection h1 with h1 h2;subst h1;subst h2;refine ⟨b,obl_some rfl,rfl,fun k x hx j v hj hv S w' kk hS=>?_⟩
  have e:(cellsL ks)[k*3+j]?=some v:=by
   unfold cellsL
   rw [List.flatMap_def,flatten_get (ks.map cells3) 3 k j (cells3 x) (fun c hc=>by obtain ⟨y,_,rfl⟩:=List.mem_map.1 hc;rfl) (by simp [hx]) hj,hv]
  have:=hc _ _ e;rw [Nat.zero_add] at this;exact (kk.cell (p:=⟨b,k*3+j,none⟩) (World.block_lt_of_cell? _ _ this) hS).trans this
theorem sized_in {l:List Pd} {j:Nat} {q:Pd} (h:l[j]?=some q):l.take (j+1)=l.take j++[q]∧sizeL (l.take (j+1))=sizeL (l.take j)+sizeB q∧atomsL (l.take (j+1))=atomsL (l.take j)++atomsB q∧sizeL (l.take (j+1))≤sizeL l∧q∈l:=by
 have hlt:j < l.length:=(List.getElem?_eq_some_iff.1 h).1;have hq:l[j]=q:=(List.getElem?_eq_some_iff.1 h).2
 have htk:l.take (j+1)=l.take j++[q]:=by rw [List.take_succ_eq_append_getElem hlt,hq]
 refine ⟨htk,by rw [htk,sizeL_app];simp [sizeL],by rw [htk,atomsL_flat,atomsL_flat,List.flatMap_append];simp,?_,hq▸List.getElem_mem hlt⟩;have:=sizeL_app (l.take (j+1)) (l.drop (j+1));rw [List.take_append_drop] at this;omega
def NamesE (w:World) (A:List K3) (e:Ending) (w':World):Prop :=
 ∃ (u:Value) (ns:List Bs),e=.returned u∧ns.Nodup∧ns.Pairwise (fun x y=>x≤y)∧(∀ s,s∈ns↔s≠[]∧s∈namesK A)∧w'.ownsRow w.heap.size 9 1 u ns.length (strs ns)∧Kept [] w w'
set_option maxRecDepth 100000 in
set_option maxHeartbeats 8000000 in
theorem names_any {w:World} {v:Value} {l:List Pd} (hrow:RowOf PdR 5 w v l) (hf:∀ q∈l,formedB q=true) (hsz:sizeL l≤100000) :
  Calls Tryz.prog 74 #[v] w (NamesE w (atomsL l)):=by
 have hmm:=@run_makeMap Tryz.prog;obtain ⟨sa,sc,rfl,hl1,hl2⟩:=hrow.form;obtain ⟨ln,hln⟩:∃ ln,l.length=ln:=⟨_,rfl⟩
 have hlz:ln≤100000:=by have:=length_sizeL l;omega
 rw [hln] at hrow hl2 ⊢;clear hl1
 have hokk:∀ x∈atomsL l,W3 x:=fun x hx=>by
  rw [atomsL_flat,List.mem_flatMap] at hx;obtain ⟨q,hq,hx⟩:=hx;exact atoms_ok 100000 q (by have:=sizeL_mem hq;omega) (hf q hq) x hx
 have HROW:=Lib.hid hrow;have HF:=Lib.hid hf;have HOKK:=Lib.hid hokk;obtain ⟨b,hb⟩:∃ b,w.heap.size=b:=⟨_,rfl⟩;have HB:=Lib.hid hb;have hmade:MapAt strEnc (w.alloc (.map #[] 0)) b 0 (fun _=>none):=hb▸MapAt.made (E:=strEnc) w;have HMADE:=Lib.hid hmade;clear hrow hf hokk hmade
 go_enter Tryz.func74,Tryz.ntmps74
 go_wp2_with fail
 (try rw [hb])
 clear hb
 go_loopw [11] (fun v wr=>∃ j n:Nat,j≤ln∧v=.int .i64 j∧Kept [] w wr∧n≤2*sizeL (l.take j)∧MapAt strEnc wr b n (colS (namesK (atomsL (l.take j))))) (fun v _=>ln - (intOf v).toNat)
 case atStart=>exact ⟨0,0,Nat.zero_le _,rfl,(Kept.refl _ _).alloc _,Nat.zero_le _,HMADE.out.congr fun x _=>by simp [colS,namesK,atomsL]⟩
 case round =>
  obtain ⟨j,n,hj,rfl,hkr,hn,hmr⟩:=hrel;have HKR:=Lib.hid hkr;have HMR:=Lib.hid hmr;have HN:=Lib.hid hn;clear hmr hn
  by_cases hlt:j < ln
  ·have hlt':(j:Int) < (ln:Int):=by omega
   obtain ⟨bb,off,rfl,hc⟩:=HROW.out.at_ (by omega);obtain ⟨q,hq⟩:∃ q,l[j]?=some q:=⟨_,List.getElem?_eq_getElem (by omega)⟩;obtain ⟨cq,h1,h2,h3⟩:=hc j q hq;have HQ:=Lib.hid (sized_in hq);obtain ⟨_,_,_,hle,hqm⟩:=sized_in hq
   have hqs:sizeB q≤100000:=by have:=sizeL_mem hqm;omega
   have hqf:formedB q=true:=HF.out q hqm;clear hq hc hqm hle;obtain ⟨qk,ql,qr,qc,qks⟩:=q;obtain ⟨qa,qcc,rfl,_⟩:=h2.rows;have y0:wr.cell? ⟨bb,off+j*5,none⟩=some (.int .i64 qk):=Kept.cellOf (h3 0 _ (by decide) rfl) _ hkr;have y1:wr.cell? ⟨bb,off+j*5+1,none⟩=some (.string ⟨ql.toArray⟩):=Kept.cellOf (h3 1 _ (by decide) rfl) _ hkr;have y2:wr.cell? ⟨bb,off+j*5+2,none⟩=some (.string ⟨qr.toArray⟩):=Kept.cellOf (h3 2 _ (by decide) rfl) _ hkr;have y3:wr.cell? ⟨bb,off+j*5+3,none⟩=some (.int .i64 qc):=Kept.cellOf (h3 3 _ (by decide) rfl) _ hkr;have y4:wr.cell? ⟨bb,off+j*5+4,none⟩=some (.slice qa qks.length qcc):=Kept.cellOf (h3 4 _ (by decide) rfl) _ hkr;obtain ⟨wA,hwA⟩:∃ x,wr.alloc (.cells #[.int .i64 qk,.string ⟨ql.toArray⟩,.string ⟨qr.toArray⟩,.int .i64 qc,.slice qa qks.length qcc] 46)=x:=⟨_,rfl⟩;have kA:Kept [] wr wA:=hwA▸(Kept.refl _ _).alloc _;have hBA:Blk wA wr.heap.size 46 #[.int .i64 qk,.string ⟨ql.toArray⟩,.string ⟨qr.toArray⟩,.int .i64 qc,.slice qa qks.length qcc]:=hwA▸Blk.new _ _ _;have x0:wA.cell? ⟨wr.heap.size,0,none⟩=some (.int .i64 qk):=hBA.cell 0;have x1:wA.cell? ⟨wr.heap.size,1,none⟩=some (.string ⟨ql.toArray⟩):=hBA.cell 1;have x2:wA.cell? ⟨wr.heap.size,2,none⟩=some (.string ⟨qr.toArray⟩):=hBA.cell 2;have x3:wA.cell? ⟨wr.heap.size,3,none⟩=some (.int .i64 qc):=hBA.cell 3;have x4:wA.cell? ⟨wr.heap.size,4,none⟩=some (.slice qa qks.length qcc):=hBA.cell 4;have HC:=Lib.hid (atoms_any (PdR.kept (hkr.trans kA) h2) hqf hqs);have HWA:=Lib.hid hwA;have KA:=Lib.hid kA
   have hbA:b < wA.heap.size:=by have:=HMR.out.lt;have:=kA.size;omega
   clear h1 h2 h3 hwA kA hBA hkr;go_upto_region 5 with (fail);have hwA':=HWA.out;rw [hwA'];clear hwA' y0 y1 y2 y3 y4
   go_wp2_with (first
    | (go_at_call 120;refine HC.out.mono ?_;rintro e w5 ⟨v5,ks,rfl,hnd,hmem,hrow5,k5⟩;obtain ⟨ka,kc,rfl⟩:=own_form hrow5)
    | fail)
   have hkl:ks.length≤sizeB (.node qk ql qr qc qks):=Nat.le_trans (nodup_len ks _ hnd (fun x hx=>(hmem x).1 hx)) (atomsB_len _);obtain ⟨kn,hkn⟩:∃ kn,ks.length=kn:=⟨_,rfl⟩;have HR5:=Lib.hid hrow5;have HMEM:=Lib.hid hmem;have HKL:=Lib.hid hkl;have hm5:=(HMR.out.kept KA.out (by simp)).kept k5 (by simp);have HM5:=Lib.hid hm5;have HK5:=Lib.hid ((HKR.out.trans KA.out).trans k5);have HB5:Hid (b < w5.heap.size):=Lib.hid hm5.lt;have HKS:Hid (kn≤100000):=Lib.hid (by omega);clear hrow5 hmem hkl hm5 k5 HC HMR HWA KA x0 x1 x2 x3 x4 hnd;rw [hkn]
   go_loopw [18] (fun v wi=>∃ i m:Nat,i≤kn∧v=.int .i64 i∧Kept [b] w5 wi∧m≤n+2*i∧MapAt strEnc wi b m (colS (namesK (atomsL (l.take j))++namesK (ks.take i)))) (fun v _=>kn - (intOf v).toNat)
   case atStart=>exact ⟨0,n,Nat.zero_le _,rfl,Kept.refl _ _,by omega,HM5.out.congr fun x _=>by rw [List.take_zero,show namesK []=[] from rfl,List.append_nil]⟩
   case round =>
    obtain ⟨i,m,hi,rfl,hki,hm,hmi⟩:=hrel;have HKI:=Lib.hid hki;have HMI:=Lib.hid hmi;have HMM:=Lib.hid hm;clear hmi hm
    by_cases hlt2:i < kn
    ·have hlt2':(i:Int) < (kn:Int):=by omega
     have hr5:=HR5.out;obtain ⟨bk,hbk,rfl,hcell⟩:=keys_row hr5 (by rw [hkn];exact HKS.out) (by omega);obtain ⟨x,hx⟩:∃ x,ks[i]?=some x:=⟨_,List.getElem?_eq_getElem (by omega)⟩
     have hbk2:bk∉[b]:=by have:=(own_ge hr5 bk hbk).1;simp;omega
     have hxm:x∈ks:=List.mem_of_getElem? hx
     have hw3:W3 x:=HOKK.out x (by
      rw [atomsL_flat,List.mem_flatMap]
      exact ⟨_,HQ.out.2.2.2.2,(HMEM.out x).1 hxm⟩)
     have htk:ks.take (i+1)=ks.take i++[x]:=by
      rw [List.take_succ_eq_append_getElem (by omega),(List.getElem?_eq_some_iff.1 hx).2]
     have HTK:=Lib.hid htk;obtain ⟨xa,xb,xc⟩:=x;have z0:wr.cell? ⟨bk,i*3+0,none⟩=some (.string ⟨xa.toArray⟩):=hcell i _ hx 0 _ (by decide) rfl _ _ hki hbk2;have z1:wr.cell? ⟨bk,i*3+1,none⟩=some (.string ⟨xb.toArray⟩):=hcell i _ hx 1 _ (by decide) rfl _ _ hki hbk2;have z2:wr.cell? ⟨bk,i*3+2,none⟩=some (.int .i64 xc):=hcell i _ hx 2 _ (by decide) rfl _ _ hki hbk2;rw [Nat.add_zero] at z0;obtain ⟨g,hg⟩:∃ g,wr.heap.size=g:=⟨_,rfl⟩;obtain ⟨wB,hwB⟩:∃ x,wr.alloc (.cells #[.string ⟨xa.toArray⟩,.string ⟨xb.toArray⟩,.int .i64 xc] 182)=x:=⟨_,rfl⟩;have kB:Kept [] wr wB:=hwB▸(Kept.refl _ _).alloc _;have hBB:Blk wB g 182 #[.string ⟨xa.toArray⟩,.string ⟨xb.toArray⟩,.int .i64 xc]:=hg▸hwB▸Blk.new _ _ _
     have hgb:g∉[b]:=by have:=HMI.out.lt;simp;omega
     have s0:∀ w',Kept [b] wB w'→w'.cell? ⟨g,0,none⟩=some (.string ⟨xa.toArray⟩):=fun w' k=>(hBB.kept k hgb).cell 0;have s1:∀ w',Kept [b] wB w'→w'.cell? ⟨g,1,none⟩=some (.string ⟨xb.toArray⟩):=fun w' k=>(hBB.kept k hgb).cell 1;have hmB:=HMI.out.kept kB (by simp);have HMB:=Lib.hid hmB;have HWB:=Lib.hid hwB;have KB:=Lib.hid kB;have HG:=Lib.hid hg;have HW3:=Lib.hid hw3;clear hr5 hbk hcell hx hxm htk hwB kB hBB hgb hmB hg hw3 hki HMI hbk2;go_upto_region 8 with (fail);have hwB':=HWB.out;rw [hwB'];clear hwB' z0 z1 z2
     (try rw [HG.out])
     refine wp_region_T [7] (fun w'=>Kept [b] wB w') (by kernel_rfl) (Kept.refl _ _).drew (fun hH=>?_);refine takeT [6,7] (i:=0) (v:=?tv0) rfl (by kernel_rfl) (by kernel_rfl) (by kernel_rfl) (by kernel_rfl) (fun _ _ _ h=>h) (Or.inl ⟨by rfl,?ty0⟩) hH ?tr0
     case ty0=>intro w' hSw;(try dsimp only at hSw);go_simp;first|done|with_reducible rfl
     simp only [Act.put,List.setIfInBounds_toArray,List.set_cons_zero,List.set_cons_succ];refine takeT [2,6,7] (i:=1) (v:=?tv1) rfl (by kernel_rfl) (by kernel_rfl) (by kernel_rfl) (by kernel_rfl) (fun _ _ _ h=>h) (Or.inl ⟨by rfl,?ty1⟩) hH ?tr1
     case ty1=>intro w' hSw;(try dsimp only at hSw);go_simp;first|done|with_reducible rfl
     simp only [Act.put,List.setIfInBounds_toArray,List.set_cons_zero,List.set_cons_succ];refine takeT [6,7] (i:=2) (v:=?tv2) rfl (by kernel_rfl) (by kernel_rfl) (by kernel_rfl) (by kernel_rfl) (fun _ _ _ h=>h) (Or.inl ⟨by rfl,?ty2⟩) hH ?tr2
     case ty2=>intro w' hSw;(try dsimp only at hSw);go_simp;first|done|with_reducible rfl
     simp only [Act.put,List.setIfInBounds_toArray,List.set_cons_zero,List.set_cons_succ];refine takeT [7] (i:=3) (v:=?tv3) rfl (by kernel_rfl) (by kernel_rfl) (by kernel_rfl) (by kernel_rfl) (fun _ _ _ h=>h) (Or.inl ⟨by rfl,?ty3⟩) hH ?tr3
     case ty3=>intro w' hSw;(try dsimp only at hSw);go_simp;first|done|with_reducible rfl
     simp only [Act.put,List.setIfInBounds_toArray,List.set_cons_zero,List.set_cons_succ];refine takeT [5,7] (i:=4) (v:=?tv4) rfl (by kernel_rfl) (by kernel_rfl) (by kernel_rfl) (by kernel_rfl) (fun _ _ _ h=>h) (Or.inl ⟨by rfl,?ty4⟩) hH ?tr4
     case ty4=>intro w' hSw;(try dsimp only at hSw);go_simp;first|done|with_reducible rfl
     simp only [Act.put,List.setIfInBounds_toArray,List.set_cons_zero,List.set_cons_succ];refine takeT [7] (i:=5) (v:=?tv5) rfl (by kernel_rfl) (by kernel_rfl) (by kernel_rfl) (by kernel_rfl) (fun _ _ _ h=>h) (Or.inl ⟨by rfl,?ty5⟩) hH ?tr5
     case ty5=>intro w' hSw;(try dsimp only at hSw);go_simp;first|done|with_reducible rfl
     simp only [Act.put,List.setIfInBounds_toArray,List.set_cons_zero,List.set_cons_succ];refine wpAnyT_ready (rs:=[6]) (by kernel_rfl) (by simp) ?_;refine AllReadyT.cons rfl (fun K hK=>?_) AllReadyT.nil;refine step_set (E:=strEnc) (x:=xa) rfl rfl _ _ _ 178 4 rfl Tryz.underlying178 (.bool true) rfl rfl rfl (HMB.out.kept (Kept.refl [] _).drew (by simp)) HW3.out.1 (by have:=HMM.out;have:=HN.out;have:=HQ.out;have:=HKS.out;unfold maxLen;omega) ?_;intro w6 hm6 hg6 hs6;have K6:Kept [b] wB w6:=(Kept.refl [b] wB).drew.trans (Kept.of_turned hg6 (by simp));have HK6:=Lib.hid K6;have HM6:=Lib.hid hm6;refine hK.out _ _ K6 (fun hH=>?_);clear hK K K6 hm6 hg6 hs6
     (try simp only [Act.put,List.setIfInBounds_toArray,List.set_cons_zero,List.set_cons_succ])
     refine wpAnyT_ready (rs:=[7]) (by kernel_rfl) (by simp) ?_;refine AllReadyT.last rfl (by kernel_rfl) (fun K hK=>?_);refine step_set (E:=strEnc) (x:=xb) rfl rfl _ _ _ 178 4 rfl Tryz.underlying178 (.bool true) rfl rfl rfl HM6.out HW3.out.2.1 (by have:=HMM.out;have:=HN.out;have:=HQ.out;have:=HKS.out;unfold maxLen;omega) ?_;intro w7 hm7 hg7 hs7;have HK7:=Lib.hid (HK6.out.trans (Kept.of_turned hg7 (by simp)));have HM7:=Lib.hid hm7;refine hK.out _ _ ?_;clear hK K hm7 hg7 hs7 s0 s1
     (try simp only [Act.put,List.setIfInBounds_toArray,List.set_cons_zero,List.set_cons_succ])
     refine wpAnyT_done (by kernel_rfl) ?_ _;have hks:=HKS.out;go_wp2_with fail
     go_roundw
     case rel =>
      refine ⟨i+1,m+1+1,by omega,by go_num,(HKI.out.trans (KB.out.mono (fun _ _ h=>by simp at h))).trans HK7.out,by have:=HMM.out;omega,?_⟩;have h7:=HM7.out;rw [HTK.out,namesK_app,←List.append_assoc];exact h7.congr fun y _=>colS_add _ _ _ y
     case measure=>simp [intOf];omega
    ·obtain rfl:i=kn:=by omega
     have htk:ks.take i=ks:=List.take_of_length_le (by omega);have hmi2:=HMI.out;rw [htk] at hmi2;have HM8:=Lib.hid hmi2;clear hmi2 hki HMI;go_wp2_with fail
     go_roundw
     case rel =>
      refine ⟨j+1,m,by omega,by go_num,HK5.out.fresh HKI.out (fun x hx=>by rw [List.mem_singleton] at hx;have:=HB.out;omega),?_,?_⟩
      ·have:=HMM.out;have:=HN.out;have:=HQ.out;have:=HKL.out;omega
      ·refine HM8.out.congr fun y _=>?_;rw [HQ.out.2.2.1,namesK_app];refine congrFun (colS_congr fun s=>?_) y;simp only [List.mem_append,mem_namesK]
       constructor
       ·rintro (h|⟨x,hx,h⟩)
        ·exact Or.inl h
        ·exact Or.inr ⟨x,(HMEM.out x).2 hx,h⟩
       ·rintro (h|⟨x,hx,h⟩)
        ·exact Or.inl h
        ·exact Or.inr ⟨x,(HMEM.out x).1 hx,h⟩
     case measure=>simp [intOf];omega
  ·obtain rfl:j=ln:=by omega
   have htk:l.take j=l:=List.take_of_length_le (by omega);have hmr:=HMR.out;rw [htk] at hmr;clear HMR
   have hn9:n≤1000000:=by have:=HN.out;rw [htk] at this;omega
   have HK9:=fun (w':World)=>(callsIn_wide (n:=9)).1 (keysS_in (some b) w' 9);have HS9:=fun (w':World) (f:List UInt8→Option Value) (h:MapAt strEnc w' b n f)=>(callsIn_wide (n:=9)).1 (sortedS_in 9 (by omega) h hn9)
   go_wp2_with (first
    | (at_delete;refine wpList_del (E:=strEnc) hmr (x:=[]) (by show (0:Nat)≤maxLen;exact Nat.zero_le _) rfl _ _ 178 4 rfl Tryz.underlying178 rfl rfl ?_;intro w6 hm6 hg6 hs6;clear hs6)
    | (go_at_call 122;refine (HK9 _).mono ?_;rintro e w7 ⟨rfl,rfl⟩)
    | (go_at_call 121;refine (HS9 _ _ hm6).mono ?_;rintro e w8 ⟨u,ns,rfl,hnd,hpw,hmem,hrow8,k8⟩)
    | go_in)
   go_ret;have hk6:Kept [] w w6:=hkr.fresh (Kept.of_turned hg6 (List.mem_singleton_self b)) (fun x hx=>by rw [List.mem_singleton] at hx;have:=HB.out;omega);refine ⟨u,ns,rfl,hnd,hpw,fun s=>?_,ownsRow_base_a hrow8 hk6.size,hk6.trans k8⟩;rw [hmem s]
   by_cases e:s=[]
   ·subst e;simp
   ·rw [if_neg e]
    unfold colS
    constructor
    ·rintro ⟨_,h2⟩
     by_cases h:s∈namesK (atomsL l)
     ·exact ⟨e,h⟩
     ·rw [if_neg h] at h2;cases h2
    ·rintro ⟨_,h⟩;refine ⟨?_,by rw [if_pos h];rfl⟩;obtain ⟨x,hx,h⟩:=mem_namesK.1 h;have:=HOKK.out x hx
     rcases h with rfl|rfl
     ·exact this.1
     ·exact this.2.1
end Go.Proofs.YtpcmamoomaddoaaGreatDoor
/- inquiry's validLog. -/
namespace Go.Proofs.YtpcmamoomaddoaaGreatDoor
open Go.RowKit
theorem contains_ints {w:World} {v:Value} {l:List Int} {n:Nat} (h:Row w 1 v n (ints l)) (x:Int) :
  Calls Tryz.prog 84 #[v,.int .i64 x] w fun e w'=>e=.returned (.bool (l.contains x))∧w'=w:=by
 have hln:l.length=n:=by have:=h.1;simpa [ints] using this
 obtain ⟨a,c,rfl,hn,hc⟩:=h.form
 rcases Nat.eq_zero_or_pos l.length with h0|hp
 ·have:=List.eq_nil_of_length_eq_zero h0;subst this
  have:n=0:=by simpa using hln.symm
  subst this;exact Tryz.slices_Contains_int_empty a c _ w
 ·obtain ⟨b,off,rfl,hcell⟩:=h.at_ (by omega)
  have:=Tryz.slices_Contains_int b off n c l x w (by omega) hn (fun j hj=>by
   rw [hcell j _ (ints_get (by omega:j < l.length))]
   simp [List.getD_eq_getElem?_getD,show j < l.length by omega])
  refine this.mono ?_;rintro e w' ⟨rfl,rfl⟩;refine ⟨?_,rfl⟩
  congr 2
  rw [List.take_of_length_le (by omega)]
/-- the front of a row -/
theorem Row.front {w:World} {l:List Value} {n i:Nat} {a:Option Addr} {c:Nat} (h:Row w 1 (.slice a n c) n l) (hi:i≤n):Row w 1 (.slice a i c) i (l.take i):=by
 obtain ⟨h1,h2,a',c',hv,hc,hcell⟩:=h;injection hv with e1 _ e3;subst e1;subst e3;refine ⟨by rw [List.length_take];omega,by omega,a,c,rfl,by omega,fun hp=>?_⟩;obtain ⟨b,off,ha,hc⟩:=hcell (by omega);exact ⟨b,off,ha,fun k u hu=>hc k u (by rw [List.getElem?_take] at hu;split at hu;exact hu;cases hu)⟩
def badAt (l:List Int) (i:Nat):Bool:=decide (l.getD i 0 < 1) || (l.take i).contains (l.getD i 0)
def logB (l:List Int):Bool:=!(List.range l.length).any (badAt l)&&decide (l.length≤16)
theorem logB_bad {l:List Int} {i:Nat} (hi:i < l.length) (h:badAt l i=true):logB l=false:=by
 unfold logB
 rw [show (List.range l.length).any (badAt l)=true from List.any_eq_true.2 ⟨i,List.mem_range.2 hi,h⟩]
 rfl
theorem logB_done {l:List Int} (h:∀ i,i < l.length→badAt l i=false):logB l=decide (l.length≤16):=by
 unfold logB
 rw [show (List.range l.length).any (badAt l)=false from List.any_eq_false.2 fun i hi=>by rw [h i (List.mem_range.1 hi)];simp]
 rfl
set_option maxRecDepth 100000 in
set_option maxHeartbeats 4000000 in
theorem validLog_any {w:World} {v:Value} {l:List Int} (h:Row w 1 v l.length (ints l)) (hl:l.length≤100000) :
  Calls Tryz.prog 39 #[v] w fun e w'=>e=.returned (.bool (logB l))∧w'=w:=by
 obtain ⟨a,c,rfl,_,hcn⟩:=h.form;obtain ⟨n,hn⟩:∃ n,l.length=n:=⟨_,rfl⟩;rw [hn] at h hcn hl ⊢;have HR:=Lib.hid h;have HN:=Lib.hid hn;clear h hn
 go_enter Tryz.func39,Tryz.ntmps39
 go_wp2_with fail
 go_loopw [7] (fun v wr=>∃ i:Nat,i≤n∧v=.int .i64 i∧wr=w∧∀ k,k < i→badAt l k=false) (fun v _=>n - (intOf v).toNat)
 case atStart=>exact ⟨0,Nat.zero_le _,rfl,rfl,fun k hk=>absurd hk (by omega)⟩
 case round =>
  obtain ⟨i,hi,rfl,rfl,hall⟩:=hrel;have HALL:=Lib.hid hall;clear hall
  by_cases hlt:i < n
  ·have hlt':(i:Int) < (n:Int):=by omega
   obtain ⟨b,off,rfl,hc⟩:=HR.out.at_ (by omega)
   have hil:i < l.length:=by have:=HN.out;omega
   obtain ⟨x,hx⟩:∃ x,l[i]=x:=⟨_,rfl⟩
   have y0:wr.cell? ⟨b,off+i,none⟩=some (.int .i64 x):=by rw [hc i _ (ints_get hil),hx]
   have hgd:l.getD i 0=x:=by simp [List.getD_eq_getElem?_getD,hil,hx]
   have HC:=Lib.hid (contains_ints (l:=l.take i) (by have:=HR.out.front (i:=i) (by omega);rwa [show (ints l).take i=ints (l.take i) by simp [ints,List.map_take]] at this) x)
   have hbad:badAt l i=(decide (x < 1) || (l.take i).contains x):=by unfold badAt;rw [hgd]
   have HBAD:=Lib.hid hbad
   have hic:i≤c:=by omega
   clear hbad hc hx hgd
   by_cases h1:x < 1
   ·go_wp2_with fail;go_ret;refine ⟨?_,rfl⟩;rw [logB_bad hil (by rw [HBAD.out];simp [h1])]
    rfl
   ·obtain ⟨bb,hbb⟩:∃ b,(l.take i).contains x=b:=⟨_,rfl⟩;rw [hbb] at HC HBAD
    cases bb
    ·go_wp2_with (go_at_call 84;refine HC.out.mono ?_;rintro e w5 ⟨rfl,rfl⟩)
     go_roundw
     case rel =>
      refine ⟨i+1,by omega,by go_num,by first|trivial|rfl,fun k hk=>?_⟩
      by_cases e:k=i
      ·subst e;rw [HBAD.out];simp [h1]
      ·exact HALL.out k (by omega)
     case measure=>simp [intOf];omega
    ·go_wp2_with (go_at_call 84;refine HC.out.mono ?_;rintro e w5 ⟨rfl,rfl⟩);go_ret;refine ⟨?_,rfl⟩;rw [logB_bad hil (by rw [HBAD.out];simp)]
     rfl
  ·obtain rfl:i=n:=by omega
   go_wp2_with fail;go_ret;refine ⟨?_,rfl⟩;rw [logB_done (fun k hk=>HALL.out k (by have:=HN.out;omega)),HN.out]
   simp
   omega
end Go.Proofs.YtpcmamoomaddoaaGreatDoor
/- ValidName, and validAtom with its closure. -/
namespace Go.Proofs.YtpcmamoomaddoaaGreatDoor
open Go.RowKit
theorem index_dot:∀ s:Bs,Lib.index s [46]=if (s.takeWhile (fun c=>c.toNat != 46)).length < s.length then ((s.takeWhile (fun c=>c.toNat != 46)).length:Int) else -1
 | []=>rfl
 | c::t=>by
  unfold Lib.index
  by_cases h:c=46
  ·subst h;rw [if_pos (by rfl)]
   rfl
  ·have hn:c.toNat≠46:=fun e=>h (UInt8.toNat_inj.1 e)
   have h1:List.isPrefixOf [46] (c::t)=false:=by simp [List.isPrefixOf];intro e;exact absurd e.symm h
   have h2:(c.toNat != 46)=true:=by simpa using hn
   rw [if_neg (by rw [h1];simp),index_dot t,List.takeWhile_cons,h2];simp only [if_true,List.length_cons]
   by_cases hl:(t.takeWhile (fun c=>c.toNat != 46)).length < t.length
   ·have h3:(t.takeWhile (fun c=>c.toNat != 46)).length+1 < t.length+1:=by omega
    have:(((t.takeWhile (fun c=>c.toNat != 46)).length:Int)==-1)=false:=by rw [beq_eq_false_iff_ne];omega
    rw [if_pos hl,if_pos h3,this]
    rfl
   ·have h3:¬ (t.takeWhile (fun c=>c.toNat != 46)).length+1 < t.length+1:=by omega
    rw [if_neg hl,if_neg h3]
    rfl
theorem take_tw (s:Bs) (p:UInt8→Bool):s.take (s.takeWhile p).length=s.takeWhile p:=by
 induction s with
 | nil=>rfl
 | cons a t ih =>
  rw [List.takeWhile_cons]
  split
  ·rw [List.length_cons,List.take_succ_cons,ih]
  ·rfl
theorem lib_cut (s:Bs):Lib.cut s [46]=match cutB s with|some (a,b)=>(a,b,true)|none=>(s,[],false):=by
 unfold Lib.cut cutB
 rw [index_dot]
 by_cases h:(s.takeWhile (fun c=>c.toNat != 46)).length < s.length
 ·rw [if_pos h,if_pos h,if_pos (by omega)]
  simp [take_tw]
 ·rw [if_neg h,if_neg h,if_neg (by decide)]
theorem cut_len {s a b:Bs} (h:cutB s=some (a,b)):a.length≤s.length∧b.length≤s.length:=by
 unfold cutB at h
 split at h
 ·injection h with h;injection h with h1 h2;subst h1;subst h2;rw [List.length_drop];omega
 ·cases h
set_option maxRecDepth 100000 in
set_option maxHeartbeats 2000000 in
theorem validName_any {B:Nat} (s:Bs) (w:World) (hs:s.length≤100000000) (hE:EnvB B w) :
  Calls Tryz.prog 62 #[.string ⟨s.toArray⟩] w fun e w'=>e=.returned (.bool (validNameB s))∧Kept [] w w':=by
 obtain ⟨m,hm⟩:=hE.mlen;have hc:=Tryz.strings_Cut ⟨s.toArray⟩ ⟨#[46]⟩ m w (by simp [ByteArray.size];omega) hm;simp only [lib_cut] at hc;have hfree:∀ (t:Bs) (w':World),t.length≤s.length→Kept [] w w'→Calls Tryz.prog 108 #[.string ⟨t.toArray⟩] w' fun e w2=>e=.returned (.bool (freeB t))∧w'=w2:=fun t w' ht k=>free_any t w' (by omega) (hE.kept0 k);have HF:=Lib.hid hfree;clear hfree hE hm
 unfold validNameB
 cases hcut:cutB s with
 | none =>
  rw [hcut] at hc;have HC:=Lib.hid hc;clear hc hcut
  go_enter Tryz.func62,Tryz.ntmps62
  go_wp2_with (go_at_call 107;refine HC.out.mono ?_;rintro e w2 ⟨rfl,n,rfl⟩);go_ret;exact ⟨rfl,(Kept.refl _ _).drewN _⟩
 | some x =>
  obtain ⟨a,b⟩:=x;obtain ⟨la,lb⟩:=cut_len hcut;rw [hcut] at hc;have HC:=Lib.hid hc;clear hc hcut
  show Calls _ _ _ _ fun e w'=>e=.returned (.bool (freeB a&&freeB b))∧Kept [] w w'
  cases ha:freeB a
  ·go_enter Tryz.func62,Tryz.ntmps62
   go_wp2_with (first|(go_at_call 107;refine HC.out.mono ?_;rintro e w2 ⟨rfl,n,rfl⟩)|(go_at_call 108;refine (HF.out a _ la ((Kept.refl _ _).drewN _)).mono ?_;rw [ha];rintro e w3 ⟨rfl,rfl⟩));go_ret;exact ⟨rfl,(Kept.refl _ _).drewN _⟩
  ·go_enter Tryz.func62,Tryz.ntmps62
   go_wp2_with (first|(go_at_call 107;refine HC.out.mono ?_;rintro e w2 ⟨rfl,n,rfl⟩)|(go_at_call 108;with_reducible refine (HF.out a _ la ((Kept.refl _ _).drewN _)).mono ?_;(rw [ha];rintro e w3 ⟨rfl,rfl⟩))|(go_at_call 108;refine (HF.out b _ lb ((Kept.refl _ _).drewN _)).mono ?_;rintro e w3 ⟨rfl,rfl⟩));go_ret;exact ⟨by simp,(Kept.refl _ _).drewN _⟩
set_option maxRecDepth 100000 in
set_option maxHeartbeats 2000000 in
theorem named_any {B:Nat} (s:Bs) (w:World) (hs:s.length≤100000000) (hE:EnvB B w) :
  Calls Tryz.prog 161 #[.string ⟨s.toArray⟩] w fun e w'=>e=.returned (.bool (namedB s))∧Kept [] w w':=by
 have HV:=Lib.hid (validName_any s w hs hE);clear hE
 unfold namedB
 rcases s with _|⟨c,t⟩
 ·go_enter Tryz.func161,Tryz.ntmps161
  go_wp2_with fail;go_ret;exact ⟨rfl,Kept.refl _ _⟩
 ·have hne:((c::t:Bs)==[])=false:=rfl;obtain ⟨s,hse⟩:∃ s,c::t=s:=⟨_,rfl⟩
  have hemp:s.isEmpty=false:=by rw [←hse];rfl
  rw [hse] at HV hne ⊢;rw [hemp];clear hse hs;simp only [Bool.false_or]
  go_enter Tryz.func161,Tryz.ntmps161
  go_wp2_with (go_at_call 62;refine HV.out.mono ?_;rintro e w2 ⟨rfl,k2⟩);go_ret;exact ⟨rfl,k2⟩
end Go.Proofs.YtpcmamoomaddoaaGreatDoor
namespace Go.Proofs.YtpcmamoomaddoaaGreatDoor
open Go.RowKit
structure Pss where
 name:List UInt8
 pub:Int
 attrs:List (List UInt8)
 guests:List Int
/-- the name of an attribute -/
def nmA (p a:Bs):Bs:=p++[46]++a
def badA (p:Bs) (l:List Bs) (i:Nat):Bool:=!validNameB (nmA p (l.getD i [])) || (l.take i).contains (l.getD i [])
def passB (p:Pss):Bool:=nameB p.name&&decide (p.attrs.length < 6)&&!(List.range p.attrs.length).any (badA p.name p.attrs)
theorem passB_bad {p:Pss} {i:Nat} (hi:i < p.attrs.length) (h:badA p.name p.attrs i=true):passB p=false:=by
 unfold passB
 rw [show (List.range p.attrs.length).any (badA p.name p.attrs)=true from List.any_eq_true.2 ⟨i,List.mem_range.2 hi,h⟩]
 simp
theorem passB_done {p:Pss} (h1:nameB p.name=true) (h2:p.attrs.length < 6) (h:∀ i,i < p.attrs.length→badA p.name p.attrs i=false):passB p=true:=by
 unfold passB
 rw [show (List.range p.attrs.length).any (badA p.name p.attrs)=false from List.any_eq_false.2 fun i hi=>by rw [h i (List.mem_range.1 hi)];simp,h1]
 simp [h2]
set_option maxRecDepth 100000 in
set_option maxHeartbeats 4000000 in
theorem validPass_any {B:Nat} {w:World} {p:Pss} {va vg:Value} (h:Row w 1 va p.attrs.length (strs p.attrs)) (hn:p.name.length≤10000000) (ha:∀ a∈p.attrs,a.length≤10000000) (hE:EnvB B w) :
  Calls Tryz.prog 28 #[.agg #[.string ⟨p.name.toArray⟩,.int .i64 p.pub,va,vg]] w fun e w'=>e=.returned (.bool (passB p))∧Kept [] w w':=by
 obtain ⟨W,hW⟩:∃ W,w.alloc (.cells #[.string ⟨p.name.toArray⟩,.int .i64 p.pub,va,vg] 36)=W:=⟨_,rfl⟩;have hkW:Kept [] w W:=hW▸(Kept.refl _ _).alloc _;have hB:Blk W w.heap.size 36 #[.string ⟨p.name.toArray⟩,.int .i64 p.pub,va,vg]:=hW▸Blk.new _ _ _;obtain ⟨nm,hnm⟩:∃ nm,p.name=nm:=⟨_,rfl⟩;obtain ⟨R,hR⟩:∃ R,passB p=R:=⟨_,rfl⟩;obtain ⟨pu,hpu⟩:∃ pu,p.pub=pu:=⟨_,rfl⟩;obtain ⟨l,hl⟩:∃ l,p.attrs=l:=⟨_,rfl⟩;obtain ⟨a,c,rfl,_,hcn⟩:=h.form
 have HB1:∀ i,i < l.length→badA nm l i=true→R=false:=fun i hi hb=>by rw [←hR];exact passB_bad (hl▸hi) (by rw [hnm,hl];exact hb)
 have HB2:nameB nm=true→l.length < 6→(∀ i,i < l.length→badA nm l i=false)→R=true:=fun h1 h2 h3=>by rw [←hR];exact passB_done (by rw [hnm];exact h1) (by rw [hl];exact h2) (by rw [hnm,hl];exact h3)
 have HB3:nameB nm=false→R=false:=fun h1=>by rw [←hR];unfold passB;rw [hnm,h1];rfl
 have HB4:¬ l.length < 6→R=false:=fun h1=>by rw [←hR];unfold passB;rw [hl];simp [h1]
 rw [hnm] at hB hn;rw [hl] at ha h hcn;rw [hpu] at hB;rw [hR,hnm,hpu,hl];rw [hl] at hB;obtain ⟨n,hnl⟩:∃ n,l.length=n:=⟨_,rfl⟩;rw [hnl] at h hcn hB HB1 HB2 HB4 ⊢;have c0:W.cell? ⟨w.heap.size,0,none⟩=some (.string ⟨nm.toArray⟩):=hB.cell 0;have c2:W.cell? ⟨w.heap.size,2,none⟩=some (.slice a n c):=hB.cell 2;have HN:=Lib.hid (name_any nm W (by omega));have HA:=Lib.hid ha;have H:=Lib.hid h;have HB:=Lib.hid hB;have HK:=Lib.hid hkW;have HW:=Lib.hid hW;have HE:=Lib.hid hE;have HNL:=Lib.hid hnl;have HHN:=Lib.hid hn;rw [hnm,hpu,hl,hnl] at HW;have G1:=Lib.hid HB1;have G2:=Lib.hid HB2;have G3:=Lib.hid HB3;have G4:=Lib.hid HB4;clear hW hkW hB hnm hR hpu hl h hnl hn ha hE HB1 HB2 HB3 HB4
 go_enter Tryz.func28,Tryz.ntmps28
 go_upto_region 1 with (fail);have hW':=HW.out;rw [hW'];clear hW' HW;obtain ⟨b1,hb1⟩:∃ b,nameB nm=b:=⟨_,rfl⟩;rw [hb1] at HN;have HB5:=Lib.hid hb1;clear hb1
 cases b1
 ·go_wp2_with (go_at_call 61;refine HN.out.mono ?_;rintro e w5 ⟨rfl,rfl⟩);go_ret;exact ⟨by rw [G3.out HB5.out];rfl,HK.out⟩
 ·by_cases h6:n < 6
  ·have h6':(n:Int) < 6:=by omega
   go_wp2_with (go_at_call 61;refine HN.out.mono ?_;rintro e w5 ⟨rfl,rfl⟩);clear c0 c2
   go_loopw [18] (fun v wr=>∃ i:Nat,i≤n∧v=.int .i64 i∧Kept [] W wr∧∀ k,k < i→badA nm l k=false) (fun v _=>n - (intOf v).toNat)
   case atStart=>exact ⟨0,Nat.zero_le _,rfl,Kept.refl _ _,fun k hk=>absurd hk (by omega)⟩
   case round =>
    obtain ⟨i,hi,rfl,hkr,hall⟩:=hrel;have HALL:=Lib.hid hall;have HKR:=Lib.hid hkr;clear hall
    by_cases hlt:i < n
    ·have hlt':(i:Int) < (n:Int):=by omega
     have hrow:=H.out.kept (HK.out.trans hkr);obtain ⟨b,off,rfl,hc⟩:=hrow.at_ (by omega)
     have hil:i < l.length:=by have:=HNL.out;omega
     obtain ⟨x,hx⟩:∃ x,l[i]=x:=⟨_,rfl⟩;have hxl:x.length≤10000000:=HA.out x (hx▸List.getElem_mem hil)
     have y0:wr.cell? ⟨b,off+i,none⟩=some (.string ⟨x.toArray⟩):=by rw [hc i _ (strs_get hil),hx]
     have hgd:l.getD i []=x:=by simp [List.getD_eq_getElem?_getD,hil,hx]
     have hbr:=HB.out.kept hkr (by simp);have d0:wr.cell? ⟨w.heap.size,0,none⟩=some (.string ⟨nm.toArray⟩):=hbr.cell 0;have d2:wr.cell? ⟨w.heap.size,2,none⟩=some (.slice (some ⟨b,off,none⟩) n c):=hbr.cell 2;have HBR:=Lib.hid hbr
     have HC:=Lib.hid (fun (w':World) (k:Kept [] wr w')=>contains_strs (l:=l.take i) (v:=.slice (some ⟨b,off,none⟩) i c) (by
      have:=(hrow.kept k).front (i:=i) (by omega);rw [show (strs l).take i=strs (l.take i) by simp [strs,List.map_take]] at this
      rwa [show (l.take i).length=i by rw [List.length_take];omega]) x)
     have hv:=validName_any (nmA nm x) wr (by unfold nmA;simp only [List.length_append,List.length_cons,List.length_nil];have:=HHN.out;omega) (HE.out.kept0 (HK.out.trans hkr))
     have hbad:badA nm l i=(!validNameB (nmA nm x) || (l.take i).contains x):=by unfold badA;rw [hgd]
     obtain ⟨b1,hb1⟩:∃ b,validNameB (nmA nm x)=b:=⟨_,rfl⟩;obtain ⟨b2,hb2⟩:∃ b,(l.take i).contains x=b:=⟨_,rfl⟩;rw [hb1] at hv hbad;rw [hb2] at HC hbad
     have e1:(⟨(nmA nm x).toArray⟩:ByteArray)=⟨nm.toArray⟩++⟨#[46]⟩++⟨x.toArray⟩:=by
      rw [show (⟨#[46]⟩:ByteArray)=⟨([46]:List UInt8).toArray⟩ from rfl,bcat,bcat]
      rfl
     rw [e1] at hv;have HV:=Lib.hid hv;have HBAD:=Lib.hid hbad
     have hic:i≤c:=by omega
     clear hbad hc hx hgd hv e1 hb1 hb2 hbr hrow hkr;have hn':=HHN.out
     have hz1:(⟨nm.toArray⟩:ByteArray).size=nm.length:=by simp [ByteArray.size]
     have hz2:(⟨#[46]⟩:ByteArray).size=1:=rfl
     have hz3:(⟨x.toArray⟩:ByteArray).size=x.length:=by simp [ByteArray.size]
     have hz4:((⟨nm.toArray⟩:ByteArray)++(⟨#[46]⟩:ByteArray)).size=nm.length+1:=by rw [ByteArray.size_append,hz1,hz2]
     cases b1
     ·go_wp2_with (go_at_call 62;refine HV.out.mono ?_;rintro e w5 ⟨rfl,k5⟩);go_ret;exact ⟨by rw [G1.out i hlt (by rw [HBAD.out];rfl)];rfl,(HK.out.trans HKR.out).trans k5⟩
     ·cases b2
      ·go_wp2_with (first
        | (go_at_call 62;refine HV.out.mono ?_;rintro e w5 ⟨rfl,k5⟩;have z2:w5.cell? ⟨w.heap.size,2,none⟩=some (.slice (some ⟨b,off,none⟩) n c):=Kept.cellOf d2 _ k5)
        | (go_at_call 63;refine (HC.out _ k5).mono ?_;rintro e w6 ⟨rfl,rfl⟩))
       go_roundw
       case rel =>
        refine ⟨i+1,by omega,by go_num,HKR.out.trans k5,fun k hk=>?_⟩
        by_cases e:k=i
        ·subst e;rw [HBAD.out];rfl
        ·exact HALL.out k (by omega)
       case measure=>simp [intOf];omega
      ·go_wp2_with (first
        | (go_at_call 62;refine HV.out.mono ?_;rintro e w5 ⟨rfl,k5⟩;have z2:w5.cell? ⟨w.heap.size,2,none⟩=some (.slice (some ⟨b,off,none⟩) n c):=Kept.cellOf d2 _ k5)
        | (go_at_call 63;refine (HC.out _ k5).mono ?_;rintro e w6 ⟨rfl,rfl⟩))
       go_ret;exact ⟨by rw [G1.out i hlt (by rw [HBAD.out];rfl)];rfl,(HK.out.trans HKR.out).trans k5⟩
    ·obtain rfl:i=n:=by omega
     go_wp2_with fail;go_ret;exact ⟨by rw [G2.out HB5.out h6 (fun k hk=>HALL.out k hk)];rfl,HK.out.trans HKR.out⟩
  ·have h6':¬ (n:Int) < 6:=by omega
   go_wp2_with (go_at_call 61;refine HN.out.mono ?_;rintro e w5 ⟨rfl,rfl⟩);go_ret;exact ⟨by rw [G4.out h6];rfl,HK.out⟩
end Go.Proofs.YtpcmamoomaddoaaGreatDoor
