/- slices.Sorted(maps.Keys(m)) at a map of strings. -/
import Derived.Test.YtpcmamoomaddoaaGreatDoorRng
import Derived.Test.YtpcmamoomaddoaaGreatDoorNeg
import Derived.WalkKit
import Derived.Test.YtpcmamoomaddoaaGreatDoorKys
import Derived.Test.YtpcmamoomaddoaaGreatDoorShelf2
import Derived.Test.YtpcmamoomaddoaaGreatDoorSrk
import Derived.Sort.KeysCollected
import Derived.Shelf.SlIter.Sorted
/- JOINED: Col Atm Snk -/
/- The atoms of a predicate: collect. -/
namespace Go.Proofs.YtpcmamoomaddoaaGreatDoor
open Go.RowKit Go.Maps
theorem MapAt.mono {P:Program} {kt:TypeId} {α:Type} {E:KeyEnc P kt α} {w:World} {b n n':Nat} {f:α→Option Value} (h:MapAt E w b n f) (hn:n≤n'):MapAt E w b n' f:=by
 obtain ⟨D,⟨es,clock,h1,h2,h3,h4⟩,h5⟩:=h;exact ⟨D,⟨es,clock,h1,h2,by omega,h4⟩,h5⟩
mutual
def atomsB:Pd→List K3
 | .node k l r c ks=>if k=0 then [(l,r,c)] else atomsL ks
def atomsL:List Pd→List K3
 | []=>[]
 | p::l=>atomsB p++atomsL l
end
theorem atomsL_flat:∀ l:List Pd,atomsL l=l.flatMap atomsB
 | []=>rfl
 | p::l=>by rw [atomsL,List.flatMap_cons,atomsL_flat l]
theorem nm_len {s:Bs} (h:namedB s=true):s.length≤41:=by
 unfold namedB at h
 rw [Bool.or_eq_true] at h
 rcases h with h|h
 ·rw [List.isEmpty_iff] at h;subst h;simp
 ·unfold validNameB cutB at h
  split at h
  ·cases h
  ·next a b e =>
   split at e
   ·injection e with e;injection e with e1 e2;rw [Bool.and_eq_true] at h;obtain ⟨h1,h2⟩:=h
    have l1:a.length≤20:=by unfold freeB nameB at h1;simp only [Bool.and_eq_true,decide_eq_true_eq] at h1;exact h1.1.1.2
    have l2:b.length≤20:=by unfold freeB nameB at h2;simp only [Bool.and_eq_true,decide_eq_true_eq] at h2;exact h2.1.1.2
    rw [←e1] at l1;rw [←e2,List.length_drop] at l2;omega
   ·cases e
/-- an atom's key can be a key -/
theorem key_ok {l r:Bs} {c:Int} (h1:namedB l=true) (h2:namedB r=true) (h3:inRange c=true):W3 (l,r,c):=by
 have:=nm_len h1;have:=nm_len h2
 unfold inRange at h3
 simp only [Bool.and_eq_true,decide_eq_true_eq] at h3;refine ⟨by unfold maxLen;show l.length≤_;omega,by unfold maxLen;show r.length≤_;omega,?_⟩
 show (Lit.int .i64 c).wf=true
 exact WalkArith.wf_i64 ⟨by omega,by omega⟩
theorem kids_formed {k:Int} {l r:Bs} {c:Int} {ks:List Pd} (h:formedB (.node k l r c ks)=true):(k=0→ks=[]∧W3 (l,r,c))∧(k≠0→∀ q∈ks,formedB q=true):=by
 rw [formedB] at h
 constructor
 ·intro h0;rw [if_pos h0] at h;simp only [Bool.and_eq_true,List.isEmpty_iff] at h;exact ⟨h.1.1.1,key_ok h.1.1.2 h.1.2 h.2⟩
 ·intro h0;rw [if_neg h0] at h
  by_cases h1:k=1∨k=2
  ·rw [if_pos h1] at h;simp only [Bool.and_eq_true] at h;exact (formedL_iff ks).1 h.2
  ·rw [if_neg h1] at h
   by_cases h3:k=3
   ·rw [if_pos h3] at h;simp only [Bool.and_eq_true] at h;exact (formedL_iff ks).1 h.2
   ·rw [if_neg h3] at h;cases h
theorem atoms_ok:∀ (m:Nat) (p:Pd),sizeB p≤m→formedB p=true→∀ x∈atomsB p,W3 x
 | 0,.node ..,h,_=>by rw [sizeB] at h;omega
 | m+1,.node k l r c ks,h,hf=>by
  obtain ⟨h1,h2⟩:=kids_formed hf;intro x hx;rw [atomsB] at hx
  by_cases h0:k=0
  ·rw [if_pos h0,List.mem_singleton] at hx;exact hx▸(h1 h0).2
  ·rw [if_neg h0,atomsL_flat,List.mem_flatMap] at hx;obtain ⟨q,hq,hx⟩:=hx;rw [sizeB] at h;have:=sizeL_mem hq;exact atoms_ok m q (by omega) (h2 h0 q hq) x hx
def colF (A:List K3) (f:K3→Option Value):K3→Option Value:=fun x=>if x∈A then some (.bool true) else f x
theorem colF_app (A B:List K3) (f:K3→Option Value):colF (A++B) f=colF B (colF A f):=by
 funext x
 unfold colF
 simp only [List.mem_append]
 by_cases h1:x∈A <;> by_cases h2:x∈B <;> simp [h1,h2]
def ColE (w:World) (b n:Nat) (A:List K3) (f:K3→Option Value) (e:Ending) (w':World):Prop :=
 e=.returned (.tuple #[])∧Kept [b] w w'∧MapAt k3Enc w' b n (colF A f)
set_option maxRecDepth 100000 in
set_option maxHeartbeats 8000000 in
theorem collect_any:∀ (m:Nat),m≤100000→∀ (p:Pd) (cs:List Value) (w0 w:World) (b n:Nat) (f:K3→Option Value),sizeB p≤m→formedB p=true→PdR w0 cs p→Kept [] w0 w→w0.heap.size≤b→MapAt k3Enc w b n f→n+sizeB p≤1000000 →
  Calls Tryz.prog 154 #[.agg cs.toArray,.map (some b)] w (ColE w b (n+sizeB p) (atomsB p) f):=by
 intro m
 induction m with
 | zero=>intro _ p cs w0 w b n f hm;cases p;rw [sizeB] at hm;omega
 | succ m ih =>
  rintro hM ⟨kd,l,r,cc,ks⟩ cs w0 w b n f hm hf hp hk0 hbb hmap hn;have ih:=ih (by omega);obtain ⟨ka,kc,rfl,hrow⟩:=hp.rows;rw [sizeB] at hm hn ⊢;obtain ⟨_,_,hke,hkm,_⟩:=hrow.form;have HKN:Hid (ks.length≤100000):=Lib.hid (by have:=length_sizeL ks;omega);clear hke;obtain ⟨hf0,hf1⟩:=kids_formed hf
  show Calls _ _ #[.agg #[.int .i64 kd,.string ⟨l.toArray⟩,.string ⟨r.toArray⟩,.int .i64 cc,.slice ka ks.length kc],.map (some b)] w _
  obtain ⟨W,hW⟩:∃ W,w.alloc (.cells #[.int .i64 kd,.string ⟨l.toArray⟩,.string ⟨r.toArray⟩,.int .i64 cc,.slice ka ks.length kc] 46)=W:=⟨_,rfl⟩;have hkW:Kept [] w W:=hW▸(Kept.refl _ _).alloc _;have hB1:Blk W w.heap.size 46 #[.int .i64 kd,.string ⟨l.toArray⟩,.string ⟨r.toArray⟩,.int .i64 cc,.slice ka ks.length kc]:=hW▸Blk.new _ _ _
  have hsW:W.heap.size=w.heap.size+1:=by rw [←hW];simp
  have q0:W.cell? ⟨w.heap.size,0,none⟩=some (.int .i64 kd):=hB1.cell 0;have q1:W.cell? ⟨w.heap.size,1,none⟩=some (.string ⟨l.toArray⟩):=hB1.cell 1;have q2:W.cell? ⟨w.heap.size,2,none⟩=some (.string ⟨r.toArray⟩):=hB1.cell 2;have q3:W.cell? ⟨w.heap.size,3,none⟩=some (.int .i64 cc):=hB1.cell 3;have q4:W.cell? ⟨w.heap.size,4,none⟩=some (.slice ka ks.length kc):=hB1.cell 4;have hmW:=hmap.kept hkW (by simp);have hbw:b < w.heap.size:=hmap.lt
  by_cases h0:kd=0
  ·obtain ⟨rfl,hw3⟩:=hf0 h0;subst h0;have H1:=Lib.hid (keyOf_any 0 l r cc ka 0 kc W);have HKW:=Lib.hid hkW;have HW:=Lib.hid hW;have HMW:=Lib.hid hmW;have HH:Hid (w.heap.size≠b):=Lib.hid (by omega);clear hW hkW hB1 hrow hp ih hmap hmW
   go_enter Tryz.func154,Tryz.ntmps154
   go_upto_region 1 with (fail);have hW':=HW.out
   dsimp only [List.length_nil] at hW' q4
   rw [hW'];clear hW'
   go_wp2_with (first
    | (go_at_call 200;refine H1.out.mono ?_;rintro e w5 ⟨rfl,k5⟩;have hm5:=HMW.out.kept k5 (by simp);have z4:w5.cell? ⟨w.heap.size,4,none⟩=some (.slice ka 0 kc):=Kept.cellOf q4 _ k5)
    | (at_mapUpdate;refine wpList_set (E:=k3Enc) hm5 hw3 rfl _ _ _ 210 4 rfl Tryz.underlying210 (by unfold maxLen;omega) (.bool true) rfl rfl rfl ?_;intro w6 hm6 hg6 hs6;have k6:Kept [b] w5 w6:=Kept.of_turned hg6 (by simp);have z6:w6.cell? ⟨w.heap.size,4,none⟩=some (.slice ka 0 kc):=(k6.cell (p:=⟨w.heap.size,4,none⟩) (World.block_lt_of_cell? _ _ z4) (by simpa using HH.out)).trans z4)
    | go_in)
   have HM6:=Lib.hid hm6;have HK6:=Lib.hid ((HKW.out.trans k5 |>.mono (fun _ _ h=>by simp at h):Kept [b] w w5).trans k6);clear hm6 k6 z6 z4 hg6 hs6 hm5 k5 H1
   go_loopw [15] (fun v wr=>v=.int .i64 0∧wr=w6) (fun _ _=>0)
   case atStart=>exact ⟨rfl,rfl⟩
   case round =>
    obtain ⟨rfl,rfl⟩:=hrel;go_wp2_with fail
    go_end0
    refine ⟨rfl,HK6.out,?_⟩;refine (HM6.out.mono (by omega)).congr fun x _=>?_
    unfold colF
    rw [atomsB,if_pos rfl]
    by_cases e:x=(l,r,cc) <;> simp [e]
  ·have hk9:(kd==0)=false:=by simpa using h0
   have HF1:=Lib.hid (hf1 h0);have hHK:Kept [] w0 W:=hk0.trans hkW;have HHK:=Lib.hid hHK;have HKW:=Lib.hid hkW;have HW:=Lib.hid hW;have HMW:=Lib.hid hmW;have HROW:=Lib.hid hrow;have HH:Hid (w.heap.size≠b):=Lib.hid (by omega);clear hW hkW hHK hp hmap hmW hrow hf0 hf1 hf;have HQ:Hid (∀ (w':World),Kept [b] W w'→w'.cell? ⟨w.heap.size,4,none⟩=some (.slice ka ks.length kc)):=Lib.hid (fun w' k=>by have:=HH.out;exact ((hB1.kept k (by simpa using this)).cell 4));clear hB1;obtain ⟨kn,hkn⟩:∃ kn,ks.length=kn:=⟨_,rfl⟩;rw [hkn] at HKN HROW HQ HW q4 hkm ⊢
   go_enter Tryz.func154,Tryz.ntmps154
   go_upto_region 1 with (fail);have hW':=HW.out;rw [hW'];clear hW';go_wp2_with fail;clear q0 q1 q2 q3 q4
   go_loopw [15] (fun v wr=>∃ j:Nat,j≤kn∧v=.int .i64 j∧Kept [b] W wr∧MapAt k3Enc wr b (n+sizeL (ks.take j)) (colF (atomsL (ks.take j)) f)) (fun v _=>kn - (intOf v).toNat)
   case atStart=>exact ⟨0,Nat.zero_le _,rfl,Kept.refl _ _,HMW.out.congr fun x _=>by simp [colF,atomsL]⟩
   case round =>
    obtain ⟨j,hj,rfl,hkr,hmr⟩:=hrel;have hk0r:Kept [] w0 wr:=HHK.out.fresh hkr (fun x hx=>by rw [List.mem_singleton] at hx;omega);have HKR:=Lib.hid hkr
    by_cases hlt:j < kn
    ·have hlt':(j:Int) < (kn:Int):=by omega
     obtain ⟨bb,off,rfl,hc⟩:=HROW.out.at_ (by omega);obtain ⟨cq,h1,h2,h3⟩:=hc j ks[j] (List.getElem?_eq_getElem (by omega));obtain ⟨q,hq⟩:∃ q,ks[j]=q:=⟨_,rfl⟩;rw [hq] at h2;have hqm:q∈ks:=hq▸List.getElem_mem (by omega)
     have hqs:sizeB q≤m:=by have:=sizeL_mem hqm;omega
     have hqf:formedB q=true:=HF1.out q hqm
     have htk:ks.take (j+1)=ks.take j++[q]:=by rw [List.take_succ_eq_append_getElem (by omega),hq]
     have hsz:sizeL (ks.take (j+1))=sizeL (ks.take j)+sizeB q:=by rw [htk,sizeL_app];simp [sizeL]
     have hat:atomsL (ks.take (j+1))=atomsL (ks.take j)++atomsB q:=by rw [htk,atomsL_flat,atomsL_flat,List.flatMap_append];simp
     have hle:sizeL (ks.take (j+1))≤sizeL ks:=by
      have:=sizeL_app (ks.take (j+1)) (ks.drop (j+1));rw [List.take_append_drop] at this;omega
     have HSZ:=Lib.hid hsz;have HAT:=Lib.hid hat;have HLE:=Lib.hid hle;clear htk hsz hat hle hq hc hqm;obtain ⟨qk,ql,qr,qc,qks⟩:=q;obtain ⟨qa,qcc,rfl,_⟩:=h2.rows;have y0:wr.cell? ⟨bb,off+j*5,none⟩=some (.int .i64 qk):=Kept.cellOf (h3 0 _ (by decide) rfl) _ hk0r;have y1:wr.cell? ⟨bb,off+j*5+1,none⟩=some (.string ⟨ql.toArray⟩):=Kept.cellOf (h3 1 _ (by decide) rfl) _ hk0r;have y2:wr.cell? ⟨bb,off+j*5+2,none⟩=some (.string ⟨qr.toArray⟩):=Kept.cellOf (h3 2 _ (by decide) rfl) _ hk0r;have y3:wr.cell? ⟨bb,off+j*5+3,none⟩=some (.int .i64 qc):=Kept.cellOf (h3 3 _ (by decide) rfl) _ hk0r;have y4:wr.cell? ⟨bb,off+j*5+4,none⟩=some (.slice qa qks.length qcc):=Kept.cellOf (h3 4 _ (by decide) rfl) _ hk0r;obtain ⟨wA,hwA⟩:∃ x,wr.alloc (.cells #[.int .i64 qk,.string ⟨ql.toArray⟩,.string ⟨qr.toArray⟩,.int .i64 qc,.slice qa qks.length qcc] 46)=x:=⟨_,rfl⟩;have kA:Kept [] wr wA:=hwA▸(Kept.refl _ _).alloc _;have hBA:Blk wA wr.heap.size 46 #[.int .i64 qk,.string ⟨ql.toArray⟩,.string ⟨qr.toArray⟩,.int .i64 qc,.slice qa qks.length qcc]:=hwA▸Blk.new _ _ _;have x0:wA.cell? ⟨wr.heap.size,0,none⟩=some (.int .i64 qk):=hBA.cell 0;have x1:wA.cell? ⟨wr.heap.size,1,none⟩=some (.string ⟨ql.toArray⟩):=hBA.cell 1;have x2:wA.cell? ⟨wr.heap.size,2,none⟩=some (.string ⟨qr.toArray⟩):=hBA.cell 2;have x3:wA.cell? ⟨wr.heap.size,3,none⟩=some (.int .i64 qc):=hBA.cell 3;have x4:wA.cell? ⟨wr.heap.size,4,none⟩=some (.slice qa qks.length qcc):=hBA.cell 4;have IH:=Lib.hid (ih (.node qk ql qr qc qks) _ w0 wA b (n+sizeL (ks.take j)) _ hqs hqf h2 (hk0r.trans kA) hbb (hmr.kept kA (by simp)) (by have:=HSZ.out;have:=HLE.out;omega))
     have HWA:=Lib.hid hwA;have KA:=Lib.hid kA;clear h1 h2 h3 hwA kA hBA hmr hk0r hkr;go_upto_region 6 with (fail);have hwA':=HWA.out;rw [hwA'];clear hwA' y0 y1 y2 y3 y4;go_wp2_with (go_at_call 154;refine IH.out.mono ?_;rintro e w5 ⟨rfl,k5,hm5⟩);have HM5:=Lib.hid hm5;have HK5:=Lib.hid (((HKR.out.trans (KA.out.mono (fun _ _ h=>by simp at h))).trans k5));clear hm5 k5
     go_roundw
     case rel =>
      refine ⟨j+1,by omega,by go_num,HK5.out,?_⟩;rw [HSZ.out,HAT.out,colF_app,←Nat.add_assoc];exact HM5.out
     case measure=>simp [intOf];omega
    ·obtain rfl:j=kn:=by omega
     have HMR:=Lib.hid hmr;clear hmr hkr hk0r;go_wp2_with fail
     go_end0
     have htk:ks.take j=ks:=List.take_of_length_le (by omega);have hmr:=HMR.out;rw [htk] at hmr;refine ⟨rfl,(HKW.out.mono (fun _ _ h=>by simp at h)).trans HKR.out,?_⟩;rw [atomsB,if_neg h0];exact hmr.mono (by omega)
end Go.Proofs.YtpcmamoomaddoaaGreatDoor
/- slices.SortedFunc at keys; atoms. -/
namespace Go.Proofs.YtpcmamoomaddoaaGreatDoor
open Go.RowKit Go.Maps Go.Sort Go.Shelf Go.Lib
theorem nodup_len {α:Type} [DecidableEq α]:∀ (l m:List α),l.Nodup→(∀ x∈l,x∈m)→l.length≤m.length
 | [],_,_,_=>Nat.zero_le _
 | a::l,m,hn,hs=>by
  rw [List.nodup_cons] at hn;have ha:=hs a List.mem_cons_self;have:=nodup_len l (m.erase a) hn.2 (fun x hx=>(List.mem_erase_of_ne (fun (e:x=a)=>hn.1 (e▸hx))).2 (hs x (List.mem_cons_of_mem _ hx)));rw [List.length_erase_of_mem ha] at this;have:=List.length_pos_of_mem ha;rw [List.length_cons];omega
set_option maxHeartbeats 1000000 in
theorem sorted3_in (n:Nat) (hn:4≤n) (g:Nat) (lb:Array Value) (eg:∀ args w,(callFunc g args).run Tryz.prog w=.ok (.enter g args) w)
  (S:List K3→Prop) (N:Nat) (hN:N≤1000000) (w:World) (hseq:SeqGives Fence.wide (n - 1 - 1 - 1) Tryz.prog g lb kv3 S N w) (hS:∀ ss,S ss→ss.length≤N) :
  CallsIn Fence.wide n Tryz.prog 155 #[.func (.func g) #[] lb,.func (.func 157) #[] #[]] w fun e w'=>∃ (v:Value) (ss:List K3),e=.returned v∧(∃ t,S t∧ss.Perm t)∧w'.ownsRow w.heap.size 182 3 v ss.length (cellsL ss)∧Kept [] w w':=by
 have e8:∀ args w,(callFunc 201 args).run Tryz.prog w=.ok (.enter 201 args) w:=enters_of Tryz.func201 (by kernel_rfl) rfl;have hf1:Fence.wide.fn 201:=trivial;have hf2:Fence.wide.fn 202:=trivial
 have h1:1≤n:=by omega
 refine callsIn_of_wp Tryz.func155 rfl trivial ?_ rfl;simp only [Tryz.ntmps155,List.size_toArray,List.length_cons,List.length_nil,Nat.reduceAdd,Nat.reduceSub,Array.replicate_succ,Array.replicate_zero,List.push_toArray,List.append_toArray,List.nil_append,List.cons_append]
 gi_wp2_with (first
  | (gi_at_call 201;refine (collect3_in Fence.wide (n - 1) trivial trivial rfl (by omega) g lb trivial eg S N (by unfold maxLen;omega) (by omega) _ hseq).mono ?_;rintro e w' ⟨v,ss,rfl,hss,hrow,hb⟩)
  | (gi_at_call 202;refine (callsIn_wide.2 (sortK3 hrow (by have:=hS ss hss;omega))).mono ?_;rintro e w5 ⟨rfl,l',hp,hrow2,hk⟩))
 go_ret;refine ⟨v,l',rfl,⟨ss,hss,hp⟩,by rw [hp.length_eq];exact hrow2,?_⟩;exact (Kept.of_below hb).fresh hk (fun x hx=>(own_ge hrow x hx).1)
mutual
theorem atomsB_len:∀ p:Pd,(atomsB p).length≤sizeB p
 | .node k l r c ks=>by
  rw [atomsB,sizeB];have:=atomsL_len ks
  split
  ·rw [List.length_singleton];omega
  ·omega
theorem atomsL_len:∀ l:List Pd,(atomsL l).length≤sizeL l
 | []=>by simp [atomsL]
 | p::l=>by
  rw [atomsL,sizeL,List.length_append];have:=atomsB_len p;have:=atomsL_len l;omega
end
set_option maxRecDepth 100000 in
set_option maxHeartbeats 2000000 in
theorem atoms_any {p:Pd} {cs:List Value} {w:World} (hp:PdR w cs p) (hf:formedB p=true) (hsz:sizeB p≤100000) :
  Calls Tryz.prog 120 #[.agg cs.toArray] w fun e w'=>∃ (v:Value) (ks:List K3),e=.returned v∧ks.Nodup∧(∀ x,x∈ks↔x∈atomsB p)∧w'.ownsRow w.heap.size 182 3 v ks.length (cellsL ks)∧Kept [] w w':=by
 have hmm:=@run_makeMap Tryz.prog;have hok:=atoms_ok 100000 p hsz hf;have hlen:=atomsB_len p;refine (callsIn_wide (n:=8)).1 ?_;refine callsIn_of_wp Tryz.func120 rfl trivial ?_ rfl;have hf1:Fence.wide.fn 154:=trivial;have hf2:Fence.wide.fn 156:=trivial;have hf3:Fence.wide.fn 155:=trivial;simp only [Tryz.ntmps120,List.size_toArray,List.length_cons,List.length_nil,Nat.reduceAdd,Nat.reduceSub,Array.replicate_succ,Array.replicate_zero,List.push_toArray,List.append_toArray,List.nil_append,List.cons_append];obtain ⟨pk,pl,pr,pc,pks⟩:=p;obtain ⟨pa,pcc,rfl,_⟩:=hp.rows
 have hmade:MapAt k3Enc ((w.alloc (.cells #[.int .i64 pk,.string ⟨pl.toArray⟩,.string ⟨pr.toArray⟩,.int .i64 pc,.slice pa pks.length pcc] 46)).alloc (.map #[] 0)) (w.heap.size+1) 0 (fun _=>none):=by
  have:=MapAt.made (E:=k3Enc) (w.alloc (.cells #[.int .i64 pk,.string ⟨pl.toArray⟩,.string ⟨pr.toArray⟩,.int .i64 pc,.slice pa pks.length pcc] 46))
  rwa [World.size_alloc] at this
 have hcol:=collect_any 100000 (Nat.le_refl _) (.node pk pl pr pc pks) _ w _ (w.heap.size+1) 0 _ hsz hf hp (((Kept.refl [] w).alloc (.cells #[.int .i64 pk,.string ⟨pl.toArray⟩,.string ⟨pr.toArray⟩,.int .i64 pc,.slice pa pks.length pcc] 46)).alloc (.map #[] 0)) (by omega) hmade (by omega);obtain ⟨A,hA⟩:∃ A,atomsB (.node pk pl pr pc pks)=A:=⟨_,rfl⟩;obtain ⟨z,hz⟩:∃ z,sizeB (.node pk pl pr pc pks)=z:=⟨_,rfl⟩;rw [hA] at hok hlen hcol;rw [hz] at hlen hcol hsz;have e10:∀ args w,(callFunc 203 args).run Tryz.prog w=.ok (.enter 203 args) w:=enters_of Tryz.func203 (by kernel_rfl) rfl
 gi_wp2_with (first
  | (gi_at_call 154;refine (callsIn_wide.2 hcol).mono ?_;rintro e w5 ⟨rfl,k5,hm5⟩)
  | (gi_at_call 156;refine (mkeys3_in Fence.wide _ trivial rfl (some (w.heap.size+1)) _).mono ?_;rintro e w6 ⟨rfl,rfl⟩))
 have hG:∀ ss,KeysG (colF A fun _=>none) ss→ss.Nodup∧∀ x,x∈ss↔x∈A:=by
  rintro ss ⟨g1,g2,g3⟩;refine ⟨g1,fun x=>⟨fun hx=>?_,fun hx=>g3 x (hok x hx) (by unfold colF;rw [if_pos hx];rfl)⟩⟩;have:=(g2 x hx).2
  unfold colF at this
  by_cases e:x∈A
  ·exact e
  ·rw [if_neg e] at this;cases this
 have hL:∀ ss,KeysG (colF A fun _=>none) ss→ss.length≤0+z:=fun ss h=>by
  have:=nodup_len ss A (hG ss h).1 (fun x hx=>((hG ss h).2 x).1 hx);omega
 have hseq:SeqGives Fence.wide (7 - 1 - 1 - 1) Tryz.prog 203 #[.pointer (some ⟨w5.heap.size,0,none⟩)] kv3 (KeysG (colF A fun _=>none)) (0+z) (w5.alloc (.cells #[.map (some (w.heap.size+1))] 210)) :=
  keys3_gives Fence.wide _ trivial rfl (by omega) w5.heap.size (w.heap.size+1) (0+z) _ _ (by simp) ((Blk.new _ _ _).cell 0) (hm5.kept ((Kept.refl [] _).alloc _) (by simp))
 have k7:Kept [] w (w5.alloc (.cells #[.map (some (w.heap.size+1))] 210)):=((((Kept.refl [] w).alloc (.cells #[.int .i64 pk,.string ⟨pl.toArray⟩,.string ⟨pr.toArray⟩,.int .i64 pc,.slice pa pks.length pcc] 46)).alloc (.map #[] 0)).fresh k5 (by simp)).alloc _;refine (sorted3_in 7 (by omega) _ _ e10 _ (0+z) (by omega) _ hseq hL).mono ?_;rintro e w8 ⟨v,ss,rfl,⟨t,ht,hperm⟩,hrow,hk8⟩
 gi_wp2
 go_ret;obtain ⟨g1,g2⟩:=hG t ht;exact ⟨v,ss,rfl,hperm.nodup_iff.2 g1,fun x=>by rw [hA];exact hperm.mem_iff.trans (g2 x),ownsRow_base_a hrow k7.size,k7.trans hk8⟩
end Go.Proofs.YtpcmamoomaddoaaGreatDoor
namespace Go.Proofs.YtpcmamoomaddoaaGreatDoor
open Go.RowKit Go.Maps Go.Sort Go.Shelf Go.Lib
theorem mem_strKeys {D:DV} {w:World} {b n:Nat} (h:w.ownsMap Tryz.prog 9 rawV b n D):(strKeys D).Nodup∧∀ x,x∈strKeys D↔has D (.string x)=true:=by
 obtain ⟨es,hD,hpw,_⟩:=h.entries strEnc.keyed;obtain ⟨es',hD',hko⟩:=h.keysOf
 obtain rfl:es=es':=by rw [hD] at hD';simpa using hD'
 subst hD
 have hk:∀ p∈es,∃ x,p.1=.string x:=fun p hp=>by obtain ⟨v,hv⟩:=hko p hp;obtain ⟨x,_,hx,_⟩:=Maps.keyOf_str Tryz.underlying9 hv;exact ⟨x,hx⟩
 refine ⟨?_,fun x=>?_⟩
 ·show (es.map fun p=>strOf p.1).Nodup
  refine List.pairwise_map.2 (hpw.imp_of_mem fun {p q} hp' hq' hne e=>hne ?_);obtain ⟨a,ha⟩:=hk p hp';obtain ⟨b,hb⟩:=hk q hq';rw [ha,hb] at e ⊢;exact congrArg _ e
 ·rw [has_eq,List.any_eq_true]
  show x∈(es.map fun p=>strOf p.1)↔_
  rw [List.mem_map]
  constructor
  ·rintro ⟨p,hp',rfl⟩;obtain ⟨a,ha⟩:=hk p hp';exact ⟨p,hp',by rw [ha];simp [Lit.sameKey,strOf]⟩
  ·rintro ⟨p,hp',hs⟩;obtain ⟨a,ha⟩:=hk p hp';rw [ha] at hs;exact ⟨p,hp',by rw [ha];simpa [Lit.sameKey,strOf] using hs⟩
theorem keysS {w:World} {b n:Nat} {f:List UInt8→Option Value} (h:MapAt strEnc w b n f) :
  ∃ D:DV,w.ownsMap Tryz.prog 9 rawV b n D∧(strKeys D).Nodup∧∀ x,x∈strKeys D↔x.length≤maxLen∧(f x).isSome=true:=by
 obtain ⟨D,h1,h2⟩:=h;obtain ⟨k1,k2⟩:=mem_strKeys h1;refine ⟨D,h1,k1,fun x=>⟨fun hx=>?_,fun ⟨hx,hs⟩=>?_⟩⟩
 ·have hl:=strKeys_le h1 Tryz.underlying9 x hx;refine ⟨hl,?_⟩;have h3:=h2 x hl
  cases hf:f x with
  | none=>rw [hf] at h3;have:=(k2 x).1 hx;have h4:has D (.string x)=false:=h3;rw [h4] at this;cases this
  | some v=>rfl
 ·have h3:=h2 x hx
  cases hf:f x with
  | none=>rw [hf] at hs;cases hs
  | some v=>rw [hf] at h3;exact (k2 x).2 (has_true_of_atKey h3)
theorem sortsS (m:Nat):AnyZ.SortsIn Tryz.prog Tryz.sorted121_ren Fence.wide m :=
 ⟨fun blk off cap ss W hH hblk hsz=>callsIn_wide.2 (AnyM.slices_Sort_string Tryz.sort159 blk off cap ss W hH hblk hsz),
  fun p cap W=>callsIn_wide.2 (AnyM.slices_Sort_string_none Tryz.sort159 p cap W)⟩
theorem keysS_in (mb:Option Nat) (W:World) (n:Nat):CallsIn Fence.wide n Tryz.prog 122 #[.map mb] W fun e w'=>e=.returned (.func (.func 160) #[] #[.pointer (some ⟨W.heap.size,0,none⟩)])∧w'=W.alloc (.cells #[.map mb] 178) :=
 AnyZ.keys_in Tryz.keys122 Fence.wide n trivial rfl mb W
theorem sortedS_in (n:Nat) (hn:5≤n) {w:World} {b m:Nat} {f:List UInt8→Option Value} (hm:MapAt strEnc w b m f) (hb:m≤1000000) :
  CallsIn Fence.wide n Tryz.prog 121 #[.func (.func 160) #[] #[.pointer (some ⟨w.heap.size,0,none⟩)]] (w.alloc (.cells #[.map (some b)] 178)) fun e w' =>
   ∃ (v:Value) (ns:List (List UInt8)),e=.returned v∧ns.Nodup∧ns.Pairwise (fun x y=>x≤y)∧(∀ x,x∈ns↔x.length≤maxLen∧(f x).isSome=true)∧w'.ownsRow w.heap.size 9 1 v ns.length (ns.map encStr)∧Kept [] w w':=by
 have hbl:=hm.lt;obtain ⟨D,hown,hnd,hmem⟩:=keysS hm;have hsz:Maps.size D≤m:=hown.size_le
 have hseq:SeqGives Fence.wide (n - 1 - 1 - 1) Tryz.prog 160 #[.pointer (some ⟨w.heap.size,0,none⟩)] encStr (fun ss=>ss.Perm (strKeys D)) (Maps.size D) (w.alloc (.cells #[.map (some b)] 178)) :=
  AnyZ.keys_gives (ρ:=Tryz.keys122_ren) { Tryz.keys122 with } Fence.wide _ trivial rfl (by omega) w.heap.size b m D _ (by simp) (by simp) (by
   obtain ⟨es,clock,hb,Ft,hs,hD⟩:=hown
   exact ⟨es,clock,(Below.heap_alloc _ _ b hbl).trans hb,Ft,hs,hD⟩)
 refine (AnyZ.sorted_in Tryz.sorted121 Fence.wide n trivial trivial trivial trivial rfl (by omega) (sortsS _) (enters_of Tryz.func159 (by kernel_rfl) rfl) 160 #[.pointer (some ⟨w.heap.size,0,none⟩)] trivial (enters_of Tryz.func160 (by kernel_rfl) rfl) _ _ (by unfold maxLen;omega) (by omega) _ hseq).mono ?_;rintro e w' ⟨v,ss,rfl,hp,hrow,_,hbel⟩;have hpp:(ss.mergeSort leB).Perm ss:=List.mergeSort_perm ss leB;refine ⟨v,ss.mergeSort leB,rfl,hpp.nodup_iff.2 (hp.nodup_iff.2 hnd),?_,fun x=>(hpp.mem_iff.trans hp.mem_iff).trans (hmem x),?_,?_⟩
 ·have:=List.pairwise_mergeSort (le:=leB) (fun a b c h1 h2=>by simp only [leB,decide_eq_true_eq] at *;exact List.le_trans h1 h2) (fun a b=>by simp only [leB,Bool.or_eq_true,decide_eq_true_eq];exact List.le_total a b) ss;exact this.imp (fun h=>by simpa [leB] using h)
 ·rw [hpp.length_eq];exact ownsRow_base_a hrow (by simp)
 ·exact ((Kept.refl [] w).alloc _).fresh (Kept.of_below (S:=[]) hbel) (by simp)
end Go.Proofs.YtpcmamoomaddoaaGreatDoor
