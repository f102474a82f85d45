/- inquiry's Account. -/
import Derived.Test.YtpcmamoomaddoaaGreatDoorSgh
import Derived.Test.YtpcmamoomaddoaaGreatDoorMbs
import Derived.Test.YtpcmamoomaddoaaGreatDoorVcr
import Derived.Test.YtpcmamoomaddoaaGreatDoorSiz
import Derived.Test.YtpcmamoomaddoaaGreatDoorVps
import Derived.Laws.Rows
import Derived.Deep.WholeRow
namespace Go.Proofs.YtpcmamoomaddoaaGreatDoor
open Go.RowKit Go.Maps
theorem foldE_err {σ α:Type} {f:σ→α→Except Int σ} {p:Int→Prop} (hf:∀ s x e,f s x=.error e→p e):∀ (l:List α) (s:σ) (e:Int),foldE f s l=.error e→p e
 | [],s,e,h=>by cases h
 | x::l,s,e,h=>by
  rw [foldE] at h
  cases hx:f s x with
  | error e'=>rw [hx] at h;injection h with h;subst h;exact hf s x _ hx
  | ok t=>rw [hx] at h;exact foldE_err hf l t e h
theorem put1_err {acc:List Bnd} {b:Bnd} {e:Int} (h:put1 acc b=.error e):e≠0:=by
 unfold put1 at h
 split at h
 ·split at h
  ·cases h
  ·injection h with h;omega
 ·cases h
theorem addB_err {ks:List Pss} {P:List Cz} {x:Iss} {c:Int} (h:addB ks P x=.error c):c≠0:=by
 unfold addB at h
 split at h
 ·injection h with h;omega
 ·split at h
  ·next hv=>injection h with h;have:=vals_err hv;omega
  ·unfold addN at h
   split at h
   ·injection h with h;omega
   ·split at h
    ·next hf =>
     injection h with h;rw [←h];exact foldE_err (p:=fun c=>c≠0) (fun _ _ _ h=>put1_err h) _ _ _ hf
    ·split at h
     ·injection h with h;omega
     ·cases h
theorem sightB_len {ks:List Pss} {log nums:List Int} {c c':List Pd × List Sn} {x:Sgt} (h:sightB ks log nums c x=.ok c'):c'.1.length≤c.1.length+1∧c'.2.length=c.2.length+1:=by
 unfold sightB at h
 split at h
 ·cases h
 ·split at h
  ·cases h
  ·split at h
   ·cases h
   ·split at h
    ·cases h
    ·split at h
     ·cases h
     ·split at h
      ·cases h
      ·split at h
       ·cases h
       ·split at h
        ·injection h with h;subst h;simp
        ·split at h
         ·cases h
         ·injection h with h;subst h;simp
/-! ### a predicate lies in no block of slices -/
def Sls (w:World) (b:Nat):Prop:=∀ (o:Nat) (u:Value),w.cell? ⟨b,o,none⟩=some u→∃ a n c,u=.slice a n c
theorem Row.off {w w':World} {b size n:Nat} {v:Value} {l:List Value} (k:Kept [b] w w') (hb:Sls w b) (h:Row w size v n l) (hl:∀ u,l[0]?=some u→∃ i,u=.int .i64 i) (hs:0 < n→0 < l.length):Row w' size v n l:=by
 obtain ⟨h1,h2,a,c,hv,hcc,hc⟩:=h;refine ⟨h1,h2,a,c,hv,hcc,fun hn=>?_⟩;obtain ⟨b0,off,ha,hcell⟩:=hc hn;obtain ⟨u0,hu0⟩:∃ u,l[0]?=some u:=⟨_,List.getElem?_eq_getElem (hs hn)⟩
 have hne:b0≠b:=by
  rintro rfl;obtain ⟨a,n,c,e⟩:=hb _ _ (hcell 0 u0 hu0);obtain ⟨i,e2⟩:=hl u0 hu0;rw [e] at e2
  cases e2
 refine ⟨b0,off,ha,fun k' u hu=>?_⟩;have h0:=hcell k' u hu;rw [Kept.cell k (World.block_lt_of_cell? w _ h0) (by simpa using hne)];exact h0
theorem PdL.first {w:World} {l:List Pd} {vs:List (List Value)} (h:PdL w vs l):∀ u,vs.flatten[0]?=some u→∃ i,u=.int .i64 i:=by
 intro u hu
 cases l with
 | nil=>rw [PdL] at h;subst h;simp at hu
 | cons p l =>
  rw [PdL] at h;obtain ⟨c,vs',rfl,hp,_⟩:=h;obtain ⟨pk,pl,pr,pc,pks⟩:=p;obtain ⟨_,_,rfl,_⟩:=hp.rows;simp at hu;exact ⟨pk,hu.symm⟩
mutual
theorem PdR.off {w w':World} {b:Nat} (k:Kept [b] w w') (hb:Sls w b):∀ {p:Pd} {cs:List Value},PdR w cs p→PdR w' cs p
 | .node ..,cs,h=>by
  rw [PdR] at h ⊢;obtain ⟨v,vs,h1,h2,h3⟩:=h;exact ⟨v,vs,h1,Row.off k hb h2 h3.first (fun hn=>by rw [h2.1];omega),PdL.off k hb h3⟩
theorem PdL.off {w w':World} {b:Nat} (k:Kept [b] w w') (hb:Sls w b):∀ {l:List Pd} {vs:List (List Value)},PdL w vs l→PdL w' vs l
 | [],vs,h=>by rw [PdL] at h ⊢;exact h
 | p::l,vs,h=>by
  rw [PdL] at h ⊢;obtain ⟨c,vs',h1,h2,h3⟩:=h;exact ⟨c,vs',h1,PdR.off k hb h2,PdL.off k hb h3⟩
end
theorem sls_nil {w:World} {b:Nat} {e:TypeId} (h:Blk w b e #[.slice none 0 0,.slice none 0 0,.slice none 0 0]):Sls w b:=fun o u hu=>by
 rw [h.cell] at hu
 rcases o with _|_|_|o
 ·simp at hu;exact ⟨_,_,_,hu.symm⟩
 ·simp at hu;exact ⟨_,_,_,hu.symm⟩
 ·simp at hu;exact ⟨_,_,_,hu.symm⟩
 ·simp at hu
/-- the crowd that grew, behind a write to the block of the result -/
theorem CrG.result {B5:Nat} {w w':World} {gc b:Nat} {vm:Value} {qs:List Pd} {us:List Sn} {vq vu:Value} {ms:List Mb} (h:CrG B5 w gc vm qs us vq vu) (hk:Kept [b] w w') (hb:Sls w b) (hlow:b < B5) (hm:RowOf MbR 3 w' vm ms) (hq:qs.length≤1000000) (hu:us.length≤1000000) :
  CrR w' [vq,vm,vu] ⟨qs,ms,us⟩:=by
 refine ⟨vq,vm,vu,rfl,?_,hm,?_⟩
 ·obtain ⟨vs,h1,h2⟩:=h.q;obtain ⟨e1,e2,e3⟩:=h2.get;refine RowOf.of_own (own_keep h1 hk (fun z hz hm=>?_)) e1 e2 (fun k a ha=>?_) (Nat.le_trans hq (by decide))
  ·rw [List.mem_singleton] at hm;have:=(own_ge h1 z hz).1;omega
  ·obtain ⟨c,e4,e5⟩:=e3 k a ha;exact ⟨c,e4,e5.off hk hb⟩
 ·refine ⟨us.map fun x=>[.int .i64 x.q,.int .i64 x.win,.int .i64 x.asof,.int .i64 x.hold],by simp,?_,?_,?_⟩
  ·intro c hc;obtain ⟨x,_,rfl⟩:=List.mem_map.1 hc
   rfl
  ·intro k a ha;exact ⟨_,by rw [List.getElem?_map,ha];rfl,rfl⟩
  ·have:=Row.of_own (own_keep h.u hk (fun z hz hm=>by rw [List.mem_singleton] at hm;have:=(own_ge h.u z hz).1;omega)) (by omega);exact this
theorem acc_end {w2:World} {tmps:Array Value} {v0 v1 v2 n c X:Value} {b:Nat} {R:Ending→World→Prop} (hb:Blk w2 b 67 #[v0,v1,v2]) (h8:tmps[8]?.getD undef=.pointer (some ⟨b,0,none⟩)) (h9:tmps[9]?.getD undef=n) (h10:tmps[10]?.getD undef=c)
  (hX:.tuple #[.agg #[v0,v1,v2],n,c]=X) (hR:R (.returned X) w2) :
  bodyPost Tryz.prog Tryz.f18 R Exit.ret { tmps:=tmps,defers:=[] } w2:=by
 subst hX;subst h9;subst h10;have c0:w2.cell? ⟨b,0,none⟩=some v0:=hb.cell 0;have c1:w2.cell? ⟨b,1,none⟩=some v1:=hb.cell 1;have c2:w2.cell? ⟨b,2,none⟩=some v2:=hb.cell 2;refine bodyPost_ret (v:=.tuple #[.agg #[v0,v1,v2],tmps[9]?.getD undef,tmps[10]?.getD undef]) ?_ rfl hR;simp only [results,Tryz.results18]
 simp [go_sem,h8,c0,c1,c2]
theorem cit_new (w:World) (K:Nat):Cit w.heap.size (((w.alloc (.map #[] 0)).alloc (.map #[] 0)).alloc (.cells #[.map (some w.heap.size),.map (some (w.heap.size+1))] 97)) (w.heap.size+1+1) w.heap.size (w.heap.size+1) 0 K (fun _=>0) (fun _=>0) (findC []):=by
 refine ⟨?_,((MapAt.made (E:=intEnc) w).kept (((Kept.refl [] _).alloc _).alloc _) (by simp)).congr fun x _=>rfl,?_,fun x c h=>(by cases h),fun x c h=>(by cases h),⟨by omega,by omega,by omega,by omega⟩,fun x c h=>(by cases h),fun x y c d h=>(by cases h)⟩
 ·have:=Blk.new ((w.alloc (.map #[] 0)).alloc (.map #[] 0)) 97 #[.map (some w.heap.size),.map (some (w.heap.size+1))]
  rwa [World.size_alloc,World.size_alloc] at this
 ·have:=MapAt.made (E:=intEnc) (w.alloc (.map #[] 0));rw [World.size_alloc] at this;exact (this.kept ((Kept.refl [] _).alloc _) (by simp)).congr fun x _=>rfl
theorem run_loadVar_cells {P:Program} (w:World) (ty:TypeId) (ad:Addr) (cs:List Value) (d:TypeDesc) (hu:P.underlying ty=some d) (hd:(match d with|.struct _|.array _ _=>true|_=>false)=true) (hi:(P.info? ty).map (·.size)=some cs.length)
  (hc:∀ j v,cs[j]?=some v→w.cell? (ad.add j)=some v):(loadVar ty ad).run P w=.ok (.agg cs.toArray) w:=by
 have hl:=run_loadCells_list (P:=P) w ad cs hc
 cases hq:P.info? ty with
 | none=>simp [hq] at hi
 | some i =>
  have hs:i.size=cs.length:=by simpa [hq] using hi
  have hagg:(isAgg ty).run P w=.ok true w:=by
   unfold isAgg
   rw [Sem.run_bind,run_underlying hu w]
   cases d <;> simp_all
  simp [loadVar,Sem.run_bind,hagg,sizeOf,typeInfo,hq,hs,hl]
theorem wpList_load_cells {P:Program} {ops:Array Oper} {rest:List Oper} {o:Oper} {a:Act} {w:World} {Q:Exit→Act→World→Prop} (hgd:o.guard=none) (ty:TypeId) (x:Operand) (ho:o.op=.load ty x) (ad:Addr) (hx:a.eval x=.pointer (some ad)) (cs:List Value) (d:TypeDesc)
  (hu:P.underlying ty=some d) (hd:(match d with|.struct _|.array _ _=>true|_=>false)=true) (hi:(P.info? ty).map (·.size)=some cs.length) (hc:∀ j v,cs[j]?=some v→w.cell? (ad.add j)=some v)
  (h:wpList P ops Q rest (a.put o.dst (.agg cs.toArray)) w):wpList P ops Q (o::rest) a w :=
 wpList_plain hgd fun K hK=>by
  unfold Oper.wp
  simp only [execOp,ho,hx,Instr.loadAt,Instr.sureAddr,Sem.run_bind,Sem.run_pure,Result.andThen_ok,run_loadVar_cells w ty ad cs d hu hd hi hc];exact hK _ _ h
theorem wpList_store_new {P:Program} {w W:World} {ops:Array Oper} {rest:List Oper} {o:Oper} {a:Act} {Q:Exit→Act→World→Prop} (hgd:o.guard=none) (hd:o.dst=none) (t:TypeId) (p x:Operand) (hop:o.op=Op.store t p x) (c c':Array Value)
  (hw:w=W.alloc (.cells c t)) (hp:a.eval p=.pointer (some ⟨W.heap.size,0,none⟩)) (hx:a.eval x=.agg c') (hi:(P.info? t).map (·.size)=some c'.size) (hs:c.size=c'.size) (h1:c'.all (·.oneCell')=true)
  (h:wpList P ops Q rest a (W.alloc (.cells c' t))):wpList P ops Q (o::rest) a w :=
 wpList_plain hgd fun K hK=>by
  subst hw
  unfold Oper.wp
  simp [execOp,hop,hp,hx,run_storeAt_new W t c c' hi hs h1,Result.andThen]
  show K (a.put o.dst undef) _
  rw [hd];exact hK _ _ h
theorem infoSgt:(Tryz.prog.info? 61).map (·.size)=some 18:=by kernel_rfl
def AccE (e:Ending) (w':World):Except Int (Crw × List Int)→Prop
 | .error c=>e=.returned (.tuple #[.agg #[.slice none 0 0,.slice none 0 0,.slice none 0 0],.slice none 0 0,.int .i64 c])
 | .ok (c,nums)=>∃ cs vn,e=.returned (.tuple #[.agg (List.toArray cs),vn,.int .i64 0])∧CrR w' cs c∧Row w' 1 vn nums.length (ints nums)
set_option maxRecDepth 100000 in
set_option maxHeartbeats 16000000 in
theorem account_any {B:Nat} {w:World} {vk vl vi vs:Value} {ks:List Pss} {log:List Int} {is:List Iss} {ss:List Sgt}
  (hE:EnvB B w) (hks:RowOf PssR 4 w vk ks) (hkz:∀ p∈ks,p.name.length≤10000000∧(∀ a∈p.attrs,a.length≤10000000)∧p.attrs.length≤100000) (hlog:Row w 1 vl log.length (ints log)) (his:RowOf IssR 7 w vi is)
  (hiz:∀ x∈is,(∀ a∈x.attrs,(Lit.int .i64 a).wf=true)∧x.attrs.length≤100000) (hss:RowOf SgtR 18 w vs ss) (hsz:∀ x∈ss,x.q.length≤100000000) (hll:log.length≤100000) (hil:is.length≤10000) (hsl:ss.length≤1000000) :
  Calls Tryz.prog 18 #[vk,vl,vi,vs] w fun e w'=>Kept [] w w'∧AccE e w' (accountB ks log is ss):=by
 obtain ⟨R,hR⟩:∃ R,accountB ks log is ss=R:=⟨_,rfl⟩;rw [hR]
 unfold accountB at hR
 obtain ⟨kka,kkc,rfl,_,_⟩:=hks.form;obtain ⟨ga,gcap,rfl,_,_⟩:=hlog.form;obtain ⟨ia,ic,rfl,hi63,hic⟩:=RowOf.form his;obtain ⟨sa,sc,rfl,hs63,hsc⟩:=RowOf.form hss;obtain ⟨w1,hw1⟩:∃ W,w.alloc (.cells #[.slice none 0 0,.slice none 0 0,.slice none 0 0] 67)=W:=⟨_,rfl⟩;have k1:Kept [] w w1:=hw1▸(Kept.refl _ _).alloc _;have hb1:Blk w1 w.heap.size 67 #[.slice none 0 0,.slice none 0 0,.slice none 0 0]:=hw1▸Blk.new _ _ _;obtain ⟨b8,hb8⟩:∃ b,w.heap.size=b:=⟨_,rfl⟩;rw [hb8] at hb1;have HB8:=Lib.hid hb8;have HB:=Lib.hid hb1;have HK1:=Lib.hid k1;have HW1:=Lib.hid hw1;have HVK:=Lib.hid (validKeys_any (RowOf.kept (w':=w1) hks (fun _ _ h=>PssR.kept h k1) k1) (fun p hp=>⟨(hkz p hp).1,(hkz p hp).2.1⟩) (hE.kept0 k1));have HVL:=Lib.hid (fun (w':World) (k:Kept [] w1 w')=>validLog_any (hlog.kept (k1.trans k)) hll);have HE:=Lib.hid hE;have HKS:=Lib.hid hks;have HKZ:=Lib.hid hkz;have HLOG:=Lib.hid hlog;have HIS:=Lib.hid his;have HIZ:=Lib.hid hiz;have HSS:=Lib.hid hss;have HSZ:=Lib.hid hsz;have HR:=Lib.hid hR;clear hks hkz hlog his hiz hss hsz hR hE hb1 k1 hw1 hb8;obtain ⟨n,hn⟩:∃ n,is.length=n:=⟨_,rfl⟩;obtain ⟨m,hm⟩:∃ n,ss.length=n:=⟨_,rfl⟩;rw [hn] at HIS hil hi63 hic ⊢;rw [hm] at HSS hsl hs63 hsc ⊢;have HN:=Lib.hid hn;have HM:=Lib.hid hm;clear hn hm
 go_enter Tryz.func18,Tryz.ntmps18
 go_upto_region 1 with (fail);have hw1':=HW1.out;rw [hw1',HB8.out];clear hw1' HW1
 cases hkb:keysB ks with
 | false =>
  have hR:=HR.out;rw [hkb,if_pos (Or.inl rfl)] at hR;subst hR;rw [hkb] at HVK;clear hkb;go_wp2_with (go_at_call 38;refine HVK.out.mono ?_;rintro e w5 ⟨rfl,k5⟩;have hb5:=HB.out.kept k5 (by simp);have c0:w5.cell? ⟨b8,0,none⟩=some (.slice none 0 0):=hb5.cell 0;have c1:w5.cell? ⟨b8,1,none⟩=some (.slice none 0 0):=hb5.cell 1;have c2:w5.cell? ⟨b8,2,none⟩=some (.slice none 0 0):=hb5.cell 2;have f0:=hb5.frozen 0;have f1:=hb5.frozen 1;have f2:=hb5.frozen 2);refine acc_end (((hb5.set_ 0 _).set_ 1 _).set_ 2 _) rfl rfl rfl rfl ⟨(((HK1.out.trans k5).setCell (Or.inr (Nat.le_of_eq HB8.out)) _).setCell (Or.inr (Nat.le_of_eq HB8.out)) _).setCell (Or.inr (Nat.le_of_eq HB8.out)) _,rfl⟩
 | true =>
 cases hlb:logB log with
 | false =>
  have hR:=HR.out;rw [hlb,if_pos (Or.inr rfl)] at hR;subst hR;rw [hkb] at HVK;rw [hlb] at HVL;clear hkb hlb
  go_wp2_with (first
   | (go_at_call 38;refine HVK.out.mono ?_;rintro e w5 ⟨rfl,k5⟩;have hb5:=HB.out.kept k5 (by simp);have c0:w5.cell? ⟨b8,0,none⟩=some (.slice none 0 0):=hb5.cell 0;have c1:w5.cell? ⟨b8,1,none⟩=some (.slice none 0 0):=hb5.cell 1;have c2:w5.cell? ⟨b8,2,none⟩=some (.slice none 0 0):=hb5.cell 2;have f0:=hb5.frozen 0;have f1:=hb5.frozen 1;have f2:=hb5.frozen 2)
   | (go_at_call 39;refine (HVL.out _ k5).mono ?_;rintro e w6 ⟨rfl,h6⟩;have h6:=h6.symm;subst h6))
  refine acc_end (((hb5.set_ 0 _).set_ 1 _).set_ 2 _) rfl rfl rfl rfl ⟨(((HK1.out.trans k5).setCell (Or.inr (Nat.le_of_eq HB8.out)) _).setCell (Or.inr (Nat.le_of_eq HB8.out)) _).setCell (Or.inr (Nat.le_of_eq HB8.out)) _,rfl⟩
 | true =>
 have hR:=HR.out;rw [hkb,hlb,if_neg (by simp)] at hR;clear HR;have HR:=Lib.hid hR;rw [hkb] at HVK;rw [hlb] at HVL
 have hk16:ks.length≤16:=by
  unfold keysB at hkb
  simp only [Bool.and_eq_true,decide_eq_true_eq] at hkb;exact hkb.1.2
 clear hkb hlb hR;have hmm:=@run_makeMap Tryz.prog
 go_upto_region 3 with (first
  | (go_at_call 38;refine HVK.out.mono ?_;rintro e w5 ⟨rfl,k5⟩)
  | (go_at_call 39;refine (HVL.out _ k5).mono ?_;rintro e w6 ⟨rfl,h6⟩;have h6:=h6.symm;subst h6))
 go_upto_region 4 with (fail);have hC0:=cit_new w5 ks.length;have k5C:Kept [] w5 (((w5.alloc (.map #[] 0)).alloc (.map #[] 0)).alloc (.cells #[.map (some w5.heap.size),.map (some (w5.heap.size+1))] 97)):=(((Kept.refl _ _).alloc _).alloc _).alloc _;obtain ⟨wC,hwC⟩:∃ y,(((w5.alloc (.map #[] 0)).alloc (.map #[] 0)).alloc (.cells #[.map (some w5.heap.size),.map (some (w5.heap.size+1))] 97))=y:=⟨_,rfl⟩;rw [hwC] at hC0 k5C ⊢;obtain ⟨g,hg⟩:∃ g,w5.heap.size+1+1=g:=⟨_,rfl⟩;obtain ⟨bt,hbt⟩:∃ g,w5.heap.size+1=g:=⟨_,rfl⟩;obtain ⟨bv,hbv⟩:∃ g,w5.heap.size=g:=⟨_,rfl⟩;rw [hg,hbt] at hC0;rw [show Cit w5.heap.size wC g w5.heap.size bt=Cit w5.heap.size wC g bv bt by rw [hbv]] at hC0;rw [hg,hbt,hbv];have HC0:=Lib.hid hC0;have HK5C:=Lib.hid k5C;have HK5:=Lib.hid (HK1.out.trans k5);have HKS5:=Lib.hid (RowOf.kept (w':=w5) HKS.out (fun _ _ h=>PssR.kept h HK5.out) HK5.out);have HIS5:=Lib.hid (RowOf.kept (w':=w5) HIS.out (fun _ _ h=>IssR.kept h HK5.out) HK5.out);have HE5:=Lib.hid (HE.out.kept0 HK5.out);have HB5:=Lib.hid (HB.out.kept k5 (by simp));clear hC0 hwC k5C hg hbt hbv HVK HVL hmm k5 HKS HIS HE HB;go_wp2_with fail
 go_loopw [35] (fun v wr=>∃ (j:Nat) (P:List Cz) (V T:Int→Nat),j≤n∧v=.int .i64 j∧Kept [] w5 wr∧foldE (addB ks) [] (is.take j)=.ok P∧Cit w5.heap.size wr g bv bt (100*j) ks.length V T (findC P)) (fun v _=>n - (intOf v).toNat)
 case atStart=>exact ⟨0,[],_,_,Nat.zero_le _,rfl,HK5C.out,rfl,HC0.out⟩
 case round =>
  obtain ⟨j,P,V,T,hj,rfl,hkr,hfold,hCr⟩:=hrel;have HKR:=Lib.hid hkr;have HF:=Lib.hid hfold;have HC:=Lib.hid hCr;have hb8:=HB5.out.kept hkr (by simp)
  have hwfP:∀ c∈P,(Lit.int .i64 c.num).wf=true:=fun c hc=>by
   obtain ⟨x,hx,hh⟩:=(people_inv hfold).src c hc;exact (HIZ.out x (List.mem_of_mem_take hx)).1 _ (List.mem_of_mem_head? hh)
  have HWP:=Lib.hid hwfP;clear hkr hfold hCr hwfP
  by_cases hlt:j < n
  ·have hlt':(j:Int) < (n:Int):=by omega
   obtain ⟨b,off,rfl,hc⟩:=HIS5.out.at_ (by have:=HN.out;omega);obtain ⟨x,hx⟩:∃ a,is[j]?=some a:=⟨_,List.getElem?_eq_getElem (by have:=HN.out;omega)⟩;obtain ⟨cs,p1,p2,p3⟩:=hc j x hx;have hxz:=HIZ.out x (List.mem_of_getElem? hx);have hp2:=p2;obtain ⟨va,o1,o2,o3,o4,o5,rfl,hax⟩:=p2;obtain ⟨aa,ac,rfl,_,_⟩:=hax.form;obtain ⟨key,at_⟩:=x
   dsimp only at hxz p3 hp2 hax
   have y0:wr.cell? ⟨b,off+j*7,none⟩=some (.int .i64 key):=Kept.cellOf (p3 0 _ (by decide) rfl) _ HKR.out;have y1:wr.cell? ⟨b,off+j*7+1,none⟩=some (.slice aa at_.length ac):=Kept.cellOf (p3 1 _ (by decide) rfl) _ HKR.out;have y2:wr.cell? ⟨b,off+j*7+2,none⟩=some (.int .i64 o1):=Kept.cellOf (p3 2 _ (by decide) rfl) _ HKR.out;have y3:wr.cell? ⟨b,off+j*7+3,none⟩=some (.int .i64 o2):=Kept.cellOf (p3 3 _ (by decide) rfl) _ HKR.out;have y4:wr.cell? ⟨b,off+j*7+4,none⟩=some (.int .i64 o3):=Kept.cellOf (p3 4 _ (by decide) rfl) _ HKR.out;have y5:wr.cell? ⟨b,off+j*7+5,none⟩=some (.int .i64 o4):=Kept.cellOf (p3 5 _ (by decide) rfl) _ HKR.out;have y6:wr.cell? ⟨b,off+j*7+6,none⟩=some (.int .i64 o5):=Kept.cellOf (p3 6 _ (by decide) rfl) _ HKR.out;obtain ⟨wA,hwA⟩:∃ y,wr.alloc (.cells #[.int .i64 key,.slice aa at_.length ac,.int .i64 o1,.int .i64 o2,.int .i64 o3,.int .i64 o4,.int .i64 o5] 42)=y:=⟨_,rfl⟩;have kA:Kept [] wr wA:=hwA▸(Kept.refl _ _).alloc _;have hbA:Blk wA wr.heap.size 42 #[.int .i64 key,.slice aa at_.length ac,.int .i64 o1,.int .i64 o2,.int .i64 o3,.int .i64 o4,.int .i64 o5]:=hwA▸Blk.new _ _ _;have x0:wA.cell? ⟨wr.heap.size,0,none⟩=some (.int .i64 key):=hbA.cell 0;have x1:wA.cell? ⟨wr.heap.size,1,none⟩=some (.slice aa at_.length ac):=hbA.cell 1;have x2:wA.cell? ⟨wr.heap.size,2,none⟩=some (.int .i64 o1):=hbA.cell 2;have x3:wA.cell? ⟨wr.heap.size,3,none⟩=some (.int .i64 o2):=hbA.cell 3;have x4:wA.cell? ⟨wr.heap.size,4,none⟩=some (.int .i64 o3):=hbA.cell 4;have x5:wA.cell? ⟨wr.heap.size,5,none⟩=some (.int .i64 o4):=hbA.cell 5
   have x6:wA.cell? ⟨wr.heap.size,6,none⟩=some (.int .i64 o5):=hbA.cell 6;have hadd:=add_any HE5.out (HKR.out.trans kA) (HC.out.kept kA) (people_inv HF.out) HWP.out HKS5.out HKZ.out hp2 hxz.1 hxz.2 (by omega) (by omega);have HX:=Lib.hid hx;have HWA:=Lib.hid hwA;have hfs:=fun e h=>foldE_fail (e:=e) hx HF.out h;have hst:=foldE_step hx HF.out;clear hc p1 p3 hp2 hax hx hwA kA hbA hxz;go_upto_region 7 with (fail);have hwA':=HWA.out;rw [hwA'];clear hwA' y0 y1 y2 y3 y4 y5 y6 hb8
   cases hab:addB ks P ⟨key,at_⟩ with
   | error c =>
    have hc:=addB_err hab;have hR:=HR.out;rw [hfs c hab] at hR
    simp only at hR
    subst hR;rw [hab] at hadd;have HADD:=Lib.hid hadd;clear hadd hfs hst hab;go_wp2_with (go_at_call 40;refine HADD.out.mono ?_;rintro e w7 ⟨k7,he⟩;have he:e=.returned (.int .i64 c):=he;subst he;have hb7:=HB5.out.kept k7 (by simp);have c0:w7.cell? ⟨b8,0,none⟩=some (.slice none 0 0):=hb7.cell 0;have c1:w7.cell? ⟨b8,1,none⟩=some (.slice none 0 0):=hb7.cell 1;have c2:w7.cell? ⟨b8,2,none⟩=some (.slice none 0 0):=hb7.cell 2;have f0:=hb7.frozen 0;have f1:=hb7.frozen 1;have f2:=hb7.frozen 2);refine acc_end (((hb7.set_ 0 _).set_ 1 _).set_ 2 _) rfl rfl rfl rfl ⟨(((HK5.out.trans k7).setCell (Or.inr (Nat.le_of_eq HB8.out)) _).setCell (Or.inr (Nat.le_of_eq HB8.out)) _).setCell (Or.inr (Nat.le_of_eq HB8.out)) _,rfl⟩
   | ok P' =>
    rw [hab] at hadd hst;have HADD:=Lib.hid hadd;have HST:=Lib.hid hst;clear hadd hfs hst hab;go_wp2_with (go_at_call 40;refine HADD.out.mono ?_;rintro e w7 ⟨k7,rfl,V',T',hC'⟩)
    go_roundw
    case rel=>exact ⟨j+1,P',V',T',by omega,by go_num,k7,HST.out,hC'.mono (by omega)⟩
    case measure=>simp [intOf];omega
  ·obtain rfl:j=n:=by omega
   have hF:=foldE_all (by have:=HN.out;omega) HF.out;have hR:=HR.out;rw [hF] at hR
   simp only at hR
   have hI:=people_inv hF;clear HR;have HR:=Lib.hid hR;have HI:=Lib.hid hI;clear hR hI hF;go_upto_region 13 with (fail);obtain ⟨wB,hwB⟩:∃ y,wr.alloc (.cells #[.slice none 0 0,.slice none 0 0,.slice none 0 0] 67)=y:=⟨_,rfl⟩;have kB:Kept [] wr wB:=hwB▸(Kept.refl _ _).alloc _;have hbB:Blk wB wr.heap.size 67 #[.slice none 0 0,.slice none 0 0,.slice none 0 0]:=hwB▸Blk.new _ _ _;have hCB:=HC.out.kept kB;obtain ⟨gc,hgc⟩:∃ y,wr.heap.size=y:=⟨_,rfl⟩;rw [hwB,hgc];rw [hgc] at hbB
   have hw5c:w5.heap.size≤gc:=by rw [←hgc];exact HKR.out.size
   have hb85:b8 < w5.heap.size:=HB5.out.lt
   have hTl:∀ x c,findC P x=some c→T x < gc∧w5.heap.size≤T x:=fun x c hx=>by rw [←hgc];exact ⟨(HC.out.tick x c hx).1.lt,(HC.out.lowc x c hx).2.2.2.1⟩
   have hmem:=members_any (X:=[gc,b8]) hCB HI.out.nodup HWP.out HI.out.vals (HLOG.out.kept ((HK5.out.trans HKR.out).trans kB)) (by omega) (by omega) (fun z hz=>by
    simp only [List.mem_cons,List.not_mem_nil,or_false] at hz
    rcases hz with rfl|rfl
    ·exact ⟨hbB.lt,fun x c hx=>by have:=(hTl x c hx).1;omega⟩
    ·exact ⟨by have:=hbB.lt;omega,fun x c hx=>by have:=(hTl x c hx).2;omega⟩)
   have HMEM:=Lib.hid hmem;have HBB:=Lib.hid hbB;have HKB:=Lib.hid (HKR.out.trans kB);clear hmem hbB kB hwB hgc hCB hTl HC HKR hb8;go_upto_region 14 with (go_at_call 41;refine HMEM.out.mono ?_;rintro e w13 ⟨k13,vm,vn,rfl,hm13,hn13⟩;obtain ⟨ma,mc,rfl,_,_⟩:=RowOf.form hm13.get;have hb13:=HBB.out.kept k13 (by simp);have m1:w13.cell? ⟨gc,1,none⟩=some (.slice none 0 0):=hb13.cell 1;have f1:=hb13.frozen 1);obtain ⟨mn,hmn⟩:∃ n,(membersB log P).length=n:=⟨_,rfl⟩;rw [hmn] at hm13 ⊢;obtain ⟨wM,hwM⟩:∃ y,w13.setCell ⟨gc,1,none⟩ (.slice ma mn mc)=y:=⟨_,rfl⟩;rw [hwM];have kM:Kept [gc] w13 wM:=hwM▸(Kept.refl _ _).setCell (Or.inl (by simp)) _;have hbM:Blk wM gc 67 #[.slice none 0 0,.slice ma mn mc,.slice none 0 0]:=hwM▸hb13.set_ 1 _;have k5M:Kept [] w5 wM:=(HKB.out.trans k13).fresh kM (fun z hz=>by rw [List.mem_singleton] at hz;omega);have hmM:=hm13.step (X':=[gc,b8]) kM (fun z hz _=>by rw [List.mem_singleton] at hz;rw [hz];exact List.mem_cons_self) (fun z hz=>Or.inl hz);have hnM:=hn13.step (X':=[gc,b8]) kM (fun z hz _=>by rw [List.mem_singleton] at hz;rw [hz];exact List.mem_cons_self) (fun z hz=>Or.inl hz);have hCG:CrG wM.heap.size wM gc (.slice ma mn mc) [] [] (.slice none 0 0) (.slice none 0 0):=⟨hbM,Grow.nil_ _ _ _ _ _ _,World.ownsRow_nil _ _ _ _,fun z hz=>(by cases hz),hbM.lt,Nat.le_refl _⟩;have HMM:=Lib.hid hmM;have HNM:=Lib.hid hnM;have HCG:=Lib.hid hCG;have HK5M:=Lib.hid k5M;have HMN:=Lib.hid hmn;clear hmM hnM hCG k5M hbM kM hwM hm13 hn13 hb13 m1 f1 k13 HMEM HBB hmn;go_wp2_with fail
   go_loopw [57] (fun v wr=>∃ (j:Nat) (qs:List Pd) (us:List Sn) (vq vu:Value),j≤m∧v=.int .i64 j∧Kept [gc] wM wr∧foldE (sightB ks log (numsB P)) ([],[]) (ss.take j)=.ok (qs,us)∧qs.length≤j∧us.length≤j∧CrG wM.heap.size wr gc (.slice ma mn mc) qs us vq vu) (fun v _=>m - (intOf v).toNat)
   case atStart=>exact ⟨0,[],[],_,_,Nat.zero_le _,rfl,Kept.refl _ _,rfl,Nat.zero_le _,Nat.zero_le _,HCG.out⟩
   case round =>
    obtain ⟨j,qs,us,vq,vu,hj,rfl,hkr,hfold,hlq,hlu,hCr⟩:=hrel;have k5r:Kept [] w5 wr:=HK5M.out.fresh hkr (fun z hz=>by rw [List.mem_singleton] at hz;omega);have HK5R:=Lib.hid k5r;have HKR:=Lib.hid hkr;have HF:=Lib.hid hfold;have HC:=Lib.hid hCr;clear k5r hkr hfold hCr
    by_cases hlt:j < m
    ·have hlt':(j:Int) < (m:Int):=by omega
     obtain ⟨b,off,rfl,hc⟩:=HSS.out.at_ (by have:=HM.out;omega);obtain ⟨x,hx⟩:∃ a,ss[j]?=some a:=⟨_,List.getElem?_eq_getElem (by have:=HM.out;omega)⟩;obtain ⟨cs,p1,p2,p3⟩:=hc j x hx;have hxz:=HSZ.out x (List.mem_of_getElem? hx);have hkwr:=HK5.out.trans HK5R.out;have hp2:=p2.kept hkwr;obtain ⟨ver,vp,vr,da,qu,ju,k0,k1,vl2,k3,k4,k5,k6,k7,k8,rfl,hps,hrv,hln,⟨a0,n0,e0,rfl⟩,⟨a1,n1,e1,rfl⟩,⟨a3,n3,e3,rfl⟩,⟨a4,n4,e4,rfl⟩,⟨a5,n5,e5,rfl⟩,⟨a6,n6,e6,rfl⟩,⟨a7,n7,e7,rfl⟩,⟨a8,n8,e8,rfl⟩⟩:=p2;obtain ⟨pa,pc,rfl,_,_⟩:=hps.form;obtain ⟨ra,rc,rfl,_,_⟩:=hrv.form;obtain ⟨la,lc,rfl,_,_⟩:=RowOf.form hln;obtain ⟨q,most,ps,rev,links,hold⟩:=x
     dsimp only at hxz p3 hp2
     obtain ⟨wA,hwA⟩:∃ y,wr.alloc (.cells #[.int .i64 ver,.string ⟨q.toArray⟩,.slice pa ps.length pc,.int .i64 most,.slice ra rev.length rc,.int .i64 da,.int .i64 qu,.int .i64 ju,.slice a0 n0 e0,.slice a1 n1 e1,.slice la links.length lc,.slice a3 n3 e3,.slice a4 n4 e4,.slice a5 n5 e5,.slice a6 n6 e6,.slice a7 n7 e7,.slice a8 n8 e8,.int .i64 hold] 61)=y:=⟨_,rfl⟩;have kA:Kept [] wr wA:=hwA▸(Kept.refl _ _).alloc _;have hbA:Blk wA wr.heap.size 61 #[.int .i64 ver,.string ⟨q.toArray⟩,.slice pa ps.length pc,.int .i64 most,.slice ra rev.length rc,.int .i64 da,.int .i64 qu,.int .i64 ju,.slice a0 n0 e0,.slice a1 n1 e1,.slice la links.length lc,.slice a3 n3 e3,.slice a4 n4 e4,.slice a5 n5 e5,.slice a6 n6 e6,.slice a7 n7 e7,.slice a8 n8 e8,.int .i64 hold]:=hwA▸Blk.new _ _ _;have k5A:=HK5R.out.trans kA;have hnA:=(HNM.out.step (X':=[gc,b8]) (HKR.out.trans (kA.mono (fun _ _ h=>by simp at h))) (fun z hz _=>by rw [List.mem_singleton] at hz;rw [hz];exact List.mem_cons_self) (fun z hz=>Or.inl hz)).get;have hbh:wA.heap[wr.heap.size]?=some (.cells #[.int .i64 ver,.string ⟨q.toArray⟩,.slice pa ps.length pc,.int .i64 most,.slice ra rev.length rc,.int .i64 da,.int .i64 qu,.int .i64 ju,.slice a0 n0 e0,.slice a1 n1 e1,.slice la links.length lc,.slice a3 n3 e3,.slice a4 n4 e4,.slice a5 n5 e5,.slice a6 n6 e6,.slice a7 n7 e7,.slice a8 n8 e8,.int .i64 hold] 61 (0,0)):=hbA;have hsg:=sight_any (HE5.out.kept0 k5A) (HC.out.kept kA) (RowOf.kept (w':=wA) HKS5.out (fun _ _ h=>PssR.kept h k5A) k5A) (HLOG.out.kept (HK5.out.trans k5A)) hnA (hp2.kept kA) (by omega) (by omega) hxz
     have HX:=Lib.hid hx;have HWA:=Lib.hid hwA;have HKA:=Lib.hid kA;have hfs:=fun e h=>foldE_fail (e:=e) hx HF.out h;have hst:=foldE_step hx HF.out;have hcb:=fun z hz=>(HC.out.q.ge z hz).1;have hcu:=fun z hz=>(own_ge HC.out.u z hz).1
     have hKf:∀ w7,Kept (gc::(obl vq++obl vu)) wA w7→Kept [gc] wM w7:=fun w7 k7=>(HKR.out.trans (kA.mono (fun _ _ h=>by simp at h))).then_ k7 (fun z hz hm=>by
      rcases List.mem_cons.1 hm with h|h
      ·rw [h];exact List.mem_cons_self
      ·rcases List.mem_append.1 h with h|h
       ·have:=hcb z h;omega
       ·have:=hcu z h;omega)
     have HKF:=Lib.hid hKf
     have hld:∀ (j':Nat) (v:Value),([.int .i64 ver,.string ⟨q.toArray⟩,.slice pa ps.length pc,.int .i64 most,.slice ra rev.length rc,.int .i64 da,.int .i64 qu,.int .i64 ju,.slice a0 n0 e0,.slice a1 n1 e1,.slice la links.length lc,.slice a3 n3 e3,.slice a4 n4 e4,.slice a5 n5 e5,.slice a6 n6 e6,.slice a7 n7 e7,.slice a8 n8 e8,.int .i64 hold]:List Value)[j']?=some v→wr.cell? ((⟨b,off+j*18,none⟩:Addr).add j')=some v:=fun j' v hv=>by
      have hadd:(⟨b,off+j*18,none⟩:Addr).add j'=⟨b,off+(j*18+j'),none⟩:=by unfold Addr.add;split <;> simp_all [Nat.add_assoc]
      rw [hadd];exact Kept.cellOf (p3 j' v (by have:=(List.getElem?_eq_some_iff.1 hv).1;simpa using this) hv) _ hkwr
     clear hc p1 p3 hp2 hx hwA kA hbA hps hrv hln k5A hnA hkwr hcb hcu hKf
     have h1c:(#[.int .i64 ver,.string ⟨q.toArray⟩,.slice pa ps.length pc,.int .i64 most,.slice ra rev.length rc,.int .i64 da,.int .i64 qu,.int .i64 ju,.slice a0 n0 e0,.slice a1 n1 e1,.slice la links.length lc,.slice a3 n3 e3,.slice a4 n4 e4,.slice a5 n5 e5,.slice a6 n6 e6,.slice a7 n7 e7,.slice a8 n8 e8,.int .i64 hold]:Array Value).all (·.oneCell')=true:=by simp [Value.oneCell']
     go_upto_region 17 with (first|(refine wpList_load_cells rfl 61 (.tmp 59) rfl ⟨b,off+j*18,none⟩ rfl [.int .i64 ver,.string ⟨q.toArray⟩,.slice pa ps.length pc,.int .i64 most,.slice ra rev.length rc,.int .i64 da,.int .i64 qu,.int .i64 ju,.slice a0 n0 e0,.slice a1 n1 e1,.slice la links.length lc,.slice a3 n3 e3,.slice a4 n4 e4,.slice a5 n5 e5,.slice a6 n6 e6,.slice a7 n7 e7,.slice a8 n8 e8,.int .i64 hold] _ Tryz.underlying61 rfl infoSgt hld ?_)|(refine wpList_store_new rfl rfl 61 (.tmp 18) (.tmp 60) rfl _ #[.int .i64 ver,.string ⟨q.toArray⟩,.slice pa ps.length pc,.int .i64 most,.slice ra rev.length rc,.int .i64 da,.int .i64 qu,.int .i64 ju,.slice a0 n0 e0,.slice a1 n1 e1,.slice la links.length lc,.slice a3 n3 e3,.slice a4 n4 e4,.slice a5 n5 e5,.slice a6 n6 e6,.slice a7 n7 e7,.slice a8 n8 e8,.int .i64 hold] rfl rfl rfl infoSgt rfl h1c ?_)|go_in);have hwA':=HWA.out;rw [hwA'];clear hwA'
     cases hab:sightB ks log (numsB P) (qs,us) ⟨q,most,ps,rev,links,hold⟩ with
     | error c =>
      have hR:=HR.out;rw [hfs c hab] at hR
      simp only at hR
      subst hR;rw [hab] at hsg;have HSG:=Lib.hid hsg;clear hsg hfs hst hab;go_wp2_with (first|(refine wpList_load_row rfl 61 (.tmp 18) rfl wr.heap.size rfl _ #[.int .i64 ver,.string ⟨q.toArray⟩,.slice pa ps.length pc,.int .i64 most,.slice ra rev.length rc,.int .i64 da,.int .i64 qu,.int .i64 ju,.slice a0 n0 e0,.slice a1 n1 e1,.slice la links.length lc,.slice a3 n3 e3,.slice a4 n4 e4,.slice a5 n5 e5,.slice a6 n6 e6,.slice a7 n7 e7,.slice a8 n8 e8,.int .i64 hold] _ _ hbh Tryz.underlying61 rfl infoSgt ?_)|go_at_call 42;refine HSG.out.mono ?_;rintro e w7 ⟨kk7,he⟩;have he:e=.returned (.int .i64 c)∧c≠0:=he;obtain ⟨rfl,hc⟩:=he;have k57:=HK5M.out.fresh (HKF.out _ kk7) (fun z hz=>by rw [List.mem_singleton] at hz;omega);have hb7:=HB5.out.kept k57 (by simp);have c0:w7.cell? ⟨b8,0,none⟩=some (.slice none 0 0):=hb7.cell 0;have c1:w7.cell? ⟨b8,1,none⟩=some (.slice none 0 0):=hb7.cell 1;have c2:w7.cell? ⟨b8,2,none⟩=some (.slice none 0 0):=hb7.cell 2;have f0:=hb7.frozen 0;have f1:=hb7.frozen 1;have f2:=hb7.frozen 2);refine acc_end (((hb7.set_ 0 _).set_ 1 _).set_ 2 _) rfl rfl rfl rfl ⟨(((HK5.out.trans k57).setCell (Or.inr (Nat.le_of_eq HB8.out)) _).setCell (Or.inr (Nat.le_of_eq HB8.out)) _).setCell (Or.inr (Nat.le_of_eq HB8.out)) _,rfl⟩
     | ok c' =>
      obtain ⟨qs',us'⟩:=c';have hl:=sightB_len hab
      dsimp only at hl
      rw [hab] at hsg hst;have HSG:=Lib.hid hsg;have HST:=Lib.hid hst;clear hsg hfs hst hab;go_wp2_with (first|(refine wpList_load_row rfl 61 (.tmp 18) rfl wr.heap.size rfl _ #[.int .i64 ver,.string ⟨q.toArray⟩,.slice pa ps.length pc,.int .i64 most,.slice ra rev.length rc,.int .i64 da,.int .i64 qu,.int .i64 ju,.slice a0 n0 e0,.slice a1 n1 e1,.slice la links.length lc,.slice a3 n3 e3,.slice a4 n4 e4,.slice a5 n5 e5,.slice a6 n6 e6,.slice a7 n7 e7,.slice a8 n8 e8,.int .i64 hold] _ _ hbh Tryz.underlying61 rfl infoSgt ?_)|go_at_call 42;refine HSG.out.mono ?_;rintro e w7 ⟨kk7,rfl,vq',vu',hC'⟩)
      go_roundw
      case rel=>exact ⟨j+1,qs',us',vq',vu',by omega,by go_num,HKF.out _ kk7,HST.out,by omega,by omega,hC'⟩
      case measure=>simp [intOf];omega
    ·obtain rfl:j=m:=by omega
     have hF:=foldE_all (by have:=HM.out;omega) HF.out;have hR:=HR.out;rw [hF] at hR
     simp only at hR
     subst hR;have hb7:=HB5.out.kept HK5R.out (by simp);have hC:=HC.out;obtain ⟨qa,qc,rfl⟩:=hC.q.form (by decide);obtain ⟨ua,uc,rfl⟩:=own_len hC.u (by decide);have g0:wr.cell? ⟨gc,0,none⟩=some (.slice qa qs.length qc):=hC.blk.cell 0;have g1:wr.cell? ⟨gc,1,none⟩=some (.slice ma mn mc):=hC.blk.cell 1;have g2:wr.cell? ⟨gc,2,none⟩=some (.slice ua us.length uc):=hC.blk.cell 2;have c0:wr.cell? ⟨b8,0,none⟩=some (.slice none 0 0):=hb7.cell 0;have c1:wr.cell? ⟨b8,1,none⟩=some (.slice none 0 0):=hb7.cell 1;have c2:wr.cell? ⟨b8,2,none⟩=some (.slice none 0 0):=hb7.cell 2;have f0:=hb7.frozen 0;have f1:=hb7.frozen 1;have f2:=hb7.frozen 2;go_wp2_with fail;have hbF:=((hb7.set_ 0 (.slice qa qs.length qc)).set_ 1 (.slice ma mn mc)).set_ 2 (.slice ua us.length uc);obtain ⟨wF,hwF⟩:∃ y,(((wr.setCell ⟨b8,0,none⟩ (.slice qa qs.length qc)).setCell ⟨b8,1,none⟩ (.slice ma mn mc)).setCell ⟨b8,2,none⟩ (.slice ua us.length uc))=y:=⟨_,rfl⟩;rw [hwF] at hbF ⊢;have kF:Kept [b8] wr wF:=hwF▸((((Kept.refl _ _).setCell (Or.inl (by simp)) _).setCell (Or.inl (by simp)) _).setCell (Or.inl (by simp)) _);have hmF:=(HMM.out.step (X':=[gc,b8]) ((HKR.out.mono (fun z _ h=>by rw [List.mem_singleton] at h;rw [h];exact List.mem_cons_self)).then_ (S:=[gc,b8]) kF (fun z _ hz=>by rw [List.mem_singleton] at hz;rw [hz];simp)) (fun z hz _=>hz) (fun z hz=>Or.inl hz)).get;refine acc_end hbF rfl rfl rfl rfl ⟨((HK5.out.trans HK5R.out).fresh kF (fun z hz=>by rw [List.mem_singleton] at hz;have:=HB8.out;omega)),_,_,rfl,hC.result kF (sls_nil hb7) (by have:=HK5M.out.size;omega) hmF (by omega) (by omega),?_⟩
     exact (HNM.out.step (X':=[gc,b8]) ((HKR.out.mono (fun z _ h=>by rw [List.mem_singleton] at h;rw [h];exact List.mem_cons_self)).then_ (S:=[gc,b8]) kF (fun z _ hz=>by rw [List.mem_singleton] at hz;rw [hz];simp)) (fun z hz _=>hz) (fun z hz=>Or.inl hz)).get
end Go.Proofs.YtpcmamoomaddoaaGreatDoor
