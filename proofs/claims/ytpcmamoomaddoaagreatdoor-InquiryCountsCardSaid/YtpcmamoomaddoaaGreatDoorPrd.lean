/- inquiry.Predicate. -/
import Derived.Test.YtpcmamoomaddoaaGreatDoorNam
import Derived.Test.YtpcmamoomaddoaaGreatDoorPrs
import Derived.Deep.DeepCutAuto
namespace Go.Proofs.YtpcmamoomaddoaaGreatDoor
open Go.RowKit
def parsedQ (q:Bs):Pd × Int:=match parseB q with|.error c=>(.node 0 [] [] 0 [],c)|.ok (_,p)=>(p,0)
theorem parsedQ_valid (q:Bs):validB (parsedQ q).1=true:=by
 unfold parsedQ
 split
 ·show validB (.node 0 [] [] 0 [])=true
  decide
 ·next h=>exact parse_valid h
theorem parsedQ_any (B:Nat) (q:Bs) (w:World) (hq:q.length≤100000000) (hE:EnvB B w) :
  Calls Tryz.prog 31 #[.string ⟨q.toArray⟩] w fun e w'=>Kept [] w w'∧∃ (nm:Bs) (cs:List Value) (at_:Int),e=.returned (.tuple #[.string ⟨nm.toArray⟩,.agg cs.toArray,.int .i64 at_,.int .i64 (parsedQ q).2])∧Stable (List.range w.heap.size) (fun w=>PdR w cs (parsedQ q).1) w':=by
 refine (parse_any B q w hq hE).mono ?_
 unfold ParseE parsedQ
 rintro e w' ⟨k,h⟩;refine ⟨k,?_⟩
 cases hq:parseB q with
 | error c =>
  rw [hq] at h;obtain ⟨at_,rfl⟩:=h;exact ⟨[],[.int .i64 0,.string ⟨#[]⟩,.string ⟨#[]⟩,.int .i64 0,.slice none 0 0],at_,rfl,fun _ _ _ _=>PdR.of_rows (RowOf.nil_ _ _ _)⟩
 | ok x =>
  obtain ⟨nm,p⟩:=x;rw [hq] at h;obtain ⟨cs,rfl,hs⟩:=h;exact ⟨nm,cs,0,rfl,hs⟩
def NamesOf (A:List K3) (ns:List Bs):Prop:=ns.Nodup∧ns.Pairwise (fun x y=>x≤y)∧∀ s,s∈ns↔s≠[]∧s∈namesK A
def allN (p:Pd) (ns:List Bs) (most:Int):Pd:=.node 1 [] [] 0 (p::ns.map fun s=>.node 0 s [] most [])
def predN (p:Pd) (ns:List Bs) (most:Int):Except Int Pd:=if ns=[] then .ok p else if validB (allN p ns most)=true then .ok (allN p ns most) else .error 6
/-- what Predicate says of a question and the greatest value -/
def PredOf (q:Bs) (most:Int) (r:Except Int Pd):Prop :=
 if (parsedQ q).2≠0 then r=.error (parsedQ q).2 else if most < 0∨65535 < most then r=.error 3 else ∃ ns,NamesOf (atomsB (parsedQ q).1) ns∧r=predN (parsedQ q).1 ns most
theorem PredOf.valid {q:Bs} {most:Int} {p:Pd} (h:PredOf q most (.ok p)):validB p=true:=by
 unfold PredOf at h
 split at h
 ·cases h
 ·split at h
  ·cases h
  ·obtain ⟨ns,_,h⟩:=h
   unfold predN at h
   split at h
   ·injection h with h;subst h;exact parsedQ_valid q
   ·split at h
    ·next hv=>injection h with h;subst h;exact hv
    ·cases h
theorem atoms_short:∀ (m:Nat) (p:Pd),sizeB p≤m→shortB p=true→∀ x∈atomsB p,x.1.length≤1000∧x.2.1.length≤1000
 | 0,.node ..,h,_=>by rw [sizeB] at h;omega
 | m+1,.node k l r c ks,h,hf=>by
  intro x hx;rw [shortB] at hf;simp only [Bool.and_eq_true,decide_eq_true_eq] at hf;rw [atomsB] at hx
  by_cases h0:k=0
  ·rw [if_pos h0,List.mem_singleton] at hx;exact hx▸hf.1
  ·rw [if_neg h0,atomsL_flat,List.mem_flatMap] at hx;obtain ⟨q,hq,hx⟩:=hx;rw [sizeB] at h;have:=sizeL_mem hq;exact atoms_short m q (by omega) ((shortL_iff ks).1 hf.2 q hq) x hx
theorem allN_short {p:Pd} {ns:List Bs} {most:Int} (h:validB p=true) (hn:∀ s∈ns,s∈namesK (atomsB p)):shortB (allN p ns most)=true:=by
 have hf:formedB p=true:=by unfold validB at h;rw [Bool.and_eq_true] at h;exact h.2
 have hp:=formed_short p hf
 unfold allN
 rw [shortB,shortL];simp only [Bool.and_eq_true,decide_eq_true_eq];refine ⟨⟨by simp,by simp⟩,hp,(shortL_iff _).2 fun q hq=>?_⟩;obtain ⟨s,hs,rfl⟩:=List.mem_map.1 hq;obtain ⟨x,hx,e⟩:=mem_namesK.1 (hn s hs);have:=atoms_short (sizeB p) p (Nat.le_refl _) hp x hx;rw [shortB,shortL];simp only [Bool.and_eq_true,decide_eq_true_eq];refine ⟨⟨?_,by simp⟩,trivial⟩
 rcases e with rfl|rfl
 ·exact this.1
 ·exact this.2
theorem Grow.one {α:Type} {R:World→List Value→α→Prop} {m:Nat} {e:TypeId} {B:Nat} {X:List Nat} {w:World} {g:Nat} {c:List Value} {b:α} (hb:Blk w g e c.toArray) (hB:B≤g) (hm:c.length=m) (hR:Stable X (fun w=>R w c b) w):Grow R m e B X w (.slice (some ⟨g,0,none⟩) 1 1) [b]:=by
 refine ⟨[c],⟨by simp [hm],Or.inr ⟨g,1,c.toArray,rfl,hB,hb,Nat.le_refl _,by unfold maxLen;omega,by simp [hm],?_⟩⟩,?_⟩
 ·simp [←hm]
 ·exact hR.imp fun w' h=>⟨rfl,fun x hx=>by rw [List.mem_singleton] at hx;exact hx▸hm,fun k a ha=>by
   rcases k with _|k
   ·simp at ha;subst ha;exact ⟨c,rfl,h⟩
   ·simp at ha⟩
theorem prd_end {w2:World} {tmps:Array Value} {v0 v1 v2 v3 v4 u X:Value} {b:Nat} {R:Ending→World→Prop} (hb:Blk w2 b 46 #[v0,v1,v2,v3,v4]) (h2:tmps[2]?.getD undef=.pointer (some ⟨b,0,none⟩)) (h3:tmps[3]?.getD undef=u)
  (hX:.tuple #[.agg #[v0,v1,v2,v3,v4],u]=X) (hR:R (.returned X) w2) :
  bodyPost Tryz.prog Tryz.f14 R Exit.ret { tmps:=tmps,defers:=[] } w2:=by
 subst hX;subst h3;have c0:w2.cell? ⟨b,0,none⟩=some v0:=hb.cell 0;have c1:w2.cell? ⟨b,1,none⟩=some v1:=hb.cell 1;have c2:w2.cell? ⟨b,2,none⟩=some v2:=hb.cell 2;have c3:w2.cell? ⟨b,3,none⟩=some v3:=hb.cell 3;have c4:w2.cell? ⟨b,4,none⟩=some v4:=hb.cell 4;refine bodyPost_ret (v:=.tuple #[.agg #[v0,v1,v2,v3,v4],tmps[3]?.getD undef]) ?_ rfl hR;simp only [results,Tryz.results14]
 simp [go_sem,h2,c0,c1,c2,c3,c4]
def PrdE (w:World) (q:Bs) (most:Int) (e:Ending) (w':World):Prop :=
 Kept [] w w'∧∃ r,PredOf q most r∧match r with
  | .error c=>e=.returned (.tuple #[.agg #[.int .i64 0,.string ⟨#[]⟩,.string ⟨#[]⟩,.int .i64 0,.slice none 0 0],.int .i64 c])
  | .ok p=>∃ cs:List Value,e=.returned (.tuple #[.agg cs.toArray,.int .i64 0])∧Stable (List.range w.heap.size) (fun w=>PdR w cs p) w'
set_option maxRecDepth 100000 in
set_option maxHeartbeats 8000000 in
theorem predicate_any {B:Nat} {w:World} (q:Bs) (most:Int) (v0 v2 v4 v5 v6 v7:Value) (hq:q.length≤100000000) (hE:EnvB B w) :
  Calls Tryz.prog 14 #[.agg #[v0,.string ⟨q.toArray⟩,v2,.int .i64 most,v4,v5,v6,v7]] w (PrdE w q most):=by
 obtain ⟨W,hW⟩:∃ W,(w.alloc (.cells #[v0,.string ⟨q.toArray⟩,v2,.int .i64 most,v4,v5,v6,v7] 50)).alloc (.cells #[.int .i64 0,.string ⟨#[]⟩,.string ⟨#[]⟩,.int .i64 0,.slice none 0 0] 46)=W:=⟨_,rfl⟩;have hkW:Kept [] w W:=hW▸((Kept.refl _ _).alloc _).alloc _;have hB1:Blk W w.heap.size 50 #[v0,.string ⟨q.toArray⟩,v2,.int .i64 most,v4,v5,v6,v7]:=hW▸(Blk.new _ _ _).alloc _;have hB2:Blk W (w.heap.size+1) 46 #[.int .i64 0,.string ⟨#[]⟩,.string ⟨#[]⟩,.int .i64 0,.slice none 0 0]:=hW▸Blk.new1 _ _ _ _
 have hsW:W.heap.size=w.heap.size+2:=by rw [←hW];simp
 have a1:W.cell? ⟨w.heap.size,1,none⟩=some (.string ⟨q.toArray⟩):=hB1.cell 1;have HP:=Lib.hid (parsedQ_any B q W hq (hE.kept0 hkW));have HB1:=Lib.hid hB1;have HB2:=Lib.hid hB2;have HKW:=Lib.hid hkW;have HSW:=Lib.hid hsW;have HW:=Lib.hid hW;have HE:=Lib.hid hE;obtain ⟨p,hp⟩:∃ p,(parsedQ q).1=p:=⟨_,rfl⟩;obtain ⟨er,her⟩:∃ c,(parsedQ q).2=c:=⟨_,rfl⟩;have hval:=parsedQ_valid q;rw [hp] at HP hval;rw [her] at HP;have HVAL:=Lib.hid hval;have HPE:=Lib.hid hp;have HER:=Lib.hid her;clear hW hkW hB1 hB2 hsW hp her hval hE
 go_enter Tryz.func14,Tryz.ntmps14
 go_upto_region 1 with (fail);have hW':=HW.out;rw [hW'];clear hW' HW;go_upto_region 2 with (go_at_call 31;refine HP.out.mono ?_;rintro e w5 ⟨k5,nm,cs,at_,rfl,hst⟩;obtain ⟨pk,pl,pr,pc,pks⟩:=p;obtain ⟨pa,pcc,rfl,_⟩:=hst.get.rows);obtain ⟨g,hg⟩:∃ g,w5.heap.size=g:=⟨_,rfl⟩;obtain ⟨V,hV⟩:∃ V,w5.alloc (.cells #[.int .i64 pk,.string ⟨pl.toArray⟩,.string ⟨pr.toArray⟩,.int .i64 pc,.slice pa pks.length pcc] 46)=V:=⟨_,rfl⟩;rw [hV,hg];have k5V:Kept [] w5 V:=hV▸(Kept.refl _ _).alloc _;have kV:Kept [] W V:=k5.trans k5V;have hBV:Blk V g 46 #[.int .i64 pk,.string ⟨pl.toArray⟩,.string ⟨pr.toArray⟩,.int .i64 pc,.slice pa pks.length pcc]:=hg▸hV▸Blk.new _ _ _;have hstV:=hst.step (X':=List.range W.heap.size) k5V (by simp) (fun z hz=>Or.inl hz);have hgW:W.heap.size≤g:=hg▸k5.size;have hB1V:=HB1.out.kept kV (by simp);have hB2V:=HB2.out.kept kV (by simp);have HBV:=Lib.hid hBV;have HB1V:=Lib.hid hB1V;have HB2V:=Lib.hid hB2V;have HST:=Lib.hid hstV;have HKV:=Lib.hid (HKW.out.trans kV);have HWV:=Lib.hid kV.size;have HGW:=Lib.hid hgW;have x0:V.cell? ⟨g,0,none⟩=some (.int .i64 pk):=hBV.cell 0;have x1:V.cell? ⟨g,1,none⟩=some (.string ⟨pl.toArray⟩):=hBV.cell 1;have x2:V.cell? ⟨g,2,none⟩=some (.string ⟨pr.toArray⟩):=hBV.cell 2;have x3:V.cell? ⟨g,3,none⟩=some (.int .i64 pc):=hBV.cell 3;have x4:V.cell? ⟨g,4,none⟩=some (.slice pa pks.length pcc):=hBV.cell 4;have y0:V.cell? ⟨w.heap.size+1,0,none⟩=some (.int .i64 0):=hB2V.cell 0;have y1:V.cell? ⟨w.heap.size+1,1,none⟩=some (.string ⟨#[]⟩):=hB2V.cell 1;have y2:V.cell? ⟨w.heap.size+1,2,none⟩=some (.string ⟨#[]⟩):=hB2V.cell 2
 have y3:V.cell? ⟨w.heap.size+1,3,none⟩=some (.int .i64 0):=hB2V.cell 3;have y4:V.cell? ⟨w.heap.size+1,4,none⟩=some (.slice none 0 0):=hB2V.cell 4;have yf0:=hB2V.frozen 0;have yf1:=hB2V.frozen 1;have yf2:=hB2V.frozen 2;have yf3:=hB2V.frozen 3;have yf4:=hB2V.frozen 4;have t3:V.cell? ⟨w.heap.size,3,none⟩=some (.int .i64 most):=hB1V.cell 3;clear hV hg k5V kV hBV hstV hgW hB1V hB2V k5 hst a1 HB1 HB2 HP
 by_cases h0:er=0
 ·subst h0
  by_cases h1:most < 0
  ·go_wp2_with fail;refine prd_end (((((HB2V.out.set_ 0 _).set_ 1 _).set_ 2 _).set_ 3 _).set_ 4 _) rfl rfl rfl ⟨(((((HKV.out.setCell (Or.inr (Nat.le_add_right _ 1)) _).setCell (Or.inr (Nat.le_add_right _ 1)) _).setCell (Or.inr (Nat.le_add_right _ 1)) _).setCell (Or.inr (Nat.le_add_right _ 1)) _).setCell (Or.inr (Nat.le_add_right _ 1)) _),.error 3,?_,rfl⟩
   unfold PredOf
   rw [HER.out,if_neg (by simp),if_pos (Or.inl h1)]
  ·by_cases h2:65535 < most
   ·go_wp2_with fail;refine prd_end (((((HB2V.out.set_ 0 _).set_ 1 _).set_ 2 _).set_ 3 _).set_ 4 _) rfl rfl rfl ⟨(((((HKV.out.setCell (Or.inr (Nat.le_add_right _ 1)) _).setCell (Or.inr (Nat.le_add_right _ 1)) _).setCell (Or.inr (Nat.le_add_right _ 1)) _).setCell (Or.inr (Nat.le_add_right _ 1)) _).setCell (Or.inr (Nat.le_add_right _ 1)) _),.error 3,?_,rfl⟩
    unfold PredOf
    rw [HER.out,if_neg (by simp),if_pos (Or.inr h2)]
   ·have h1':¬ (most < 0∨65535 < most):=fun h=>h.elim h1 h2;go_upto_region 6 with (fail)
    have hsz:sizeB (.node pk pl pr pc pks)≤100000:=by
     have:=HVAL.out
     unfold validB smallB at this
     simp only [Bool.and_eq_true,decide_eq_true_eq] at this;omega
    have HN:=Lib.hid (namesOf_any HST.out.get HVAL.out hsz (HE.out.kept0 HKV.out));clear hsz;go_upto_region 7 with (go_at_call 32;refine HN.out.mono ?_;rintro e w6 ⟨u,ns,rfl,hnd,hpw,hmem,hrow,k6⟩;obtain ⟨na,nc,rfl⟩:=own_form hrow);clear HN x0 x1 x2 x3 x4 y0 y1 y2 y3 y4 yf0 yf1 yf2 yf3 yf4 t3;have HNS:Hid (NamesOf (atomsB (.node pk pl pr pc pks)) ns):=Lib.hid ⟨hnd,hpw,hmem⟩;have hBV:=HBV.out.kept k6 (by simp);have hB2V:=HB2V.out.kept k6 (by simp);have hB1V:=HB1V.out.kept k6 (by simp);have hst6:=HST.out.step (X':=List.range W.heap.size) k6 (by simp) (fun z hz=>Or.inl hz);have HK6:=Lib.hid (HKV.out.trans k6);have HBW:=Lib.hid hBV;have HB2W:=Lib.hid hB2V;have HB1W:=Lib.hid hB1V;have HSTW:=Lib.hid hst6;have HROW:=Lib.hid hrow;have HVS:=Lib.hid HKV.out.size;have HV6:=Lib.hid k6.size;have x0:w6.cell? ⟨g,0,none⟩=some (.int .i64 pk):=hBV.cell 0;have x1:w6.cell? ⟨g,1,none⟩=some (.string ⟨pl.toArray⟩):=hBV.cell 1;have x2:w6.cell? ⟨g,2,none⟩=some (.string ⟨pr.toArray⟩):=hBV.cell 2;have x3:w6.cell? ⟨g,3,none⟩=some (.int .i64 pc):=hBV.cell 3;have x4:w6.cell? ⟨g,4,none⟩=some (.slice pa pks.length pcc):=hBV.cell 4;have y0:w6.cell? ⟨w.heap.size+1,0,none⟩=some (.int .i64 0):=hB2V.cell 0;have y1:w6.cell? ⟨w.heap.size+1,1,none⟩=some (.string ⟨#[]⟩):=hB2V.cell 1;have y2:w6.cell? ⟨w.heap.size+1,2,none⟩=some (.string ⟨#[]⟩):=hB2V.cell 2;have y3:w6.cell? ⟨w.heap.size+1,3,none⟩=some (.int .i64 0):=hB2V.cell 3;have y4:w6.cell? ⟨w.heap.size+1,4,none⟩=some (.slice none 0 0):=hB2V.cell 4;have yf0:=hB2V.frozen 0
    have yf1:=hB2V.frozen 1;have yf2:=hB2V.frozen 2;have yf3:=hB2V.frozen 3;have yf4:=hB2V.frozen 4;have t3:w6.cell? ⟨w.heap.size,3,none⟩=some (.int .i64 most):=hB1V.cell 3;clear HBV HB2V HB1V HST hnd hpw hmem hBV hB2V hB1V hst6 hrow k6
    by_cases hns:ns=[]
    ·subst hns;have HKS:=Lib.hid ((((((Kept.refl [w.heap.size+1] w6).setCell (p:=⟨w.heap.size+1,0,none⟩) (Or.inl (by simp)) (.int .i64 pk)).setCell (p:=⟨w.heap.size+1,1,none⟩) (Or.inl (by simp)) (.string ⟨pl.toArray⟩)).setCell (p:=⟨w.heap.size+1,2,none⟩) (Or.inl (by simp)) (.string ⟨pr.toArray⟩)).setCell (p:=⟨w.heap.size+1,3,none⟩) (Or.inl (by simp)) (.int .i64 pc)).setCell (p:=⟨w.heap.size+1,4,none⟩) (Or.inl (by simp)) (.slice pa pks.length pcc))
     dsimp only [List.length_nil]
     go_wp2_with fail;refine prd_end (((((HB2W.out.set_ 0 _).set_ 1 _).set_ 2 _).set_ 3 _).set_ 4 _) rfl rfl rfl ⟨(((((HK6.out.setCell (Or.inr (Nat.le_add_right _ 1)) _).setCell (Or.inr (Nat.le_add_right _ 1)) _).setCell (Or.inr (Nat.le_add_right _ 1)) _).setCell (Or.inr (Nat.le_add_right _ 1)) _).setCell (Or.inr (Nat.le_add_right _ 1)) _),.ok (.node pk pl pr pc pks),?_,[.int .i64 pk,.string ⟨pl.toArray⟩,.string ⟨pr.toArray⟩,.int .i64 pc,.slice pa pks.length pcc],rfl,?_⟩
     ·unfold PredOf
      rw [HER.out,HPE.out,if_neg (by simp),if_neg h1'];exact ⟨[],HNS.out,by unfold predN;rw [if_pos rfl]⟩
     ·exact HSTW.out.step HKS.out (fun z hz _=>by rw [List.mem_singleton] at hz;exact List.mem_range.2 (by have:=HSW.out;omega)) (fun z hz=>Or.inl (List.mem_range.2 (by have:=HSW.out;have:=List.mem_range.1 hz;omega)))
    ·have hnl:ns.length≠0:=fun e=>hns (List.eq_nil_of_length_eq_zero e)
     have hnl':(ns.length:Int)≠0:=by omega
     obtain ⟨nn,hnn⟩:∃ nn,ns.length=nn:=⟨_,rfl⟩;have HNN:=Lib.hid hnn
     have hns200:nn≤100000:=by
      have h9:=nodup_len ns (namesK (atomsB (.node pk pl pr pc pks))) HNS.out.1 (fun x hx=>((HNS.out.2.2 x).1 hx).2);have h8:=atomsB_len (.node pk pl pr pc pks)
      have h7:(namesK (atomsB (.node pk pl pr pc pks))).length=2*(atomsB (.node pk pl pr pc pks)).length:=by
       unfold namesK
       generalize atomsB (.node pk pl pr pc pks)=A
       induction A with
       | nil=>rfl
       | cons a A ih=>rw [List.flatMap_cons,List.length_append,ih];simp;omega
      have h6:=HVAL.out
      unfold validB smallB at h6
      simp only [Bool.and_eq_true,decide_eq_true_eq] at h6;omega
     rw [hnn] at hnl hnl' HROW ⊢;obtain ⟨h,hh⟩:∃ h,w6.heap.size=h:=⟨_,rfl⟩;obtain ⟨V9,hV9⟩:∃ x,(w6.alloc (.cells #[.int .i64 pk,.string ⟨pl.toArray⟩,.string ⟨pr.toArray⟩,.int .i64 pc,.slice pa pks.length pcc] 46)).alloc (.cells #[.int .i64 1,.string ⟨#[]⟩,.string ⟨#[]⟩,.int .i64 0,.slice (some ⟨h,0,none⟩) 1 1] 46)=x:=⟨_,rfl⟩;have k69:Kept [] w6 V9:=hV9▸((Kept.refl _ _).alloc _).alloc _
     have hR9:Blk V9 h 46 #[.int .i64 pk,.string ⟨pl.toArray⟩,.string ⟨pr.toArray⟩,.int .i64 pc,.slice pa pks.length pcc]:=by rw [←hV9,←hh];exact (Blk.new _ _ _).alloc _
     have hG9:Blk V9 (h+1) 46 #[.int .i64 1,.string ⟨#[]⟩,.string ⟨#[]⟩,.int .i64 0,.slice (some ⟨h,0,none⟩) 1 1]:=by rw [←hV9,←hh];exact Blk.new1 _ _ _ _
     have hs9:V9.heap.size=h+2:=by rw [←hV9];simp [hh]
     have hst9:=HSTW.out.step (X':=List.range W.heap.size++(h+1)::obl (.slice (some ⟨h,0,none⟩) 1 1)) k69 (by simp) (fun z hz=>by
      rcases List.mem_append.1 hz with hz|hz
      ·exact Or.inl hz
      ·rcases List.mem_cons.1 hz with hz|hz
       ·exact Or.inr (by omega)
       ·have:=obl_mem hz;simp [Value.ownBlock] at this;exact Or.inr (by omega))
     have hgr9:Grow PdR 5 46 h (List.range W.heap.size++(h+1)::obl (.slice (some ⟨h,0,none⟩) 1 1)) V9 (.slice (some ⟨h,0,none⟩) 1 1) [.node pk pl pr pc pks]:=Grow.one (c:=[.int .i64 pk,.string ⟨pl.toArray⟩,.string ⟨pr.toArray⟩,.int .i64 pc,.slice pa pks.length pcc]) hR9 (Nat.le_refl _) rfl hst9;have HG9:=Lib.hid hG9;have HGR9:=Lib.hid hgr9;have HS9:=Lib.hid hs9;have HK69:=Lib.hid k69;have HV9:=Lib.hid hV9;have HH:=Lib.hid hh;clear hV9 k69 hR9 hG9 hs9 hst9 hgr9 hh;go_upto_region 10 with (fail);have hV9':=HV9.out;rw [HH.out];rw [hV9'];clear hV9' HV9 x0 x1 x2 x3 x4 y0 y1 y2 y3 y4 yf0 yf1 yf2 yf3 yf4 t3;go_wp2_with fail
     have hne0:((nn:Int)==0)=false:=by simpa using hnl'
     simp only [hne0];obtain ⟨i0,hi,hz0,hz1,hz2⟩:=info_parts infoPred
     go_loopw [46] (fun v wr=>∃ (j:Nat) (kv:Value),j≤nn∧v=.int .i64 j∧Kept [] w6 wr∧Blk wr (h+1) 46 #[.int .i64 1,.string ⟨#[]⟩,.string ⟨#[]⟩,.int .i64 0,kv] ∧
      Grow PdR 5 46 h (List.range W.heap.size++(h+1)::obl kv) wr kv (.node pk pl pr pc pks::(ns.take j).map fun s=>.node 0 s [] most [])∧h+2≤wr.heap.size∧(h+1)∉obl kv) (fun v _=>nn - (intOf v).toNat)
     case atStart=>exact ⟨0,_,Nat.zero_le _,rfl,HK69.out,HG9.out,by simpa using HGR9.out,by have:=HS9.out;omega,fun hm=>by have:=obl_mem hm;simp [Value.ownBlock] at this⟩
     case round =>
      obtain ⟨j,kv,hj,rfl,hkr,hbg,hgr,hsz,hnG⟩:=hrel;obtain ⟨ka,kc,rfl⟩:=hgr.form (by decide);obtain ⟨kl,hkl⟩:∃ kl,(.node pk pl pr pc pks::(ns.take j).map fun s=>Pd.node 0 s [] most [])=kl:=⟨_,rfl⟩
      have hkll:kl.length=j+1:=by rw [←hkl,List.length_cons,List.length_map,List.length_take];have:=HNN.out;omega
      rw [hkl] at hbg hgr hnG;have HKL:=Lib.hid hkl;have HKLL:=Lib.hid hkll;have HKR:=Lib.hid hkr;have HBG:=Lib.hid hbg;have HGR:=Lib.hid hgr;have HSZ:=Lib.hid hsz;have HNG:=Lib.hid hnG;have hb1:=HB1W.out.kept hkr (by simp);have hb2:=HB2W.out.kept hkr (by simp);have HB1R:=Lib.hid hb1;have HB2R:=Lib.hid hb2;have t3:wr.cell? ⟨w.heap.size,3,none⟩=some (.int .i64 most):=hb1.cell 3;have p4:wr.cell? ⟨h+1,4,none⟩=some (.slice ka kl.length kc):=hbg.cell 4;have pf:=hbg.frozen 4
      by_cases hlt:j < nn
      ·have hlt':(j:Int) < (nn:Int):=by omega
       have hro:=Row.of_own HROW.out (by omega);obtain ⟨bb,off,rfl,hc⟩:=hro.at_ (by omega);obtain ⟨s,hs⟩:∃ s,ns[j]?=some s:=⟨_,List.getElem?_eq_getElem (by have:=HNN.out;omega)⟩;have y0:wr.cell? ⟨bb,off+j,none⟩=some (.string ⟨s.toArray⟩):=Kept.cellOf (hc j _ (by simp [strs,hs])) _ hkr
       have htk:ns.take (j+1)=ns.take j++[s]:=by
        rw [List.take_succ_eq_append_getElem (by have:=HNN.out;omega),(List.getElem?_eq_some_iff.1 hs).2]
       have HTK:Hid (.node pk pl pr pc pks::(ns.take (j+1)).map (fun s=>Pd.node 0 s [] most [])=kl++[.node 0 s [] most []]):=Lib.hid (by rw [htk,List.map_append,←HKL.out];rfl);obtain ⟨gr,hgr0⟩:∃ gr,wr.heap.size=gr:=⟨_,rfl⟩;have HGR0:=Lib.hid hgr0;have hz1':∀ z,z∈List.range W.heap.size++(h+1)::obl (.slice ka kl.length kc)→z∈List.range W.heap.size++(h+1)::obl (.slice ka kl.length kc)∨wr.heap.size≤z:=fun z hz=>Or.inl hz
       have hgrA:Grow PdR 5 46 h (List.range W.heap.size++(h+1)::obl (.slice ka kl.length kc)) (wr.alloc (.cells #[.int .i64 0,.string ⟨s.toArray⟩,.string ⟨#[]⟩,.int .i64 most,.slice none 0 0] 46)) (.slice ka kl.length kc) kl :=
        hgr.step ((Kept.refl [] wr).alloc _) (fun z _ hm=>by simp at hm) (fun z hz=>by simp at hz) hz1'
       have HGRA:=Lib.hid hgrA;have HHW:Hid (h≤wr.heap.size):=Lib.hid (by omega);have HKN:Hid (kl.length≤1000000000):=Lib.hid (by omega);clear hro hc hs htk hgrA hz1' hkr hbg hgr hb1 hb2 hkl hkll hgr0;go_upto_region 13 with (fail);clear y0;go_wp2_with (at_builtin;refine wpList_append_grow (R:=PdR) (v:=.slice ka kl.length kc) (X:=List.range W.heap.size++(h+1)::obl (.slice ka kl.length kc)) rfl _ _ 44 rfl i0 _ 72 Tryz.underlying44 hi hz0 hz1 hz2 rfl (by decide) (by decide) rfl HGRA.out _ [.int .i64 0,.string ⟨s.toArray⟩,.string ⟨#[]⟩,.int .i64 most,.slice none 0 0] (.node 0 s [] most []) rfl (row_of_blk (cs:=[.int .i64 0,.string ⟨s.toArray⟩,.string ⟨#[]⟩,.int .i64 most,.slice none 0 0]) (Blk.new _ _ _) rfl (by decide)) (fun _ _ _ _=>PdR.of_rows (RowOf.nil_ _ _ _)) (by simp [Value.oneCell']) HKN.out (Nat.le_trans HHW.out ((Kept.refl [] wr).alloc _).size) (fun z hz=>List.mem_append_right _ (List.mem_cons_of_mem _ hz)) ?_;intro a' c' w8 hg8 k8 ho8;have hb8:=(HBG.out.alloc _).kept k8 HNG.out;have p8:w8.cell? ⟨h+1,4,none⟩=some (.slice ka kl.length kc):=hb8.cell 4;have pf8:=hb8.frozen 4;have HB8:=Lib.hid hb8;have HG8:=Lib.hid hg8;have K8:=Lib.hid k8;have HO8:=Lib.hid ho8;clear hb8 hg8 k8 ho8);obtain ⟨w9,hw9⟩:∃ x,w8.setCell ⟨h+1,4,none⟩ (.slice a' (kl.length+1) c')=x:=⟨_,rfl⟩;rw [hw9];have k89:Kept [h+1] w8 w9:=hw9▸(Kept.refl _ _).setCell (Or.inl (by simp)) _;have hb9:Blk w9 (h+1) 46 #[.int .i64 1,.string ⟨#[]⟩,.string ⟨#[]⟩,.int .i64 0,.slice a' (kl.length+1) c']:=hw9▸HB8.out.set_ 4 _
       have hgn:(h+1)∉obl (.slice a' (kl.length+1) c'):=fun hm=>by
        rcases HO8.out _ hm with e|e
        ·exact HNG.out e
        ·have:=HSZ.out;rw [World.size_alloc] at e;omega
       have hg9:=HG8.out.step (X':=List.range W.heap.size++(h+1)::obl (.slice a' (kl.length+1) c')) k89 (fun y hy hm=>by rw [List.mem_singleton] at hm;subst hm;exact hgn hy) (fun y hy _=>by rw [List.mem_singleton] at hy;subst hy;exact List.mem_append_left _ (List.mem_append_right _ List.mem_cons_self)) (fun y hy=>by
        rcases List.mem_append.1 hy with e|e
        ·exact Or.inl (List.mem_append_left _ (List.mem_append_left _ e))
        ·rcases List.mem_cons.1 e with e|e
         ·subst e;exact Or.inl (List.mem_append_left _ (List.mem_append_right _ List.mem_cons_self))
         ·exact Or.inl (List.mem_append_right _ e))
       have hk9:Kept [] w6 w9:=(((HKR.out.alloc _).fresh K8.out (fun x hx=>by have:=(HGR.out.ge x hx).1;have:=HH.out;omega)).fresh k89 (fun x hx=>by rw [List.mem_singleton] at hx;have:=HH.out;omega))
       have hs9:h+2≤w9.heap.size:=by have h1:=K8.out.size;have h2:=k89.size;have h3:=HSZ.out;rw [World.size_alloc] at h1;omega
       go_roundw
       case rel=>exact ⟨j+1,_,by omega,by go_num,hk9,hb9,by rw [HTK.out];exact hg9,hs9,hgn⟩
       case measure=>simp [intOf];omega
      ·obtain rfl:j=nn:=by omega
       have htk:ns.take j=ns:=List.take_of_length_le (by have:=HNN.out;omega);rw [htk] at hkl
       have hpa:PdR wr [.int .i64 1,.string ⟨#[]⟩,.string ⟨#[]⟩,.int .i64 0,.slice ka kl.length kc] (allN (.node pk pl pr pc pks) ns most):=by
        have:=PdR.of_rows (k:=1) (l:=[]) (r:=[]) (c:=0) (hgr.row (by omega));rw [←hkl] at this ⊢;exact this
       have hst:=hgr.done (X':=List.range W.heap.size) (fun z hz=>Or.inl (List.mem_append_left _ hz)) (fun z hz hm=>by have:=(hgr.ge z hz).1;have:=List.mem_range.1 hm;have:=HWV.out;have:=HV6.out;have:=HH.out;omega) (by omega);have hsh:shortB (allN (.node pk pl pr pc pks) ns most)=true:=allN_short HVAL.out (fun s hs=>((HNS.out.2.2 s).1 hs).2);have HVP:=Lib.hid (validPred_any hpa hsh (HE.out.kept0 (HK6.out.trans hkr)));have HST:=Lib.hid hst;have HKF:=Lib.hid (HK6.out.trans hkr);have HKE:Hid (kl=.node pk pl pr pc pks::ns.map fun s=>Pd.node 0 s [] most []):=Lib.hid hkl.symm;have q0:wr.cell? ⟨h+1,0,none⟩=some (.int .i64 1):=hbg.cell 0;have q1:wr.cell? ⟨h+1,1,none⟩=some (.string ⟨#[]⟩):=hbg.cell 1;have q2:wr.cell? ⟨h+1,2,none⟩=some (.string ⟨#[]⟩):=hbg.cell 2;have q3:wr.cell? ⟨h+1,3,none⟩=some (.int .i64 0):=hbg.cell 3;clear hpa hst hsh hkr hbg hgr hb1 hb2 hkl hkll htk;obtain ⟨vb,hvb⟩:∃ b,validB (allN (.node pk pl pr pc pks) ns most)=b:=⟨_,rfl⟩;rw [hvb] at HVP;have HVB:=Lib.hid hvb;clear hvb
       cases vb
       ·go_wp2_with (go_at_call 33;refine HVP.out.mono ?_;rintro e w10 ⟨rfl,k10⟩;have hb10:=HB2R.out.kept k10 (by simp);have xf0:=hb10.frozen 0;have xf1:=hb10.frozen 1;have xf2:=hb10.frozen 2;have xf3:=hb10.frozen 3;have xf4:=hb10.frozen 4;have xc0:w10.cell? ⟨w.heap.size+1,0,none⟩=some (.int .i64 0):=hb10.cell 0;have xc1:w10.cell? ⟨w.heap.size+1,1,none⟩=some (.string ⟨#[]⟩):=hb10.cell 1;have xc2:w10.cell? ⟨w.heap.size+1,2,none⟩=some (.string ⟨#[]⟩):=hb10.cell 2;have xc3:w10.cell? ⟨w.heap.size+1,3,none⟩=some (.int .i64 0):=hb10.cell 3;have xc4:w10.cell? ⟨w.heap.size+1,4,none⟩=some (.slice none 0 0):=hb10.cell 4;have HBX:=Lib.hid hb10;have HK10:=Lib.hid k10;clear hb10 k10);refine prd_end (((((HBX.out.set_ 0 _).set_ 1 _).set_ 2 _).set_ 3 _).set_ 4 _) rfl rfl rfl ⟨((((((HKF.out.trans HK10.out).setCell (Or.inr (Nat.le_add_right _ 1)) _).setCell (Or.inr (Nat.le_add_right _ 1)) _).setCell (Or.inr (Nat.le_add_right _ 1)) _).setCell (Or.inr (Nat.le_add_right _ 1)) _).setCell (Or.inr (Nat.le_add_right _ 1)) _),.error 6,?_,rfl⟩
        unfold PredOf
        rw [HER.out,HPE.out,if_neg (by simp),if_neg h1'];exact ⟨ns,HNS.out,by unfold predN;rw [if_neg hns,if_neg (by rw [HVB.out];simp)]⟩
       ·go_wp2_with (go_at_call 33;refine HVP.out.mono ?_;rintro e w10 ⟨rfl,k10⟩;have hb10:=HB2R.out.kept k10 (by simp);have xf0:=hb10.frozen 0;have xf1:=hb10.frozen 1;have xf2:=hb10.frozen 2;have xf3:=hb10.frozen 3;have xf4:=hb10.frozen 4;have xc0:w10.cell? ⟨w.heap.size+1,0,none⟩=some (.int .i64 0):=hb10.cell 0;have xc1:w10.cell? ⟨w.heap.size+1,1,none⟩=some (.string ⟨#[]⟩):=hb10.cell 1;have xc2:w10.cell? ⟨w.heap.size+1,2,none⟩=some (.string ⟨#[]⟩):=hb10.cell 2;have xc3:w10.cell? ⟨w.heap.size+1,3,none⟩=some (.int .i64 0):=hb10.cell 3;have xc4:w10.cell? ⟨w.heap.size+1,4,none⟩=some (.slice none 0 0):=hb10.cell 4;have hbg10:=HBG.out.kept k10 (by simp);have z0:w10.cell? ⟨h+1,0,none⟩=some (.int .i64 1):=hbg10.cell 0;have z1:w10.cell? ⟨h+1,1,none⟩=some (.string ⟨#[]⟩):=hbg10.cell 1;have z2:w10.cell? ⟨h+1,2,none⟩=some (.string ⟨#[]⟩):=hbg10.cell 2;have z3:w10.cell? ⟨h+1,3,none⟩=some (.int .i64 0):=hbg10.cell 3;have z4:w10.cell? ⟨h+1,4,none⟩=some (.slice ka kl.length kc):=hbg10.cell 4;have HBX:=Lib.hid hb10;have HK10:=Lib.hid k10;clear hb10 k10 hbg10);have HKS:=Lib.hid ((((((Kept.refl [w.heap.size+1] w10).setCell (p:=⟨w.heap.size+1,0,none⟩) (Or.inl (by simp)) (.int .i64 1)).setCell (p:=⟨w.heap.size+1,1,none⟩) (Or.inl (by simp)) (.string ⟨#[]⟩)).setCell (p:=⟨w.heap.size+1,2,none⟩) (Or.inl (by simp)) (.string ⟨#[]⟩)).setCell (p:=⟨w.heap.size+1,3,none⟩) (Or.inl (by simp)) (.int .i64 0)).setCell (p:=⟨w.heap.size+1,4,none⟩) (Or.inl (by simp)) (.slice ka kl.length kc));refine prd_end (((((HBX.out.set_ 0 _).set_ 1 _).set_ 2 _).set_ 3 _).set_ 4 _) rfl rfl rfl ⟨((((((HKF.out.trans HK10.out).setCell (Or.inr (Nat.le_add_right _ 1)) _).setCell (Or.inr (Nat.le_add_right _ 1)) _).setCell (Or.inr (Nat.le_add_right _ 1)) _).setCell (Or.inr (Nat.le_add_right _ 1)) _).setCell (Or.inr (Nat.le_add_right _ 1)) _),.ok (allN (.node pk pl pr pc pks) ns most),?_,[.int .i64 1,.string ⟨#[]⟩,.string ⟨#[]⟩,.int .i64 0,.slice ka kl.length kc],rfl,?_⟩
        ·unfold PredOf
         rw [HER.out,HPE.out,if_neg (by simp),if_neg h1'];exact ⟨ns,HNS.out,by unfold predN;rw [if_neg hns,if_pos HVB.out]⟩
        ·have hss:Stable (List.range W.heap.size) (fun w=>PdR w [.int .i64 1,.string ⟨#[]⟩,.string ⟨#[]⟩,.int .i64 0,.slice ka kl.length kc] (allN (.node pk pl pr pc pks) ns most)) wr:=HST.out.imp fun w' hh=>by
          have:=PdR.of_rows (k:=1) (l:=[]) (r:=[]) (c:=0) hh
          unfold allN
          rw [←HKE.out];exact this
         exact (hss.step (X':=List.range W.heap.size) HK10.out (by simp) (fun z hz=>Or.inl hz)).step HKS.out (fun z hz _=>by rw [List.mem_singleton] at hz;exact List.mem_range.2 (by have:=HSW.out;omega)) (fun z hz=>Or.inl (List.mem_range.2 (by have:=HSW.out;have:=List.mem_range.1 hz;omega)))
 ·go_wp2_with fail;refine prd_end (((((HB2V.out.set_ 0 _).set_ 1 _).set_ 2 _).set_ 3 _).set_ 4 _) rfl rfl rfl ⟨(((((HKV.out.setCell (Or.inr (Nat.le_add_right _ 1)) _).setCell (Or.inr (Nat.le_add_right _ 1)) _).setCell (Or.inr (Nat.le_add_right _ 1)) _).setCell (Or.inr (Nat.le_add_right _ 1)) _).setCell (Or.inr (Nat.le_add_right _ 1)) _),.error er,?_,rfl⟩
  unfold PredOf
  rw [HER.out,if_pos h0]
end Go.Proofs.YtpcmamoomaddoaaGreatDoor
