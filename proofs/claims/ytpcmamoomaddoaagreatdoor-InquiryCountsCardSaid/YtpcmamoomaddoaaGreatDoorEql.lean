/- slices.Equal at strings and at ints. -/
import Derived.Test.YtpcmamoomaddoaaGreatDoorVps
import Derived.Shelf.SlIter.Collect
import Derived.Test.YtpcmamoomaddoaaGreatDoorPs4
/- JOINED: Vls Vbd Vus Vmb Eql -/
/- inquiry's Values. -/
namespace Go.Proofs.YtpcmamoomaddoaaGreatDoor
open Go.RowKit Go.Sort Go.Shelf
theorem infoBind:(Tryz.prog.info? 82).map (fun i=>(i.zero,i.size,i.bytes))=some (some (.agg #[.string ⟨#[]⟩,.int .i64 0]),2,24):=by kernel_rfl
abbrev Bnd:=Bs × Int
def bindsC (l:List Bnd):List Value:=l.flatMap fun b=>[.string ⟨b.1.toArray⟩,.int .i64 b.2]
theorem binds_snoc (l:List Bnd) (b:Bnd):bindsC (l++[b])=bindsC l++[.string ⟨b.1.toArray⟩,.int .i64 b.2]:=by simp [bindsC]
def valsTo (p:Pss) (at_:List Int) (j:Nat):List Bnd:=(List.range j).map fun i=>(nmA p.name (p.attrs.getD i []),at_.getD (i+1) 0)
def badV (at_:List Int) (i:Nat):Bool:=decide (at_.getD (i+1) 0 < 0) || decide (65535 < at_.getD (i+1) 0)
def valsB (p:Pss) (at_:List Int):Except Int (List Bnd) :=
 if passB p=false∨at_.length≤p.attrs.length then .error 1 else if (List.range p.attrs.length).any (badV at_) then .error 3 else .ok (valsTo p at_ p.attrs.length)
theorem valsTo_len (p:Pss) (at_:List Int) (j:Nat):(valsTo p at_ j).length=j:=by simp [valsTo]
theorem valsTo_succ (p:Pss) (at_:List Int) (j:Nat):valsTo p at_ (j+1)=valsTo p at_ j++[(nmA p.name (p.attrs.getD j []),at_.getD (j+1) 0)]:=by simp [valsTo,List.range_succ]
theorem passB_lt {p:Pss} (h:passB p=true):p.attrs.length < 6:=by
 unfold passB at h
 simp only [Bool.and_eq_true,decide_eq_true_eq] at h;exact h.1.2
def ValsE (w:World) (e:Ending) (w':World):Except Int (List Bnd)→Prop
 | .error c=>e=.returned (.tuple #[.slice none 0 0,.int .i64 c])
 | .ok l=>∃ v,e=.returned (.tuple #[v,.int .i64 0])∧w'.ownsRow w.heap.size 82 2 v l.length (bindsC l)
theorem vals_end {w2:World} {tmps:Array Value} {u v:Value} {R:Ending→World→Prop} (h4:tmps[4]?.getD undef=u) (h5:tmps[5]?.getD undef=v) (hR:R (.returned (.tuple #[u,v])) w2) :
  bodyPost Tryz.prog Tryz.f11 R Exit.ret { tmps:=tmps,defers:=[] } w2:=by
 subst h4;subst h5;refine bodyPost_ret (v:=.tuple #[tmps[4]?.getD undef,tmps[5]?.getD undef]) ?_ rfl hR;simp only [results,Tryz.results11]
 simp [go_sem]
set_option maxRecDepth 100000 in
set_option maxHeartbeats 4000000 in
theorem values_any {B:Nat} {w:World} {p:Pss} {va vg vt:Value} {at_:List Int} (h:Row w 1 va p.attrs.length (strs p.attrs)) (ht:Row w 1 vt at_.length (ints at_)) (hn:p.name.length≤10000000) (ha:∀ a∈p.attrs,a.length≤10000000) (hat:at_.length≤100000) (hpl:p.attrs.length≤100000) (hE:EnvB B w) :
  Calls Tryz.prog 11 #[.agg #[.string ⟨p.name.toArray⟩,.int .i64 p.pub,va,vg],vt] w fun e w'=>Kept [] w w'∧ValsE w e w' (valsB p at_):=by
 obtain ⟨i0,hi,hz0,hz1,hz2⟩:=info_parts infoBind;obtain ⟨W,hW⟩:∃ W,w.alloc (.cells #[.string ⟨p.name.toArray⟩,.int .i64 p.pub,va,vg] 36)=W:=⟨_,rfl⟩;have hkW:Kept [] w W:=hW▸(Kept.refl _ _).alloc _;have hB:Blk W w.heap.size 36 #[.string ⟨p.name.toArray⟩,.int .i64 p.pub,va,vg]:=hW▸Blk.new _ _ _;have hvp:=validPass_any (p:=p) (vg:=vg) (h.kept hkW) hn ha (hE.kept0 hkW);obtain ⟨a,c,rfl,_,hcn⟩:=h.form;obtain ⟨ta,tc,rfl,_,htn⟩:=ht.form;obtain ⟨R,hR⟩:∃ R,valsB p at_=R:=⟨_,rfl⟩;obtain ⟨nm,hnm⟩:∃ nm,p.name=nm:=⟨_,rfl⟩;obtain ⟨pu,hpu⟩:∃ pu,p.pub=pu:=⟨_,rfl⟩;obtain ⟨n,hnl⟩:∃ n,p.attrs.length=n:=⟨_,rfl⟩;obtain ⟨m,hml⟩:∃ m,at_.length=m:=⟨_,rfl⟩;obtain ⟨bp,hbp⟩:∃ b,passB p=b:=⟨_,rfl⟩;have HNM:=Lib.hid hnm;have HNL:=Lib.hid hnl;have HML:=Lib.hid hml;have HBP:=Lib.hid hbp;have HRR:=Lib.hid hR
 have hlt6:bp=true→n < 6:=fun e=>by have:=passB_lt (hbp.trans e);omega
 rw [hbp] at hvp;rw [hR];rw [hnm,hpu,hnl] at hvp hB hW ⊢;rw [hnm] at hn;rw [hnl] at h hcn hpl;rw [hml] at ht htn hat ⊢;have c0:W.cell? ⟨w.heap.size,0,none⟩=some (.string ⟨nm.toArray⟩):=hB.cell 0;have c1:W.cell? ⟨w.heap.size,1,none⟩=some (.int .i64 pu):=hB.cell 1;have c2:W.cell? ⟨w.heap.size,2,none⟩=some (.slice a n c):=hB.cell 2;have c3:W.cell? ⟨w.heap.size,3,none⟩=some vg:=hB.cell 3;have HVP:=Lib.hid hvp;have HA:=Lib.hid ha;have H:=Lib.hid h;have HT:=Lib.hid ht;have HB:=Lib.hid hB;have HK:=Lib.hid hkW;have HW:=Lib.hid hW;have HHN:=Lib.hid hn;clear hW hkW hB hnm hR hpu h hnl hml hbp hn ha hE ht hvp
 go_enter Tryz.func11,Tryz.ntmps11
 go_upto_region 1 with (fail);have hW':=HW.out;rw [hW'];clear hW' HW
 cases bp
 ·go_wp2_with (go_at_call 28;refine HVP.out.mono ?_;rintro e w5 ⟨rfl,k5⟩);refine vals_end rfl rfl ⟨HK.out.trans k5,?_⟩;have:=HRR.out
  unfold valsB at this
  rw [if_pos (Or.inl HBP.out)] at this;subst this
  rfl
 ·have hlt6:=hlt6 rfl
  by_cases hmn:m≤n
  ·have hmn':(m:Int)≤(n:Int):=by omega
   go_wp2_with (go_at_call 28;refine HVP.out.mono ?_;rintro e w5 ⟨rfl,k5⟩;have z2:w5.cell? ⟨w.heap.size,2,none⟩=some (.slice a n c):=Kept.cellOf c2 _ k5);refine vals_end rfl rfl ⟨HK.out.trans k5,?_⟩;have:=HRR.out
   unfold valsB at this
   rw [if_pos (Or.inr (by have:=HML.out;have:=HNL.out;omega))] at this;subst this
   rfl
  ·have hmn':¬ (m:Int)≤(n:Int):=by omega
   go_wp2_with (go_at_call 28;refine HVP.out.mono ?_;rintro e w5 ⟨rfl,k5⟩;have z2:w5.cell? ⟨w.heap.size,2,none⟩=some (.slice a n c):=Kept.cellOf c2 _ k5);have HMN:=Lib.hid hmn;have HK5:=Lib.hid k5;have HB5:=Lib.hid (HB.out.kept k5 (by simp));clear hmn' hmn c0 c1 c2 c3 z2 k5 HVP
   go_loopw [6,24] (fun v i wr=>∃ j:Nat,j≤n∧i=.int .i64 j∧Kept [] w5 wr∧wr.ownsRow w5.heap.size 82 2 v j (bindsC (valsTo p at_ j))∧∀ k,k < j→badV at_ k=false) (fun _ i _=>n - (intOf i).toNat)
   case atStart=>exact ⟨0,Nat.zero_le _,rfl,Kept.refl _ _,World.ownsRow_nil _ _ _ _,fun k hk=>absurd hk (by omega)⟩
   case round =>
    obtain ⟨j,hj,rfl,hkr,hown,hall⟩:=hrel;obtain ⟨oa,oc,rfl⟩:=own_len hown (by decide);have HALL:=Lib.hid hall;have HKR:=Lib.hid ((HK.out.trans HK5.out).trans hkr);have HKR5:=Lib.hid hkr;have HO:=Lib.hid hown;clear hall hown
    by_cases hlt:j < n
    ·have hlt':(j:Int) < (n:Int):=by omega
     have hjm:j+1 < m:=by have:=HMN.out;omega
     have hjm':(j:Int)+1 < (m:Int):=by omega
     obtain ⟨b,off,rfl,hc⟩:=(H.out.kept HKR.out).at_ (by omega);obtain ⟨tb,toff,rfl,htc⟩:=(HT.out.kept HKR.out).at_ (by omega)
     have hil:j < p.attrs.length:=by have:=HNL.out;omega
     have htl:j+1 < at_.length:=by have:=HML.out;omega
     obtain ⟨x,hx⟩:∃ x,p.attrs[j]=x:=⟨_,rfl⟩;obtain ⟨y,hy⟩:∃ y,at_[j+1]=y:=⟨_,rfl⟩;have hxl:x.length≤10000000:=HA.out x (hx▸List.getElem_mem hil)
     have y0:wr.cell? ⟨b,off+j,none⟩=some (.string ⟨x.toArray⟩):=by rw [hc j _ (strs_get hil),hx]
     have y1:wr.cell? ⟨tb,toff+(j+1),none⟩=some (.int .i64 y):=by rw [htc (j+1) _ (ints_get htl),hy]
     have hgx:p.attrs.getD j []=x:=by simp [List.getD_eq_getElem?_getD,hil,hx]
     have hgy:at_.getD (j+1) 0=y:=by simp [List.getD_eq_getElem?_getD,htl,hy]
     have hbad:badV at_ j=(decide (y < 0) || decide (65535 < y)):=by unfold badV;rw [hgy]
     have HSUC:Hid (valsTo p at_ (j+1)=valsTo p at_ j++[(nmA nm x,y)]):=Lib.hid (by rw [valsTo_succ,hgx,hgy,HNM.out]);have HBAD:=Lib.hid hbad;have hbr:=HB5.out.kept hkr (by simp);have d0:wr.cell? ⟨w.heap.size,0,none⟩=some (.string ⟨nm.toArray⟩):=hbr.cell 0
     have hfail:badV at_ j=true→R=.error 3:=fun hb=>by
      have:=HRR.out
      unfold valsB at this
      rw [if_neg (by rw [HBP.out];have:=HML.out;have:=HNL.out;have:=HMN.out;simp;omega),if_pos (List.any_eq_true.2 ⟨j,List.mem_range.2 hil,hb⟩)] at this;exact this.symm
     have HFL:=Lib.hid hfail;have hn':=HHN.out
     have sz1:(⟨nm.toArray⟩:ByteArray).size=nm.length:=by simp [ByteArray.size]
     have sz2:(⟨#[46]⟩:ByteArray).size=1:=rfl
     have sz3:(⟨x.toArray⟩:ByteArray).size=x.length:=by simp [ByteArray.size]
     have sz4:((⟨nm.toArray⟩:ByteArray)++(⟨#[46]⟩:ByteArray)).size=nm.length+1:=by rw [ByteArray.size_append,sz1,sz2]
     have e1:(⟨nm.toArray⟩:ByteArray)++⟨#[46]⟩++⟨x.toArray⟩=⟨(nmA nm x).toArray⟩:=by
      rw [show (⟨#[46]⟩:ByteArray)=⟨([46]:List UInt8).toArray⟩ from rfl,bcat,bcat]
      rfl
     clear hbad hc htc hx hy hgx hgy hfail hkr hbr
     by_cases h1:y < 0
     ·go_wp2_with fail;refine vals_end rfl rfl ⟨HKR.out,?_⟩;rw [HFL.out (by rw [HBAD.out];simp [h1])]
      rfl
     ·by_cases h2:65535 < y
      ·go_wp2_with fail;refine vals_end rfl rfl ⟨HKR.out,?_⟩;rw [HFL.out (by rw [HBAD.out];simp [h2])]
       rfl
      ·have hbase:w5.heap.size≤(wr.alloc (.cells #[.string ⟨(nmA nm x).toArray⟩,.int .i64 y] 82)).heap.size:=by have:=HKR5.out.size;rw [World.size_alloc];omega
       have HBS:=Lib.hid hbase;clear hbase;go_wp2_with (at_builtin;refine wpList_append_row rfl _ _ _ rfl w5.heap.size 82 i0 _ 2 24 Tryz.underlying30 hi hz0 hz1 hz2 rfl (by decide) (.slice oa j oc) j (bindsC (valsTo p at_ j)) rfl (own_keep HO.out (S:=[]) ((Kept.refl [] wr).alloc _) (by simp)) _ 1 [.string ⟨(nmA nm x).toArray⟩,.int .i64 y] rfl (row_of_blk (cs:=[.string ⟨(nmA nm x).toArray⟩,.int .i64 y]) (Blk.new _ _ _) rfl (by decide)) (by simp [Value.oneCell']) (by unfold maxLen;omega) (by omega) HBS.out ?_;intro a' c' w6 hown6 hg6 hl6;have HO6:=Lib.hid hown6;have HG6:=Lib.hid hg6;clear hown6 hg6 hl6)
       go_roundw
       case rel =>
        refine ⟨j+1,by omega,by go_num,((HKR5.out.alloc _).fresh HG6.out (fun z hz=>?_)),?_,fun k hk=>?_⟩
        ·exact (own_ge HO.out z hz).1
        ·rw [HSUC.out,binds_snoc];exact HO6.out
        ·by_cases e:k=j
         ·subst e;rw [HBAD.out];simp [h1,h2]
         ·exact HALL.out k (by omega)
       case measure=>simp [intOf];omega
    ·obtain rfl:j=n:=by omega
     go_wp2_with fail;refine vals_end rfl rfl ⟨HKR.out,?_⟩;have:=HRR.out
     unfold valsB at this
     rw [if_neg (by rw [HBP.out];have:=HML.out;have:=HNL.out;have:=HMN.out;simp;omega),if_neg (by rw [List.any_eq_true];rintro ⟨k,hk,hb⟩;rw [HALL.out k (by have:=List.mem_range.1 hk;have:=HNL.out;omega)] at hb;cases hb)] at this;subst this;refine ⟨_,rfl,?_⟩;rw [valsTo_len,HNL.out];exact ownsRow_base_a HO.out (HK.out.trans HK5.out).size
end Go.Proofs.YtpcmamoomaddoaaGreatDoor
/- ask.ValidBinds. -/
namespace Go.Proofs.YtpcmamoomaddoaaGreatDoor
open Go.RowKit Go.Maps
def BindR (_:World) (c:List Value) (b:Bnd):Prop:=c=[.string ⟨b.1.toArray⟩,.int .i64 b.2]
def badN (l:List Bnd) (i:Nat):Bool:=match l[i]? with|none=>false|some b=>decide (b.1∈(l.take i).map Prod.fst) || !validNameB b.1 || decide (b.2 < 0) || decide (65535 < b.2)
def bindsB (l:List Bnd):Bool:=!(List.range l.length).any (badN l)
theorem bindsB_bad {l:List Bnd} {i:Nat} (hi:i < l.length) (h:badN l i=true):bindsB l=false:=by
 unfold bindsB
 rw [show (List.range l.length).any (badN l)=true from List.any_eq_true.2 ⟨i,List.mem_range.2 hi,h⟩]
 rfl
theorem bindsB_done {l:List Bnd} (h:∀ i,i < l.length→badN l i=false):bindsB l=true:=by
 unfold bindsB
 rw [show (List.range l.length).any (badN l)=false from List.any_eq_false.2 fun i hi=>by rw [h i (List.mem_range.1 hi)];simp]
 rfl
theorem zeroBool:∀ w,(zeroValue 4).run Tryz.prog w=.ok (.bool false) w:=Tryz.zeroValue4
set_option maxRecDepth 100000 in
set_option maxHeartbeats 4000000 in
theorem validBinds_any {B:Nat} {w:World} {v:Value} {l:List Bnd} (h:RowOf BindR 2 w v l) (hs:∀ b∈l,b.1.length≤10000000) (hl:l.length≤100000) (hE:EnvB B w) :
  Calls Tryz.prog 99 #[v] w fun e w'=>e=.returned (.bool (bindsB l))∧Kept [] w w':=by
 have hmm:=@run_makeMap Tryz.prog;obtain ⟨a,c,rfl,hl63,hlc⟩:=h.form;obtain ⟨R,hR⟩:∃ R,bindsB l=R:=⟨_,rfl⟩;obtain ⟨n,hn⟩:∃ n,l.length=n:=⟨_,rfl⟩
 have G1:∀ i,i < n→badN l i=true→R=false:=fun i hi hb=>by rw [←hR];exact bindsB_bad (by omega) hb
 have G2:(∀ i,i < n→badN l i=false)→R=true:=fun h3=>by rw [←hR];exact bindsB_done (fun i hi=>h3 i (by omega))
 rw [hR];rw [hn] at h hlc hl63 hl ⊢;obtain ⟨m,hm⟩:∃ m,w.heap.size=m:=⟨_,rfl⟩;have hmade:MapAt strEnc (w.alloc (.map #[] 0)) m 0 (fun _=>none):=hm▸MapAt.made (E:=strEnc) w;have HMADE:=Lib.hid hmade;have HM:=Lib.hid hm;have H:=Lib.hid h;have HN:=Lib.hid hn;have HS:=Lib.hid hs;have HE:=Lib.hid hE;have G1:=Lib.hid G1;have G2:=Lib.hid G2;clear hR hn h hs hE hmade
 go_enter Tryz.func99,Tryz.ntmps99
 go_wp2_with fail
 (try rw [hm])
 clear hm
 go_loopw [9] (fun v wr=>∃ i:Nat,i≤n∧v=.int .i64 i∧Kept [] w wr∧MapAt strEnc wr m i (colS ((l.take i).map Prod.fst))∧∀ k,k < i→badN l k=false) (fun v _=>n - (intOf v).toNat)
 case atStart=>exact ⟨0,Nat.zero_le _,rfl,(Kept.refl _ _).alloc _,HMADE.out.congr fun x _=>by simp [colS],fun k hk=>absurd hk (by omega)⟩
 case round =>
  obtain ⟨i,hi,rfl,hkr,hmr,hall⟩:=hrel;have HALL:=Lib.hid hall;have HKR:=Lib.hid hkr;have HMR:=Lib.hid hmr;clear hall hmr
  by_cases hlt:i < n
  ·have hlt':(i:Int) < (n:Int):=by omega
   obtain ⟨b,off,rfl,hc⟩:=H.out.at_ (by have:=HN.out;omega);obtain ⟨p,hp⟩:∃ p,l[i]?=some p:=⟨_,List.getElem?_eq_getElem (by have:=HN.out;omega)⟩;obtain ⟨cp,q1,q2,q3⟩:=hc i p hp;have hps:=HS.out p (List.mem_of_getElem? hp)
   have htk:l.take (i+1)=l.take i++[p]:=by rw [List.take_succ_eq_append_getElem (by have:=HN.out;omega),(List.getElem?_eq_some_iff.1 hp).2]
   have hbad:badN l i=(decide (p.1∈(l.take i).map Prod.fst) || !validNameB p.1 || decide (p.2 < 0) || decide (65535 < p.2)):=by unfold badN;rw [hp]
   unfold BindR at q2
   subst q2;obtain ⟨x,y⟩:=p;have y0:wr.cell? ⟨b,off+i*2,none⟩=some (.string ⟨x.toArray⟩):=Kept.cellOf (q3 0 _ (by decide) rfl) _ hkr;have y1:wr.cell? ⟨b,off+i*2+1,none⟩=some (.int .i64 y):=Kept.cellOf (q3 1 _ (by decide) rfl) _ hkr;obtain ⟨wA,hwA⟩:∃ z,wr.alloc (.cells #[.string ⟨x.toArray⟩,.int .i64 y] 82)=z:=⟨_,rfl⟩;have kA:Kept [] wr wA:=hwA▸(Kept.refl _ _).alloc _;have hBA:Blk wA wr.heap.size 82 #[.string ⟨x.toArray⟩,.int .i64 y]:=hwA▸Blk.new _ _ _;have x0:wA.cell? ⟨wr.heap.size,0,none⟩=some (.string ⟨x.toArray⟩):=hBA.cell 0;have x1:wA.cell? ⟨wr.heap.size,1,none⟩=some (.int .i64 y):=hBA.cell 1;have HV:=Lib.hid (validName_any x wA (by show x.length≤_;have:x.length≤10000000:=hps;omega) (HE.out.kept0 (hkr.trans kA)));have HMA:=Lib.hid (HMR.out.kept kA (by simp));have HBA:=Lib.hid hBA;have HWA:=Lib.hid hwA;have HKA:=Lib.hid (hkr.trans kA);have HBAD:=Lib.hid hbad;have HTK:=Lib.hid htk;have HX:Hid (x.length≤maxLen):=Lib.hid (by have:x.length≤10000000:=hps;unfold maxLen;omega);clear hc q1 q3 hwA kA hBA hkr hp hps hbad htk;go_upto_region 5 with (fail);have hwA':=HWA.out;rw [hwA'];clear hwA' y0 y1 HWA
   by_cases hin:x∈(l.take i).map Prod.fst
   ·have hf:colS ((l.take i).map Prod.fst) x=some (.bool true):=by unfold colS;rw [if_pos hin]
    go_wp2_with (first
     | (at_lookup;refine wpList_look (E:=strEnc) HMA.out (x:=x) HX.out rfl _ _ 178 4 rfl Tryz.underlying178 (.bool false) zeroBool rfl rfl ?_;rw [hf];simp only [Option.getD_some])
     | go_in)
    go_ret;exact ⟨by rw [G1.out i hlt (by rw [HBAD.out,decide_eq_true hin];rfl)];rfl,HKA.out⟩
   ·have hf:colS ((l.take i).map Prod.fst) x=none:=by unfold colS;rw [if_neg hin]
    cases hvn:validNameB x
    ·rw [hvn] at HV;have HVN:=Lib.hid hvn;clear hvn
     go_wp2_with (first
      | (at_lookup;refine wpList_look (E:=strEnc) HMA.out (x:=x) HX.out rfl _ _ 178 4 rfl Tryz.underlying178 (.bool false) zeroBool rfl rfl ?_;rw [hf];simp only [Option.getD_none])
      | (go_at_call 62;refine HV.out.mono ?_;rintro e w5 ⟨rfl,k5⟩;have hb5:=HBA.out.kept k5 (by simp);have d0:w5.cell? ⟨wr.heap.size,0,none⟩=some (.string ⟨x.toArray⟩):=hb5.cell 0;have d1:w5.cell? ⟨wr.heap.size,1,none⟩=some (.int .i64 y):=hb5.cell 1;have hm5:=HMA.out.kept k5 (by simp);have HM5:=Lib.hid hm5;have HK5:=Lib.hid k5;clear hb5 hm5 k5)
      | go_in)
     go_ret;exact ⟨by rw [G1.out i hlt (by rw [HBAD.out,HVN.out];simp)];rfl,HKA.out.trans HK5.out⟩
    ·rw [hvn] at HV;have HVN:=Lib.hid hvn;clear hvn
     by_cases h1:y < 0
     ·go_wp2_with (first
       | (at_lookup;refine wpList_look (E:=strEnc) HMA.out (x:=x) HX.out rfl _ _ 178 4 rfl Tryz.underlying178 (.bool false) zeroBool rfl rfl ?_;rw [hf];simp only [Option.getD_none])
       | (go_at_call 62;refine HV.out.mono ?_;rintro e w5 ⟨rfl,k5⟩;have hb5:=HBA.out.kept k5 (by simp);have d0:w5.cell? ⟨wr.heap.size,0,none⟩=some (.string ⟨x.toArray⟩):=hb5.cell 0;have d1:w5.cell? ⟨wr.heap.size,1,none⟩=some (.int .i64 y):=hb5.cell 1;have hm5:=HMA.out.kept k5 (by simp);have HM5:=Lib.hid hm5;have HK5:=Lib.hid k5;clear hb5 hm5 k5)
       | go_in)
      go_ret;exact ⟨by rw [G1.out i hlt (by rw [HBAD.out,decide_eq_true h1];simp)];rfl,HKA.out.trans HK5.out⟩
     ·by_cases h2:65535 < y
      ·go_wp2_with (first
        | (at_lookup;refine wpList_look (E:=strEnc) HMA.out (x:=x) HX.out rfl _ _ 178 4 rfl Tryz.underlying178 (.bool false) zeroBool rfl rfl ?_;rw [hf];simp only [Option.getD_none])
        | (go_at_call 62;refine HV.out.mono ?_;rintro e w5 ⟨rfl,k5⟩;have hb5:=HBA.out.kept k5 (by simp);have d0:w5.cell? ⟨wr.heap.size,0,none⟩=some (.string ⟨x.toArray⟩):=hb5.cell 0;have d1:w5.cell? ⟨wr.heap.size,1,none⟩=some (.int .i64 y):=hb5.cell 1;have hm5:=HMA.out.kept k5 (by simp);have HM5:=Lib.hid hm5;have HK5:=Lib.hid k5;clear hb5 hm5 k5)
        | go_in)
       go_ret;exact ⟨by rw [G1.out i hlt (by rw [HBAD.out,decide_eq_true h2];simp)];rfl,HKA.out.trans HK5.out⟩
      ·have him:i < maxLen:=by unfold maxLen;omega
       go_wp2_with (first
        | (at_lookup;refine wpList_look (E:=strEnc) HMA.out (x:=x) HX.out rfl _ _ 178 4 rfl Tryz.underlying178 (.bool false) zeroBool rfl rfl ?_;rw [hf];simp only [Option.getD_none])
        | (go_at_call 62;refine HV.out.mono ?_;rintro e w5 ⟨rfl,k5⟩;have hb5:=HBA.out.kept k5 (by simp);have d0:w5.cell? ⟨wr.heap.size,0,none⟩=some (.string ⟨x.toArray⟩):=hb5.cell 0;have d1:w5.cell? ⟨wr.heap.size,1,none⟩=some (.int .i64 y):=hb5.cell 1;have hm5:=HMA.out.kept k5 (by simp);have HM5:=Lib.hid hm5;have HK5:=Lib.hid k5;clear hb5 hm5 k5)
        | (at_mapUpdate;refine wpList_set (E:=strEnc) HM5.out (x:=x) HX.out rfl _ _ _ 178 4 rfl Tryz.underlying178 him (.bool true) rfl rfl rfl ?_;intro w6 hm6 hg6 hs6;have HM6:=Lib.hid hm6;have HG6:=Lib.hid (Kept.of_turned hg6 (List.mem_singleton_self m));clear hm6 hg6 hs6)
        | go_in)
       go_roundw
       case rel =>
        refine ⟨i+1,by omega,by go_num,(HKA.out.trans HK5.out).fresh HG6.out (fun z hz=>by rw [List.mem_singleton] at hz;have:=HM.out;omega),?_,fun k hk=>?_⟩
        ·refine HM6.out.congr fun z _=>?_;rw [HTK.out,List.map_append]
         unfold colS
         by_cases e:z=x
         ·simp [e]
         ·simp [e]
        ·by_cases e:k=i
         ·subst e;rw [HBAD.out,HVN.out,decide_eq_false hin,show decide (y < 0)=false by simp;omega,show decide (65535 < y)=false by simp;omega];rfl
         ·exact HALL.out k (by omega)
       case measure=>simp [intOf];omega
  ·obtain rfl:i=n:=by omega
   go_wp2_with fail;go_ret;exact ⟨by rw [G2.out (fun k hk=>HALL.out k hk)];rfl,HKR.out⟩
end Go.Proofs.YtpcmamoomaddoaaGreatDoor
/- crowd: within, validUse. -/
namespace Go.Proofs.YtpcmamoomaddoaaGreatDoor
open Go.RowKit
def withinB (n lo hi:Int):Bool:=decide (lo≤n)&&decide (n≤hi)
theorem within_any (n lo hi:Int) (w:World) :
  Calls Tryz.prog 98 #[.int .i64 n,.int .i64 lo,.int .i64 hi] w fun e w'=>e=.returned (.bool (withinB n lo hi))∧w'=w:=by
 unfold withinB
 by_cases h1:lo≤n
 ·by_cases h2:n≤hi
  ·go_enter Tryz.func98,Tryz.ntmps98
   go_wp2_with fail;go_ret
   simp [h1,h2]
  ·go_enter Tryz.func98,Tryz.ntmps98
   go_wp2_with fail;go_ret
   simp [h2]
   try omega
 ·go_enter Tryz.func98,Tryz.ntmps98
  go_wp2_with fail;go_ret
  simp
  try omega
/-- a use -/
structure Sn where
 q:Int
 win:Int
 asof:Int
 hold:Int
def useB (nq nm:Nat) (x:Sn):Bool:=withinB x.q 0 ((nq:Int) - 1)&&withinB x.win 0 15&&withinB x.asof 0 16&&withinB x.hold (-1) ((nm:Int) - 1)
set_option maxRecDepth 100000 in
set_option maxHeartbeats 4000000 in
theorem validUse_any (nq nm nu cq cm cu:Nat) (qa ma ua:Option Addr) (x:Sn) (w:World) (hq:nq≤1000000) (hm:nm≤1000000) :
  Calls Tryz.prog 59 #[.agg #[.slice qa nq cq,.slice ma nm cm,.slice ua nu cu],.agg #[.int .i64 x.q,.int .i64 x.win,.int .i64 x.asof,.int .i64 x.hold]] w fun e w'=>e=.returned (.bool (useB nq nm x))∧Kept [] w w':=by
 obtain ⟨x0,x1,x2,x3⟩:=x;obtain ⟨R,hR⟩:∃ R,useB nq nm ⟨x0,x1,x2,x3⟩=R:=⟨_,rfl⟩;rw [hR]
 unfold useB at hR
 simp only at hR
 have H1:=Lib.hid (fun w'=>within_any x0 0 ((nq:Int) - 1) w');have H2:=Lib.hid (fun w'=>within_any x1 0 15 w');have H3:=Lib.hid (fun w'=>within_any x2 0 16 w');have H4:=Lib.hid (fun w'=>within_any x3 (-1) ((nm:Int) - 1) w');obtain ⟨b1,hb1⟩:∃ b,withinB x0 0 ((nq:Int) - 1)=b:=⟨_,rfl⟩;obtain ⟨b2,hb2⟩:∃ b,withinB x1 0 15=b:=⟨_,rfl⟩;obtain ⟨b3,hb3⟩:∃ b,withinB x2 0 16=b:=⟨_,rfl⟩;obtain ⟨b4,hb4⟩:∃ b,withinB x3 (-1) ((nm:Int) - 1)=b:=⟨_,rfl⟩;rw [hb1] at H1 hR;rw [hb2] at H2 hR;rw [hb3] at H3 hR;rw [hb4] at H4 hR;clear hb1 hb2 hb3 hb4;obtain ⟨W,hW⟩:∃ W,(w.alloc (.cells #[.slice qa nq cq,.slice ma nm cm,.slice ua nu cu] 67)).alloc (.cells #[.int .i64 x0,.int .i64 x1,.int .i64 x2,.int .i64 x3] 84)=W:=⟨_,rfl⟩;have hkW:Kept [] w W:=hW▸((Kept.refl _ _).alloc _).alloc _;have hB0:Blk W w.heap.size 67 #[.slice qa nq cq,.slice ma nm cm,.slice ua nu cu]:=hW▸(Blk.new _ _ _).alloc _;have hB1:Blk W (w.heap.size+1) 84 #[.int .i64 x0,.int .i64 x1,.int .i64 x2,.int .i64 x3]:=hW▸Blk.new1 _ _ _ _;have a0:W.cell? ⟨w.heap.size,0,none⟩=some (.slice qa nq cq):=hB0.cell 0;have a1:W.cell? ⟨w.heap.size,1,none⟩=some (.slice ma nm cm):=hB0.cell 1;have c0:W.cell? ⟨w.heap.size+1,0,none⟩=some (.int .i64 x0):=hB1.cell 0;have c1:W.cell? ⟨w.heap.size+1,1,none⟩=some (.int .i64 x1):=hB1.cell 1;have c2:W.cell? ⟨w.heap.size+1,2,none⟩=some (.int .i64 x2):=hB1.cell 2;have c3:W.cell? ⟨w.heap.size+1,3,none⟩=some (.int .i64 x3):=hB1.cell 3;have HK:=Lib.hid hkW;have HW:=Lib.hid hW;clear hW hkW hB0 hB1
 cases b1 <;> cases b2 <;> cases b3 <;> (
  go_enter Tryz.func59,Tryz.ntmps59
  go_upto_region 1 with (fail);have hW':=HW.out;rw [hW'];clear hW'
  go_wp2_with (first
   | (go_at_call 98;(with_reducible refine (H1.out _).mono ?_);rintro e w5 ⟨rfl,rfl⟩)
   | (go_at_call 98;(with_reducible refine (H2.out _).mono ?_);rintro e w5 ⟨rfl,rfl⟩)
   | (go_at_call 98;(with_reducible refine (H3.out _).mono ?_);rintro e w5 ⟨rfl,rfl⟩)
   | (go_at_call 98;(with_reducible refine (H4.out _).mono ?_);rintro e w5 ⟨rfl,rfl⟩))
  go_ret
  exact ⟨by rw [←hR];rfl,HK.out⟩)
end Go.Proofs.YtpcmamoomaddoaaGreatDoor
/- crowd: validMember. -/
namespace Go.Proofs.YtpcmamoomaddoaaGreatDoor
open Go.RowKit Go.Shelf Go.Lib
def oddB (n:Int):Bool:=!withinB n 0 4096
set_option maxHeartbeats 1000000 in
theorem odd_any (n:Int) (w:World):Calls Tryz.prog 97 #[.int .i64 n] w fun e w'=>e=.returned (.bool (oddB n))∧w'=w:=by
 have H:=Lib.hid (within_any n 0 4096 w)
 unfold oddB
 obtain ⟨b,hb⟩:∃ b,withinB n 0 4096=b:=⟨_,rfl⟩;rw [hb] at H ⊢;clear hb
 go_enter Tryz.func97,Tryz.ntmps97
 go_wp2_with (go_at_call 98;(with_reducible refine H.out.mono ?_);rintro e w5 ⟨rfl,rfl⟩);go_ret;exact ⟨rfl,rfl⟩
theorem odds_any {w:World} {v:Value} {l:List Int} {n:Nat} (h:Row w 1 v n (ints l)) :
  Calls Tryz.prog 100 #[v,.func (.func 97) #[] #[]] w fun e w'=>e=.returned (.bool (l.any oddB))∧Kept [] w w':=by
 have e1:l.length=n:=by have:=h.1;simpa [ints] using this
 obtain ⟨a,c,rfl,m1,_⟩:=h.form
 rcases Nat.eq_zero_or_pos l.length with h0|hp
 ·have:=List.eq_nil_of_length_eq_zero h0;subst this
  have:n=0:=by simpa using e1.symm
  subst this;refine (Tryz.slices_ContainsFunc_empty (α:=Int) a c _ w).mono ?_;rintro e w' ⟨rfl,rfl⟩;exact ⟨rfl,Kept.refl _ _⟩
 ·obtain ⟨b,off,rfl,hcell⟩:=h.at_ (by omega);have eg:∀ args w,(callFunc 97 args).run Tryz.prog w=.ok (.enter 97 args) w:=enters_of Tryz.func97 (by kernel_rfl) rfl
  have:=Tryz.slices_ContainsFunc (α:=Int) (Value.int .i64) oddB 97 #[] eg b off n c l w (fun W x _=>by
   exact (odd_any x W).mono fun e w' ⟨he,hw⟩=>⟨he,0,by rw [hw];rfl⟩) (by omega) m1 (fun j hj=>by
   rw [hcell j _ (ints_get hj)]
   simp [hj])
  refine this.mono ?_;rintro e w' ⟨rfl,q,rfl⟩;exact ⟨by rw [List.take_of_length_le (by omega)],(Kept.refl _ _).drewN q⟩
/-- a member -/
structure Mb where
 binds:List Bnd
 tickets:List Int
 rev:Int
def memB (m:Mb):Bool:=bindsB m.binds&&decide (m.tickets.length≤16)&&!m.tickets.any oddB&&withinB m.rev (-1) 16
set_option maxRecDepth 100000 in
set_option maxHeartbeats 4000000 in
theorem validMember_any {B:Nat} {w:World} {m:Mb} {vb vt:Value} (hb:RowOf BindR 2 w vb m.binds) (ht:Row w 1 vt m.tickets.length (ints m.tickets)) (hs:∀ b∈m.binds,b.1.length≤10000000) (hl:m.binds.length≤100000) (hE:EnvB B w) :
  Calls Tryz.prog 56 #[.agg #[vb,vt,.int .i64 m.rev]] w fun e w'=>e=.returned (.bool (memB m))∧Kept [] w w':=by
 obtain ⟨bs,ts,rv⟩:=m
 dsimp only at hb ht hs hl ⊢
 obtain ⟨R,hR⟩:∃ R,memB ⟨bs,ts,rv⟩=R:=⟨_,rfl⟩;rw [hR]
 unfold memB at hR
 simp only at hR
 obtain ⟨W,hW⟩:∃ W,w.alloc (.cells #[vb,vt,.int .i64 rv] 74)=W:=⟨_,rfl⟩;have hkW:Kept [] w W:=hW▸(Kept.refl _ _).alloc _;have hB:Blk W w.heap.size 74 #[vb,vt,.int .i64 rv]:=hW▸Blk.new _ _ _;have hbW:RowOf BindR 2 W vb bs:=RowOf.kept hb (fun _ _ x=>x) hkW;have H1:=Lib.hid (validBinds_any hbW hs hl (hE.kept0 hkW));have H2:=Lib.hid (fun (w':World) (k:Kept [] W w')=>odds_any (ht.kept (hkW.trans k)));have H3:=Lib.hid (fun w'=>within_any rv (-1) 16 w');obtain ⟨ba,bc,rfl,_,_⟩:=hb.form;obtain ⟨ta,tc,rfl,_,_⟩:=ht.form;obtain ⟨n,hn⟩:∃ n,ts.length=n:=⟨_,rfl⟩;obtain ⟨nb,hnb⟩:∃ n,bs.length=n:=⟨_,rfl⟩;obtain ⟨b1,hb1⟩:∃ b,bindsB bs=b:=⟨_,rfl⟩;obtain ⟨b2,hb2⟩:∃ b,ts.any oddB=b:=⟨_,rfl⟩;obtain ⟨b3,hb3⟩:∃ b,withinB rv (-1) 16=b:=⟨_,rfl⟩;rw [hb1] at H1 hR;rw [hb2] at H2 hR;rw [hb3] at H3 hR;rw [hn] at H2 hR hB hW ⊢;rw [hnb] at H1 hB hW ⊢;have c0:W.cell? ⟨w.heap.size,0,none⟩=some (.slice ba nb bc):=hB.cell 0;have HB:=Lib.hid hB;have HK:=Lib.hid hkW;have HW:=Lib.hid hW;clear hW hkW hB hb1 hb2 hb3 hb hbW ht hs hE hn hnb
 by_cases h16:n≤16
 ·have h16':(n:Int)≤16:=by omega
  rw [decide_eq_true h16] at hR
  cases b1 <;> cases b2 <;> (
   go_enter Tryz.func56,Tryz.ntmps56
   go_upto_region 2 with (fail);have hW':=HW.out;rw [hW'];clear hW'
   go_wp2_with (first
    | (go_at_call 99;(with_reducible refine H1.out.mono ?_);rintro e w5 ⟨rfl,k5⟩;have hb5:=HB.out.kept k5 (by simp);have d1:w5.cell? ⟨w.heap.size,1,none⟩=some (.slice ta n tc):=hb5.cell 1;have d2:w5.cell? ⟨w.heap.size,2,none⟩=some (.int .i64 rv):=hb5.cell 2;have K5:=Lib.hid k5;clear hb5 k5)
    | (go_at_call 100;(with_reducible refine (H2.out _ K5.out).mono ?_);rintro e w6 ⟨rfl,k6⟩;have e2:w6.cell? ⟨w.heap.size,2,none⟩=some (.int .i64 rv):=Kept.cellOf d2 _ k6;have K6:=Lib.hid k6;clear k6)
    | (go_at_call 98;(with_reducible refine (H3.out _).mono ?_);rintro e w7 ⟨rfl,rfl⟩))
   go_ret
   first
    | exact ⟨by rw [←hR];rfl,(HK.out.trans K5.out).trans K6.out⟩
    | exact ⟨by rw [←hR];rfl,HK.out.trans K5.out⟩)
 ·have h16':¬ (n:Int)≤16:=by omega
  rw [decide_eq_false h16] at hR
  cases b1 <;> (
   go_enter Tryz.func56,Tryz.ntmps56
   go_upto_region 2 with (fail);have hW':=HW.out;rw [hW'];clear hW';go_wp2_with (go_at_call 99;(with_reducible refine H1.out.mono ?_);rintro e w5 ⟨rfl,k5⟩;have hb5:=HB.out.kept k5 (by simp);have d1:w5.cell? ⟨w.heap.size,1,none⟩=some (.slice ta n tc):=hb5.cell 1;have K5:=Lib.hid k5;clear hb5 k5);go_ret
   exact ⟨by rw [←hR];rfl,HK.out.trans K5.out⟩)
end Go.Proofs.YtpcmamoomaddoaaGreatDoor
namespace Go.Proofs.YtpcmamoomaddoaaGreatDoor
open Go.RowKit
theorem dec_nil {α:Type} [DecidableEq α] (l:List α):decide (l.length=0)=decide ([]=l):=by
 cases l <;> simp
theorem dec_lens {α:Type} [DecidableEq α] {l m:List α} (h:l.length≠m.length):decide (l=m)=false:=by
 simp only [decide_eq_false_iff_not];intro e;exact h (by rw [e])
theorem maps_inj:∀ l m:List Bs,(l.map fun s=>(⟨s.toArray⟩:ByteArray))=m.map (fun s=>⟨s.toArray⟩)→l=m
 | [],[],_=>rfl
 | [],_::_,h=>by cases h
 | _::_,[],h=>by cases h
 | a::l,b::m,h=>by
  rw [List.map_cons,List.map_cons] at h;have h1:=(List.cons.inj h).1;have h2:=(List.cons.inj h).2;rw [bytes_inj h1,maps_inj l m h2]
theorem equal_strs {w:World} {v1 v2:Value} {l1 l2:List Bs} {n1 n2:Nat} (h1:Row w 1 v1 n1 (strs l1)) (h2:Row w 1 v2 n2 (strs l2)) :
  Calls Tryz.prog 83 #[v1,v2] w fun e w'=>e=.returned (.bool (decide (l1=l2)))∧Kept [] w w':=by
 have e1:l1.length=n1:=by have:=h1.1;simpa [strs] using this
 have e2:l2.length=n2:=by have:=h2.1;simpa [strs] using this
 obtain ⟨a1,c1,rfl,m1,_⟩:=h1.form;obtain ⟨a2,c2,rfl,m2,_⟩:=h2.form
 by_cases hz:n1=0
 ·subst hz;have:=List.eq_nil_of_length_eq_zero e1;subst this;refine (Tryz.slices_Equal_string_empty a1 a2 c1 n2 c2 w m2).mono ?_;rintro e w' ⟨rfl,rfl⟩;exact ⟨by rw [←e2,dec_nil],Kept.refl _ _⟩
 ·by_cases hne:n1=n2
  ·obtain ⟨b1,o1,rfl,k1⟩:=h1.at_ (by omega);obtain ⟨b2,o2,rfl,k2⟩:=h2.at_ (by omega)
   have:=Tryz.slices_Equal_string b1 o1 n1 c1 b2 o2 n2 c2 (l1.map fun s=>⟨s.toArray⟩) (l2.map fun s=>⟨s.toArray⟩) w (by simp;omega) (by simp;omega) m1 m2
    (fun j hj=>by
     rw [List.length_map] at hj;rw [k1 j _ (strs_get hj)]
     simp [List.getD_eq_getElem?_getD,hj])
    (fun j hj=>by
     rw [List.length_map] at hj;rw [k2 j _ (strs_get hj)]
     simp [List.getD_eq_getElem?_getD,hj])
   refine this.mono ?_;rintro e w' ⟨rfl,q,rfl⟩;refine ⟨?_,(Kept.refl _ _).drewN q⟩
   congr 2
   rw [List.take_of_length_le (by simp;omega),List.take_of_length_le (by simp;omega)];rw [decide_eq_decide]
   constructor
   ·exact maps_inj l1 l2
   ·intro h;rw [h]
  ·refine (Tryz.slices_Equal_string_lens a1 a2 n1 c1 n2 c2 w hne).mono ?_;rintro e w' ⟨rfl,rfl⟩;exact ⟨by rw [dec_lens (by omega)],Kept.refl _ _⟩
/-- slices.Index at ints -/
theorem index_ints {w:World} {v:Value} {l:List Int} {n:Nat} (h:Row w 1 v n (ints l)) (x:Int) :
  Calls Tryz.prog 86 #[v,.int .i64 x] w fun e w'=>e=.returned (.int .i64 (Lib.idxOf l x))∧w'=w:=by
 have e1:l.length=n:=by have:=h.1;simpa [ints] using this
 obtain ⟨a,c,rfl,m1,_⟩:=h.form
 rcases Nat.eq_zero_or_pos l.length with h0|hp
 ·have:=List.eq_nil_of_length_eq_zero h0;subst this
  have:n=0:=by simpa using e1.symm
  subst this;exact Tryz.slices_Index_int_empty a c x w
 ·obtain ⟨b,off,rfl,hcell⟩:=h.at_ (by omega)
  have:=Tryz.slices_Index_int b off n c l x w (by omega) m1 (fun j hj=>by
   rw [hcell j _ (ints_get hj)]
   simp [List.getD_eq_getElem?_getD,hj])
  rwa [List.take_of_length_le (by omega)] at this
end Go.Proofs.YtpcmamoomaddoaaGreatDoor
