import Derived.Test.YtpcmamoomaddoaaGreatDoorRck
import Derived.Lib.SliceRun
set_option maxRecDepth 100000
set_option maxHeartbeats 32000000
namespace Go.Proofs.YtpcmamoomaddoaaGreatDoor
open Go.RowKit Go.Maps
open Go.Proofs.Tryz
open Lib(hid)
theorem xM{k:Nat}(h:k < 1000000):(Lit.int .i64 (k:Int)).wf=true:=by
 have h1:IntKind.min .i64=-9223372036854775808:=by decide
 have h2:IntKind.max .i64=9223372036854775807:=by decide
 simp[Lit.wf,h1,h2]
 omega
theorem pU{W0:World}{C:PC}{c:Crw}{can:List (List Bool)}(hr:Rck W0 C.kb c can){d:Nat}(ih:mz W0 C (mtOf c can hr.lens) c.us.length d):mz W0 C (mtOf c can hr.lens) c.us.length (d+1):=by
 intro w N rv R A T G x hd hP hG hx hT hA hroom hN;obtain⟨M,hM⟩:∃M,mtOf c can hr.lens=M:=⟨_,rfl⟩;have hwin:M.win=winB c:=hM▸rfl;have hcan:M.can=canB can:=hM▸rfl;have hcap:M.cap=capB c:=hM▸rfl;have hnm:M.nm=c.ms.length:=hM▸rfl;rw[hM]at ih hG hT hroom ⊢;obtain⟨s,row,hs,hrow,hrl,hsw,hw16,hcx⟩:=hr.use hx;obtain⟨vq,vm,vu,vh,vc,hkb,hms,hus,hcr,_⟩:=hr.rows;obtain⟨ma,mc,rfl,_,_⟩:=aj.form hms;obtain⟨ua,uc,rfl,hus63,husc⟩:=aj.form hus;obtain⟨ca,cc,rfl,hca63,hcac⟩:=aj.form hcr;obtain⟨ub,uo,rfl,huc⟩:=hus.at_ (by omega);obtain⟨us',u1,u2,u3⟩:=huc x s hs;have u2':us'=[.int .i64 s.q,.int .i64 s.win,.int .i64 s.asof,.int .i64 s.hold]:=u2;subst u2';obtain⟨cb,co,vrow,rfl,hc1,hc2⟩:=hcr.one x (by have:=hr.len;omega)
 have hc2':Row W0 1 vrow row.length (aB row):=by
  obtain⟨v,e1,e2⟩:=hc2;injection e1 with e1 _;subst e1
  have:can[x]'(by have:=hr.len;omega)=row:=by have:=hrow;rw[List.getElem?_eq_getElem (by have:=hr.len;omega)]at this;injection this
  rw[this]at e2;exact e2
 obtain⟨wa,wc,rfl,_,hwc⟩:=hc2'.form
 have hwx:M.win x=winB c x:=by rw[hwin]
 obtain⟨wi,hwi⟩:∃wi,winB c x=wi:=⟨_,rfl⟩;rw[hwi]at hsw hw16 hwx;rw[hwx]at hroom;obtain⟨nm,hnm'⟩:∃n,c.ms.length=n:=⟨_,rfl⟩;obtain⟨nu,hnu⟩:∃n,c.us.length=n:=⟨_,rfl⟩;have hb:=hr.us.1;have hmb:=hr.ms.1;rw[hnm']at hnm hrl hmb;rw[hnu]at hx hA hb
 have hcl:can.length=nu:=by have:=hr.len;omega
 rw[hrl]at hc2' hwc hc1;rw[hnm',hnu,hcl]at hkb;rw[hnu]at ih;rw[hsw]at u3
 have hx63:(x:Int) < (nu:Int):=by omega
 obtain⟨ra,rc,hre,hrl63⟩:=cT (hP.rws.own 16 0);have hown:=hP.rws.own 16 0;rw[gY,bJ]at hre hrl63;rw[gY]at hown;rw[hre]at hown;have hP1:=hP.kept0 ((Kept.refl [] w).alloc (.cells #[.int .i64 (x:Int)] 3))
 have ho1:(w.alloc (.cells #[.int .i64 (x:Int)] 3)).ownsRow W0.heap.size 3 1 (.slice ra R.length rc) R.length (ints (nats R)):=by
  have:=ax hown ((Kept.refl [] w).alloc (.cells #[.int .i64 (x:Int)] 3)) (by simp)
  rwa [bJ]at this
 have hrx:Row (w.alloc (.cells #[.int .i64 (x:Int)] 3)) 1 (.slice (some ⟨w.heap.size,0,none⟩) 1 1) 1 (ints [(x:Int)]):=al (cs:=ints [(x:Int)]) (Blk.new _ _ _) rfl (by decide);have hbase:W0.heap.size<=(w.alloc (.cells #[.int .i64 (x:Int)] 3)).heap.size:=hP1.cl.k0.size
 have a0:w.cell? ⟨C.rb,0,none⟩=some (.slice ra R.length rc):=by have:=hP.cl.hr.cell 0;rw[hre]at this;exact this
 have HP:=hid hP;have HP1:=hid hP1;have HG:=hid hG;have HT:=hid hT;have HA:=hid hA;have HD:=hid hd;have HROOM:=hid hroom;have HRE:=hid hre;have HKB:=hid hkb;have HMS:=hid hms;have HR:=hid hr;have HWX:=hid hwx;have HWI:=hid hwi;have HNM:=hid hnm;have HNM':=hid hnm';have HNU:=hid hnu;have HCX:=hid hcx;have HCAN:=hid hcan;have HCAP:=hid hcap;have HU:=hid (u3 1 _ (by decide) rfl);have HC1:=hid hc1;have HC2:=hid hc2';have HIH:=hid ih;have HRL:Hid (R.length<=500000000):=hid (by omega);clear hP hP1 hG hT hA hd hroom hkb hms hus hcr hc1 hc2 hc2' hM hwx hwi hnm hnm' hcx hcan hcap u1 u3 huc ih hwin hs hrow hown hcl hr u2 hca63 hus63 hre
 have hR9:R.length+1<=1000000000:=by have:=HRL.out;omega
 go_enter func225,ntmps225
 go_upto_region 2 with(first
  |(refine bE rfl _ _ rfl W0.heap.size (.slice ra R.length rc) R.length (nats R) rfl ho1 _ 1 [(x:Int)] rfl hrx hR9 hbase ?_;intro a' c' w2 h2 k2 z2;have k2':Kept (obl (rv 16 0)) (w.alloc (.cells #[.int .i64 (x:Int)] 3)) w2:=(by rw[HRE.out];exact k2);have hrb2:=HP1.out.cl.ints k2' (fun _ hz _=>HP1.out.obl_int hz);have a2:w2.cell? ⟨C.rb,0,none⟩=some (.slice ra R.length rc):=(by have:=hrb2.hr.cell 0;rw[HRE.out]at this;exact this);have f2:=hrb2.hr.frozen 0)
  |go_in)
 clear a2 f2 hrb2 ho1 hrx hbase a0 k2 hR9;rw[<-lM]at h2;have hP3:=HP1.out.reach (x:=x) k2' (by rw[bJ,List.length_append,List.length_singleton];exact h2) (fun z hz=>by rw[HRE.out];exact(z2 z hz).imp id fun e=>by rw[e];exact Nat.le_refl _);obtain⟨w3,hw3⟩:∃y,w2.setCell ⟨C.rb,0,none⟩ (.slice a' (R.length+1) c')=y:=⟨_,rfl⟩;obtain⟨rv3,hrv3⟩:∃y,upd2 rv 16 0 (.slice a' (R.length+1) c')=y:=⟨_,rfl⟩
 have HRV3:Hid (∀i m,i < 16->tf T m=true->rv3 i m=rv i m):=hid fun i m hi _=>by rw[<-hrv3,bF (by omega)]
 rw[hw3,hrv3]at hP3;rw[hw3];have HP3:=hid hP3;have b0:w3.cell? ⟨C.rk,0,none⟩=some (.pointer (some ⟨C.kb,0,none⟩)):=hP3.cl.hk.cell 0;have b1:w3.cell? ⟨C.kb,2,none⟩=some (.slice (some ⟨ub,uo,none⟩) nu uc):=Kept.cellOf (HKB.out.cell 2) _ hP3.cl.k0;have b2:w3.cell? ⟨C.kb,4,none⟩=some (.slice (some ⟨cb,co,none⟩) nu cc):=Kept.cellOf (HKB.out.cell 4) _ hP3.cl.k0;have b3:w3.cell? ⟨ub,uo+x*4+1,none⟩=some (.int .i64 (wi:Int)):=Kept.cellOf (by have:=HU.out;rwa [<-Nat.add_assoc]at this) _ hP3.cl.k0;have b4:w3.cell? ⟨cb,co+x,none⟩=some (.slice wa nm wc):=Kept.cellOf HC1.out _ hP3.cl.k0;clear hw3 hrv3 hP3 h2 z2 k2' HP1 HP HRE;have hxn:(x:Int) < (nu:Int):=hx63;have HHALF:Hid (Half M G wi x 0 (tf T) (tf T) R (R++[x])):=Half.start;have HTN:Hid (T.length=nm):=hid (HT.out.trans HNM.out);go_wp2_with fail;clear b0 b1 b2 b3 b4
 go_loopw [36] (fun v wv=>∃(k:Nat) (rv':Nat->Nat->Value) (R':List Nat) (A':List Int) (T':List Bool),v=.int .i64 (k:Int)/\k<=nm/\Pst W0 wv C N rv' R' A' T' G/\A'.length=nu/\T'.length=nm/\Half M G wi x k (tf T) (tf T') R R'/\∀i m,i < 16->tf T m=true->rv' i m=rv i m) (fun v _=>nm - (intOf v).toNat)
 case atStart=>exact⟨0,rv3,R++[x],A,T,rfl,Nat.zero_le _,HP3.out,HA.out,HTN.out,HHALF.out,HRV3.out⟩
 case round =>
  obtain⟨k,rv',R',A',T',rfl,hkn,hP,hA',hT',hH,hRV⟩:=hrel;have HRV:=hid hRV;have HP:=hid hP;have HA':=hid hA';have HT':=hid hT';have HH:=hid hH;clear HP3 HHALF HRV3 hRV
  by_cases hlt:k < nm
  ·have hlt':(k:Int) < (nm:Int):=by omega
   obtain⟨wb,wo,hwa,hwc2⟩:=HC2.out.at_ (by omega);subst hwa;obtain⟨ok,hok⟩:∃b,tf row k=b:=⟨_,rfl⟩;obtain⟨tk,htk⟩:∃b,tf T' k=b:=⟨_,rfl⟩;have e0:wr.cell? ⟨wb,wo+k,none⟩=some (.bool ok):=Kept.cellOf (hwc2 k _ (by rw[<-hok];unfold tf aB;rw[List.getElem?_map,List.getElem?_eq_getElem (by omega)];rfl)) _ hP.cl.k0
   have e1:wr.cell? ⟨C.tb,0,none⟩=some (.slice (some ⟨C.trb,0,none⟩) nm nm):=by have:=hP.cl.ht.cell 0;rw[hT']at this;exact this
   have e2:wr.cell? ⟨C.trb,k,none⟩=some (.bool tk):=by
    rw[hP.cl.htr.cell k,<-htk]
    unfold tf aB
    simp[show k < T'.length by omega]
   have f2:=hP.cl.htr.frozen k;have HOK:=hid hok;have HTK:=hid htk;clear hwc2 hP hA' hT' hH hok htk
   cases ok with
   |false =>
    go_wp2_with fail
    go_roundw
    case rel=>exact⟨k+1,rv',R',A',T',by go_num,by omega,HP.out,HA'.out,HT'.out,HH.out.skip (Or.inl (by rw[HCAN.out,HCX.out];exact HOK.out)),HRV.out⟩
    case measure=>simp[intOf];omega
   |true =>
    cases tk with
    |true =>
     go_wp2_with fail
     go_roundw
     case rel=>exact⟨k+1,rv',R',A',T',by go_num,by omega,HP.out,HA'.out,HT'.out,HH.out.skip (Or.inr HTK.out),HRV.out⟩
     case measure=>simp[intOf];omega
    |false =>
     go_upto_region 8 with(fail);obtain⟨wz,hwz⟩:∃y,wr.setCell ⟨C.trb,k,none⟩ (.bool true)=y:=⟨_,rfl⟩;have hPt:=HP.out.tried k;rw[hwz]at hPt ⊢;have HPT:=hid hPt;obtain⟨mbx,hmbx,hmt,hmcap,hmc4⟩:=HR.out.mem (m:=k) (by rw[HNM'.out];exact hlt) wi;obtain⟨cp,hcp⟩:∃n,capB c k wi=n:=⟨_,rfl⟩;obtain⟨gl,hgl⟩:∃n,(G wi k).length=n:=⟨_,rfl⟩;rw[hcp]at hmcap hmc4;obtain⟨va,vc,hV,hVo,hVz,hVne⟩:=hPt.look hw16 k;rw[hgl]at hV hVo hVz hVne;have hms:=HMS.out;rw[HNM'.out]at hms;obtain⟨mb,mo,hma,hmcl⟩:=hms.at_ (by rw[HNM'.out];omega);subst hma;obtain⟨mcs,q1,q2,q3⟩:=hmcl k mbx hmbx;have hmr:=MbR.kept q2 hPt.cl.k0;obtain⟨mvb,mvt,rfl,hmb1,hmt1⟩:=q2;obtain⟨mba,mbc,rfl,_,_⟩:=aj.form hmb1;obtain⟨mta,mtc,rfl,_,_⟩:=hmt1.form;obtain⟨mbl,hmbl⟩:∃n,mbx.binds.length=n:=⟨_,rfl⟩;obtain⟨mtl,hmtl⟩:∃n,mbx.tickets.length=n:=⟨_,rfl⟩;have hti:=nE hmr wi (by omega) (by omega);rw[hmcap,hmbl,hmtl]at hti;rw[hmbl,hmtl]at q3;have y0:wz.cell? ⟨mb,mo+k*3,none⟩=some (.slice mba mbl mbc):=Kept.cellOf (q3 0 _ (by decide) rfl) _ hPt.cl.k0;have y1:wz.cell? ⟨mb,mo+k*3+1,none⟩=some (.slice mta mtl mtc):=Kept.cellOf (q3 1 _ (by decide) rfl) _ hPt.cl.k0;have y2:wz.cell? ⟨mb,mo+k*3+2,none⟩=some (.int .i64 mbx.rev):=Kept.cellOf (q3 2 _ (by decide) rfl) _ hPt.cl.k0;have HTI:=hid hti;have HCP:=hid hcp;have HGL:=hid hgl;have HV:=hid hV;have HVO:=hid hVo;have HVZ:=hid hVz;have HVNE:=hid hVne
     have hw63:(wi:Int) < 16:=by omega
     have g0:wz.cell? ⟨C.gvb,0,none⟩=some (.slice (some ⟨C.gb,0,none⟩) 16 16):=hPt.cl.hg.cell 0
     have g1:wz.cell? ⟨C.gb,wi,none⟩=some (.map (some (C.mp wi))):=by rw[hPt.cl.hgb.cell wi];simp[hw16]
     have hmap:=hPt.cl.maps wi hw16;have hkw:=xM (k:=k) (by omega);have b0:wz.cell? ⟨C.rk,0,none⟩=some (.pointer (some ⟨C.kb,0,none⟩)):=hPt.cl.hk.cell 0;have b1:wz.cell? ⟨C.kb,1,none⟩=some (.slice (some ⟨mb,mo,none⟩) nm mc):=Kept.cellOf (HKB.out.cell 1) _ hPt.cl.k0;have HKW:=hid hkw;have HMAP:=hid hmap;clear hwz hPt hms q1 q3 hmr hmb1 hmt1 hti hcp hgl hV hVo hVz hVne hmcl e0 e1 e2 f2 hmcap hmbl hmtl hmt hkw hmap;go_upto_region 9 with(first|(refine aX (E:=aM) HMAP.out (x:=(k:Int)) HKW.out rfl _ _ 95 23 rfl underlying95 (.slice none 0 0) (fun _=>rfl) rfl rfl ?_)|go_in);rw[HV.out];go_wp2_with (go_at_call 226;with_reducible refine HTI.out.mono ?_)
     first|(rintro e w5 rfl k5)|(rintro e w5 ⟨rfl,k5⟩)
     have HP5:=hid (HPT.out.kept0 k5);have HVO5:=hid (ax HVO.out k5 (by simp));clear HTI HPT HMAP y0 y1 y2 g0 g1 b0 b1 k5 HVO
     by_cases hlc:gl < cp
     ·have hlc':(gl:Int) < (cp:Int):=by omega
      go_upto_region 10 with(fail)
      have hx1:∀w',Kept (obl (.slice va gl vc)) w5 w'->w'.cell? ⟨C.gvb,0,none⟩=some (.slice (some ⟨C.gb,0,none⟩) 16 16):=fun w' k=>by
       have:=(HP5.out.cl.ints k fun z hz _=>HP5.out.obl_int (HVZ.out z hz)).hg.cell 0;exact this
      have hx2:∀w',Kept (obl (.slice va gl vc)) w5 w'->w'.cell? ⟨C.gb,wi,none⟩=some (.map (some (C.mp wi))):=fun w' k=>by
       have:=(HP5.out.cl.ints k fun z hz _=>HP5.out.obl_int (HVZ.out z hz)).hgb.cell wi;rw[this]
       simp[hw16]
      have hw63:(wi:Int) < 16:=by omega
      refine ar [9] (fun w'=>Kept (obl (.slice va gl vc)) w5 w') (by kernel_rfl) (Kept.refl _ _).drew (fun hH=>?_);obtain⟨w6,hw6⟩:∃y,w5.drew=y:=⟨_,rfl⟩;have hk56:Kept [] w5 w6:=hw6▸(Kept.refl [] w5).drew;rw[hw6]at hH ⊢;clear hw6;refine ah [9] (i:=0) (v:=?tv0q) rfl (by kernel_rfl) (by kernel_rfl) (by kernel_rfl) (by kernel_rfl) (fun _ _ _ h=>h) (Or.inl ⟨by rfl,?ty0q⟩) hH ?tr0q
      case ty0q=>intro w' hSw;(try dsimp only at hSw);go_simp;first|done|with_reducible rfl
      (try simp only[Act.put,List.setIfInBounds_toArray,List.set_cons_zero,List.set_cons_succ])
      refine ah [9] (i:=1) (v:=?tv1q) rfl (by kernel_rfl) (by kernel_rfl) (by kernel_rfl) (by kernel_rfl) (fun _ _ _ h=>h) (Or.inl ⟨by rfl,?ty1q⟩) hH ?tr1q
      case ty1q=>intro w' hSw;(try dsimp only at hSw);go_simp;first|done|with_reducible rfl
      (try simp only[Act.put,List.setIfInBounds_toArray,List.set_cons_zero,List.set_cons_succ])
      refine ah [9] (i:=2) (v:=?tv2q) rfl (by kernel_rfl) (by kernel_rfl) (by kernel_rfl) (by kernel_rfl) (fun _ _ _ h=>h) (Or.inl ⟨by rfl,?ty2q⟩) hH ?tr2q
      case ty2q=>intro w' hSw;(try dsimp only at hSw);go_simp;first|done|with_reducible rfl
      (try simp only[Act.put,List.setIfInBounds_toArray,List.set_cons_zero,List.set_cons_succ])
      refine ah [9] (i:=3) (v:=?tv3q) rfl (by kernel_rfl) (by kernel_rfl) (by kernel_rfl) (by kernel_rfl) (fun _ _ _ h=>h) (Or.inl ⟨by rfl,?ty3q⟩) hH ?tr3q
      case ty3q=>intro w' hSw;(try dsimp only at hSw);go_simp;first|done|with_reducible rfl
      (try simp only[Act.put,List.setIfInBounds_toArray,List.set_cons_zero,List.set_cons_succ])
      refine ah [9] (i:=4) (v:=?tv4q) rfl (by kernel_rfl) (by kernel_rfl) (by kernel_rfl) (by kernel_rfl) (fun _ _ _ h=>h) (Or.inl ⟨by rfl,?ty4q⟩) hH ?tr4q
      case ty4q=>intro w' hSw;(try dsimp only at hSw);go_simp;first|done|with_reducible rfl
      (try simp only[Act.put,List.setIfInBounds_toArray,List.set_cons_zero,List.set_cons_succ])
      refine ah [9] (i:=5) (v:=?tv5q) rfl (by kernel_rfl) (by kernel_rfl) (by kernel_rfl) (by kernel_rfl) (fun _ _ _ h=>h) (Or.inl ⟨by rfl,?ty5q⟩) hH ?tr5q
      case ty5q=>intro w' hSw;(try dsimp only at hSw);go_simp;first|done|with_reducible rfl
      (try simp only[Act.put,List.setIfInBounds_toArray,List.set_cons_zero,List.set_cons_succ])
      refine ah [9] (i:=6) (v:=?tv6q) rfl (by kernel_rfl) (by kernel_rfl) (by kernel_rfl) (by kernel_rfl) (fun _ _ _ h=>h) (Or.inl ⟨by rfl,?ty6q⟩) hH ?tr6q
      case ty6q=>intro w' hSw;(try dsimp only at hSw);go_simp;first|done|with_reducible rfl
      (try simp only[Act.put,List.setIfInBounds_toArray,List.set_cons_zero,List.set_cons_succ])
      refine ai (rs:=[7]) (by kernel_rfl) (by simp) ?_;refine ae.cons rfl (fun K hK=>?_) ae.nil;go_simp;refine hK.out _ _ (hH.alloc _) (fun hH=>?_);clear hK K
      (try simp only[Act.put,List.setIfInBounds_toArray,List.set_cons_zero,List.set_cons_succ])
      obtain⟨w7,hw7⟩:∃y,w6.alloc (.cells #[.int .i64 (x:Int)] 3)=y:=⟨_,rfl⟩;have hrx:Row w7 1 (.slice (some ⟨w6.heap.size,0,none⟩) 1 1) 1 (ints [(x:Int)]):=al (cs:=ints [(x:Int)]) (hw7▸Blk.new _ _ _) rfl (by decide);have hk57:Kept [] w5 w7:=hw7▸hk56.alloc _;have hP7:=HP5.out.kept0 hk57;have ho7:=ax HVO5.out hk57 (by simp);have HP7:=hid hP7;have hbase:=hP7.cl.k0.size
      have hR9:gl+1<=1000000000:=by omega
      rw[hw7]at hH ⊢;clear hw7 hP7;refine ai (rs:=[8]) (by kernel_rfl) (by simp) ?_;refine ae.cons rfl (fun K hK=>?_) ae.nil;refine iD rfl _ _ rfl W0.heap.size (.slice va gl vc) gl (nats (G wi k)) rfl ho7 _ 1 [(x:Int)] rfl hrx hR9 hbase ?_;intro a7 c7 w8 h8 k8 z8;refine hK.out _ _ (hH.trans k8) (fun hH=>?_);clear hK K
      (try simp only[Act.put,List.setIfInBounds_toArray])
      have k8':Kept (obl (rv' wi k)) w7 w8:=k8.mono fun z _ hz=>HVZ.out z hz;have hm8:=(HP7.out.cl.ints k8' fun z hz _=>HP7.out.obl_int hz).maps wi hw16
      have hNm:N < maxLen:=by unfold maxLen;omega
      refine ai (rs:=[9]) (by kernel_rfl) (by simp) ?_;refine ae.last rfl (by kernel_rfl) (fun K hK=>?_);refine jI (E:=aM) (x:=(k:Int)) rfl rfl _ _ _ 95 23 rfl underlying95 (.slice a7 (gl+1) c7) rfl rfl rfl hm8 HKW.out hNm ?_;intro w9 hm9 hg9 hs9;refine hK.out _ _ ?_;clear hK K
      (try simp only[Act.put])
      refine ak (by kernel_rfl) ?_ _;rw[<-lM]at h8;have hP9:=HP7.out.put (x:=x) hw16 k8' (by rw[bJ,List.length_append,List.length_singleton,HGL.out];exact h8) (fun z hz=>(z8 z hz).imp (HVZ.out z) fun e=>by rw[e];exact Nat.le_refl _) hm9 hg9;obtain⟨ag,ac,hae,⟨au,hac⟩,haf,haP⟩:=hP9.assign (j:=x) (by rw[HA'.out];exact hx);rw[HA'.out]at hae
      have a0:w9.cell? ⟨C.ab,0,none⟩=some (.slice (some ⟨ag,0,none⟩) nu ac):=by have:=hP9.cl.ha.cell 0;rw[hae]at this;exact this
      have HFIN:=hid (haP (k:Int));clear hP9 haP hae hm9 hg9 hs9 h8 z8 k8 k8' hm8 ho7 hrx hbase HP7 hH hx1 hx2 hk56 hk57 hR9 hNm;go_wp2_with fail;go_ret
      have hTf:tf T k=false:=by
       cases h0:tf T k with
       |false=>rfl
       |true=>have:=HH.out.tm k h0;rw[HTK.out]at this;cases this
      refine⟨_,_,_,_,_,_,true,rfl,HFIN.out,Nat.le_refl _,by rw[List.length_set,HA'.out,HA.out],by rw[List.length_set,HT'.out,HTN.out],fun m hm=>?_,fun i m hi hm=>?_,?_⟩
      ·rw[mG (by rw[HT'.out];exact hlt),HH.out.tm m hm,Bool.or_true]
      ·rw[bF (fun e=>by rw[e.2,hTf]at hm;cases hm)];exact HRV.out i m hi hm
      ·rw[if_pos rfl];have:=tK (T:=tf T) HG.out (x:=x) (m:=k) (by rw[HCAN.out,HCX.out];exact HOK.out) hTf (by rw[HWX.out,HCAP.out,HCP.out,HGL.out];exact hlc)
       rwa [HWX.out]at this
     ·have hlc':¬(gl:Int) < (cp:Int):=by omega
      have hTf:tf T k=false:=by
       cases h0:tf T k with
       |false=>rfl
       |true=>have:=HH.out.tm k h0;rw[HTK.out]at this;cases this
      have HQ0:Hid (Quar M G wi x k 0 (tf T) (tf (T'.set k true)) R R'):=hid (HH.out.mark (by rw[HNM.out];exact hlt) HTK.out fun m=>mG (by rw[HT'.out];exact hlt) m);have HT5:Hid ((T'.set k true).length=nm):=hid (by rw[List.length_set];exact HT'.out);have HTF:=hid hTf
      have hgl4:gl<=4096:=by
       have h1:=HG.out.len wi k;rw[HGL.out,HCAP.out,HCP.out]at h1;omega
      clear hTf;go_wp2_with fail
      go_loopw [86] (fun v wv=>∃(i:Nat) (rv1:Nat->Nat->Value) (R1:List Nat) (A1:List Int) (T1:List Bool),v=.int .i64 (i:Int)/\i<=gl/\Pst W0 wv C N rv1 R1 A1 T1 G/\A1.length=nu/\T1.length=nm/\Quar M G wi x k i (tf T) (tf T1) R R1/\(∀i m,i < 16->tf T m=true->rv1 i m=rv i m)/\rv1 wi k=rv' wi k) (fun v _=>gl - (intOf v).toNat)
      case atStart=>exact⟨0,rv',R',A',T'.set k true,rfl,Nat.zero_le _,HP5.out,HA'.out,HT5.out,HQ0.out,HRV.out,rfl⟩
      case round =>
       obtain⟨i,rv1,R1,A1,T1,rfl,hig,hP1,hA1,hT1,hQ1,hRV1,hrk1⟩:=hrel;have HP1:=hid hP1;have HA1:=hid hA1;have HT1:=hid hT1;have HQ1:=hid hQ1;have HRV1:=hid hRV1;have HRK1:=hid hrk1;clear HP5 HQ0 HT5
       by_cases hil:i < gl
       ·have hil':(i:Int) < (gl:Int):=by omega
        have hne:G wi k≠[]:=fun h0=>by have:=HGL.out;rw[h0]at this;simp at this;omega
        have hgi:i < (G wi k).length:=by rw[HGL.out];exact hil
        obtain⟨sg,sc,s1,s2,s3,s4⟩:=hP1.swap hw16 hgi;rw[hrk1,<-HVNE.out hne,HGL.out]at s1;injection s1 with s1 _ s1c;subst s1;subst s1c;obtain⟨y,hy⟩:∃y,(G wi k)[i]=y:=⟨_,rfl⟩;rw[hy]at s2
        have hyg:(G wi k)[i]?=some y:=by rw[List.getElem?_eq_getElem hgi,hy]
        obtain⟨hyc,hyw⟩:=HG.out.el _ _ _ (List.mem_of_getElem? hyg)
        have hyn:y < nu:=by
         rw[HCAN.out]at hyc
         unfold canB tf at hyc
         rcases Nat.lt_or_ge y can.length with h1|h1
         ·have:=HR.out.len;have:=HNU.out;omega
         ·rw[List.getElem?_eq_none h1]at hyc;simp at hyc
        have p0:wr.cell? ⟨C.pb,0,none⟩=some (.func (.func 225) #[] C.caps):=hP1.cl.hp.cell 0
        have hut:untr T1 < d:=by
         have h1:untr T1<=untr (T.set k true):=vT (by rw[List.length_set,HT1.out,HTN.out]) fun m hm=>by
          rw[mG (by rw[HTN.out];exact hlt)]at hm;rw[Bool.or_eq_true,decide_eq_true_eq]at hm
          rcases hm with rfl|hm
          ·exact hQ1.tk
          ·exact hQ1.tm m hm
         have h2:=tR (T:=T) (m:=k) (by rw[HTN.out];exact hlt) HTF.out;have h3:=HD.out;omega
        have hrm:R1.length+wt M G (M.win y) (tf T1)<=500000000:=by
         rw[hyw];have h1:=hQ1.room;have h2:=HROOM.out;have h3:=HGL.out;omega
        have HC:=hid (HIH.out wr N rv1 R1 A1 T1 G y hut hP1 HG.out hyn (by rw[HT1.out,HNM.out]) HA1.out hrm hN)
        unfold PC.caps PC.ptr at p0
        have HYG:=hid hyg;have HYW:=hid hyw;clear hP1 hA1 hT1 hQ1 hRV1 hrk1 s3 s4 hyg hyc hyw hut hrm hne hgi hy;go_wp2_with (go_at_call 225;with_reducible refine HC.out.mono ?_);rintro e w6 ⟨rv2,R2,A2,T2,G2,N2,bb,rfl,hP2,hN2,hA2,hT2,hmono,hrow2,hpost⟩;clear HC p0
        cases bb with
        |false =>
         rw[if_neg (by decide)]at hpost;obtain⟨hG2,hN2',hst,hroom2⟩:=hpost;subst hG2;subst hN2';have HP2:=hid hP2;have HA2:=hid hA2;have HT2:=hid hT2;have HST:=hid hst;have HRM2:=hid hroom2;have HRW2:=hid hrow2;clear hP2 hA2 hT2 hst hroom2 hrow2 hmono hN2;go_wp2_with fail
         go_roundw
         case rel =>
          have hst:=HST.out;have hrm:=HRM2.out;rw[HYW.out]at hst hrm;exact⟨i+1,rv2,R2,A2,T2,by go_num,by omega,HP2.out,HA2.out.trans HA1.out,HT2.out.trans HT1.out,HQ1.out.step HYG.out hst hrm,fun i m hi hm=>(HRW2.out i m hi (HQ1.out.tm m hm)).trans (HRV1.out i m hi hm),(HRW2.out wi k hw16 HQ1.out.tk).trans HRK1.out⟩
         case measure=>simp[intOf];omega
        |true =>
         rw[if_pos rfl]at hpost;have hgk:G2 wi k=G wi k:=hpost.keep wi k (Or.inr HQ1.out.tk)
         have hgi2:i < (G2 wi k).length:=by rw[hgk,HGL.out];exact hil
         obtain⟨va2,vc2,hV2,_,_,hVne2⟩:=hP2.look hw16 k;obtain⟨sg2,sc2,t1,t2,t3,t4⟩:=hP2.swap hw16 hgi2
         have hne2:G2 wi k≠[]:=fun h0=>by rw[h0]at hgi2;simp at hgi2
         rw[hVne2 hne2,t1]at hV2;rw[hgk,HGL.out]at hV2;have hsame:=t4 x;obtain⟨yy,hyy⟩:∃n,(G2 wi k)[i]=n:=⟨_,rfl⟩;rw[hyy]at t2;have g0:w6.cell? ⟨C.gvb,0,none⟩=some (.slice (some ⟨C.gb,0,none⟩) 16 16):=hP2.cl.hg.cell 0
         have g1:w6.cell? ⟨C.gb,wi,none⟩=some (.map (some (C.mp wi))):=by rw[hP2.cl.hgb.cell wi];simp[hw16]
         have hw63:(wi:Int) < 16:=by omega
         have HMAP:=hid (hP2.cl.maps wi hw16);have HV2:=hid hV2;have HSAME:=hid hsame;have HPOST:=hid hpost;have HGK:=hid hgk;have HA2:=hid hA2;have HT2:=hid hT2;have HMONO:=hid hmono;have HRW2:=hid hrow2;have HN2:=hid hN2;clear hpost hgk hV2 hVne2 hne2 hyy hgi2 t1 t4 hsame hP2 hA2 hT2 hmono hrow2 hN2;go_upto_region 18 with(first|(refine aX (E:=aM) HMAP.out (x:=(k:Int)) HKW.out rfl _ _ 95 23 rfl underlying95 (.slice none 0 0) (fun _=>rfl) rfl rfl ?_;rw[HV2.out])|go_in);obtain⟨w7,hw7⟩:∃y,w6.setCell ⟨sg2,i,none⟩ (.int .i64 (x:Int))=y:=⟨_,rfl⟩;have hP7:=HSAME.out;rw[hw7]at hP7 ⊢;have hA2n:A2.length=nu:=HA2.out.trans HA1.out;obtain⟨ag,ac,hae,⟨au,hac⟩,haf,haP⟩:=hP7.assign (j:=x) (by rw[hA2n];exact hx);rw[hA2n]at hae
         have a0:w7.cell? ⟨C.ab,0,none⟩=some (.slice (some ⟨ag,0,none⟩) nu ac):=by have:=hP7.cl.ha.cell 0;rw[hae]at this;exact this
         have HFIN:=hid (haP (k:Int));have HA2N:=hid hA2n;clear hP7 haP hae hw7 g0 g1 hw63 t2 t3 HSAME hA2n;go_wp2_with fail;go_ret;refine⟨_,_,_,_,_,_,true,rfl,HFIN.out,HN2.out,by rw[List.length_set,HA2N.out,HA.out],by rw[HT2.out,HT1.out,HTN.out],fun m hm=>HMONO.out m (HQ1.out.tm m hm),fun i m hi hm=>(HRW2.out i m hi (HQ1.out.tm m hm)).trans (HRV1.out i m hi hm),?_⟩;rw[if_pos rfl];have:=tJ (T:=tf T) (T1:=tf T1) (x:=x) (m:=k) (i:=i) (y:=y) (by rw[HCAN.out,HCX.out];exact HOK.out) HTF.out HQ1.out.tk HQ1.out.tm (by rw[HWX.out];exact HYG.out) HG.out HPOST.out;rw[HWX.out]at this;rw[HGK.out];exact this
       ·obtain rfl:i=gl:=by omega
        have HDN:Hid (Half M G wi x (k+1) (tf T) (tf T1) R R1):=hid (by
         have h1:=HQ1.out;rw[<-HGL.out]at h1
         exact h1.done (by rw[HCAP.out,HCP.out,HGL.out];omega))
        go_wp2_with fail
        go_roundw
        case rel=>exact⟨k+1,rv1,R1,A1,T1,by go_num,by omega,HP1.out,HA1.out,HT1.out,HDN.out,HRV1.out⟩
        case measure=>simp[intOf];omega
  ·obtain rfl:k=nm:=by omega
   go_wp2_with fail;go_ret;have hh:=HH.out;have hrm:=hh.room;rw[<-HNM.out]at hh;exact⟨rv',R',A',T',G,N,false,rfl,HP.out,by omega,by rw[HA'.out,HA.out],by rw[HT'.out,HTN.out],hh.tm,HRV.out,by rw[if_neg (by decide),HWX.out];exact⟨rfl,rfl,hh.done HWX.out,hrm⟩⟩
end Go.Proofs.YtpcmamoomaddoaaGreatDoor
namespace Go.Proofs.YtpcmamoomaddoaaGreatDoor
open Go.RowKit Go.Maps
theorem pe{b:Nat}{t:TypeId}(z:Value):∀(n o:Nat) (w:World) (cs:Array Value),Blk w b t cs->∃cs':Array Value,Blk (w.setCells b o (List.replicate n z)) b t cs'/\cs'.size=cs.size/\(∀i,cs'[i]?=if o<=i/\i < o+n/\i < cs.size then some z else cs[i]?)/\Kept [b] w (w.setCells b o (List.replicate n z))
 |0,o,w,cs,h=>⟨cs,h,rfl,fun i=>by rw[if_neg (by omega)],Kept.refl _ _⟩
 |n+1,o,w,cs,h=>by
  obtain⟨cs',h1,h2,h3,h4⟩:=pe z n (o+1) (w.setCell ⟨b,o,none⟩ z) _ (h.set_ o z);rw[List.replicate_succ,World.setCells];refine⟨cs',h1,by simpa using h2,fun i=>?_,((Kept.refl [b] w).setCell (Or.inl (by simp)) z).trans h4⟩;rw[h3,Array.size_setIfInBounds]
  by_cases e:i=o
  ·subst e;rw[if_neg (by omega)]
   by_cases hi:i < cs.size
   ·rw[if_pos (by omega)]
    simp[hi]
   ·rw[if_neg (by omega),Array.getElem?_eq_none (by simp;omega),Array.getElem?_eq_none (by omega)]
  ·by_cases h5:o+1<=i/\i < o+1+n/\i < cs.size
   ·rw[if_pos h5,if_pos (by omega)]
   ·rw[if_neg h5,if_neg (by omega),Array.getElem?_setIfInBounds_ne (Ne.symm e)]
section
variable {W0 w w':World} {C:PC} {N:Nat} {rv:Nat->Nat->Value} {R:List Nat} {A:List Int} {T:List Bool} {G:Gv} {S:List Nat} {i m x:Nat}
theorem Pst.clear(h:Pst W0 w C N rv R A T G):Pst W0 (w.setCells C.trb 0 (List.replicate T.length (.bool false))) C N rv R A (List.replicate T.length false) G:=by
 obtain⟨cs',l,o,g,k⟩:=pe (.bool false) T.length 0 w _ h.cl.htr
 have e:(aB T).length=T.length:=by simp[aB]
 have f:cs'=(aB (List.replicate T.length false)).toArray:=by
  apply Array.ext_getElem?
  intro j;rw[g]
  by_cases hj:j < T.length
  ·rw[if_pos (by simp[e];omega)]
   simp[aB,hj]
  ·rw[if_neg (by omega),Array.getElem?_eq_none (by simp[e];omega),Array.getElem?_eq_none (by simp[aB];omega)]
 subst f;have c:=h.cl
 have a:∀ {b t cs},Blk w b t cs->t≠4->b∉[C.trb]:=fun{b t cs} d ht=>by simpa using d.ne_type c.htr ht
 refine⟨⟨c.k0.then_ k fun z hz hm=>by rw[List.mem_singleton]at hm;have:=c.low.2.1;omega,c.hp.kept k (a c.hp (by decide)),c.hk.kept k (a c.hk (by decide)),c.hr.kept k (a c.hr (by decide)),?_,l,c.hg.kept k (a c.hg (by decide)),c.hgb.kept k (a c.hgb (by decide)),c.ha.kept k (a c.ha (by decide)),fun i hi=>(c.maps i hi).kept k (by simpa using(c.maps i hi).ne_blk c.htr),c.low,c.ne,c.mpi⟩,h.rws.kept k fun i m z hz hm=>?_⟩
 ·rw[List.length_replicate];exact c.ht.kept k (a c.ht (by decide))
 ·rw[List.mem_singleton]at hm;obtain⟨_,n,d⟩:=h.obl_int hz;exact d.ne_type c.htr (by decide) hm
theorem Pst.drop(h:Pst W0 w C N rv R A T G):Pst W0 (w.setCell ⟨C.rb,0,none⟩ (.slice none 0 0)) C N (upd2 rv 16 0 (.slice none 0 0)) [] A T G:=by
 have b:Rws W0.heap.size w (upd2 rv 16 0 (.slice none 0 0)) (upd2 (rlOf R A G) 16 0 (nats [])) :=
  h.rws.turn (S:=[]) (Kept.refl _ _) (fun _ _ _ _ _=>by simp) ⟨rfl,Or.inl ⟨rfl,rfl⟩⟩ fun z hz=>by simp[obl,Value.ownBlock]at hz
 rw[lF]at b;have a:=h.cl.setr (.slice none 0 0);refine⟨?_,b.kept (S:=[C.rb]) ((Kept.refl _ _).setCell (Or.inl (by simp)) _) fun i m z hz hm=>?_⟩
 ·rw[dd,bF (by decide)];refine⟨a.k0,a.hp,a.hk,a.hr,a.ht,a.htr,a.hg,a.hgb,a.ha,fun i hi=>(a.maps i hi).congr fun y _=>?_,a.low,a.ne,a.mpi⟩
  unfold gfOf
  rw[bF (by omega)]
 ·rw[List.mem_singleton]at hm;subst hm
  rcases(b.own i m).2 with⟨c,_⟩|⟨g,f,e,c,_,d,_⟩
  ·rw[c]at hz;simp[obl,Value.ownBlock]at hz
  ·rw[c]at hz;have:=dr hz;injection this with this;exact Blk.ne_type (w:=w) d h.cl.hr (by decide) this
end
/-- the state at the start -/
def rv00(asb nu:Nat):Nat->Nat->Value:=fun i m=>if i=17/\m=0 then .slice (some ⟨asb,0,none⟩) nu nu else .slice none 0 0
theorem Pst.init{W0 w:World}{C:PC}{nu nm asb:Nat}(k0:Kept [] W0 w)(hp:Blk w C.pb 155 #[.func (.func 225) #[] C.caps])(hk:Blk w C.rk 159 #[.pointer (some ⟨C.kb,0,none⟩)])
  (hr:Blk w C.rb 23 #[.slice none 0 0]) (ht:Blk w C.tb 200 #[.slice (some ⟨C.trb,0,none⟩) nm nm]) (htr:Blk w C.trb 4 (aB (List.replicate nm false)).toArray) (hg:Blk w C.gvb 272 #[.slice (some ⟨C.gb,0,none⟩) 16 16])
  (hgb:Blk w C.gb 95 ((List.range 16).map fun i=>Value.map (some (C.mp i))).toArray) (ha:Blk w C.ab 23 #[.slice (some ⟨asb,0,none⟩) nu nu]) (has:Blk w asb 3 (ints (List.replicate nu (-1))).toArray)
  (hm:∀i,i < 16->am aM w (C.mp i) 0 (fun _=>none)) (low:W0.heap.size<=C.rb/\W0.heap.size<=C.trb/\∀i,i < 16->W0.heap.size<=C.mp i) (ne:C.rb≠C.ab) (mpi:∀i j,i < 16->j < 16->C.mp i=C.mp j->i=j) (hasl:W0.heap.size<=asb) (hnu:nu<=4096) :
  Pst W0 w C 0 (rv00 asb nu) [] (List.replicate nu (-1)) (List.replicate nm false) (fun _ _=>[]):=by
 refine⟨⟨k0,hp,hk,?_,by rw[List.length_replicate];exact ht,htr,hg,hgb,?_,fun i hi=>(hm i hi).congr fun y _=>?_,low,ne,mpi⟩,⟨fun i m=>?_,fun i m i' m' hne z hz hz'=>?_⟩⟩
 ·unfold rv00;rw[if_neg (by decide)];exact hr
 ·unfold rv00;rw[if_pos (by decide)];exact ha
 ·unfold gfOf;simp
 ·unfold rv00
  by_cases e:i=17/\m=0
  ·obtain⟨rfl,rfl⟩:=e;rw[if_pos ⟨rfl,rfl⟩,pO];exact⟨by simp[ints],Or.inr ⟨asb,nu,_,by simp,hasl,has,by simp,by unfold maxLen;omega,by simp[ints],by simp[ints]⟩⟩
  ·rw[if_neg e]
   have a:rlOf [] (List.replicate nu (-1)) (fun _ _=>[]) i m=[]:=by
    unfold rlOf
    by_cases h1:i < 16
    ·simp[h1,nats]
    ·by_cases h2:i=16/\m=0
     ·simp[h2,nats]
     ·rw[if_neg h1,if_neg h2,if_neg e]
   rw[a];exact⟨rfl,Or.inl ⟨rfl,rfl⟩⟩
 ·unfold rv00 at hz hz'
  by_cases e:i=17/\m=0
  ·have e':¬(i'=17/\m'=0):=fun e'=>hne ⟨e'.1.trans e.1.symm,e'.2.trans e.2.symm⟩;rw[if_neg e']at hz'
   simp[obl,Value.ownBlock]at hz'
  ·rw[if_neg e]at hz
   simp[obl,Value.ownBlock]at hz
theorem wt_le{M:Mt}{G:Gv}{w:Nat}{T:Nat->Bool}{c:Nat}(hG:GoodG M G)(hc:∀m,m < M.nm->M.cap m w<=c):wt M G w T<=M.nm*c:=by
 unfold wt
 have h:∀n,n<=M.nm->sumN (fun m=>if T m=true then 0 else(G w m).length) n<=n*c:=fun n=>by
  induction n with
  |zero=>intro _;simp[sumN]
  |succ n ih =>
   intro hn;rw[sumN,Nat.succ_mul];refine Nat.add_le_add (ih (by omega)) ?_
   split
   ·omega
   ·exact Nat.le_trans (hG.len w n) (hc n (by omega))
 exact h _ (Nat.le_refl _)
theorem lH{W0:World}{C:PC}{c:Crw}{can:List (List Bool)}(hr:Rck W0 C.kb c can)(hs:∀d,mz W0 C (mtOf c can hr.lens) c.us.length d->mz W0 C (mtOf c can hr.lens) c.us.length (d+1)):∀d,mz W0 C (mtOf c can hr.lens) c.us.length d
 |0=>fun _ _ _ _ _ _ _ _ h=>absurd h (by omega)
 |d+1=>hs d (lH hr hs d)
end Go.Proofs.YtpcmamoomaddoaaGreatDoor
