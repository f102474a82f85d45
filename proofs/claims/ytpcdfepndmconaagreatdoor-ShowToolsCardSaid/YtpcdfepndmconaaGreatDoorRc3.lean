/- The reference's encoder of lists of strings. -/
import Derived.Test.YtpcdfepndmconaaGreatDoorSg1
import Derived.Test.YtpcdfepndmconaaGreatDoorKnu
import Derived.Test.YtpcdfepndmconaaGreatDoorPfE
import Derived.Test.YtpcdfepndmconaaGreatDoorRdS
/- JOINED: Rc1 Rc2 PfF Rc3 -/
/- The reference's encoder. -/
namespace Go.Proofs.YtpcdfepndmconaaGreatDoor
open Go.RowKit
theorem dec_small (u:Nat) (h:u < 10):Lib.decDigits u=[UInt8.ofNat (48+u)]:=by
 unfold Lib.decDigits
 simp [h]
theorem dec_big (u:Nat) (h:¬ u < 10):Lib.decDigits u=Lib.decDigits (u / 10)++[UInt8.ofNat (48+u % 10)]:=by
 rw [Lib.decDigits]
 simp [h]
theorem dec_len (u:Nat) (h:u≤9223372036854775808):(Lib.decDigits u).length≤20:=by
 by_cases h1:1≤u
 ·have:=Wire.itoa_len (-(u:Int)) ⟨by omega,by omega⟩
  unfold Lib.itoa at this
  rw [if_pos (by omega)] at this;simp at this;omega
 ·obtain rfl:u=0:=by omega
  rw [dec_small 0 (by omega)]
  simp
set_option maxRecDepth 100000 in
theorem rdigits_any (m:Nat) (w:World) (hm:m≤9223372036854775808) :
  Calls Tryz.prog 153 #[.int .i64 (-(m:Int))] w fun e w'=>e=.returned (.string ⟨(Lib.decDigits m).toArray⟩)∧Kept [] w w':=by
 induction m using Nat.strongRecOn generalizing w with
 | ind m ih =>
 obtain ⟨n,hn⟩:∃ n:Int,-(m:Int)=n:=⟨_,rfl⟩;obtain ⟨r,hr⟩:∃ r,m % 10=r:=⟨_,rfl⟩;obtain ⟨nr,hnr⟩:∃ x:Int,-(r:Int)=x:=⟨_,rfl⟩;obtain ⟨q,hq⟩:∃ q,m / 10=q:=⟨_,rfl⟩;obtain ⟨nq,hnq⟩:∃ x:Int,-(q:Int)=x:=⟨_,rfl⟩;rw [hn]
 have hr10:r < 10:=by omega
 have t1:n.tmod 10=nr:=by rw [←hn,Int.neg_tmod,Int.tmod_eq_emod_of_nonneg (by omega)];omega
 have t2:n.tdiv 10=nq:=by rw [←hn,Int.neg_tdiv,Int.tdiv_eq_ediv_of_nonneg (by omega)];omega
 have iS:IntKind.i64.wrap (48 - nr)=48 - nr:=by rw [IntKind.wrap_i64];omega
 have iQ:IntKind.i64.wrap nq=nq:=by rw [IntKind.wrap_i64];omega
 have iR:IntKind.i64.wrap nr=nr:=by rw [IntKind.wrap_i64];omega
 have hc:((UInt8.ofNat (48+r)).toNat:Int)=48 - nr:=by
  rw [UInt8.toNat_ofNat',Nat.mod_eq_of_lt (by omega)];omega
 have iC:IntKind.u8.wrap (48 - nr)=48 - nr:=by
  have:=u8_of (48+r);rw [hc] at this;rw [←this]
  congr 1
  omega
 have hcv:=conv_back (w.alloc (.cells #[.int .u8 (48 - nr)] 5)) w.heap.size 1 [UInt8.ofNat (48+r)] (fun j hj=>by
  obtain rfl:j=0:=by simpa using hj
  rw [World.cell?_alloc_new]
  show some (Value.int .u8 (48 - nr))=some (Value.int .u8 ((UInt8.ofNat (48+r)).toNat:Int))
  rw [hc])
 obtain ⟨c,hcc⟩:∃ c,UInt8.ofNat (48+r)=c:=⟨_,rfl⟩;have hkW:Kept [] w (w.alloc (.cells #[.int .u8 (48 - nr)] 5)):=(Kept.refl _ _).alloc _;rw [hcc] at hcv;have hcv':(convert 202 9 (.slice (some ⟨w.heap.size,0,none⟩) 1 1)).run Tryz.prog (w.alloc (.cells #[.int .u8 (48 - nr)] 5))=.ok (.string ⟨[c].toArray⟩) (w.alloc (.cells #[.int .u8 (48 - nr)] 5)):=hcv
 by_cases h:m < 10
 ·have hfin:Lib.decDigits m=[c]:=by rw [dec_small m h,←hcc,←hr,Nat.mod_eq_of_lt h]
  have d1:decide ((-10:Int) < n)=true:=by simp;omega
  rw [hfin];clear hn hr hnr hq hnq hc hcv hcc hfin
  go_enter Tryz.func153,Tryz.ntmps153
  go_wp2_with fail;go_ret;exact ⟨rfl,hkW⟩
 ·have hfin:Lib.decDigits m=Lib.decDigits q++[c]:=by rw [dec_big m h,hr,hq,hcc]
  have d1:decide ((-10:Int) < n)=false:=by simp;omega
  have IH:=Lib.hid (fun w=>ih q (by omega) w (by omega));rw [hnq] at IH;have hlen:=dec_len q (by omega)
  have s1:¬ 9223372036854775807 < (Lib.decDigits q).length+1:=by omega
  have hcat:=bcat;rw [hfin];clear hn hr hnr hq hnq hc hcv hcc hfin ih hlen
  go_enter Tryz.func153,Tryz.ntmps153
  go_wp2_with (go_at_call 153;refine (IH.out _).mono ?_;rintro e w1 ⟨rfl,k1⟩);go_ret;exact ⟨rfl,hkW.trans k1⟩
set_option maxRecDepth 100000 in
theorem rint_any (n:Int) (w:World) (hn:Wire.I64 n) :
  Calls Tryz.prog 76 #[.int .i64 n] w fun e w'=>e=.returned (.string ⟨(Wire.intE n).toArray⟩)∧Kept [] w w':=by
 obtain ⟨h1,h2⟩:=hn;have hcat:=bcat;obtain ⟨m,hm⟩:∃ m,n.natAbs=m:=⟨_,rfl⟩;have hlen:=dec_len m (by omega);have H:=Lib.hid (fun w=>rdigits_any m w (by omega))
 by_cases h:n < 0
 ·have hfin:Wire.intE n=[45]++Lib.decDigits m++[59]:=by unfold Wire.intE Lib.itoa;rw [if_pos h,hm];rfl
  have e1:-(m:Int)=n:=by omega
  rw [e1] at H
  have s1:¬ 9223372036854775807 < 1+(Lib.decDigits m).length:=by omega
  have s2:¬ 9223372036854775807 < 1+(Lib.decDigits m).length+1:=by omega
  have s3:¬ 9223372036854775807 < (Lib.decDigits m).length+1+1:=by omega
  have d1:decide (n < 0)=true:=by simpa using h
  rw [hfin];clear hfin hm e1 hlen
  go_enter Tryz.func76,Tryz.ntmps76
  go_wp2_with (go_at_call 153;refine (H.out _).mono ?_;rintro e w1 ⟨rfl,k1⟩);go_ret;exact ⟨by simp,k1⟩
 ·have hfin:Wire.intE n=Lib.decDigits m++[59]:=by unfold Wire.intE Lib.itoa;rw [if_neg h,show n.toNat=m by omega]
  have e1:-(m:Int)=-n:=by omega
  rw [e1] at H
  have s1:¬ 9223372036854775807 < (Lib.decDigits m).length+1:=by omega
  have d1:decide (n < 0)=false:=by simpa using h
  have iN:IntKind.i64.wrap (-n)=-n:=by rw [IntKind.wrap_i64];omega
  rw [hfin];clear hfin hm e1 hlen
  go_enter Tryz.func76,Tryz.ntmps76
  go_wp2_with (go_at_call 153;refine (H.out _).mono ?_;rintro e w1 ⟨rfl,k1⟩);go_ret;exact ⟨by simp,k1⟩
set_option maxRecDepth 100000 in
theorem rtext_any (s:List UInt8) (w:World) (hs:s.length≤100000000) :
  Calls Tryz.prog 74 #[.string ⟨s.toArray⟩] w fun e w'=>e=.returned (.string ⟨(Wire.textE s).toArray⟩)∧Kept [] w w':=by
 have hcat:=bcat;have hlen:=dec_len s.length (by omega);have H:=Lib.hid (fun w=>rdigits_any s.length w (by omega))
 have hfin:Wire.textE s=Lib.decDigits s.length++[58]++s++[44]:=by unfold Wire.textE Lib.itoa;rw [if_neg (by omega)];rfl
 have iN:IntKind.i64.wrap (-(s.length:Int))=-(s.length:Int):=by rw [IntKind.wrap_i64];omega
 obtain ⟨D,hD⟩:∃ D,Lib.decDigits s.length=D:=⟨_,rfl⟩;rw [hD] at H hfin hlen
 have s1:¬ 9223372036854775807 < D.length+1:=by omega
 have s2:¬ 9223372036854775807 < D.length+(1+s.length):=by omega
 have s2':¬ 9223372036854775807 < D.length+1+s.length:=by omega
 have s3:¬ 9223372036854775807 < D.length+(1+(s.length+1)):=by omega
 have s3':¬ 9223372036854775807 < D.length+1+s.length+1:=by omega
 have s3'':¬ 9223372036854775807 < D.length+(s.length+1)+1:=by omega
 rw [hfin];clear hfin hD hlen
 go_enter Tryz.func74,Tryz.ntmps74
 go_wp2_with (go_at_call 153;refine (H.out _).mono ?_;rintro e w1 ⟨rfl,k1⟩);go_ret;exact ⟨by simp,k1⟩
end Go.Proofs.YtpcdfepndmconaaGreatDoor
/- The reference's encoder of lists of ints. -/
namespace Go.Proofs.YtpcdfepndmconaaGreatDoor
open Go.RowKit
set_option maxRecDepth 100000 in
set_option maxHeartbeats 1000000 in
theorem rnums_any (v:Value) (l:List Int) (w:World) (hv:Row w 1 v l.length (ints l)) (hl:l.length≤100000001) (hi:∀ x∈l,Wire.I64 x) :
  Calls Tryz.prog 73 #[v] w fun e w'=>e=.returned (.string ⟨(Wire.numsE l).toArray⟩)∧Kept [] w w':=by
 have hv0:=hv;obtain ⟨_,hlen,a,c,rfl,_,_⟩:=hv0;have hcat:=bcat;have hdl:=dec_len l.length (by omega);have H:=Lib.hid (fun w=>rdigits_any l.length w (by omega))
 have hfin:Wire.numsE l=Lib.decDigits l.length++[91]++l.flatMap Wire.intE++[93]:=by unfold Wire.numsE Wire.listE Lib.itoa;rw [if_neg (by omega)];rfl
 have iN:IntKind.i64.wrap (-(l.length:Int))=-(l.length:Int):=by rw [IntKind.wrap_i64];omega
 obtain ⟨D,hD⟩:∃ D,Lib.decDigits l.length=D:=⟨_,rfl⟩;obtain ⟨n,hn⟩:∃ n,l.length=n:=⟨_,rfl⟩;rw [hD] at H hfin hdl;rw [hn] at H iN hl hlen hv ⊢
 have s1:¬ 9223372036854775807 < D.length+1:=by omega
 have HV:=Lib.hid hv;have HI:=Lib.hid hi;rw [hfin];clear hfin hD hv hi
 go_enter Tryz.func73,Tryz.ntmps73
 go_upto_region 3 with (go_at_call 153;refine (H.out _).mono ?_;rintro e w1 ⟨rfl,k1⟩);have K1:=Lib.hid k1
 go_loopw [3,4] (fun v3 v4 wr=>∃ k:Nat,k≤n∧v4=.int .i64 k∧v3=.string ⟨(D++[91]++(l.take k).flatMap Wire.intE).toArray⟩∧Kept [] w1 wr) (fun _ v4 _=>n - (intOf v4).toNat)
 case atStart=>exact ⟨0,by omega,rfl,by simp,Kept.refl _ _⟩
 case round =>
  obtain ⟨k,hk,rfl,rfl,hkr⟩:=hrel;have hrow:=HV.out.kept (K1.out.trans hkr)
  by_cases hlt:k < n
  ·obtain ⟨bb,off,rfl,hc⟩:=hrow.at_ (by omega)
   have hkl:k < l.length:=by omega
   have hx:=hc k (.int .i64 l[k]) (by simp [ints,hkl]);have hI:=HI.out l[k] (List.getElem_mem hkl);have hIl:=intE_len l[k] hI;have hfl:=flat_len (l.take k) (fun x hx=>HI.out x (List.mem_of_mem_take hx))
   have htk:(l.take k).length≤100000001:=by rw [List.length_take];omega
   have htn:D++[91]++(l.take (k+1)).flatMap Wire.intE=(D++[91]++(l.take k).flatMap Wire.intE)++Wire.intE l[k]:=by
    rw [List.take_succ_eq_append_getElem hkl,List.flatMap_append];simp only [List.flatMap_cons,List.flatMap_nil,List.append_nil,List.append_assoc]
   have hRI:=Lib.hid (fun w=>rint_any l[k] w hI);obtain ⟨x,hxx⟩:∃ x,l[k]=x:=⟨_,rfl⟩;rw [hxx] at hx hI hIl htn hRI;obtain ⟨S,hS⟩:∃ S,D++[91]++(l.take k).flatMap Wire.intE=S:=⟨_,rfl⟩
   have hSl:S.length≤2100000100:=by rw [←hS];simp only [List.length_append,List.length_singleton];omega
   rw [hS] at htn ⊢;obtain ⟨E,hE⟩:∃ E,Wire.intE x=E:=⟨_,rfl⟩;rw [hE] at hIl htn hRI
   have s2:¬ 9223372036854775807 < S.length+E.length:=by omega
   have hd:decide ((k:Int) < (n:Int))=true:=by simp;omega
   have HTN:=Lib.hid htn
   have hki:(k:Int) < (n:Int):=by omega
   clear hc hxx hS hE htn hkl hfl htk;go_wp2_with (go_at_call 76;refine (hRI.out _).mono ?_;rintro e w3 ⟨rfl,k3⟩)
   go_roundw
   case rel=>exact ⟨k+1,by omega,by go_num,by rw [HTN.out],hkr.trans k3⟩
   case measure=>simp [intOf];omega
  ·obtain rfl:k=n:=by omega
   have hfl:=flat_len l HI.out;have htk:l.take k=l:=List.take_of_length_le (by omega);rw [htk];obtain ⟨S,hS⟩:∃ S,D++[91]++l.flatMap Wire.intE=S:=⟨_,rfl⟩
   have hSl:S.length≤2100000100:=by rw [←hS];simp only [List.length_append,List.length_singleton];omega
   rw [hS]
   have s2:¬ 9223372036854775807 < S.length+1:=by omega
   have hd:decide ((k:Int) < (k:Int))=false:=by simp
   have HS:=Lib.hid hS;clear hS hfl htk;go_wp2_with fail;go_ret;exact ⟨by rw [←HS.out];simp,K1.out.trans hkr⟩
end Go.Proofs.YtpcdfepndmconaaGreatDoor
/- A proof is encoded: the reference's Encode. -/
namespace Go.Proofs.YtpcdfepndmconaaGreatDoor
open Go.RowKit Tape
set_option maxRecDepth 100000 in
set_option maxHeartbeats 4000000 in
theorem rpfEnc_any (da an:Value) (p:Pf) (w:World) (hd:RowOf ListR 1 w da p.dares) (ha:RowOf ListsR 1 w an p.answers) (hp:PfOk p) :
  Calls Tryz.prog 111 #[.agg #[da,an]] w (Ret (pfRes p) w):=by
 obtain ⟨ad,cd,rfl,hld,_⟩:=hd.form;obtain ⟨aa,ca,rfl,hla,_⟩:=ha.form;obtain ⟨W,hW⟩:∃ W,w.alloc (.cells #[.slice ad p.dares.length cd,.slice aa p.answers.length ca] 65)=W:=⟨_,rfl⟩;have hb:Blk W w.heap.size 65 #[.slice ad p.dares.length cd,.slice aa p.answers.length ca]:=hW▸Blk.new _ _ _;have hkW:Kept [] w W:=hW▸(Kept.refl _ _).alloc _
 have hWs:W.heap.size=w.heap.size+1:=by rw [←hW];simp only [World.size_alloc]
 have c0:W.cell? ⟨w.heap.size,0,none⟩=some (.slice ad p.dares.length cd):=hb.cell 0;have c1:W.cell? ⟨w.heap.size,1,none⟩=some (.slice aa p.answers.length ca):=hb.cell 1;have HD:=Lib.hid (hd.kept (fun _ _ x=>ListR.kept x hkW) hkW);have HA:=Lib.hid (ha.kept (fun _ _ x=>ListsR.kept x hkW) hkW);have HP:=Lib.hid hp;have HW:=Lib.hid hW;have HK:=Lib.hid hkW;clear hW hd ha hp hkW;have HWS:=Lib.hid hWs;clear hWs
 by_cases hl:p.dares.length=p.answers.length
 ·have hlq:((p.dares.length:Int) != (p.answers.length:Int))=false:=by simp [hl]
  have hpl:=pairs_len hl;have hdb:=HP.out.d
  have ho:(W.alloc (.cells #[.int .i64 (p.dares.length:Int)] 3)).ownsRow W.heap.size 3 1 (.slice (some ⟨w.heap.size+1,0,none⟩) 1 1) 1 (ints (outD p 0)):=by
   rw [outD_zero,←HWS.out];exact World.ownsRow_lit W #[.int .i64 (p.dares.length:Int)] 1 (Nat.le_refl _) (by decide) rfl
  have HO:=Lib.hid ho;have HL:=Lib.hid hl;clear ho hl
  go_enter Tryz.func111,Tryz.ntmps111
  go_wp2_with fail;rw [HW.out];go_wp2_with fail
  go_loopw [4,5,6] (fun vo vi _ wr=>∃ (k n:Nat) (a:Option Addr) (c:Nat),k≤p.dares.length∧vi=.int .i64 k∧vo=.slice a n c∧n≤1+k*361201∧wr.ownsRow W.heap.size 3 1 (.slice a n c) n (ints (outD p k)) ∧
   (∀ j (h1:j < p.dares.length) (h2:j < p.answers.length),j < k→p.dares[j].length=p.answers[j].length)∧Kept [] W wr) (fun _ vi _ _=>p.dares.length - (intOf vi).toNat)
  case atStart=>exact ⟨0,1,_,_,by omega,rfl,rfl,by omega,HO.out,fun j _ _ h=>by omega,(Kept.refl _ _).alloc _⟩
  case round =>
   obtain ⟨k,n,a,c,hk,rfl,rfl,hn,hown,hsh,hkr⟩:=hrel;have HS:=Lib.hid hsh;clear hsh
   by_cases hlt:k < p.dares.length
   ·have hlta:k < p.answers.length:=by have:=HL.out;omega
    obtain ⟨bd,od,ud,rfl,xd,v1,e1,hvd⟩:=HD.out.one k hlt;obtain ⟨ba,oa,ua,rfl,xa,v2,e2,hva⟩:=HA.out.one k hlta;injection e1 with e1;injection e2 with e2;subst e1 e2;obtain ⟨a1,k1,rfl,_,_⟩:=hvd.form;obtain ⟨a2,k2,rfl,_,_⟩:=hva.form;have HVD:=Lib.hid hvd;have HVA:=Lib.hid hva;have XA:=Lib.hid xa;have XD:=Lib.hid xd;have y0:wr.cell? ⟨w.heap.size,0,none⟩=some (.slice (some ⟨bd,od,none⟩) p.dares.length cd):=Kept.cellOf c0 wr hkr;have y1:wr.cell? ⟨w.heap.size,1,none⟩=some (.slice (some ⟨ba,oa,none⟩) p.answers.length ca):=Kept.cellOf c1 wr hkr;have y2:wr.cell? ⟨bd,od+k,none⟩=some (.slice a1 p.dares[k].length k1):=Kept.cellOf xd wr hkr;have y3:wr.cell? ⟨ba,oa+k,none⟩=some (.slice a2 p.answers[k].length k2):=Kept.cellOf xa wr hkr;have hge:=own_ge hown;have HOW:=Lib.hid hown;clear hvd hva xd xa hown
    by_cases hsk:p.dares[k].length=p.answers[k].length
    ·have hsq:((p.dares[k].length:Int) != (p.answers[k].length:Int))=false:=by simp;omega
     have hdl:=HP.out.dl p.dares[k] (List.getElem_mem hlt);obtain ⟨L,hL⟩:∃ L,p.dares[k].length=L:=⟨_,rfl⟩;have hLA:p.answers[k].length=L:=hsk.symm.trans hL;obtain ⟨C,hC⟩:∃ C,p.dares[k].zip p.answers[k]=C:=⟨_,rfl⟩
     have hCL:C.length=L:=by rw [←hC,List.length_zip];omega
     have HCP:Hid (∀ h:k < p.pairs.length,p.pairs[k]=C):=fun h=>(pairs_get k h hlt hlta).trans hC
     have HCG:Hid (∀ m (h:m < C.length) (h1:m < p.dares[k].length) (h2:m < p.answers[k].length),C[m]=(p.dares[k][m],p.answers[k][m])):=fun m h h1 h2=>by subst hC;exact List.getElem_zip
     have hal:=HP.out.al p.answers[k] (List.getElem_mem hlta);have HAL:=Lib.hid hal;rw [hL] at HVD y2 hdl hsq XD;rw [hLA] at HVA y3 hsq XA;have HSK:=Lib.hid hsk;have HHL:=Lib.hid hL;have HLA:=Lib.hid hLA
     have hn9:n+1≤1000000000:=by omega
     clear hC hal hsk hL hLA;have p0:∀ x:KW wr,x.val.cell? ⟨w.heap.size,0,none⟩=some (.slice (some ⟨bd,od,none⟩) p.dares.length cd):=fun x=>x.cell y0;have p1:∀ x:KW wr,x.val.cell? ⟨w.heap.size,1,none⟩=some (.slice (some ⟨ba,oa,none⟩) p.answers.length ca):=fun x=>x.cell y1;have p2:∀ x:KW wr,x.val.cell? ⟨bd,od+k,none⟩=some (.slice a1 L k1):=fun x=>x.cell y2;have p3:∀ x:KW wr,x.val.cell? ⟨ba,oa+k,none⟩=some (.slice a2 L k2):=fun x=>x.cell y3;go_upto_region 7 with (fail);refine wp_region_kept wr (Kept.refl _ _) (by kernel_rfl) (by kernel_rfl) ?_
     repeat (go_big_quiet_step (fail))
     refine wpQuiet_nil ?_;rintro w2 ⟨⟨_,hk2⟩,rfl⟩;clear p0 p1 p2 p3;have hkr2:=hkr.trans hk2;have y0':w2.cell? ⟨w.heap.size,0,none⟩=some (.slice (some ⟨bd,od,none⟩) p.dares.length cd):=Kept.cellOf y0 w2 hk2;have y2':w2.cell? ⟨bd,od+k,none⟩=some (.slice a1 L k1):=Kept.cellOf y2 w2 hk2;clear y0 y1 y2 y3;go_wp2_with (at_builtin;refine wpList_append_ints rfl _ _ rfl W.heap.size (.slice a n c) n (outD p k) rfl (own_keep HOW.out (hk2.alloc _) (by simp)) _ 1 [(L:Int)] rfl (Row.one1 _ _) hn9 (by have:=hkr2.size;simp only [World.size_alloc];omega) ?_);intro a3 c3 w3 hown3 hk3 _;have hk3W:Kept [] W w3:=(hkr2.alloc _).fresh hk3 (fun x hx=>(hge x hx).1)
     have HO3:Hid (w3.ownsRow W.heap.size 3 1 (.slice a3 (n+1) c3) (n+1) (ints (outA p k 0 C))):=by
      rw [outA_zero,hCL];exact hown3
     clear hown3 hk3 y0' y2';have XD2:=XD;go_wp2_with fail
     go_loopw [4,6] (fun vo vi wr=>∃ (m n2:Nat) (a:Option Addr) (c:Nat),m≤L∧vi=.int .i64 m∧vo=.slice a n2 c∧n2≤n+1+m*602∧wr.ownsRow W.heap.size 3 1 (.slice a n2 c) n2 (ints (outA p k m C))∧Kept [] W wr) (fun _ vi _=>L - (intOf vi).toNat)
     case atStart=>exact ⟨0,n+1,a3,c3,by omega,rfl,rfl,by omega,HO3.out,hk3W⟩
     case round =>
      obtain ⟨m,n2,a4,c4,hm,rfl,rfl,hn2,hown4,hkq⟩:=hrel;have HO4:=Lib.hid hown4;have hge4:=own_ge hown4;clear hown4;have u0:wr.cell? ⟨w.heap.size,0,none⟩=some (.slice (some ⟨bd,od,none⟩) p.dares.length cd):=Kept.cellOf c0 wr hkq;have u2:wr.cell? ⟨bd,od+k,none⟩=some (.slice a1 L k1):=Kept.cellOf XD.out wr hkq
      by_cases hml:m < L
      ·obtain ⟨b1,o1,rfl,hc1⟩:=HVD.out.at_ (by omega)
       have hmd:m < p.dares[k].length:=by have:=HHL.out;omega
       have hma:m < p.answers[k].length:=by have:=HLA.out;omega
       have z1:=hc1 m _ (ints_get hmd);obtain ⟨b2,o2,u3,hb2,x3,v3,e3,hv3⟩:=HVA.out.one m hma;injection e3 with e3;subst e3 hb2;obtain ⟨a5,k5,rfl,_,_⟩:=hv3.form;have HV3:=Lib.hid hv3;have hx6:=HAL.out p.answers[k][m] (List.getElem_mem hma)
       have ES:Hid (outA p k (m+1) C=outA p k m C++[p.dares[k][m],(p.answers[k][m].length:Int)]++p.answers[k][m]):=by
        show _=_
        rw [outA_succ p k m C (by omega),HCG.out m (by omega) hmd hma]
       obtain ⟨X,hX⟩:∃ X,p.answers[k][m]=X:=⟨_,rfl⟩;obtain ⟨d,hd⟩:∃ d,p.dares[k][m]=d:=⟨_,rfl⟩;rw [hX] at HV3 ES hx6 x3;rw [hd] at ES z1;clear hc1 hv3 hX hd;have q0:∀ w',Kept (obl (.slice a4 n2 c4)) wr w'→w'.cell? ⟨w.heap.size,1,none⟩=some (.slice (some ⟨ba,oa,none⟩) p.answers.length ca):=fun w' k=>k.cell0 c1 hkq (fun z hz=>(hge4 z hz).1);have q1:∀ w',Kept (obl (.slice a4 n2 c4)) wr w'→w'.cell? ⟨ba,oa+k,none⟩=some (.slice (some ⟨b2,o2,none⟩) L k2):=fun w' k=>k.cell0 XA.out hkq (fun z hz=>(hge4 z hz).1);have q2:∀ w',Kept (obl (.slice a4 n2 c4)) wr w'→w'.cell? ⟨b2,o2+m,none⟩=some (.slice a5 X.length k5):=fun w' k=>k.cell0 x3 hkq (fun z hz=>(hge4 z hz).1);have q3:∀ w',Kept (obl (.slice a4 n2 c4)) wr w'→w'.cell? ⟨w.heap.size,0,none⟩=some (.slice (some ⟨bd,od,none⟩) p.dares.length cd):=fun w' k=>k.cell0 c0 hkq (fun z hz=>(hge4 z hz).1);have q4:∀ w',Kept (obl (.slice a4 n2 c4)) wr w'→w'.cell? ⟨bd,od+k,none⟩=some (.slice (some ⟨b1,o1,none⟩) L k1):=fun w' k=>k.cell0 XD.out hkq (fun z hz=>(hge4 z hz).1);have q5:∀ w',Kept (obl (.slice a4 n2 c4)) wr w'→w'.cell? ⟨b1,o1+m,none⟩=some (.int .i64 d):=fun w' k=>k.cell0 z1 hkq (fun z hz=>(hge4 z hz).1);have hsz:=hkq.size;clear z1;go_upto_region 13 with (fail)
       go_region_held3 (fun w'=>Kept (obl (.slice a4 n2 c4)) wr w') (repeat (first|(with_reducible assumption)|(with_reducible exact Kept.refl _ _)|(with_reducible refine Kept.drew ?_)|(with_reducible refine Kept.alloc ?_ _)))
        (first
         | ((refine step_append_ints rfl _ _ rfl W.heap.size (.slice a4 n2 c4) n2 (outA p k m C) rfl (own_keep HO4.out (S:=[]) (by (repeat (first|(with_reducible exact Kept.refl _ _)|(with_reducible refine Kept.drew ?_)|(with_reducible refine Kept.alloc ?_ _)))) (by simp)) _ 2 [d,(X.length:Int)] rfl (Row.two _ _ _) (by omega) (by simp only [World.size_alloc,World.drew];omega) ?_;intro a6 c6 w6 hown6 hk6 hat6;have ht6:Kept (obl (.slice a4 n2 c4)) wr w6:=Kept.trans (by (repeat (first|(with_reducible exact Kept.refl _ _)|(with_reducible refine Kept.drew ?_)|(with_reducible refine Kept.alloc ?_ _)))) hk6))
         | ((refine step_append_ints rfl _ _ rfl W.heap.size (.slice a6 (n2+2) c6) (n2+2) (outA p k m C++[d,(X.length:Int)]) rfl hown6 (.slice a5 X.length k5) X.length X rfl (HV3.out.kept (hkq.fresh ht6 (fun z hz=>(hge4 z hz).1))) (by omega) (by have:=ht6.size;omega) ?_;intro a7 c7 w7 hown7 hk7 hat7;have ht7:Kept (obl (.slice a4 n2 c4)) wr w7:=ht6.then_ hk7 (fun x hx hm=>(hat6 x hm).elim id (fun h=>by simp only [World.size_alloc,World.drew] at h;omega)))))
       rename_i hHeld;clear hHeld q0 q1 q2 q3 q4 q5 u0 u2
       have hsl:n2+2+X.length≤n+1+(m+1)*602:=by omega
       rw [←ES.out] at hown7;have hk7W:Kept [] W w7:=hkq.fresh ht7 (fun z hz=>(hge4 z hz).1);clear ht6 hk6 hat6 hk7 hat7 ht7 hown6;go_wp2_with fail
       go_roundw
       case rel=>exact ⟨m+1,_,_,_,by omega,by go_num,rfl,hsl,hown7,hk7W⟩
       case measure=>simp [intOf];omega
      ·obtain rfl:m=L:=by omega
       have hfin:Hid (outA p k m C=outD p (k+1)):=by
        show _=_
        have h1:=HCP.out (by omega);have h2:=outA_full p k (by omega);rw [h1] at h2;rw [←h2,hCL]
       have hs7:Hid (∀ j (h1:j < p.dares.length) (h2:j < p.answers.length),j < k+1→p.dares[j].length=p.answers[j].length):=fun j h1 h2 h3=>by
        rcases (by omega:j < k∨j=k) with h|rfl
        ·exact HS.out j h1 h2 h
        ·exact HSK.out
       have hsl:n2≤1+(k+1)*361201:=by omega
       have HO5:=HO4.out;rw [hfin.out] at HO5;go_wp2_with fail
       go_roundw
       case rel=>exact ⟨k+1,n2,a4,c4,by omega,by go_num,rfl,hsl,HO5,hs7.out,hkq⟩
       case measure=>simp [intOf];omega
    ·have hsq:((p.dares[k].length:Int) != (p.answers[k].length:Int))=true:=by simp;omega
     have HR:=Lib.hid (pfRes_no (p:=p) fun h=>hsk (shaped_at h k hlt hlta));have p0:∀ x:KW wr,x.val.cell? ⟨w.heap.size,0,none⟩=some (.slice (some ⟨bd,od,none⟩) p.dares.length cd):=fun x=>x.cell y0;have p1:∀ x:KW wr,x.val.cell? ⟨w.heap.size,1,none⟩=some (.slice (some ⟨ba,oa,none⟩) p.answers.length ca):=fun x=>x.cell y1;have p2:∀ x:KW wr,x.val.cell? ⟨bd,od+k,none⟩=some (.slice a1 p.dares[k].length k1):=fun x=>x.cell y2;have p3:∀ x:KW wr,x.val.cell? ⟨ba,oa+k,none⟩=some (.slice a2 p.answers[k].length k2):=fun x=>x.cell y3;go_upto_region 7 with (fail);refine wp_region_kept wr (Kept.refl _ _) (by kernel_rfl) (by kernel_rfl) ?_
     repeat (go_big_quiet_step (fail))
     refine wpQuiet_nil ?_;rintro w2 ⟨⟨_,hk2⟩,rfl⟩;clear p0 p1 p2 p3;go_wp2_with fail
     go_ret2
     exact ⟨by rw [HR.out];rfl,HK.out.trans (hkr.trans hk2)⟩
   ·obtain rfl:k=p.dares.length:=by omega
    have y0:wr.cell? ⟨w.heap.size,0,none⟩=some (.slice ad p.dares.length cd):=Kept.cellOf c0 wr hkr;have hN:Hid (outD p p.dares.length=pfN p):=outD_full p hpl.symm;have HR:=Lib.hid (pfRes_yes (p:=p) (shaped_of HL.out fun j h1 h2=>HS.out j h1 h2 h1));rw [hN.out] at hown
    have hnl:(pfN p).length=n:=by have:=hown.1;simpa [ints] using this
    subst hnl;have HC:=Lib.hid (rnums_any _ (pfN p) wr (Row.of_own hown (by have:=HP.out.n;omega)) (by have:=HP.out.n;omega) HP.out.i);clear hown;go_wp2_with (go_at_call 73;refine HC.out.mono ?_);rintro e w1 ⟨rfl,hk1⟩;go_wp2_with fail
    go_ret2
    exact ⟨by rw [HR.out];rfl,HK.out.trans (hkr.trans hk1)⟩
 ·have hlq:((p.dares.length:Int) != (p.answers.length:Int))=true:=by simp;omega
  have HR:=Lib.hid (pfRes_no (p:=p) fun h=>hl (shaped_len h))
  go_enter Tryz.func111,Tryz.ntmps111
  go_wp2_with fail;rw [HW.out];go_wp2_with fail
  go_ret2
  exact ⟨by rw [HR.out];rfl,HK.out⟩
end Go.Proofs.YtpcdfepndmconaaGreatDoor
namespace Go.Proofs.YtpcdfepndmconaaGreatDoor
open Go.RowKit
set_option maxRecDepth 100000 in
set_option maxHeartbeats 1000000 in
theorem rtexts_any (v:Value) (l:List (List UInt8)) (w:World) (hv:Row w 1 v l.length (strs l)) (hl:l.length≤100000) (hi:∀ x∈l,x.length≤1000) :
  Calls Tryz.prog 114 #[v] w fun e w'=>e=.returned (.string ⟨(Wire.textsE l).toArray⟩)∧Kept [] w w':=by
 have hv0:=hv;obtain ⟨_,hlen,a,c,rfl,_,_⟩:=hv0;have hcat:=bcat;have hdl:=dec_len l.length (by omega);have H:=Lib.hid (fun w=>rdigits_any l.length w (by omega))
 have hfin:Wire.textsE l=Lib.decDigits l.length++[91]++l.flatMap Wire.textE++[93]:=by unfold Wire.textsE Wire.listE Lib.itoa;rw [if_neg (by omega)];rfl
 have iN:IntKind.i64.wrap (-(l.length:Int))=-(l.length:Int):=by rw [IntKind.wrap_i64];omega
 obtain ⟨D,hD⟩:∃ D,Lib.decDigits l.length=D:=⟨_,rfl⟩;obtain ⟨n,hn⟩:∃ n,l.length=n:=⟨_,rfl⟩;rw [hD] at H hfin hdl;rw [hn] at H iN hl hlen hv ⊢
 have s1:¬ 9223372036854775807 < D.length+1:=by omega
 have HV:=Lib.hid hv;have HI:=Lib.hid hi;rw [hfin];clear hfin hD hv hi
 go_enter Tryz.func114,Tryz.ntmps114
 go_upto_region 3 with (go_at_call 153;refine (H.out _).mono ?_;rintro e w1 ⟨rfl,k1⟩);have K1:=Lib.hid k1
 go_loopw [3,4] (fun v3 v4 wr=>∃ k:Nat,k≤n∧v4=.int .i64 k∧v3=.string ⟨(D++[91]++(l.take k).flatMap Wire.textE).toArray⟩∧Kept [] w1 wr) (fun _ v4 _=>n - (intOf v4).toNat)
 case atStart=>exact ⟨0,by omega,rfl,by simp,Kept.refl _ _⟩
 case round =>
  obtain ⟨k,hk,rfl,rfl,hkr⟩:=hrel;have hrow:=HV.out.kept (K1.out.trans hkr)
  by_cases hlt:k < n
  ·obtain ⟨bb,off,rfl,hc⟩:=hrow.at_ (by omega)
   have hkl:k < l.length:=by omega
   have hx:=hc k (.string ⟨l[k].toArray⟩) (by simp [strs,hkl]);have hI:=HI.out l[k] (List.getElem_mem hkl);have hIl:=textE_len l[k] (by omega);have hfl:=flat_lenS (l.take k) (fun x hx=>HI.out x (List.mem_of_mem_take hx))
   have htk:(l.take k).length≤100000:=by rw [List.length_take];omega
   have htn:D++[91]++(l.take (k+1)).flatMap Wire.textE=(D++[91]++(l.take k).flatMap Wire.textE)++Wire.textE l[k]:=by
    rw [List.take_succ_eq_append_getElem hkl,List.flatMap_append];simp only [List.flatMap_cons,List.flatMap_nil,List.append_nil,List.append_assoc]
   have hRI:=Lib.hid (fun w=>rtext_any l[k] w (by omega));obtain ⟨x,hxx⟩:∃ x,l[k]=x:=⟨_,rfl⟩;rw [hxx] at hx hI hIl htn hRI;obtain ⟨S,hS⟩:∃ S,D++[91]++(l.take k).flatMap Wire.textE=S:=⟨_,rfl⟩
   have hSl:S.length≤2100000100:=by rw [←hS];simp only [List.length_append,List.length_singleton];omega
   rw [hS] at htn ⊢;obtain ⟨E,hE⟩:∃ E,Wire.textE x=E:=⟨_,rfl⟩;rw [hE] at hIl htn hRI
   have s2:¬ 9223372036854775807 < S.length+E.length:=by omega
   have hd:decide ((k:Int) < (n:Int))=true:=by simp;omega
   have HTN:=Lib.hid htn
   have hki:(k:Int) < (n:Int):=by omega
   clear hc hxx hS hE htn hkl hfl htk;go_wp2_with (go_at_call 74;refine (hRI.out _).mono ?_;rintro e w3 ⟨rfl,k3⟩)
   go_roundw
   case rel=>exact ⟨k+1,by omega,by go_num,by rw [HTN.out],hkr.trans k3⟩
   case measure=>simp [intOf];omega
  ·obtain rfl:k=n:=by omega
   have hfl:=flat_lenS l HI.out;have htk:l.take k=l:=List.take_of_length_le (by omega);rw [htk];obtain ⟨S,hS⟩:∃ S,D++[91]++l.flatMap Wire.textE=S:=⟨_,rfl⟩
   have hSl:S.length≤2100000100:=by rw [←hS];simp only [List.length_append,List.length_singleton];omega
   rw [hS]
   have s2:¬ 9223372036854775807 < S.length+1:=by omega
   have hd:decide ((k:Int) < (k:Int))=false:=by simp
   have HS:=Lib.hid hS;clear hS hfl htk;go_wp2_with fail;go_ret;exact ⟨by rw [←HS.out];simp,K1.out.trans hkr⟩
end Go.Proofs.YtpcdfepndmconaaGreatDoor
