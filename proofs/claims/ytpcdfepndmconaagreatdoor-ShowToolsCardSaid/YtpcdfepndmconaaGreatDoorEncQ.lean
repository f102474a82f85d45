/- A record is encoded: the reference's Encode. -/
import Derived.Test.YtpcdfepndmconaaGreatDoorRtk
import Derived.Test.YtpcdfepndmconaaGreatDoorRc3
import Derived.Test.YtpcdfepndmconaaGreatDoorEncR
namespace Go.Proofs.YtpcdfepndmconaaGreatDoor
open Go.RowKit Tape
set_option maxRecDepth 100000 in
set_option maxHeartbeats 16000000 in
theorem rencR_any (tk sp lk cm ch bt es da an:Value) (r:Rec) (w:World) (hr:RecS w tk sp lk cm ch bt es da an r) (hB:EncB r) :
  Calls Tryz.prog 44 #[.agg #[tk,sp,lk,cm,ch,bt,es,da,an]] w (Ret (encRes r) w):=by
 obtain ⟨htk,hsp,hlk,hcm,hch,hbt,hes,hda,han⟩:=hr;obtain ⟨s0,d0,rfl,_,_⟩:=htk.form;obtain ⟨s1,d1,rfl,_,_⟩:=hsp.form;obtain ⟨s2,d2,rfl,_,_⟩:=hlk.form;obtain ⟨s3,d3,rfl,_,_⟩:=hcm.form;obtain ⟨s4,d4,rfl,_,_⟩:=hch.form;obtain ⟨s5,d5,rfl,_,_⟩:=hbt.form;obtain ⟨s6,d6,rfl,_,_⟩:=hes.form;obtain ⟨s7,d7,rfl,_,_⟩:=hda.form;obtain ⟨s8,d8,rfl,_,_⟩:=han.form;obtain ⟨W,hW⟩:∃ W,w.alloc (.cells #[.slice s0 r.tickets.length d0,.slice s1 r.spends.length d1,.slice s2 r.links.length d2,.slice s3 r.commits.length d3,.slice s4 r.chain.length d4,.slice s5 r.bits.length d5,.slice s6 r.escrow.length d6,.slice s7 r.proof.dares.length d7,.slice s8 r.proof.answers.length d8] 67)=W:=⟨_,rfl⟩;have hb:Blk W w.heap.size 67 #[.slice s0 r.tickets.length d0,.slice s1 r.spends.length d1,.slice s2 r.links.length d2,.slice s3 r.commits.length d3,.slice s4 r.chain.length d4,.slice s5 r.bits.length d5,.slice s6 r.escrow.length d6,.slice s7 r.proof.dares.length d7,.slice s8 r.proof.answers.length d8]:=hW▸Blk.new _ _ _;have hkW:Kept [] w W:=hW▸(Kept.refl _ _).alloc _;have HPF:=Lib.hid (rpfEnc_any _ _ r.proof W (hda.kept (fun _ _ x=>ListR.kept x hkW) hkW) (han.kept (fun _ _ x=>ListsR.kept x hkW) hkW) hB.pf);have p7:W.cell? ⟨w.heap.size,7,none⟩=some (.slice s7 r.proof.dares.length d7):=hb.cell 7;have p8:W.cell? ⟨w.heap.size,8,none⟩=some (.slice s8 r.proof.answers.length d8):=hb.cell 8;have K0F:Hid (∀ w',Kept [] W w'→w'.cell? ⟨w.heap.size,0,none⟩=some (.slice s0 r.tickets.length d0)):=fun w' k=>(hb.kept k (by simp)).cell 0
 have K1F:Hid (∀ w',Kept [] W w'→w'.cell? ⟨w.heap.size,1,none⟩=some (.slice s1 r.spends.length d1)):=fun w' k=>(hb.kept k (by simp)).cell 1;have K2F:Hid (∀ w',Kept [] W w'→w'.cell? ⟨w.heap.size,2,none⟩=some (.slice s2 r.links.length d2)):=fun w' k=>(hb.kept k (by simp)).cell 2;have K3F:Hid (∀ w',Kept [] W w'→w'.cell? ⟨w.heap.size,3,none⟩=some (.slice s3 r.commits.length d3)):=fun w' k=>(hb.kept k (by simp)).cell 3;have K4F:Hid (∀ w',Kept [] W w'→w'.cell? ⟨w.heap.size,4,none⟩=some (.slice s4 r.chain.length d4)):=fun w' k=>(hb.kept k (by simp)).cell 4;have K5F:Hid (∀ w',Kept [] W w'→w'.cell? ⟨w.heap.size,5,none⟩=some (.slice s5 r.bits.length d5)):=fun w' k=>(hb.kept k (by simp)).cell 5;have K6F:Hid (∀ w',Kept [] W w'→w'.cell? ⟨w.heap.size,6,none⟩=some (.slice s6 r.escrow.length d6)):=fun w' k=>(hb.kept k (by simp)).cell 6;have HW:=Lib.hid hW;have HB:=Lib.hid hB;have HTK:=Lib.hid (htk.kept (fun c t (x:TickR w c t)=>(show TickR W c t from x)) hkW);have HSP:=Lib.hid (hsp.kept (fun _ _ x=>SpndR.kept x hkW) hkW);have HLK:=Lib.hid (hlk.kept (fun _ _ x=>LnksR.kept x hkW) hkW);have HCM:=Lib.hid (hcm.kept hkW);have HCH:=Lib.hid (hch.kept hkW);have HBT:=Lib.hid (hbt.kept (fun _ _ x=>ListR.kept x hkW) hkW);have HES:=Lib.hid (hes.kept hkW);have SL:=Lib.hid (slens hB.ok.l7);have HKW:=Lib.hid hkW;clear hW hda han htk hsp hlk hcm hch hbt hes hB hb hkW
 by_cases hs:r.proof.shaped
 rotate_left
 ·rw [pfRes_no hs] at HPF;have HR:=Lib.hid (encRes_no hs);clear hs
  go_enter Tryz.func44,Tryz.ntmps44
  go_upto_region 1 with (fail);rw [HW.out];go_wp2_with (go_at_call 111;refine HPF.out.mono ?_);rintro e w1 ⟨rfl,hk1⟩;go_wp2_with fail
  go_ret2
  exact ⟨by rw [HR.out];rfl,HKW.out.trans hk1⟩
 rw [pfRes_yes hs] at HPF;have HR:=Lib.hid (encRes_yes hs);clear hs
 go_enter Tryz.func44,Tryz.ntmps44
 go_upto_region 1 with (fail);rw [HW.out];go_upto_region 4 with (go_at_call 111;refine HPF.out.mono ?_;rintro e V ⟨rfl,hk1⟩);clear p7 p8;replace K0F:Hid (∀ w',Kept [] V w'→w'.cell? ⟨w.heap.size,0,none⟩=some (.slice s0 r.tickets.length d0)):=fun w' k=>K0F.out w' (hk1.trans k);replace K1F:Hid (∀ w',Kept [] V w'→w'.cell? ⟨w.heap.size,1,none⟩=some (.slice s1 r.spends.length d1)):=fun w' k=>K1F.out w' (hk1.trans k);replace K2F:Hid (∀ w',Kept [] V w'→w'.cell? ⟨w.heap.size,2,none⟩=some (.slice s2 r.links.length d2)):=fun w' k=>K2F.out w' (hk1.trans k);replace K3F:Hid (∀ w',Kept [] V w'→w'.cell? ⟨w.heap.size,3,none⟩=some (.slice s3 r.commits.length d3)):=fun w' k=>K3F.out w' (hk1.trans k);replace K4F:Hid (∀ w',Kept [] V w'→w'.cell? ⟨w.heap.size,4,none⟩=some (.slice s4 r.chain.length d4)):=fun w' k=>K4F.out w' (hk1.trans k);replace K5F:Hid (∀ w',Kept [] V w'→w'.cell? ⟨w.heap.size,5,none⟩=some (.slice s5 r.bits.length d5)):=fun w' k=>K5F.out w' (hk1.trans k);replace K6F:Hid (∀ w',Kept [] V w'→w'.cell? ⟨w.heap.size,6,none⟩=some (.slice s6 r.escrow.length d6)):=fun w' k=>K6F.out w' (hk1.trans k);replace HTK:=Lib.hid (HTK.out.kept (fun c t (x:TickR W c t)=>(show TickR V c t from x)) hk1);replace HSP:=Lib.hid (HSP.out.kept (fun _ _ x=>SpndR.kept x hk1) hk1);replace HLK:=Lib.hid (HLK.out.kept (fun _ _ x=>LnksR.kept x hk1) hk1);replace HCM:=Lib.hid (HCM.out.kept hk1);replace HCH:=Lib.hid (HCH.out.kept hk1);replace HBT:=Lib.hid (HBT.out.kept (fun _ _ x=>ListR.kept x hk1) hk1);replace HES:=Lib.hid (HES.out.kept hk1)
 replace HKW:Hid (Kept [] w V):=HKW.out.trans hk1;have HOT:Hid ((V.alloc (.cells #[] 9)).ownsRow V.heap.size 9 1 (.slice (some ⟨V.heap.size,0,none⟩) 0 0) 0 (strs [])):=World.ownsRow_lit V #[] 0 (Nat.le_refl _) (by decide) rfl;obtain ⟨w2,hw2⟩:∃ w2,V.alloc (.cells #[] 9)=w2:=⟨_,rfl⟩;have kw2:Kept [] V w2:=hw2▸(Kept.refl _ _).alloc _
 have hs12:V.heap.size+1=w2.heap.size:=by rw [←hw2];simp
 obtain ⟨B,hBq⟩:∃ B,V.heap.size=B:=⟨_,rfl⟩;rw [hw2] at HOT;rw [hBq] at HOT hs12;have HW2:=Lib.hid hw2;have HBQ:=Lib.hid hBq;have c0:=K0F.out (V.alloc (.cells #[] 9)) ((Kept.refl _ _).alloc _);have HS12:=Lib.hid hs12;clear hw2 hBq hk1 hs12;go_upto_region 6 with (fail)
 have HOO:Hid ((w2.alloc (.cells #[.int .i64 (r.tickets.length:Int)] 3)).ownsRow B 3 1 (.slice (some ⟨B+1,0,none⟩) 1 1) 1 (ints [(r.tickets.length:Int)])):=by
  show World.ownsRow _ _ _ _ _ _ _
  rw [HS12.out];exact World.ownsRow_lit w2 #[.int .i64 (r.tickets.length:Int)] 1 (by have:=HS12.out;omega) (by decide) rfl
 obtain ⟨z0,hz0⟩:∃ z,w2.alloc (.cells #[.int .i64 (r.tickets.length:Int)] 3)=z:=⟨_,rfl⟩;have kz:Kept [] V z0:=hz0▸kw2.alloc _
 have E0:Hid (Duo B z0 (.slice (some ⟨B+1,0,none⟩) 1 1) (.slice (some ⟨B,0,none⟩) 0 0) 1 0 [(r.tickets.length:Int)] []) :=
  ⟨hz0▸HOO.out,hz0▸own_keep HOT.out ((Kept.refl [] w2).alloc _) (by simp),by simp [obl,Value.ownBlock]⟩
 rw [HW2.out,HBQ.out,hz0];clear c0 hz0 HOO HOT kw2
 have m0:[(r.tickets.length:Int)]=mid [] tickE r.tickets 0:=by rw [mid_zero];rfl
 rw [m0] at E0;clear m0
 have hmz:(mid [] tickE r.tickets 0).length=1:=by rw [mid_zero];rfl
 have x0:=K0F.out z0 kz;go_wp2_with fail;clear x0
 go_loopw [7,8] (fun vo vi wr=>∃ (k:Nat) (a:Option Addr) (c:Nat) (P:List Int),k≤r.tickets.length∧vi=.int .i64 k∧vo=.slice a P.length c∧mid [] tickE r.tickets k=P∧Hid (Duo B wr (.slice a P.length c) (.slice (some ⟨B,0,none⟩) 0 0) P.length 0 P [])∧Kept [] V wr) (fun _ vi _=>r.tickets.length - (intOf vi).toNat)
 case atStart=>exact ⟨0,_,1,_,Nat.zero_le _,rfl,(by rw [hmz]),rfl,(by rw [hmz];exact E0),kz⟩
 case round =>
  obtain ⟨k,a,c,P,hk,rfl,rfl,hP,E,hkr⟩:=hrel;have HP:=Lib.hid hP;have x0:=K0F.out wr hkr;clear hP E0
  by_cases hlt:k < r.tickets.length
  ·obtain ⟨b,off,rfl,hcell⟩:=HTK.out.at_ (by omega);obtain ⟨cs,hcl,hcr,hce⟩:=hcell k _ (List.getElem?_eq_getElem hlt);have hmid:=mid_succ [] tickE r.tickets k hlt;have hml:=mid_len' [] tickE r.tickets k hlt;have hS:=SL.out.l1;rw [HP.out] at hmid hml;obtain ⟨t,ht⟩:∃ t,r.tickets[k]=t:=⟨_,rfl⟩;rw [ht] at hcr hmid hml;obtain ⟨t1,t2,t3,t4,t5,t6⟩:=t;replace hcr:cs=tickC (t1,t2,t3,t4,t5,t6):=hcr;subst hcr;replace hml:P.length+6≤(S1 r).length:=hml;have HM:=Lib.hid hmid;have y0:wr.cell? ⟨b,off+k*6,none⟩=some (.int .i64 t1):=Kept.cellOf (show V.cell? ⟨b,off+k*6,none⟩=_ from (hce 0 _ (by omega) rfl)) wr hkr;have y1:wr.cell? ⟨b,off+k*6+1,none⟩=some (.int .i64 t2):=Kept.cellOf (show V.cell? ⟨b,off+k*6+1,none⟩=_ from (hce 1 _ (by omega) rfl)) wr hkr;have y2:wr.cell? ⟨b,off+k*6+2,none⟩=some (.int .i64 t3):=Kept.cellOf (show V.cell? ⟨b,off+k*6+2,none⟩=_ from (hce 2 _ (by omega) rfl)) wr hkr;have y3:wr.cell? ⟨b,off+k*6+3,none⟩=some (.int .i64 t4):=Kept.cellOf (show V.cell? ⟨b,off+k*6+3,none⟩=_ from (hce 3 _ (by omega) rfl)) wr hkr;have y4:wr.cell? ⟨b,off+k*6+4,none⟩=some (.int .i64 t5):=Kept.cellOf (show V.cell? ⟨b,off+k*6+4,none⟩=_ from (hce 4 _ (by omega) rfl)) wr hkr;have y5:wr.cell? ⟨b,off+k*6+5,none⟩=some (.int .i64 t6):=Kept.cellOf (show V.cell? ⟨b,off+k*6+5,none⟩=_ from (hce 5 _ (by omega) rfl)) wr hkr;clear hcell hce hcl ht hmid;have hT:=Lib.hid (rticket_any t1 t2 t3 t4 t5 t6 wr);go_wp2_with (go_at_call 112;refine hT.out.mono ?_);rintro e w3 ⟨a3,c3,rfl,o3,k3⟩;have D3:=Lib.hid (E.out.keep k3)
   have hk3:Kept [] V w3:=hkr.trans k3;have O3:=Lib.hid o3
   have hb3:B≤w3.heap.size:=by have:=hk3.size;have:=HBQ.out;omega
   clear o3 k3 y0 y1 y2 y3 y4 y5 x0 hT;go_wp2_with (at_builtin;refine wpList_append_ints rfl _ _ rfl B (.slice a P.length c) P.length P rfl D3.out.oo (.slice a3 6 c3) 6 (tickE (t1,t2,t3,t4,t5,t6)) rfl (Row.of_own O3.out (by omega)) (by omega) hb3 ?_);intro a4 c4 w4 own4 kk4 t4';have N4:=Lib.hid (D3.out.po own4 kk4 (fun z hz=>(t4' z hz).imp id (fun e=>by omega)));have K4:Kept [] V w4:=hk3.fresh kk4 (fun z hz=>by have:=(own_ge D3.out.oo z hz).1;have:=HBQ.out;omega)
   have hle:(P++tickE (t1,t2,t3,t4,t5,t6)).length=P.length+6:=by simp [tickE]
   rw [←hle] at N4 ⊢;clear own4 kk4 t4' D3 O3 hb3 hle hk3;go_wp2_with fail
   go_roundw
   case rel=>exact ⟨k+1,a4,c4,_,by omega,by go_num,rfl,HM.out,N4,K4⟩
   case measure=>simp [intOf];omega
  ·obtain rfl:k=r.tickets.length:=by omega
   have hP1:Hid (S1 r=P):=by show _=_;rw [←HP.out,mid_full];rfl
   have hl1:P.length≤100000000:=by have:=SL.out.l1;rw [hP1.out] at this;exact this
   clear HP;have D5:=Lib.hid (E.out.keep ((Kept.refl [] wr).alloc (.cells #[.int .i64 (r.spends.length:Int)] 3)));have hk5:Kept [] V (wr.alloc (.cells #[.int .i64 (r.spends.length:Int)] 3)):=hkr.alloc _
   have hb5:B≤(wr.alloc (.cells #[.int .i64 (r.spends.length:Int)] 3)).heap.size:=by have:=hk5.size;have:=HBQ.out;omega
   have x1:=K1F.out wr hkr;go_wp2_with (at_builtin;refine wpList_append_ints rfl _ _ rfl B (.slice a P.length c) P.length P rfl D5.out.oo _ 1 [(r.spends.length:Int)] rfl (Row.one1 _ _) (by omega) hb5 ?_);intro a5 c5 y5 own5 kk5 t5;have N5:=Lib.hid (D5.out.po own5 kk5 (fun z hz=>(t5 z hz).imp id (fun e=>by first|omega|(simp only [World.size_alloc] at e ⊢;omega))));have K5:Kept [] V y5:=hk5.fresh kk5 (fun z hz=>by have:=(own_ge D5.out.oo z hz).1;have:=HBQ.out;omega)
   have hle5:(P++[(r.spends.length:Int)]).length=P.length+1:=by simp
   rw [←hle5] at N5 ⊢;clear own5 kk5 t5 D5 hk5 hb5 hle5;clear x0 x1
   have m0:P++[(r.spends.length:Int)]=mid (S1 r) spndE r.spends 0:=by rw [mid_zero,hP1.out]
   rw [m0] at N5 ⊢;clear m0 E hkr;have x1:=K1F.out y5 K5;go_wp2_with fail;clear x1
   go_loopw [7,9] (fun vo vi wr=>∃ (k:Nat) (a:Option Addr) (c:Nat) (P:List Int),k≤r.spends.length∧vi=.int .i64 k∧vo=.slice a P.length c∧mid (S1 r) spndE r.spends k=P∧Hid (Duo B wr (.slice a P.length c) (.slice (some ⟨B,0,none⟩) 0 0) P.length 0 P [])∧Kept [] V wr) (fun _ vi _=>r.spends.length - (intOf vi).toNat)
   case atStart=>exact ⟨0,_,_,_,Nat.zero_le _,rfl,rfl,rfl,N5,K5⟩
   case round =>
    obtain ⟨k,a,c,P,hk,rfl,rfl,hP,E,hkr⟩:=hrel;have HP:=Lib.hid hP;have x1:=K1F.out wr hkr;clear hP N5
    by_cases hlt:k < r.spends.length
    ·obtain ⟨b,off,rfl,hcell⟩:=HSP.out.at_ (by omega);obtain ⟨cs,hcl,⟨us,rfl,hus⟩,hce⟩:=hcell k _ (List.getElem?_eq_getElem hlt);have hmid:=mid_succ (S1 r) spndE r.spends k hlt;have hml:=mid_len' (S1 r) spndE r.spends k hlt;have hS:=SL.out.l2;rw [HP.out] at hmid hml;obtain ⟨x,hx⟩:∃ x,r.spends[k]=x:=⟨_,rfl⟩;rw [hx] at hus hmid hml hce;obtain ⟨dare,ans⟩:=x;replace hus:Row V 1 us ans.length (ints ans):=hus;obtain ⟨au,cu,rfl,_,_⟩:=hus.form;replace hml:P.length+(spndE (dare,ans)).length≤(S2 r).length:=hml;rw [show (spndE (dare,ans)).length=2+ans.length by simp [spndE,listE];omega] at hml;have HM:=Lib.hid hmid;have hT:=Lib.hid (rspend_any dare ans (.slice au ans.length cu) wr (hus.kept hkr) (by omega));have y0:wr.cell? ⟨b,off+k*2,none⟩=some (.int .i64 dare):=Kept.cellOf (show V.cell? ⟨b,off+k*2,none⟩=_ from (hce 0 _ (by omega) rfl)) wr hkr;have y1:wr.cell? ⟨b,off+k*2+1,none⟩=some (.slice au ans.length cu):=Kept.cellOf (show V.cell? ⟨b,off+k*2+1,none⟩=_ from (hce 1 _ (by omega) rfl)) wr hkr;clear hcell hce hcl hx hmid hus;go_wp2_with (go_at_call 113;refine hT.out.mono ?_);rintro e w3 ⟨a3,c3,rfl,o3,k3⟩;have D3:=Lib.hid (E.out.keep k3);have hk3:Kept [] V w3:=hkr.trans k3;have O3:=Lib.hid o3
     have hb3:B≤w3.heap.size:=by have:=hk3.size;have:=HBQ.out;omega
     clear o3 k3 y0 y1 x1 hT;go_wp2_with (at_builtin;refine wpList_append_ints rfl _ _ rfl B (.slice a P.length c) P.length P rfl D3.out.oo (.slice a3 (2+ans.length) c3) (2+ans.length) (spndE (dare,ans)) rfl (Row.of_own O3.out (by omega)) (by omega) hb3 ?_);intro a4 c4 w4 own4 kk4 t4';have N4:=Lib.hid (D3.out.po own4 kk4 (fun z hz=>(t4' z hz).imp id (fun e=>by omega)));have K4:Kept [] V w4:=hk3.fresh kk4 (fun z hz=>by have:=(own_ge D3.out.oo z hz).1;have:=HBQ.out;omega)
     have hle:(P++spndE (dare,ans)).length=P.length+(2+ans.length):=by simp [spndE,listE];omega
     rw [←hle] at N4 ⊢;clear own4 kk4 t4' D3 O3 hb3 hle hk3;go_wp2_with fail
     go_roundw
     case rel=>exact ⟨k+1,a4,c4,_,by omega,by go_num,rfl,HM.out,N4,K4⟩
     case measure=>simp [intOf];omega
    ·obtain rfl:k=r.spends.length:=by omega
     have hP2:Hid (S2 r=P):=by show _=_;rw [←HP.out,mid_full];rfl
     have hl2:P.length≤100000000:=by have:=SL.out.l2;rw [hP2.out] at this;exact this
     clear HP hP1 hl1;have D6:=Lib.hid (E.out.keep ((Kept.refl [] wr).alloc (.cells #[.int .i64 (r.links.length:Int)] 3)));have hk6:Kept [] V (wr.alloc (.cells #[.int .i64 (r.links.length:Int)] 3)):=hkr.alloc _
     have hb6:B≤(wr.alloc (.cells #[.int .i64 (r.links.length:Int)] 3)).heap.size:=by have:=hk6.size;have:=HBQ.out;omega
     have x2:=K2F.out wr hkr;go_wp2_with (at_builtin;refine wpList_append_ints rfl _ _ rfl B (.slice a P.length c) P.length P rfl D6.out.oo _ 1 [(r.links.length:Int)] rfl (Row.one1 _ _) (by omega) hb6 ?_);intro a6 c6 y6 own6 kk6 t6;have N6:=Lib.hid (D6.out.po own6 kk6 (fun z hz=>(t6 z hz).imp id (fun e=>by first|omega|(simp only [World.size_alloc] at e ⊢;omega))));have K6:Kept [] V y6:=hk6.fresh kk6 (fun z hz=>by have:=(own_ge D6.out.oo z hz).1;have:=HBQ.out;omega)
     have hle6:(P++[(r.links.length:Int)]).length=P.length+1:=by simp
     rw [←hle6] at N6 ⊢;clear own6 kk6 t6 D6 hk6 hb6 hle6;clear x1 x2
     have hst:(strip r.links).length=r.links.length:=by unfold strip;rw [List.length_map]
     have HST:=Lib.hid hst
     have m0:P++[(r.links.length:Int)]=mid (S2 r) (manyE lnkE) (strip r.links) 0:=by rw [mid_zero,hP2.out,hst]
     rw [m0] at N6 ⊢;clear m0 E hkr hst;have x2:=K2F.out y6 K6;go_wp2_with fail;clear x2
     go_loopw [6,7,10,11,12] (fun vt vo vi _ _ wr=>∃ (k:Nat) (a:Option Addr) (c:Nat) (P:List Int) (at_:Option Addr) (ct:Nat) (T:List (List UInt8)),k≤r.links.length∧vi=.int .i64 k∧vo=.slice a P.length c∧vt=.slice at_ T.length ct∧mid (S2 r) (manyE lnkE) (strip r.links) k=P∧termsAt r.links k=T ∧
       Hid (Duo B wr (.slice a P.length c) (.slice at_ T.length ct) P.length T.length P T)∧Kept [] V wr) (fun _ _ vi _ _ _=>r.links.length - (intOf vi).toNat)
     case atStart=>exact ⟨0,_,_,_,_,0,[],Nat.zero_le _,rfl,rfl,rfl,rfl,by simp [termsAt],N6,K6⟩
     case round =>
      obtain ⟨k,a,c,P,at_,ct,T,hk,rfl,rfl,rfl,hP,hT,E,hkr⟩:=hrel;have HP:=Lib.hid hP;have HT:=Lib.hid hT;have x2:=K2F.out wr hkr;clear hP hT N6
      by_cases hlt:k < r.links.length
      ·obtain ⟨b,off,ul,rfl,hcell,v1,e1,hul⟩:=HLK.out.one k hlt;injection e1 with e1;subst e1
       have hks:k < (strip r.links).length:=by have:=HST.out;omega
       have hmid:=mid_succ (S2 r) (manyE lnkE) (strip r.links) k hks;have hml:=mid_len' (S2 r) (manyE lnkE) (strip r.links) k hks;have hS:=SL.out.l3;have hte:=termsAt_succ r.links k hlt;have htl:=termsAt_len r.links (k+1);have htb:=HB.out.tl
       have hsk:(strip r.links)[k]=r.links[k].map Prod.fst:=by show (r.links.map (List.map Prod.fst))[k]'(by simpa [strip] using hks)=_;exact List.getElem_map _
       rw [HP.out,hsk] at hmid hml;rw [HT.out] at hte;rw [hte] at htl;obtain ⟨X,hX⟩:∃ X,r.links[k]=X:=⟨_,rfl⟩;rw [hX] at hmid hml hul hte htl;obtain ⟨al,cl,rfl,_,_⟩:=hul.form;replace hml:P.length+(manyE lnkE (X.map Prod.fst)).length≤(S3 r).length:=hml;have HM:=Lib.hid hmid;have HTE:=Lib.hid hte;have HUL:=Lib.hid hul;have hxm:(X.map Prod.fst).length=X.length:=List.length_map _;have HXM:=Lib.hid hxm
       have hpm:P.length+1≤1000000000:=by omega
       have htm:T.length+X.length≤1000:=by rw [List.length_append,List.length_map] at htl;omega
       have hmall:P.length+(manyE lnkE (X.map Prod.fst)).length≤100000000:=by omega
       have XL:Hid (∀ w',Kept [] V w'→w'.cell? ⟨b,off+k,none⟩=some (.slice al X.length cl)):=Kept.cellOf hcell;clear hcell hmid hul hte htl hxm hsk hX htb;have D7:=Lib.hid (E.out.keep ((Kept.refl [] wr).alloc (.cells #[.int .i64 (X.length:Int)] 3)));have hk7:Kept [] V (wr.alloc (.cells #[.int .i64 (X.length:Int)] 3)):=hkr.alloc _
       have hb7:B≤(wr.alloc (.cells #[.int .i64 (X.length:Int)] 3)).heap.size:=by have:=hk7.size;have:=HBQ.out;omega
       have x0:=XL.out wr hkr;go_wp2_with (at_builtin;refine wpList_append_ints rfl _ _ rfl B (.slice a P.length c) P.length P rfl D7.out.oo _ 1 [(X.length:Int)] rfl (Row.one1 _ _) (by omega) hb7 ?_);intro a7 c7 y7 own7 kk7 t7;have N7:=Lib.hid (D7.out.po own7 kk7 (fun z hz=>(t7 z hz).imp id (fun e=>by first|omega|(simp only [World.size_alloc] at e ⊢;omega))));have K7:Kept [] V y7:=hk7.fresh kk7 (fun z hz=>by have:=(own_ge D7.out.oo z hz).1;have:=HBQ.out;omega)
       have hle7:(P++[(X.length:Int)]).length=P.length+1:=by simp
       rw [←hle7] at N7 ⊢;clear own7 kk7 t7 D7 hk7 hb7 hle7;clear x0 x2
       have m0:P++[(X.length:Int)]=mid P lnkE (X.map Prod.fst) 0:=by rw [mid_zero,HXM.out]
       rw [m0] at N7 ⊢;clear m0 E hkr;go_upto_region 21 with (fail)
       go_loopw [6,7,11,12] (fun vt vo vi _ wr=>∃ (m:Nat) (a:Option Addr) (c:Nat) (Q:List Int) (at_:Option Addr) (ct:Nat) (U:List (List UInt8)),m≤X.length∧vi=.int .i64 m∧vo=.slice a Q.length c∧vt=.slice at_ U.length ct∧mid P lnkE (X.map Prod.fst) m=Q∧T++(X.take m).map Prod.snd=U ∧
         Hid (Duo B wr (.slice a Q.length c) (.slice at_ U.length ct) Q.length U.length Q U)∧Kept [] V wr) (fun _ _ vi _ _=>X.length - (intOf vi).toNat)
       case atStart=>exact ⟨0,_,_,_,at_,ct,T,Nat.zero_le _,rfl,rfl,rfl,rfl,by simp,N7,K7⟩
       case round =>
        obtain ⟨m,a,c,Q,at_,ct,U,hm,rfl,rfl,rfl,hQ,hU,E,hkr⟩:=hrel;have HQ:=Lib.hid hQ;have HU:=Lib.hid hU;have x2:=K2F.out wr hkr;have x0:=XL.out wr hkr;clear hQ hU N7 K7
        by_cases hml2:m < X.length
        ·obtain ⟨b2,off2,rfl,hcell⟩:=HUL.out.at_ (by omega);obtain ⟨cs,hcl,⟨us,rfl,hus⟩,hce⟩:=hcell m _ (List.getElem?_eq_getElem hml2)
         have hms:m < (X.map Prod.fst).length:=by have:=HXM.out;omega
         have hmid:=mid_succ P lnkE (X.map Prod.fst) m hms;have hml3:=mid_len' P lnkE (X.map Prod.fst) m hms;rw [List.length_append] at hml3;rw [HQ.out,List.getElem_map] at hmid hml3;have htk:=List.take_add_one (i:=m) (l:=X);rw [List.getElem?_eq_getElem hml2] at htk;obtain ⟨x,hx⟩:∃ x,X[m]=x:=⟨_,rfl⟩;rw [hx] at hus hmid hml3 hce htk;obtain ⟨⟨⟨t1,t2,t3,t4,t5,t6⟩,dare,ans⟩,term⟩:=x;replace hus:Row V 1 us ans.length (ints ans):=hus;obtain ⟨au,cu,rfl,_,_⟩:=hus.form
         have hUl:U.length=T.length+m:=by rw [←HU.out,List.length_append,List.length_map,List.length_take];omega
         have hnT:U.length+1≤1000000000:=by omega
         clear hUl
         have HTK2:Hid (T++(X.take (m+1)).map Prod.snd=U++[term]):=by
          show _=_
          rw [htk,List.map_append,←List.append_assoc,HU.out]
          rfl
         replace hmid:mid P lnkE (X.map Prod.fst) (m+1)=Q++lnkE ((t1,t2,t3,t4,t5,t6),dare,ans):=hmid;replace hml3:Q.length+(lnkE ((t1,t2,t3,t4,t5,t6),dare,ans)).length≤P.length+(manyE lnkE (X.map Prod.fst)).length:=hml3;rw [show (lnkE ((t1,t2,t3,t4,t5,t6),dare,ans)).length=ans.length+8 by simp [lnkE,tickE,spndE,listE]] at hml3
         have hQm:Q.length+ans.length+8≤100000000:=by omega
         have HM2:Hid (mid P lnkE (X.map Prod.fst) (m+1)=Q++tickE (t1,t2,t3,t4,t5,t6)++spndE (dare,ans)):=by show _=_;rw [hmid];simp [lnkE]
         have HUS:=Lib.hid hus;have z0:wr.cell? ⟨b2,off2+m*9,none⟩=some (.int .i64 t1):=Kept.cellOf (show V.cell? ⟨b2,off2+m*9,none⟩=_ from (hce 0 _ (by omega) rfl)) wr hkr;have z1:wr.cell? ⟨b2,off2+m*9+1,none⟩=some (.int .i64 t2):=Kept.cellOf (show V.cell? ⟨b2,off2+m*9+1,none⟩=_ from (hce 1 _ (by omega) rfl)) wr hkr;have z2:wr.cell? ⟨b2,off2+m*9+2,none⟩=some (.int .i64 t3):=Kept.cellOf (show V.cell? ⟨b2,off2+m*9+2,none⟩=_ from (hce 2 _ (by omega) rfl)) wr hkr;have z3:wr.cell? ⟨b2,off2+m*9+3,none⟩=some (.int .i64 t4):=Kept.cellOf (show V.cell? ⟨b2,off2+m*9+3,none⟩=_ from (hce 3 _ (by omega) rfl)) wr hkr;have z4:wr.cell? ⟨b2,off2+m*9+4,none⟩=some (.int .i64 t5):=Kept.cellOf (show V.cell? ⟨b2,off2+m*9+4,none⟩=_ from (hce 4 _ (by omega) rfl)) wr hkr;have z5:wr.cell? ⟨b2,off2+m*9+5,none⟩=some (.int .i64 t6):=Kept.cellOf (show V.cell? ⟨b2,off2+m*9+5,none⟩=_ from (hce 5 _ (by omega) rfl)) wr hkr;have z6:wr.cell? ⟨b2,off2+m*9+6,none⟩=some (.int .i64 dare):=Kept.cellOf (show V.cell? ⟨b2,off2+m*9+6,none⟩=_ from (hce 6 _ (by omega) rfl)) wr hkr;have z7:wr.cell? ⟨b2,off2+m*9+7,none⟩=some (.slice au ans.length cu):=Kept.cellOf (show V.cell? ⟨b2,off2+m*9+7,none⟩=_ from (hce 7 _ (by omega) rfl)) wr hkr;have z8:wr.cell? ⟨b2,off2+m*9+8,none⟩=some (.string ⟨term.toArray⟩):=Kept.cellOf (show V.cell? ⟨b2,off2+m*9+8,none⟩=_ from (hce 8 _ (by omega) rfl)) wr hkr;clear hcell hce hcl hx hmid hus htk hml3;go_upto_region 24 with (fail);obtain ⟨y,hy⟩:∃ y,wr.alloc (.cells #[.int .i64 t1,.int .i64 t2,.int .i64 t3,.int .i64 t4,.int .i64 t5,.int .i64 t6,.int .i64 dare,.slice au ans.length cu,.string ⟨term.toArray⟩] 138)=y:=⟨_,rfl⟩
         obtain ⟨v,hv⟩:∃ v,wr.heap.size=v:=⟨_,rfl⟩
         have by_:Blk y v 138 #[.int .i64 t1,.int .i64 t2,.int .i64 t3,.int .i64 t4,.int .i64 t5,.int .i64 t6,.int .i64 dare,.slice au ans.length cu,.string ⟨term.toArray⟩]:=by rw [←hy,←hv];exact Blk.new _ _ _
         have kwy:Kept [] wr y:=hy▸(Kept.refl _ _).alloc _;have hgo:=own_ge E.out.oo;have hgt:=own_ge E.out.ot;rw [hv] at hgo hgt;have EY:=Lib.hid (E.out.keep (kwy.trans ((Kept.refl [] y).alloc (.cells #[.string ⟨term.toArray⟩] 9))));have ky:Kept [] V (y.alloc (.cells #[.string ⟨term.toArray⟩] 9)):=(hkr.trans kwy).alloc _
         have hby:B≤(y.alloc (.cells #[.string ⟨term.toArray⟩] 9)).heap.size:=by have:=ky.size;have:=HBQ.out;omega
         have x8:=by_.cell 8;rw [hy,hv];clear hy z0 z1 z2 z3 z4 z5 z6 z7 z8 x0 x2 E kwy;go_wp2_with (at_builtin;refine wpList_append_strs rfl _ _ rfl B (.slice at_ U.length ct) U.length U rfl EY.out.ot _ 1 [term] rfl (Row.str1 rfl _) hnT hby ?_);intro a2 c2 w2 own2 kk2 t2';have E2:=Lib.hid (EY.out.pt own2 kk2 (fun z hz=>(t2' z hz).imp id (fun e=>by first|omega|(simp only [World.size_alloc] at e ⊢;omega))));have k2:Kept [] V w2:=ky.fresh kk2 (fun z hz=>by have:=(own_ge EY.out.ot z hz).1;have:=HBQ.out;omega);have by2:Blk w2 v 138 #[.int .i64 t1,.int .i64 t2,.int .i64 t3,.int .i64 t4,.int .i64 t5,.int .i64 t6,.int .i64 dare,.slice au ans.length cu,.string ⟨term.toArray⟩]:=(by_.alloc _).kept kk2 (fun hx=>by have:=hgt v hx;omega)
         have hlu:(U++[term]).length=U.length+1:=by simp
         rw [←hlu] at E2 ⊢;obtain ⟨U2,hU2⟩:∃ U2,U++[term]=U2:=⟨_,rfl⟩;rw [hU2] at E2 HTK2 ⊢
         have hvo:v∉obl (.slice a Q.length c):=fun hx=>by have:=hgo v hx;omega
         have hb2:B≤w2.heap.size:=by have:=k2.size;have:=HBQ.out;omega
         have s0:Bs B w2 w2 (.slice a Q.length c) (.slice a Q.length c) Q.length Q []:=Bs.start E2.out.oo hb2;have CT:Hid (∀ w',Calls Tryz.prog 112 #[.agg #[.int .i64 t1,.int .i64 t2,.int .i64 t3,.int .i64 t4,.int .i64 t5,.int .i64 t6]] w' (MadeI (tickE (t1,t2,t3,t4,t5,t6)) 6 w')):=fun w'=>rticket_any t1 t2 t3 t4 t5 t6 w'
         have CS:Hid (∀ w',Kept (obl (.slice a Q.length c)) w2 w'→Calls Tryz.prog 113 #[.agg #[.int .i64 dare,.slice au ans.length cu]] w' (MadeI (spndE (dare,ans)) (2+ans.length) w')):=fun w' kk =>
          rspend_any dare ans (.slice au ans.length cu) w' (HUS.out.kept (k2.fresh kk (fun z hz=>by have:=(own_ge E2.out.oo z hz).1;have:=HBQ.out;omega))) (by omega)
         have q0:∀ w',Kept (obl (.slice a Q.length c)) w2 w'→w'.cell? ⟨v,0,none⟩=some (.int .i64 t1):=fun w' kk=>(by2.kept kk hvo).cell 0;have q1:∀ w',Kept (obl (.slice a Q.length c)) w2 w'→w'.cell? ⟨v,1,none⟩=some (.int .i64 t2):=fun w' kk=>(by2.kept kk hvo).cell 1;have q2:∀ w',Kept (obl (.slice a Q.length c)) w2 w'→w'.cell? ⟨v,2,none⟩=some (.int .i64 t3):=fun w' kk=>(by2.kept kk hvo).cell 2;have q3:∀ w',Kept (obl (.slice a Q.length c)) w2 w'→w'.cell? ⟨v,3,none⟩=some (.int .i64 t4):=fun w' kk=>(by2.kept kk hvo).cell 3;have q4:∀ w',Kept (obl (.slice a Q.length c)) w2 w'→w'.cell? ⟨v,4,none⟩=some (.int .i64 t5):=fun w' kk=>(by2.kept kk hvo).cell 4;have q5:∀ w',Kept (obl (.slice a Q.length c)) w2 w'→w'.cell? ⟨v,5,none⟩=some (.int .i64 t6):=fun w' kk=>(by2.kept kk hvo).cell 5;have q6:∀ w',Kept (obl (.slice a Q.length c)) w2 w'→w'.cell? ⟨v,6,none⟩=some (.int .i64 dare):=fun w' kk=>(by2.kept kk hvo).cell 6;have q7:∀ w',Kept (obl (.slice a Q.length c)) w2 w'→w'.cell? ⟨v,7,none⟩=some (.slice au ans.length cu):=fun w' kk=>(by2.kept kk hvo).cell 7;clear own2 kk2 t2' EY ky hby hlu hU2 hgo hgt x8 hkr hv;go_upto_region 25 with (fail)
         go_region_held3 (fun w'=>Kept (obl (.slice a Q.length c)) w2 w') (repeat (first|(with_reducible assumption)|(with_reducible exact Kept.refl _ _)|(with_reducible refine Kept.drew ?_)|(with_reducible refine Kept.alloc ?_ _)))
          (first
           | (go_at_call 112;refine (CT.out _).mono ?_;rintro e wT ⟨aT,cT,rfl,oT,kT⟩;have sT2:=sS1.made oT kT (by omega);have hT2:=sT2.kept)
           | (go_at_call 112;refine (CT.out _).mono ?_;rintro e wT ⟨aT,cT,rfl,oT,kT⟩;have sT1:=(s0.drew).made oT kT (by omega);have hT1:=sT1.kept)
           | (go_at_call 113;refine (CS.out _ (by assumption)).mono ?_;rintro e wS ⟨aS,cS,rfl,oS,kS⟩;have sS3:=sA.made oS kS (by omega);have hS3:=sS3.kept)
           | (go_at_call 113;refine (CS.out _ (by assumption)).mono ?_;rintro e wS ⟨aS,cS,rfl,oS,kS⟩;have sS2:=sT1.made oS kS (by omega);have hS2:=sS2.kept)
           | (go_at_call 113;refine (CS.out _ (Kept.refl _ _).drew).mono ?_;rintro e wS ⟨aS,cS,rfl,oS,kS⟩;have sS1:=(s0.drew).made oS kS (by omega);have hS1:=sS1.kept)
           | (refine step_append_bs sS3 rfl _ _ rfl rfl (.slice aS (2+ans.length) cS) (2+ans.length) (spndE (dare,ans)) rfl (by simp) (by omega) ?_;intro aE cE wE sE;have hE:=sE.kept)
           | (refine step_append_bs sA rfl _ _ rfl rfl (.slice aS (2+ans.length) cS) (2+ans.length) (spndE (dare,ans)) rfl (by simp) (by omega) ?_;intro aE cE wE sE;have hE:=sE.kept)
           | (refine step_append_bs sT2 rfl _ _ rfl rfl (.slice aT 6 cT) 6 (tickE (t1,t2,t3,t4,t5,t6)) rfl (by simp) (by omega) ?_;intro aA cA wA sA;have hA:=sA.kept)
           | (refine step_append_bs sS2 rfl _ _ rfl rfl (.slice aT 6 cT) 6 (tickE (t1,t2,t3,t4,t5,t6)) rfl (by simp) (by omega) ?_;intro aA cA wA sA;have hA:=sA.kept)
           | (refine step_append_bs sT1 rfl _ _ rfl rfl (.slice aT 6 cT) 6 (tickE (t1,t2,t3,t4,t5,t6)) rfl (by simp) (by omega) ?_;intro aA cA wA sA;have hA:=sA.kept)
           | fail)
         all_goals (
          have N8:=Lib.hid (E2.out.po sE.own hE sE.ge);have K8:Kept [] V wE:=k2.fresh hE (fun z hz=>by have:=(own_ge E2.out.oo z hz).1;have:=HBQ.out;omega)
          have hle:(Q++tickE (t1,t2,t3,t4,t5,t6)++spndE (dare,ans)).length=Q.length+6+(2+ans.length):=by simp [tickE,spndE,listE];omega
          rw [←hle] at N8 ⊢;obtain ⟨Q2,hQ2⟩:∃ Q2,Q++tickE (t1,t2,t3,t4,t5,t6)++spndE (dare,ans)=Q2:=⟨_,rfl⟩;rw [hQ2] at N8 HM2 ⊢;clear hQ2 q0 q1 q2 q3 q4 q5 q6 q7 hle sE hE
          go_wp2_with fail)
         all_goals go_roundw
         all_goals first
          | exact ⟨m+1,aE,cE,Q2,a2,c2,U2,by omega,by go_num,rfl,rfl,HM2.out,HTK2.out,N8,K8⟩
          | (simp [intOf];omega)
        ·obtain rfl:m=X.length:=by omega
         have hQf:=mid_full P lnkE (X.map Prod.fst);rw [HXM.out,HQ.out,←HM.out] at hQf;have hUf:=HU.out;rw [List.take_length,←HTE.out] at hUf;have HQF:=Lib.hid hQf;have HUF:=Lib.hid hUf;clear hQf hUf;go_wp2_with fail
         go_roundw
         case rel=>exact ⟨k+1,a,c,Q,at_,ct,U,by omega,by go_num,rfl,rfl,HQF.out.symm,HUF.out,E,hkr⟩
         case measure=>simp [intOf];omega
      ·obtain rfl:k=r.links.length:=by omega
       have hP3:Hid (S3 r=P):=by
        show _=_
        have h1:=mid_full (S2 r) (manyE lnkE) (strip r.links);rw [HST.out,HP.out] at h1;exact h1.symm
       have hl3:P.length≤100000000:=by have:=SL.out.l3;rw [hP3.out] at this;exact this
       have hTT:Hid (terms r.links=T):=by
        show _=_
        rw [←HT.out,termsAt_full]
       clear HP hP2 hl2 HT;have ow9:=own_ge E.out.oo;have q9:∀ w',Kept (obl (.slice a P.length c)) wr w'→w'.cell? ⟨w.heap.size,3,none⟩=some (.slice s3 r.commits.length d3):=fun w' kk=>K3F.out w' (hkr.fresh kk (fun z hz=>by have:=(ow9 z hz).1;have:=HBQ.out;omega))
       have hsz9:B≤wr.heap.size:=by have:=hkr.size;have:=HBQ.out;omega
       have hpl9:P.length+1+r.commits.length≤100000000:=by have:=SL.out.l4;rw [show S4 r=P++listE r.commits by rw [←hP3.out];rfl,List.length_append] at this;simp [listE] at this;omega
       go_upto_region 26 with (fail)
       go_region_held3 (fun w'=>Kept (obl (.slice a P.length c)) wr w') (repeat (first|(with_reducible assumption)|(with_reducible exact Kept.refl _ _)|(with_reducible refine Kept.drew ?_)|(with_reducible refine Kept.alloc ?_ _)))
        (first
         | ((refine step_append_ints rfl _ _ rfl B (.slice a P.length c) P.length P rfl (own_keep E.out.oo (S:=[]) (by (repeat (first|(with_reducible exact Kept.refl _ _)|(with_reducible refine Kept.drew ?_)|(with_reducible refine Kept.alloc ?_ _)))) (by simp)) _ 1 [(r.commits.length:Int)] rfl (Row.one1 _ _) (by omega) (by simp only [World.size_alloc,World.drew];omega) ?_;intro a9 c9 w9 own9 kk9 t9;have ht9:Kept (obl (.slice a P.length c)) wr w9:=Kept.trans (by (repeat (first|(with_reducible exact Kept.refl _ _)|(with_reducible refine Kept.drew ?_)|(with_reducible refine Kept.alloc ?_ _)))) kk9))
         | ((refine step_append_ints rfl _ _ rfl B (.slice a9 (P.length+1) c9) (P.length+1) (P++[(r.commits.length:Int)]) rfl own9 (.slice s3 r.commits.length d3) r.commits.length r.commits rfl (HCM.out.kept (hkr.fresh ht9 (fun z hz=>by have:=(ow9 z hz).1;have:=HBQ.out;omega))) (by omega) (by have:=ht9.size;omega) ?_;intro b9 e9 y9 own29 kk29 t29;have hu9:Kept (obl (.slice a P.length c)) wr y9:=ht9.then_ kk29 (fun x hx hm=>(t9 x hm).elim id (fun h=>by simp only [World.size_alloc,World.drew] at h;omega))))
         | fail)
       rename_i hHeld;have N9:=Lib.hid (E.out.po own29 hu9 (fun z hz=>(t29 z hz).elim (fun h=>(t9 z h).imp id (fun e=>by simp only [World.size_alloc,World.drew] at e;omega)) (fun h=>Or.inr (by have:=ht9.size;omega))));have K9:Kept [] V y9:=hkr.fresh hu9 (fun z hz=>by have:=(ow9 z hz).1;have:=HBQ.out;omega)
       have hle9:(P++[(r.commits.length:Int)]++r.commits).length=P.length+1+r.commits.length:=by rw [List.length_append,List.length_append];rfl
       rw [←hle9] at N9 ⊢;clear hHeld q9 own9 kk9 t9 own29 kk29 t29 ht9 hu9 hle9 ow9 hsz9 hpl9;obtain ⟨P4,hP4⟩:∃ P4,P++[(r.commits.length:Int)]++r.commits=P4:=⟨_,rfl⟩
       have hS4:Hid (S4 r=P4):=by show _=_;rw [←hP4,←hP3.out];simp [S4,listE]
       rw [hP4] at N9 ⊢;clear hP4 x2 E hkr;have ow11:=own_ge N9.out.oo;have q11:∀ w',Kept (obl (.slice b9 P4.length e9)) y9 w'→w'.cell? ⟨w.heap.size,4,none⟩=some (.slice s4 r.chain.length d4):=fun w' kk=>K4F.out w' (K9.fresh kk (fun z hz=>by have:=(ow11 z hz).1;have:=HBQ.out;omega))
       have hsz11:B≤y9.heap.size:=by have:=K9.size;have:=HBQ.out;omega
       have hpl11:P4.length+1+r.chain.length≤100000000:=by have:=SL.out.l5;rw [show S5 r=P4++listE r.chain by rw [←hS4.out];rfl,List.length_append] at this;simp [listE] at this;omega
       go_upto_region 27 with (fail)
       go_region_held3 (fun w'=>Kept (obl (.slice b9 P4.length e9)) y9 w') (repeat (first|(with_reducible assumption)|(with_reducible exact Kept.refl _ _)|(with_reducible refine Kept.drew ?_)|(with_reducible refine Kept.alloc ?_ _)))
        (first
         | ((refine step_append_ints rfl _ _ rfl B (.slice b9 P4.length e9) P4.length P4 rfl (own_keep N9.out.oo (S:=[]) (by (repeat (first|(with_reducible exact Kept.refl _ _)|(with_reducible refine Kept.drew ?_)|(with_reducible refine Kept.alloc ?_ _)))) (by simp)) _ 1 [(r.chain.length:Int)] rfl (Row.one1 _ _) (by omega) (by simp only [World.size_alloc,World.drew];omega) ?_;intro a11 c11 w11 own11 kk11 t11;have ht11:Kept (obl (.slice b9 P4.length e9)) y9 w11:=Kept.trans (by (repeat (first|(with_reducible exact Kept.refl _ _)|(with_reducible refine Kept.drew ?_)|(with_reducible refine Kept.alloc ?_ _)))) kk11))
         | ((refine step_append_ints rfl _ _ rfl B (.slice a11 (P4.length+1) c11) (P4.length+1) (P4++[(r.chain.length:Int)]) rfl own11 (.slice s4 r.chain.length d4) r.chain.length r.chain rfl (HCH.out.kept (K9.fresh ht11 (fun z hz=>by have:=(ow11 z hz).1;have:=HBQ.out;omega))) (by omega) (by have:=ht11.size;omega) ?_;intro b11 e11 y11 own211 kk211 t211;have hu11:Kept (obl (.slice b9 P4.length e9)) y9 y11:=ht11.then_ kk211 (fun x hx hm=>(t11 x hm).elim id (fun h=>by simp only [World.size_alloc,World.drew] at h;omega))))
         | fail)
       rename_i hHeld;have N11:=Lib.hid (N9.out.po own211 hu11 (fun z hz=>(t211 z hz).elim (fun h=>(t11 z h).imp id (fun e=>by simp only [World.size_alloc,World.drew] at e;omega)) (fun h=>Or.inr (by have:=ht11.size;omega))));have K11:Kept [] V y11:=K9.fresh hu11 (fun z hz=>by have:=(ow11 z hz).1;have:=HBQ.out;omega)
       have hle11:(P4++[(r.chain.length:Int)]++r.chain).length=P4.length+1+r.chain.length:=by rw [List.length_append,List.length_append];rfl
       rw [←hle11] at N11 ⊢;clear hHeld q11 own11 kk11 t11 own211 kk211 t211 ht11 hu11 hle11 ow11 hsz11 hpl11;obtain ⟨P5,hP5⟩:∃ P5,P4++[(r.chain.length:Int)]++r.chain=P5:=⟨_,rfl⟩
       have hS5:Hid (S5 r=P5):=by show _=_;rw [←hP5,←hS4.out];simp [S5,listE]
       have hl5:P5.length≤100000000:=by have:=SL.out.l5;rw [hS5.out] at this;exact this
       rw [hP5] at N11 ⊢;clear hP5 N9 K9 hS4;have D12:=Lib.hid (N11.out.keep ((Kept.refl [] y11).alloc (.cells #[.int .i64 (r.bits.length:Int)] 3)));have hk12:Kept [] V (y11.alloc (.cells #[.int .i64 (r.bits.length:Int)] 3)):=K11.alloc _
       have hb12:B≤(y11.alloc (.cells #[.int .i64 (r.bits.length:Int)] 3)).heap.size:=by have:=hk12.size;have:=HBQ.out;omega
       have x5:=K5F.out y11 K11;go_wp2_with (at_builtin;refine wpList_append_ints rfl _ _ rfl B (.slice b11 P5.length e11) P5.length P5 rfl D12.out.oo _ 1 [(r.bits.length:Int)] rfl (Row.one1 _ _) (by omega) hb12 ?_);intro a12 c12 y12 own12 kk12 t12;have N12:=Lib.hid (D12.out.po own12 kk12 (fun z hz=>(t12 z hz).imp id (fun e=>by first|omega|(simp only [World.size_alloc] at e ⊢;omega))));have K12:Kept [] V y12:=hk12.fresh kk12 (fun z hz=>by have:=(own_ge D12.out.oo z hz).1;have:=HBQ.out;omega)
       have hle12:(P5++[(r.bits.length:Int)]).length=P5.length+1:=by simp
       rw [←hle12] at N12 ⊢;clear own12 kk12 t12 D12 hk12 hb12 hle12
       have m0:P5++[(r.bits.length:Int)]=mid (S5 r) listE r.bits 0:=by rw [mid_zero,hS5.out]
       rw [m0] at N12 ⊢;clear m0 x5 N11 K11;have x5:=K5F.out y12 K12;go_wp2_with fail;clear x5
       go_loopw [7,13] (fun vo vi wr=>∃ (k:Nat) (a:Option Addr) (c:Nat) (P:List Int),k≤r.bits.length∧vi=.int .i64 k∧vo=.slice a P.length c∧mid (S5 r) listE r.bits k=P∧Hid (Duo B wr (.slice a P.length c) (.slice at_ T.length ct) P.length T.length P T)∧Kept [] V wr) (fun _ vi _=>r.bits.length - (intOf vi).toNat)
       case atStart=>exact ⟨0,_,_,_,Nat.zero_le _,rfl,rfl,rfl,N12,K12⟩
       case round =>
        obtain ⟨k,a,c,P,hk,rfl,rfl,hP,E,hkr⟩:=hrel;have HP:=Lib.hid hP;have x5:=K5F.out wr hkr;clear hP N12
        by_cases hlt:k < r.bits.length
        ·obtain ⟨b,off,ul,rfl,hcell,v1,e1,hul⟩:=HBT.out.one k hlt;injection e1 with e1;subst e1;have hmid:=mid_succ (S5 r) listE r.bits k hlt;have hml:=mid_len' (S5 r) listE r.bits k hlt;have hS:=SL.out.l6;rw [HP.out] at hmid hml;obtain ⟨X,hX⟩:∃ X,r.bits[k]=X:=⟨_,rfl⟩;rw [hX] at hmid hml hul;obtain ⟨al,cl,rfl,_,_⟩:=hul.form;replace hml:P.length+(listE X).length≤(S6 r).length:=hml;rw [show (listE X).length=X.length+1 by simp [listE]] at hml
         have HM:Hid (mid (S5 r) listE r.bits (k+1)=P++[(X.length:Int)]++X):=by show _=_;rw [hmid];simp [listE]
         have HUL:=Lib.hid hul;have XL:=Kept.cellOf hcell;have owq:=own_ge E.out.oo;have qx:∀ w',Kept (obl (.slice a P.length c)) wr w'→w'.cell? ⟨b,off+k,none⟩=some (.slice al X.length cl):=fun w' kk=>XL w' (hkr.fresh kk (fun z hz=>by have:=(owq z hz).1;have:=HBQ.out;omega));clear hcell hmid hul hX XL;have ow13:=own_ge E.out.oo;have q13:∀ w',Kept (obl (.slice a P.length c)) wr w'→w'.cell? ⟨w.heap.size,5,none⟩=some (.slice (some ⟨b,off,none⟩) r.bits.length d5):=fun w' kk=>K5F.out w' (hkr.fresh kk (fun z hz=>by have:=(ow13 z hz).1;have:=HBQ.out;omega))
         have hsz13:B≤wr.heap.size:=by have:=hkr.size;have:=HBQ.out;omega
         have hpl13:P.length+1+X.length≤100000000:=by omega
         go_upto_region 32 with (fail)
         go_region_held3 (fun w'=>Kept (obl (.slice a P.length c)) wr w') (repeat (first|(with_reducible assumption)|(with_reducible exact Kept.refl _ _)|(with_reducible refine Kept.drew ?_)|(with_reducible refine Kept.alloc ?_ _)))
          (first
           | ((refine step_append_ints rfl _ _ rfl B (.slice a P.length c) P.length P rfl (own_keep E.out.oo (S:=[]) (by (repeat (first|(with_reducible exact Kept.refl _ _)|(with_reducible refine Kept.drew ?_)|(with_reducible refine Kept.alloc ?_ _)))) (by simp)) _ 1 [(X.length:Int)] rfl (Row.one1 _ _) (by omega) (by simp only [World.size_alloc,World.drew];omega) ?_;intro a13 c13 w13 own13 kk13 t13;have ht13:Kept (obl (.slice a P.length c)) wr w13:=Kept.trans (by (repeat (first|(with_reducible exact Kept.refl _ _)|(with_reducible refine Kept.drew ?_)|(with_reducible refine Kept.alloc ?_ _)))) kk13))
           | ((refine step_append_ints rfl _ _ rfl B (.slice a13 (P.length+1) c13) (P.length+1) (P++[(X.length:Int)]) rfl own13 (.slice al X.length cl) X.length X rfl (HUL.out.kept (hkr.fresh ht13 (fun z hz=>by have:=(ow13 z hz).1;have:=HBQ.out;omega))) (by omega) (by have:=ht13.size;omega) ?_;intro b13 e13 y13 own213 kk213 t213;have hu13:Kept (obl (.slice a P.length c)) wr y13:=ht13.then_ kk213 (fun x hx hm=>(t13 x hm).elim id (fun h=>by simp only [World.size_alloc,World.drew] at h;omega))))
           | fail)
         rename_i hHeld;have N13:=Lib.hid (E.out.po own213 hu13 (fun z hz=>(t213 z hz).elim (fun h=>(t13 z h).imp id (fun e=>by simp only [World.size_alloc,World.drew] at e;omega)) (fun h=>Or.inr (by have:=ht13.size;omega))));have K13:Kept [] V y13:=hkr.fresh hu13 (fun z hz=>by have:=(ow13 z hz).1;have:=HBQ.out;omega)
         have hle13:(P++[(X.length:Int)]++X).length=P.length+1+X.length:=by rw [List.length_append,List.length_append];rfl
         rw [←hle13] at N13 ⊢;clear hHeld q13 own13 kk13 t13 own213 kk213 t213 ht13 hu13 hle13 ow13 hsz13 hpl13;rw [←HM.out] at N13 ⊢;obtain ⟨P6,hP6⟩:∃ P6,mid (S5 r) listE r.bits (k+1)=P6:=⟨_,rfl⟩;rw [hP6] at N13 ⊢;have HP6:=Lib.hid hP6;clear hP6 qx HM x5;go_wp2_with fail
         go_roundw
         case rel=>exact ⟨k+1,b13,e13,P6,by omega,by go_num,rfl,HP6.out,N13,K13⟩
         case measure=>simp [intOf];omega
        ·obtain rfl:k=r.bits.length:=by omega
         have hP6:Hid (S6 r=P):=by show _=_;rw [←HP.out,mid_full];rfl
         clear HP;have ow14:=own_ge E.out.oo;have q14:∀ w',Kept (obl (.slice a P.length c)) wr w'→w'.cell? ⟨w.heap.size,6,none⟩=some (.slice s6 r.escrow.length d6):=fun w' kk=>K6F.out w' (hkr.fresh kk (fun z hz=>by have:=(ow14 z hz).1;have:=HBQ.out;omega))
         have hsz14:B≤wr.heap.size:=by have:=hkr.size;have:=HBQ.out;omega
         have hpl14:P.length+1+r.escrow.length≤100000000:=by have:=SL.out.l7;rw [hP6.out,List.length_append] at this;simp [listE] at this;omega
         go_upto_region 33 with (fail)
         go_region_held3 (fun w'=>Kept (obl (.slice a P.length c)) wr w') (repeat (first|(with_reducible assumption)|(with_reducible exact Kept.refl _ _)|(with_reducible refine Kept.drew ?_)|(with_reducible refine Kept.alloc ?_ _)))
          (first
           | ((refine step_append_ints rfl _ _ rfl B (.slice a P.length c) P.length P rfl (own_keep E.out.oo (S:=[]) (by (repeat (first|(with_reducible exact Kept.refl _ _)|(with_reducible refine Kept.drew ?_)|(with_reducible refine Kept.alloc ?_ _)))) (by simp)) _ 1 [(r.escrow.length:Int)] rfl (Row.one1 _ _) (by omega) (by simp only [World.size_alloc,World.drew];omega) ?_;intro a14 c14 w14 own14 kk14 t14;have ht14:Kept (obl (.slice a P.length c)) wr w14:=Kept.trans (by (repeat (first|(with_reducible exact Kept.refl _ _)|(with_reducible refine Kept.drew ?_)|(with_reducible refine Kept.alloc ?_ _)))) kk14))
           | ((refine step_append_ints rfl _ _ rfl B (.slice a14 (P.length+1) c14) (P.length+1) (P++[(r.escrow.length:Int)]) rfl own14 (.slice s6 r.escrow.length d6) r.escrow.length r.escrow rfl (HES.out.kept (hkr.fresh ht14 (fun z hz=>by have:=(ow14 z hz).1;have:=HBQ.out;omega))) (by omega) (by have:=ht14.size;omega) ?_;intro b14 e14 y14 own214 kk214 t214;have hu14:Kept (obl (.slice a P.length c)) wr y14:=ht14.then_ kk214 (fun x hx hm=>(t14 x hm).elim id (fun h=>by simp only [World.size_alloc,World.drew] at h;omega))))
           | fail)
         rename_i hHeld;have N14:=Lib.hid (E.out.po own214 hu14 (fun z hz=>(t214 z hz).elim (fun h=>(t14 z h).imp id (fun e=>by simp only [World.size_alloc,World.drew] at e;omega)) (fun h=>Or.inr (by have:=ht14.size;omega))));have K14:Kept [] V y14:=hkr.fresh hu14 (fun z hz=>by have:=(ow14 z hz).1;have:=HBQ.out;omega)
         have hle14:(P++[(r.escrow.length:Int)]++r.escrow).length=P.length+1+r.escrow.length:=by rw [List.length_append,List.length_append];rfl
         rw [←hle14] at N14 ⊢;clear hHeld q14 own14 kk14 t14 own214 kk214 t214 ht14 hu14 hle14 ow14 hsz14 hpl14
         have hP7:P++[(r.escrow.length:Int)]++r.escrow=nums7E r.n7:=by rw [←S7_eq,hP6.out];simp [listE]
         rw [hP7] at N14 ⊢;clear hP7 x5;obtain ⟨N,hN⟩:∃ N,nums7E r.n7=N:=⟨_,rfl⟩;have hNi:AllI N:=hN▸HB.out.ok.n7;have hNl:N.length≤100000000:=hN▸HB.out.ok.l7
         have hRE:Hid (recE r=Wire.textsE T++(Wire.numsE N++Wire.textE (pfE r.proof))):=by show _=_;unfold recE;rw [hTT.out,hN]
         rw [hN] at N14 ⊢
         have hTl:T.length≤1000:=by have:=HB.out.tl;rw [hTT.out] at this;exact this
         have hTs:∀ t∈T,t.length≤1000:=by have:=HB.out.ts;rw [hTT.out] at this;exact this
         have hPl:=HB.out.pe;have RT:=Lib.hid (Row.of_own N14.out.ot (by omega));have RN:=Lib.hid (Row.of_own N14.out.oo (by omega));have l0:=textsE_len T hTl hTs;have l1:=numsE_le hNi (by omega);have l2:=textE_len (pfE r.proof) hPl;have hcat:=bcat;have CT:Hid (∀ w',Kept [] y14 w'→Calls Tryz.prog 114 #[.slice at_ T.length ct] w' fun e w2=>e=.returned (.string ⟨(Wire.textsE T).toArray⟩)∧Kept [] w' w2):=fun w' k=>rtexts_any _ T w' (RT.out.kept k) (by omega) hTs;have CN:Hid (∀ w',Kept [] y14 w'→Calls Tryz.prog 73 #[.slice b14 N.length e14] w' fun e w2=>e=.returned (.string ⟨(Wire.numsE N).toArray⟩)∧Kept [] w' w2):=fun w' k=>rnums_any _ N w' (RN.out.kept k) (by omega) hNi;have CP:Hid (∀ w',Kept [] y14 w'→Calls Tryz.prog 74 #[.string ⟨(pfE r.proof).toArray⟩] w' fun e w2=>e=.returned (.string ⟨(Wire.textE (pfE r.proof)).toArray⟩)∧Kept [] w' w2):=fun w' _=>rtext_any (pfE r.proof) w' hPl
         have s1:¬ 9223372036854775807 < (Wire.textsE T).length+(Wire.numsE N).length:=by omega
         have s2:¬ 9223372036854775807 < (Wire.textsE T).length+(Wire.numsE N).length+(Wire.textE (pfE r.proof)).length:=by omega
         clear hN l0 l1 l2 hNi hTs;have CT0:=Lib.hid (CT.out y14 (Kept.refl _ _));go_wp2_with (go_at_call 114;refine CT0.out.mono ?_);rintro e w7 ⟨rfl,k7⟩;have CN0:=Lib.hid (CN.out w7 k7);go_wp2_with (go_at_call 73;refine CN0.out.mono ?_);rintro e w8 ⟨rfl,k8⟩;have k78:=k7.trans k8;have CP0:=Lib.hid (CP.out w8 k78);go_wp2_with (go_at_call 74;refine CP0.out.mono ?_);rintro e w9 ⟨rfl,k9⟩;have hk10:=k78.trans k9;go_wp2_with fail
         go_ret2
         exact ⟨by rw [HR.out,hRE.out];simp,HKW.out.trans (K14.trans hk10)⟩
end Go.Proofs.YtpcdfepndmconaaGreatDoor
