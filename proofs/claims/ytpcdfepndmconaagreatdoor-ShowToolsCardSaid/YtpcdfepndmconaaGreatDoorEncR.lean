/- A record is encoded: show.Encode. -/
import Derived.Test.YtpcdfepndmconaaGreatDoorRtk
import Derived.Laws.EntriesVeiled
namespace Go.Proofs.YtpcdfepndmconaaGreatDoor
open Go.RowKit Tape
theorem textsE_len (l:List (List UInt8)) (hl:l.length≤1000) (h:∀ x∈l,x.length≤1000):(Wire.textsE l).length≤1100000:=by
 have h1:=flat_lenS l h;have h2:=Wire.itoa_len (l.length:Int) ⟨by omega,by omega⟩
 unfold Wire.textsE Wire.listE
 simp only [List.length_append,List.length_cons,List.length_nil];omega
set_option maxRecDepth 100000 in
set_option maxHeartbeats 16000000 in
theorem encR_any (tk sp lk cm ch bt es da an:Value) (r:Rec) (w:World) (hr:RecS w tk sp lk cm ch bt es da an r) (hE:Env w) (hB:EncB r) :
  Calls Tryz.prog 43 #[.agg #[tk,sp,lk,cm,ch,bt,es,da,an]] w (Ret (encRes r) w):=by
 obtain ⟨htk,hsp,hlk,hcm,hch,hbt,hes,hda,han⟩:=hr;obtain ⟨s0,d0,rfl,_,_⟩:=htk.form;obtain ⟨s1,d1,rfl,_,_⟩:=hsp.form;obtain ⟨s2,d2,rfl,_,_⟩:=hlk.form;obtain ⟨s3,d3,rfl,_,_⟩:=hcm.form;obtain ⟨s4,d4,rfl,_,_⟩:=hch.form;obtain ⟨s5,d5,rfl,_,_⟩:=hbt.form;obtain ⟨s6,d6,rfl,_,_⟩:=hes.form;obtain ⟨s7,d7,rfl,_,_⟩:=hda.form;obtain ⟨s8,d8,rfl,_,_⟩:=han.form;obtain ⟨W,hW⟩:∃ W,w.alloc (.cells #[.slice s0 r.tickets.length d0,.slice s1 r.spends.length d1,.slice s2 r.links.length d2,.slice s3 r.commits.length d3,.slice s4 r.chain.length d4,.slice s5 r.bits.length d5,.slice s6 r.escrow.length d6,.slice s7 r.proof.dares.length d7,.slice s8 r.proof.answers.length d8] 67)=W:=⟨_,rfl⟩;have hb:Blk W w.heap.size 67 #[.slice s0 r.tickets.length d0,.slice s1 r.spends.length d1,.slice s2 r.links.length d2,.slice s3 r.commits.length d3,.slice s4 r.chain.length d4,.slice s5 r.bits.length d5,.slice s6 r.escrow.length d6,.slice s7 r.proof.dares.length d7,.slice s8 r.proof.answers.length d8]:=hW▸Blk.new _ _ _;have hkW:Kept [] w W:=hW▸(Kept.refl _ _).alloc _
 have hWs:W.heap.size=w.heap.size+1:=by rw [←hW];simp only [World.size_alloc]
 have HPF:=Lib.hid (pfEnc_any _ _ r.proof W (hda.kept (fun _ _ x=>ListR.kept x hkW) hkW) (han.kept (fun _ _ x=>ListsR.kept x hkW) hkW) (hE.kept0 hkW) hB.pf);have p7:W.cell? ⟨w.heap.size,7,none⟩=some (.slice s7 r.proof.dares.length d7):=hb.cell 7;have p8:W.cell? ⟨w.heap.size,8,none⟩=some (.slice s8 r.proof.answers.length d8):=hb.cell 8;have HW:=Lib.hid hW;have HB:=Lib.hid hB;have HE:=Lib.hid hE;have HTK:=Lib.hid htk;have HSP:=Lib.hid hsp;have HLK:=Lib.hid hlk;have HCM:=Lib.hid hcm;have HCH:=Lib.hid hch;have HBT:=Lib.hid hbt;have HES:=Lib.hid hes;have SL:=Lib.hid (slens hB.ok.l7);have hmf:∀ (fn:Fn) (first cap:Array Value) (w:World),(Instr.makeFunc fn first cap).run Tryz.prog w=.ok (.func fn first cap) w:=fun _ _ _ _=>rfl;clear hW hda han htk hsp hlk hcm hch hbt hes hE hB
 by_cases hs:r.proof.shaped
 ·rw [pfRes_yes hs] at HPF;have HR:=Lib.hid (encRes_yes hs);clear hs
  go_enter Tryz.func43,Tryz.ntmps43
  go_upto_region 1 with (fail);rw [HW.out];go_upto_region 6 with (go_at_call 106;refine HPF.out.mono ?_;rintro e w1 ⟨rfl,hk1⟩);obtain ⟨o,ho⟩:∃ o,w1.heap.size=o:=⟨_,rfl⟩;have hoW:W.heap.size≤o:=ho▸hk1.size;obtain ⟨w2,hw2⟩:∃ w2,w1.alloc (.cells #[.slice none 0 0] 24)=w2:=⟨_,rfl⟩;rw [ho,hw2];go_upto_region 9 with (fail)
  have hs2:w2.heap.size=o+1:=by rw [←hw2,←ho];simp only [World.size_alloc]
  rw [hs2];obtain ⟨w3,hw3⟩:∃ w3,w2.alloc (.cells #[.func (.func 107) #[] #[.pointer (some ⟨o,0,none⟩)]] 132)=w3:=⟨_,rfl⟩;have k12:Kept [] w1 w2:=hw2▸(Kept.refl _ _).alloc _;have k23:Kept [] w2 w3:=hw3▸(Kept.refl _ _).alloc _
  have hs3:w3.heap.size=o+2:=by rw [←hw3];simp only [World.size_alloc,hs2]
  have bo2:Blk w2 o 24 #[.slice none 0 0]:=by rw [←hw2,←ho];exact Blk.new _ _ _
  have bq3:WriterAt w3 (o+1) o:=by rw [←hw3,←hs2];exact Blk.new _ _ _
  have kw3:Kept [] w w3:=hkW.trans (hk1.trans (k12.trans k23));have hB3:Blk w3 w.heap.size 67 #[.slice s0 r.tickets.length d0,.slice s1 r.spends.length d1,.slice s2 r.links.length d2,.slice s3 r.commits.length d3,.slice s4 r.chain.length d4,.slice s5 r.bits.length d5,.slice s6 r.escrow.length d6,.slice s7 r.proof.dares.length d7,.slice s8 r.proof.answers.length d8]:=hb.kept (hk1.trans (k12.trans k23)) (by simp);rw [hw3]
  have E0:Hid (Enc3 w w3 w3 o w3.heap.size none 0 [] none 0 []) :=
   ⟨⟨bo2.kept k23 (by simp),World.ownsRow_nil _ _ _ _,by omega,Nat.le_refl _,by omega,kw3⟩,Kept.refl _ _,Nat.le_refl _,World.ownsRow_nil _ _ _ _,by simp [obl,Value.ownBlock]⟩
  have K0:Hid (∀ wr,Kept [o] w3 wr→wr.cell? ⟨w.heap.size,0,none⟩=some (.slice s0 r.tickets.length d0)):=fun wr k=>(hB3.kept k (by simp;omega)).cell 0;have K1:Hid (∀ wr,Kept [o] w3 wr→wr.cell? ⟨w.heap.size,1,none⟩=some (.slice s1 r.spends.length d1)):=fun wr k=>(hB3.kept k (by simp;omega)).cell 1;have K2:Hid (∀ wr,Kept [o] w3 wr→wr.cell? ⟨w.heap.size,2,none⟩=some (.slice s2 r.links.length d2)):=fun wr k=>(hB3.kept k (by simp;omega)).cell 2;have K3:Hid (∀ wr,Kept [o] w3 wr→wr.cell? ⟨w.heap.size,3,none⟩=some (.slice s3 r.commits.length d3)):=fun wr k=>(hB3.kept k (by simp;omega)).cell 3;have K4:Hid (∀ wr,Kept [o] w3 wr→wr.cell? ⟨w.heap.size,4,none⟩=some (.slice s4 r.chain.length d4)):=fun wr k=>(hB3.kept k (by simp;omega)).cell 4;have K5:Hid (∀ wr,Kept [o] w3 wr→wr.cell? ⟨w.heap.size,5,none⟩=some (.slice s5 r.bits.length d5)):=fun wr k=>(hB3.kept k (by simp;omega)).cell 5;have K6:Hid (∀ wr,Kept [o] w3 wr→wr.cell? ⟨w.heap.size,6,none⟩=some (.slice s6 r.escrow.length d6)):=fun wr k=>(hB3.kept k (by simp;omega)).cell 6;have KQ:Hid (∀ wr,Kept [o] w3 wr→wr.cell? ⟨o+1,0,none⟩=some (.func (.func 107) #[] #[.pointer (some ⟨o,0,none⟩)])):=fun wr k=>(bq3.kept k (by simp)).cell 0;have WQ:Hid (∀ wr,Kept [o] w3 wr→WriterAt wr (o+1) o):=fun wr k=>bq3.kept k (by simp)
  have hqb:o+1 < w3.heap.size:=by omega
  obtain ⟨B,hBB⟩:∃ B,w3.heap.size=B:=⟨_,rfl⟩;rw [hBB] at E0 hqb;clear hw2 hw3 k12 k23 hs2 hs3 bo2 bq3 kw3 hB3 hb p7 p8 hWs hkW ho hoW hBB;obtain ⟨P0,hP0⟩:∃ P:List Int,[]=P:=⟨_,rfl⟩;rw [hP0] at E0;have HP0:=Lib.hid hP0;clear hP0;have xc1:=K0.out w3 E0.out.F;have c01:=E0.out.O.cell;have far1:=E0.out.O.far;have le1:=E0.out.O.le;have lt1:=E0.out.O.lt
  have pl1:P0.length+1≤1000000000:=by rw [←HP0.out];simp
  go_wp2_with (at_builtin;refine wpList_append_ints rfl _ _ rfl B (.slice none P0.length 0) P0.length P0 rfl (own_keep E0.out.O.own ((Kept.refl [] _).alloc _) (by simp)) _ 1 [(r.tickets.length:Int)] rfl (Row.one1' rfl _) pl1 (by simp only [World.size_alloc];omega) ?_);intro a1 c1 y1 own1 k1 at1;have kw1:Kept (obl (.slice none P0.length 0)) w3 y1:=((Kept.refl _ _).alloc _).trans k1;have bo1:=E0.out.O.blk.kept kw1 (fun hx=>by have:=far1 o hx;omega);have da1:y1.cell? ⟨o,0,none⟩=some (.slice none P0.length 0):=bo1.cell 0;have db1:=bo1.frozen 0;have E1:Hid (Enc3 w w3 (y1.setCell ⟨o,0,none⟩ (.slice a1 (P0.length+1) c1)) o B a1 c1 (P0++[(r.tickets.length:Int)]) none 0 []):=E0.out.put kw1 (by simp) own1 (fun z hz=>(at1 z hz).imp id (fun e=>by first|omega|(simp only [World.size_alloc] at e;omega)));clear k1 at1 far1 c01 own1 kw1 xc1 bo1;go_upto_region 10 with (fail);obtain ⟨z1,hz1⟩:∃ z,y1.setCell ⟨o,0,none⟩ (.slice a1 (P0.length+1) c1)=z:=⟨_,rfl⟩;rw [hz1] at E1;rw [hz1];clear da1 db1 hz1 le1 lt1 pl1
  have m0:P0++[(r.tickets.length:Int)]=mid [] tickE r.tickets 0:=by rw [mid_zero,HP0.out]
  rw [m0] at E1;clear m0;have x0:=K0.out z1 E1.out.F;go_wp2_with fail;clear x0
  go_loopw [12,41] (fun _ vi wr=>∃ (k:Nat) (a:Option Addr) (c:Nat) (P:List Int),k≤r.tickets.length∧vi=.int .i64 k∧mid [] tickE r.tickets k=P∧Enc3 w w3 wr o B a c P none 0 []) (fun _ vi _=>r.tickets.length - (intOf vi).toNat)
  case atStart=>exact ⟨0,_,_,_,Nat.zero_le _,rfl,rfl,E1.out⟩
  case round =>
   obtain ⟨k,a,c,P,hk,rfl,hP,he⟩:=hrel;have E:=Lib.hid he;have HP:=Lib.hid hP;clear he hP E1
   by_cases hlt:k < r.tickets.length
   ·obtain ⟨b,off,rfl,hcell⟩:=HTK.out.at_ (by omega);obtain ⟨cs,hcl,hcr,hce⟩:=hcell k _ (List.getElem?_eq_getElem hlt);have hmid:=mid_succ [] tickE r.tickets k hlt;have hml:=mid_len' [] tickE r.tickets k hlt;have hS:=SL.out.l1;rw [HP.out] at hmid hml;obtain ⟨t,ht⟩:∃ t,r.tickets[k]=t:=⟨_,rfl⟩;rw [ht] at hcr hmid hml;obtain ⟨t1,t2,t3,t4,t5,t6⟩:=t;replace hcr:cs=tickC (t1,t2,t3,t4,t5,t6):=hcr;subst hcr;replace hml:P.length+6≤(S1 r).length:=hml;have HM:=Lib.hid hmid;have hk0:=E.out.O.k0;have x0:wr.cell? ⟨b,off+k*6,none⟩=some (.int .i64 t1):=Kept.cellOf (show w.cell? ⟨b,off+k*6,none⟩=_ from (hce 0 _ (by omega) rfl)) wr hk0;have x1:wr.cell? ⟨b,off+k*6+1,none⟩=some (.int .i64 t2):=Kept.cellOf (show w.cell? ⟨b,off+k*6+1,none⟩=_ from (hce 1 _ (by omega) rfl)) wr hk0;have x2:wr.cell? ⟨b,off+k*6+2,none⟩=some (.int .i64 t3):=Kept.cellOf (show w.cell? ⟨b,off+k*6+2,none⟩=_ from (hce 2 _ (by omega) rfl)) wr hk0;have x3:wr.cell? ⟨b,off+k*6+3,none⟩=some (.int .i64 t4):=Kept.cellOf (show w.cell? ⟨b,off+k*6+3,none⟩=_ from (hce 3 _ (by omega) rfl)) wr hk0;have x4:wr.cell? ⟨b,off+k*6+4,none⟩=some (.int .i64 t5):=Kept.cellOf (show w.cell? ⟨b,off+k*6+4,none⟩=_ from (hce 4 _ (by omega) rfl)) wr hk0;have x5:wr.cell? ⟨b,off+k*6+5,none⟩=some (.int .i64 t6):=Kept.cellOf (show w.cell? ⟨b,off+k*6+5,none⟩=_ from (hce 5 _ (by omega) rfl)) wr hk0;clear hcell hce hcl ht hmid;go_upto_region 13 with (fail);obtain ⟨y,hy⟩:∃ y,wr.alloc (.cells #[.int .i64 t1,.int .i64 t2,.int .i64 t3,.int .i64 t4,.int .i64 t5,.int .i64 t6] 134)=y:=⟨_,rfl⟩
    have by_:Blk y wr.heap.size 134 #[.int .i64 t1,.int .i64 t2,.int .i64 t3,.int .i64 t4,.int .i64 t5,.int .i64 t6]:=hy▸Blk.new _ _ _;have EY:Hid (Enc3 w w3 y o B a c P none 0 []):=hy▸E.out.alloc _;clear x0 x1 x2 x3 x4 x5;have x0:=by_.cell 0;have x1:=by_.cell 1;have x2:=by_.cell 2;have x3:=by_.cell 3;have x4:=by_.cell 4;have x5:=by_.cell 5;have HC:Hid (Calls Tryz.prog 108 #[.agg #[.int .i64 t1,.int .i64 t2,.int .i64 t3,.int .i64 t4,.int .i64 t5,.int .i64 t6],.pointer (some ⟨o,0,none⟩)] y (Put w o B a c P.length (P++tickE (t1,t2,t3,t4,t5,t6)) y)):=enc_ticket w o B a c P (t1,t2,t3,t4,t5,t6) y EY.out.O (by omega);rw [hy];clear hy by_;go_wp2_with (go_at_call 108;refine HC.out.mono ?_);rintro e y2 ⟨a2,c2,rfl,O2,k2,at2⟩;have E2:=Lib.hid (EY.out.call O2 k2 at2);clear O2 k2 at2 x0 x1 x2 x3 x4 x5;go_wp2_with fail
    go_roundw
    case rel=>exact ⟨k+1,a2,c2,_,by omega,by go_num,HM.out,E2.out⟩
    case measure=>simp [intOf];omega
   ·obtain rfl:k=r.tickets.length:=by omega
    have hP1:Hid (S1 r=P):=by show _=_;rw [←HP.out,mid_full];rfl
    have hl1:P.length≤100000000:=by have:=SL.out.l1;rw [hP1.out] at this;exact this
    clear HP;have xc2:=K1.out wr E.out.F;have c02:=E.out.O.cell;have far2:=E.out.O.far;have le2:=E.out.O.le;have lt2:=E.out.O.lt
    have pl2:P.length+1≤1000000000:=by omega
    go_wp2_with (at_builtin;refine wpList_append_ints rfl _ _ rfl B (.slice a P.length c) P.length P rfl (own_keep E.out.O.own ((Kept.refl [] _).alloc _) (by simp)) _ 1 [(r.spends.length:Int)] rfl (Row.one1' rfl _) pl2 (by simp only [World.size_alloc];omega) ?_);intro a2 c2 y2 own2 k2 at2;have kw2:Kept (obl (.slice a P.length c)) wr y2:=((Kept.refl _ _).alloc _).trans k2;have bo2:=E.out.O.blk.kept kw2 (fun hx=>by have:=far2 o hx;omega);have da2:y2.cell? ⟨o,0,none⟩=some (.slice a P.length c):=bo2.cell 0;have db2:=bo2.frozen 0;have E2:Hid (Enc3 w w3 (y2.setCell ⟨o,0,none⟩ (.slice a2 (P.length+1) c2)) o B a2 c2 (P++[(r.spends.length:Int)]) none 0 []):=E.out.put kw2 (by simp) own2 (fun z hz=>(at2 z hz).imp id (fun e=>by first|omega|(simp only [World.size_alloc] at e;omega)));clear k2 at2 far2 c02 own2 kw2 xc2 bo2;go_upto_region 16 with (fail);obtain ⟨z2,hz2⟩:∃ z,y2.setCell ⟨o,0,none⟩ (.slice a2 (P.length+1) c2)=z:=⟨_,rfl⟩;rw [hz2] at E2;rw [hz2];clear da2 db2 hz2 le2 lt2 pl2
    have m0:P++[(r.spends.length:Int)]=mid (S1 r) spndE r.spends 0:=by rw [mid_zero,hP1.out]
    rw [m0] at E2;clear m0;have x1:=K1.out z2 E2.out.F;go_wp2_with fail;clear x1
    go_loopw [14,58] (fun _ vi wr=>∃ (k:Nat) (a:Option Addr) (c:Nat) (P:List Int),k≤r.spends.length∧vi=.int .i64 k∧mid (S1 r) spndE r.spends k=P∧Enc3 w w3 wr o B a c P none 0 []) (fun _ vi _=>r.spends.length - (intOf vi).toNat)
    case atStart=>exact ⟨0,_,_,_,Nat.zero_le _,rfl,rfl,E2.out⟩
    case round =>
     obtain ⟨k,a,c,P,hk,rfl,hP,he⟩:=hrel;have E:=Lib.hid he;have HP:=Lib.hid hP;clear he hP E2
     by_cases hlt:k < r.spends.length
     ·obtain ⟨b,off,rfl,hcell⟩:=HSP.out.at_ (by omega);obtain ⟨cs,hcl,⟨us,rfl,hus⟩,hce⟩:=hcell k _ (List.getElem?_eq_getElem hlt);have hmid:=mid_succ (S1 r) spndE r.spends k hlt;have hml:=mid_len' (S1 r) spndE r.spends k hlt;have hS:=SL.out.l2;rw [HP.out] at hmid hml;obtain ⟨x,hx⟩:∃ x,r.spends[k]=x:=⟨_,rfl⟩;rw [hx] at hus hmid hml hce;obtain ⟨dare,ans⟩:=x;replace hus:Row w 1 us ans.length (ints ans):=hus;obtain ⟨au,cu,rfl,_,_⟩:=hus.form;replace hml:P.length+(spndE (dare,ans)).length≤(S2 r).length:=hml;rw [show (spndE (dare,ans)).length=ans.length+2 by simp [spndE,listE]] at hml;have HM:=Lib.hid hmid;have HU:=Lib.hid hus;have hk0:=E.out.O.k0;have x0:wr.cell? ⟨b,off+k*2,none⟩=some (.int .i64 dare):=Kept.cellOf (show w.cell? ⟨b,off+k*2,none⟩=_ from (hce 0 _ (by omega) rfl)) wr hk0;have x1:wr.cell? ⟨b,off+k*2+1,none⟩=some (.slice au ans.length cu):=Kept.cellOf (show w.cell? ⟨b,off+k*2+1,none⟩=_ from (hce 1 _ (by omega) rfl)) wr hk0;clear hcell hce hcl hx hmid hus;go_upto_region 19 with (fail);obtain ⟨y,hy⟩:∃ y,wr.alloc (.cells #[.int .i64 dare,.slice au ans.length cu] 110)=y:=⟨_,rfl⟩;have by_:Blk y wr.heap.size 110 #[.int .i64 dare,.slice au ans.length cu]:=hy▸Blk.new _ _ _;have EY:Hid (Enc3 w w3 y o B a c P none 0 []):=hy▸E.out.alloc _;clear x0 x1;have x0:=by_.cell 0;have x1:=by_.cell 1;have HC:Hid (Calls Tryz.prog 109 #[.agg #[.int .i64 dare,.slice au ans.length cu],.pointer (some ⟨o,0,none⟩),.pointer (some ⟨o+1,0,none⟩)] y (Put w o B a c P.length (P++spndE (dare,ans)) y)):=enc_spend w o B (o+1) a c P (dare,ans) _ y EY.out.O (WQ.out y EY.out.F) hqb (by omega) HU.out (by show P.length+2+ans.length≤_;omega)
      rw [hy];clear hy by_;go_wp2_with (go_at_call 109;refine HC.out.mono ?_);rintro e y2 ⟨a2,c2,rfl,O2,k2,at2⟩;have E2:=Lib.hid (EY.out.call O2 k2 at2);clear O2 k2 at2 x0 x1;go_wp2_with fail
      go_roundw
      case rel=>exact ⟨k+1,a2,c2,_,by omega,by go_num,HM.out,E2.out⟩
      case measure=>simp [intOf];omega
     ·obtain rfl:k=r.spends.length:=by omega
      have hP2:Hid (S2 r=P):=by show _=_;rw [←HP.out,mid_full];rfl
      have hl2:P.length≤100000000:=by have:=SL.out.l2;rw [hP2.out] at this;exact this
      clear HP hP1 hl1;have xc3:=K2.out wr E.out.F;have c03:=E.out.O.cell;have far3:=E.out.O.far;have le3:=E.out.O.le;have lt3:=E.out.O.lt
      have pl3:P.length+1≤1000000000:=by omega
      go_wp2_with (at_builtin;refine wpList_append_ints rfl _ _ rfl B (.slice a P.length c) P.length P rfl (own_keep E.out.O.own ((Kept.refl [] _).alloc _) (by simp)) _ 1 [(r.links.length:Int)] rfl (Row.one1' rfl _) pl3 (by simp only [World.size_alloc];omega) ?_);intro a3 c3 y3 own3 k3 at3;have kw3:Kept (obl (.slice a P.length c)) wr y3:=((Kept.refl _ _).alloc _).trans k3;have bo3:=E.out.O.blk.kept kw3 (fun hx=>by have:=far3 o hx;omega);have da3:y3.cell? ⟨o,0,none⟩=some (.slice a P.length c):=bo3.cell 0;have db3:=bo3.frozen 0;have E3:Hid (Enc3 w w3 (y3.setCell ⟨o,0,none⟩ (.slice a3 (P.length+1) c3)) o B a3 c3 (P++[(r.links.length:Int)]) none 0 []):=E.out.put kw3 (by simp) own3 (fun z hz=>(at3 z hz).imp id (fun e=>by first|omega|(simp only [World.size_alloc] at e;omega)));clear k3 at3 far3 c03 own3 kw3 xc3 bo3;go_upto_region 22 with (fail);obtain ⟨z3,hz3⟩:∃ z,y3.setCell ⟨o,0,none⟩ (.slice a3 (P.length+1) c3)=z:=⟨_,rfl⟩;rw [hz3] at E3;rw [hz3];clear da3 db3 hz3 le3 lt3 pl3
      have hst:(strip r.links).length=r.links.length:=by unfold strip;rw [List.length_map]
      have HST:=Lib.hid hst
      have m0:P++[(r.links.length:Int)]=mid (S2 r) (manyE lnkE) (strip r.links) 0:=by rw [mid_zero,hP2.out,hst]
      rw [m0] at E3;clear m0 hst;have x2:=K2.out z3 E3.out.F;go_wp2_with fail;clear x2
      go_loopw [6,16,18,75] (fun vt _ _ vi wr=>∃ (k:Nat) (a:Option Addr) (c:Nat) (P:List Int) (at_:Option Addr) (ct nt:Nat) (T:List (List UInt8)),k≤r.links.length∧vi=.int .i64 k∧vt=.slice at_ nt ct∧nt=T.length∧mid (S2 r) (manyE lnkE) (strip r.links) k=P∧termsAt r.links k=T∧Enc3 w w3 wr o B a c P at_ ct T) (fun _ _ _ vi _=>r.links.length - (intOf vi).toNat)
      case atStart=>exact ⟨0,_,_,_,none,0,0,[],Nat.zero_le _,rfl,rfl,rfl,rfl,by simp [termsAt],E3.out⟩
      case round =>
       obtain ⟨k,a,c,P,at_,ct,nt,T,hk,rfl,rfl,hnt,hP,hT,he⟩:=hrel;have E:=Lib.hid he;have HP:=Lib.hid hP;have HT:=Lib.hid hT;have HNT:=Lib.hid hnt;clear he hP hT hnt E3
       by_cases hlt:k < r.links.length
       ·obtain ⟨b,off,ul,rfl,hcell,v1,e1,hul⟩:=HLK.out.one k hlt;injection e1 with e1;subst e1
        have hks:k < (strip r.links).length:=by have:=HST.out;omega
        have hmid:=mid_succ (S2 r) (manyE lnkE) (strip r.links) k hks;have hml:=mid_len' (S2 r) (manyE lnkE) (strip r.links) k hks;have hS:=SL.out.l3;have hte:=termsAt_succ r.links k hlt;have htl:=termsAt_len r.links (k+1);have htb:=HB.out.tl
        have hsk:(strip r.links)[k]=r.links[k].map Prod.fst:=by show (r.links.map (List.map Prod.fst))[k]'(by simpa [strip] using hks)=_;exact List.getElem_map _
        rw [HP.out,hsk] at hmid hml;rw [HT.out] at hte;rw [hte] at htl;obtain ⟨X,hX⟩:∃ X,r.links[k]=X:=⟨_,rfl⟩;rw [hX] at hmid hml hul hte htl;obtain ⟨al,cl,rfl,_,_⟩:=hul.form;replace hml:P.length+(manyE lnkE (X.map Prod.fst)).length≤(S3 r).length:=hml;have HM:=Lib.hid hmid;have HTE:=Lib.hid hte;have HUL:=Lib.hid hul;have hxm:(X.map Prod.fst).length=X.length:=List.length_map _;have HXM:=Lib.hid hxm
        have hpm:P.length+1≤1000000000:=by omega
        have htm:T.length+X.length≤1000:=by rw [List.length_append,List.length_map] at htl;omega
        have hk0:=E.out.O.k0;have x0:wr.cell? ⟨b,off+k,none⟩=some (.slice al X.length cl):=Kept.cellOf hcell wr hk0;clear hcell hmid hul hte htl hxm hsk hX htb
        have hmall:P.length+(manyE lnkE (X.map Prod.fst)).length≤100000000:=by omega
        have c04:=E.out.O.cell;have far4:=E.out.O.far;have le4:=E.out.O.le;have lt4:=E.out.O.lt;have pl4:P.length+1≤1000000000:=hpm;go_wp2_with (at_builtin;refine wpList_append_ints rfl _ _ rfl B (.slice a P.length c) P.length P rfl (own_keep E.out.O.own ((Kept.refl [] _).alloc _) (by simp)) _ 1 [(X.length:Int)] rfl (Row.one1' rfl _) pl4 (by simp only [World.size_alloc];omega) ?_);intro a4 c4 y4 own4 k4 at4;have kw4:Kept (obl (.slice a P.length c)) wr y4:=((Kept.refl _ _).alloc _).trans k4;have bo4:=E.out.O.blk.kept kw4 (fun hx=>by have:=far4 o hx;omega);have da4:y4.cell? ⟨o,0,none⟩=some (.slice a P.length c):=bo4.cell 0;have db4:=bo4.frozen 0;have E4:Hid (Enc3 w w3 (y4.setCell ⟨o,0,none⟩ (.slice a4 (P.length+1) c4)) o B a4 c4 (P++[(X.length:Int)]) at_ ct T):=E.out.put kw4 (by simp) own4 (fun z hz=>(at4 z hz).imp id (fun e=>by first|omega|(simp only [World.size_alloc] at e;omega)));clear k4 at4 far4 c04 own4 kw4  bo4;go_upto_region 26 with (fail);obtain ⟨z4,hz4⟩:∃ z,y4.setCell ⟨o,0,none⟩ (.slice a4 (P.length+1) c4)=z:=⟨_,rfl⟩;rw [hz4] at E4;rw [hz4];clear da4 db4 hz4 le4 lt4 pl4;clear x0
        have m0:P++[(X.length:Int)]=mid P lnkE (X.map Prod.fst) 0:=by rw [mid_zero,HXM.out]
        rw [m0] at E4;clear m0;go_wp2_with fail
        go_loopw [6,18,86] (fun vt _ vi wr=>∃ (m:Nat) (a:Option Addr) (c:Nat) (Q:List Int) (at_:Option Addr) (ct nt:Nat) (U:List (List UInt8)),m≤X.length∧vi=.int .i64 m∧vt=.slice at_ nt ct∧nt=U.length∧mid P lnkE (X.map Prod.fst) m=Q∧T++(X.take m).map Prod.snd=U∧Enc3 w w3 wr o B a c Q at_ ct U) (fun _ _ vi _=>X.length - (intOf vi).toNat)
        case atStart=>exact ⟨0,_,_,_,at_,ct,nt,T,Nat.zero_le _,rfl,rfl,HNT.out,rfl,by simp,E4.out⟩
        case round =>
         obtain ⟨m,a,c,Q,at_,ct,nt,U,hm,rfl,rfl,hnt,hQ,hU,he⟩:=hrel;have EI:=Lib.hid he;have HQ:=Lib.hid hQ;have HU:=Lib.hid hU;have HNU:=Lib.hid hnt;clear he hQ hU E4 E hk0
         by_cases hml2:m < X.length
         ·obtain ⟨b2,off2,rfl,hcell⟩:=HUL.out.at_ (by omega);obtain ⟨cs,hcl,⟨us,rfl,hus⟩,hce⟩:=hcell m _ (List.getElem?_eq_getElem hml2)
          have hms:m < (X.map Prod.fst).length:=by have:=HXM.out;omega
          have hmid:=mid_succ P lnkE (X.map Prod.fst) m hms;have hml3:=mid_len' P lnkE (X.map Prod.fst) m hms;rw [List.length_append] at hml3;rw [HQ.out,List.getElem_map] at hmid hml3;have htk:=List.take_add_one (i:=m) (l:=X);rw [List.getElem?_eq_getElem hml2] at htk;obtain ⟨x,hx⟩:∃ x,X[m]=x:=⟨_,rfl⟩;rw [hx] at hus hmid hml3 hce htk;obtain ⟨⟨⟨t1,t2,t3,t4,t5,t6⟩,dare,ans⟩,term⟩:=x;replace hus:Row w 1 us ans.length (ints ans):=hus;obtain ⟨au,cu,rfl,_,_⟩:=hus.form
          have hUl:U.length=T.length+m:=by rw [←HU.out,List.length_append,List.length_map,List.length_take];omega
          have hnT:U.length+1≤1000000000:=by omega
          clear hUl
          have HTK2:Hid (T++(X.take (m+1)).map Prod.snd=U++[term]):=by
           show _=_
           rw [htk,List.map_append,←List.append_assoc,HU.out]
           rfl
          replace hmid:mid P lnkE (X.map Prod.fst) (m+1)=Q++lnkE ((t1,t2,t3,t4,t5,t6),dare,ans):=hmid;replace hml3:Q.length+(lnkE ((t1,t2,t3,t4,t5,t6),dare,ans)).length≤P.length+(manyE lnkE (X.map Prod.fst)).length:=hml3;rw [show (lnkE ((t1,t2,t3,t4,t5,t6),dare,ans)).length=ans.length+8 by simp [lnkE,tickE,spndE,listE]] at hml3
          have hQm:Q.length+ans.length+8≤100000000:=by omega
          have HM2:Hid (mid P lnkE (X.map Prod.fst) (m+1)=Q++tickE (t1,t2,t3,t4,t5,t6)++spndE (dare,ans)):=by show _=_;rw [hmid];simp [lnkE]
          have HUS:=Lib.hid hus;have hk0:=EI.out.O.k0;have x0:wr.cell? ⟨b2,off2+m*9,none⟩=some (.int .i64 t1):=Kept.cellOf (show w.cell? ⟨b2,off2+m*9,none⟩=_ from (hce 0 _ (by omega) rfl)) wr hk0;have x1:wr.cell? ⟨b2,off2+m*9+1,none⟩=some (.int .i64 t2):=Kept.cellOf (show w.cell? ⟨b2,off2+m*9+1,none⟩=_ from (hce 1 _ (by omega) rfl)) wr hk0;have x2:wr.cell? ⟨b2,off2+m*9+2,none⟩=some (.int .i64 t3):=Kept.cellOf (show w.cell? ⟨b2,off2+m*9+2,none⟩=_ from (hce 2 _ (by omega) rfl)) wr hk0;have x3:wr.cell? ⟨b2,off2+m*9+3,none⟩=some (.int .i64 t4):=Kept.cellOf (show w.cell? ⟨b2,off2+m*9+3,none⟩=_ from (hce 3 _ (by omega) rfl)) wr hk0;have x4:wr.cell? ⟨b2,off2+m*9+4,none⟩=some (.int .i64 t5):=Kept.cellOf (show w.cell? ⟨b2,off2+m*9+4,none⟩=_ from (hce 4 _ (by omega) rfl)) wr hk0;have x5:wr.cell? ⟨b2,off2+m*9+5,none⟩=some (.int .i64 t6):=Kept.cellOf (show w.cell? ⟨b2,off2+m*9+5,none⟩=_ from (hce 5 _ (by omega) rfl)) wr hk0;have x6:wr.cell? ⟨b2,off2+m*9+6,none⟩=some (.int .i64 dare):=Kept.cellOf (show w.cell? ⟨b2,off2+m*9+6,none⟩=_ from (hce 6 _ (by omega) rfl)) wr hk0;have x7:wr.cell? ⟨b2,off2+m*9+7,none⟩=some (.slice au ans.length cu):=Kept.cellOf (show w.cell? ⟨b2,off2+m*9+7,none⟩=_ from (hce 7 _ (by omega) rfl)) wr hk0;have x8:wr.cell? ⟨b2,off2+m*9+8,none⟩=some (.string ⟨term.toArray⟩):=Kept.cellOf (show w.cell? ⟨b2,off2+m*9+8,none⟩=_ from (hce 8 _ (by omega) rfl)) wr hk0;clear hcell hce hcl hx hmid hus htk hml3;go_upto_region 29 with (fail);obtain ⟨y,hy⟩:∃ y,wr.alloc (.cells #[.int .i64 t1,.int .i64 t2,.int .i64 t3,.int .i64 t4,.int .i64 t5,.int .i64 t6,.int .i64 dare,.slice au ans.length cu,.string ⟨term.toArray⟩] 138)=y:=⟨_,rfl⟩
          obtain ⟨v,hv⟩:∃ v,wr.heap.size=v:=⟨_,rfl⟩
          have by_:Blk y v 138 #[.int .i64 t1,.int .i64 t2,.int .i64 t3,.int .i64 t4,.int .i64 t5,.int .i64 t6,.int .i64 dare,.slice au ans.length cu,.string ⟨term.toArray⟩]:=by rw [←hy,←hv];exact Blk.new _ _ _
          have EY:Hid (Enc3 w w3 y o B a c Q at_ ct U):=hy▸EI.out.alloc _;have hvy:w.heap.size≤v:=hv▸hk0.size
          have hvo:o < v:=by have:=EI.out.O.le;have:=EI.out.O.lt;omega
          have hvB:v < y.heap.size:=by_.lt;clear x0 x1 x2 x3 x4 x5 x6 x7 x8;have x8:=by_.cell 8;rw [hy,hv];have hge:=own_ge EY.out.OT;have yle:=EY.out.O.le;rw [HNU.out];clear hy;go_wp2_with (at_builtin;refine wpList_append_strs rfl _ _ rfl B (.slice at_ U.length ct) U.length U rfl (own_keep EY.out.OT ((Kept.refl [] _).alloc _) (by simp)) _ 1 [term] rfl (Row.str1 rfl _) hnT (by simp only [World.size_alloc];omega) ?_);intro at2 ct2 y2 own2 k2 hat2;have kw2:Kept (obl (.slice at_ U.length ct)) y y2:=((Kept.refl _ _).alloc _).trans k2;have by2:=by_.kept kw2 (fun hx=>by have:=(EI.out.OT |> own_ge) v hx;omega);have E2:Hid (Enc3 w w3 y2 o B a c Q at2 ct2 (U++[term])):=EY.out.term kw2 (by simp) own2 (fun z hz=>(hat2 z hz).imp id (fun e=>by first|omega|(simp only [World.size_alloc] at e;omega)));clear x8 k2 own2 hat2 hge;have x0:=by2.cell 0;have x1:=by2.cell 1;have x2:=by2.cell 2;have x3:=by2.cell 3;have x4:=by2.cell 4;have x5:=by2.cell 5;have HC:Hid (Calls Tryz.prog 108 #[.agg #[.int .i64 t1,.int .i64 t2,.int .i64 t3,.int .i64 t4,.int .i64 t5,.int .i64 t6],.pointer (some ⟨o,0,none⟩)] y2 (Put w o B a c Q.length (Q++tickE (t1,t2,t3,t4,t5,t6)) y2)):=enc_ticket w o B a c Q (t1,t2,t3,t4,t5,t6) y2 E2.out.O (by omega);go_wp2_with (go_at_call 108;refine HC.out.mono ?_);rintro e y3 ⟨a3,c3,rfl,O3,k3,at3⟩
          have by3:=by2.kept k3 (fun hx=>by
           rcases List.mem_cons.1 hx with h|h
           ·omega
           ·have:=EI.out.O.far v h;omega)
          have E3:=Lib.hid (E2.out.call O3 k3 at3);clear O3 k3 at3 x0 x1 x2 x3 x4 x5;have x6:=by3.cell 6;have x7:=by3.cell 7;have HC2:Hid (Calls Tryz.prog 109 #[.agg #[.int .i64 dare,.slice au ans.length cu],.pointer (some ⟨o,0,none⟩),.pointer (some ⟨o+1,0,none⟩)] y3 (Put w o B a3 c3 (Q++tickE (t1,t2,t3,t4,t5,t6)).length (Q++tickE (t1,t2,t3,t4,t5,t6)++spndE (dare,ans)) y3)):=enc_spend w o B (o+1) a3 c3 _ (dare,ans) _ y3 E3.out.O (WQ.out y3 E3.out.F) hqb (by omega) HUS.out (by rw [List.length_append];show Q.length+6+2+ans.length≤_;omega);go_wp2_with (go_at_call 109;refine HC2.out.mono ?_);rintro e y4 ⟨a4,c4,rfl,O4,k4,at4⟩;have E4:=Lib.hid (E3.out.call O4 k4 at4);clear O4 k4 at4 x6 x7;go_wp2_with fail
          go_roundw
          case rel=>exact ⟨m+1,a4,c4,_,at2,ct2,_,_,by omega,by go_num,rfl,by simp,HM2.out,HTK2.out,E4.out⟩
          case measure=>simp [intOf];omega
         ·obtain rfl:m=X.length:=by omega
          have hQf:=mid_full P lnkE (X.map Prod.fst);rw [HXM.out,HQ.out,←HM.out] at hQf;have hUf:=HU.out;rw [List.take_length,←HTE.out] at hUf;have HQF:=Lib.hid hQf;have HUF:=Lib.hid hUf;clear hQf hUf;go_wp2_with fail
          go_roundw
          case rel=>exact ⟨k+1,a,c,Q,at_,ct,_,U,by omega,by go_num,rfl,HNU.out,HQF.out.symm,HUF.out,EI.out⟩
          case measure=>simp [intOf];omega
       ·obtain rfl:k=r.links.length:=by omega
        have hP3:Hid (S3 r=P):=by
         show _=_
         have h1:=mid_full (S2 r) (manyE lnkE) (strip r.links);rw [HST.out,HP.out] at h1;exact h1.symm
        have hl3:P.length≤100000000:=by have:=SL.out.l3;rw [hP3.out] at this;exact this
        have hTT:Hid (terms r.links=T):=by
         show _=_
         rw [←HT.out,termsAt_full]
        clear HP hP2 hl2 HT;rw [HNT.out];clear HNT;have xqC:=KQ.out wr E.out.F;have xcC:=K3.out wr E.out.F;have HCC:Hid (Calls Tryz.prog 107 #[.slice s3 r.commits.length d3,.pointer (some ⟨o,0,none⟩)] wr (Put w o B a c P.length (P++listE r.commits) wr)):=enc_list w o B a c P _ _ wr E.out.O HCM.out (by have:=SL.out.l4;rw [show S4 r=P++listE r.commits by rw [←hP3.out];rfl,List.length_append] at this;simp [listE] at this;omega);go_wp2_with (go_at_call 107;refine HCC.out.mono ?_);rintro e qC ⟨aC,cC,rfl,OC,kC,atC⟩;have EC:=Lib.hid (E.out.call OC kC atC);clear OC kC atC xqC xcC HCC;obtain ⟨P4,hP4⟩:∃ P4,P++listE r.commits=P4:=⟨_,rfl⟩
        have hS4:Hid (S4 r=P4):=by show _=_;rw [←hP4,←hP3.out];rfl
        rw [hP4] at EC;clear hP4;have xqD:=KQ.out qC EC.out.F;have xcD:=K4.out qC EC.out.F;have HCD:Hid (Calls Tryz.prog 107 #[.slice s4 r.chain.length d4,.pointer (some ⟨o,0,none⟩)] qC (Put w o B aC cC P4.length (P4++listE r.chain) qC)):=enc_list w o B aC cC P4 _ _ qC EC.out.O HCH.out (by have:=SL.out.l5;rw [show S5 r=P4++listE r.chain by rw [←hS4.out];rfl,List.length_append] at this;simp [listE] at this;omega);go_wp2_with (go_at_call 107;refine HCD.out.mono ?_);rintro e qD ⟨aD,cD,rfl,OD,kD,atD⟩;have ED:=Lib.hid (EC.out.call OD kD atD);clear OD kD atD xqD xcD HCD;obtain ⟨P5,hP5⟩:∃ P5,P4++listE r.chain=P5:=⟨_,rfl⟩
        have hS5:Hid (S5 r=P5):=by show _=_;rw [←hP5,←hS4.out];rfl
        have hl5:P5.length≤100000000:=by have:=SL.out.l5;rw [hS5.out] at this;exact this
        rw [hP5] at ED;clear hP5;have xc5:=K5.out qD ED.out.F;have c05:=ED.out.O.cell;have far5:=ED.out.O.far;have le5:=ED.out.O.le;have lt5:=ED.out.O.lt
        have pl5:P5.length+1≤1000000000:=by omega
        go_wp2_with (at_builtin;refine wpList_append_ints rfl _ _ rfl B (.slice aD P5.length cD) P5.length P5 rfl (own_keep ED.out.O.own ((Kept.refl [] _).alloc _) (by simp)) _ 1 [(r.bits.length:Int)] rfl (Row.one1' rfl _) pl5 (by simp only [World.size_alloc];omega) ?_);intro a5 c5 y5 own5 k5 at5;have kw5:Kept (obl (.slice aD P5.length cD)) qD y5:=((Kept.refl _ _).alloc _).trans k5;have bo5:=ED.out.O.blk.kept kw5 (fun hx=>by have:=far5 o hx;omega);have da5:y5.cell? ⟨o,0,none⟩=some (.slice aD P5.length cD):=bo5.cell 0;have db5:=bo5.frozen 0;have E5:Hid (Enc3 w w3 (y5.setCell ⟨o,0,none⟩ (.slice a5 (P5.length+1) c5)) o B a5 c5 (P5++[(r.bits.length:Int)]) at_ ct T):=ED.out.put kw5 (by simp) own5 (fun z hz=>(at5 z hz).imp id (fun e=>by first|omega|(simp only [World.size_alloc] at e;omega)));clear k5 at5 far5 c05 own5 kw5 xc5 bo5;go_upto_region 37 with (fail);obtain ⟨z5,hz5⟩:∃ z,y5.setCell ⟨o,0,none⟩ (.slice a5 (P5.length+1) c5)=z:=⟨_,rfl⟩;rw [hz5] at E5;rw [hz5];clear da5 db5 hz5 le5 lt5 pl5
        have m0:P5++[(r.bits.length:Int)]=mid (S5 r) listE r.bits 0:=by rw [mid_zero,hS5.out]
        rw [m0] at E5;clear m0;have x5:=K5.out z5 E5.out.F;go_wp2_with fail;clear x5
        go_loopw [20,122] (fun _ vi wr=>∃ (k:Nat) (a:Option Addr) (c:Nat) (P:List Int),k≤r.bits.length∧vi=.int .i64 k∧mid (S5 r) listE r.bits k=P∧Enc3 w w3 wr o B a c P at_ ct T) (fun _ vi _=>r.bits.length - (intOf vi).toNat)
        case atStart=>exact ⟨0,_,_,_,Nat.zero_le _,rfl,rfl,E5.out⟩
        case round =>
         obtain ⟨k,a,c,P,hk,rfl,hP,he⟩:=hrel;have E:=Lib.hid he;have HP:=Lib.hid hP;clear he hP E5
         by_cases hlt:k < r.bits.length
         ·obtain ⟨b,off,ul,rfl,hcell,v1,e1,hul⟩:=HBT.out.one k hlt;injection e1 with e1;subst e1;have hmid:=mid_succ (S5 r) listE r.bits k hlt;have hml:=mid_len' (S5 r) listE r.bits k hlt;have hS:=SL.out.l6;rw [HP.out] at hmid hml;obtain ⟨X,hX⟩:∃ X,r.bits[k]=X:=⟨_,rfl⟩;rw [hX] at hmid hml hul;obtain ⟨al,cl,rfl,_,_⟩:=hul.form;replace hml:P.length+(listE X).length≤(S6 r).length:=hml;rw [show (listE X).length=X.length+1 by simp [listE]] at hml;have HM:=Lib.hid hmid;have HUL:=Lib.hid hul;have hk0:=E.out.O.k0;have x0:wr.cell? ⟨b,off+k,none⟩=some (.slice al X.length cl):=Kept.cellOf hcell wr hk0;have xq:=KQ.out wr E.out.F;have HC:Hid (Calls Tryz.prog 107 #[.slice al X.length cl,.pointer (some ⟨o,0,none⟩)] wr (Put w o B a c P.length (P++listE X) wr)):=enc_list w o B a c P _ X wr E.out.O HUL.out (by omega);clear hcell hmid hul hX;go_wp2_with (go_at_call 107;refine HC.out.mono ?_);rintro e y2 ⟨a2,c2,rfl,O2,k2,at2⟩;have E2:=Lib.hid (E.out.call O2 k2 at2);clear O2 k2 at2 x0 xq;go_wp2_with fail
          go_roundw
          case rel=>exact ⟨k+1,a2,c2,_,by omega,by go_num,HM.out,E2.out⟩
          case measure=>simp [intOf];omega
         ·obtain rfl:k=r.bits.length:=by omega
          have hP6:Hid (S6 r=P):=by show _=_;rw [←HP.out,mid_full];rfl
          clear HP;have xqF:=KQ.out wr E.out.F;have xcF:=K6.out wr E.out.F;have HCF:Hid (Calls Tryz.prog 107 #[.slice s6 r.escrow.length d6,.pointer (some ⟨o,0,none⟩)] wr (Put w o B a c P.length (P++listE r.escrow) wr)):=enc_list w o B a c P _ _ wr E.out.O HES.out (by have:=SL.out.l7;rw [hP6.out,List.length_append] at this;simp [listE] at this;omega);go_wp2_with (go_at_call 107;refine HCF.out.mono ?_);rintro e qF ⟨aF,cF,rfl,OF,kF,atF⟩;have EF:=Lib.hid (E.out.call OF kF atF);clear OF kF atF xqF xcF HCF
          have hP7:P++listE r.escrow=nums7E r.n7:=by rw [←S7_eq,hP6.out]
          rw [hP7] at EF;clear hP7;obtain ⟨N,hN⟩:∃ N,nums7E r.n7=N:=⟨_,rfl⟩;have hNi:AllI N:=hN▸HB.out.ok.n7;have hNl:N.length≤100000000:=hN▸HB.out.ok.l7
          have hRE:Hid (recE r=Wire.textsE T++(Wire.numsE N++Wire.textE (pfE r.proof))):=by show _=_;unfold recE;rw [hTT.out,hN]
          rw [hN] at EF
          have hTl:T.length≤1000:=by have:=HB.out.tl;rw [hTT.out] at this;exact this
          have hTs:∀ t∈T,t.length≤1000:=by have:=HB.out.ts;rw [hTT.out] at this;exact this
          have hPl:=HB.out.pe;have HEF:=Lib.hid (HE.out.kept0 EF.out.O.k0);have RT:=Lib.hid (Row.of_own EF.out.OT (by omega));have RN:=Lib.hid (Row.of_own EF.out.O.own (by omega));have l0:=textsE_len T hTl hTs;have l1:=numsE_le hNi (by omega);have l2:=textE_len (pfE r.proof) hPl;have hcat:=bcat;have CT:Hid (∀ x:KW qF,Calls Tryz.prog 110 #[.slice at_ T.length ct] x.val fun e w'=>e=.returned (.string ⟨(Wire.textsE T).toArray⟩)∧Kept [] x.val w'):=fun x=>texts_any _ T x.val (RT.out.kept x.property) (HEF.out.kept0 x.property) (by omega) hTs;have CN:Hid (∀ x:KW qF,Calls Tryz.prog 71 #[.slice aF N.length cF] x.val fun e w'=>e=.returned (.string ⟨(Wire.numsE N).toArray⟩)∧Kept [] x.val w'):=fun x=>nums_any _ N x.val (RN.out.kept x.property) (HEF.out.kept0 x.property) (by omega) hNi;have CP:Hid (∀ x:KW qF,Calls Tryz.prog 72 #[.string ⟨(pfE r.proof).toArray⟩] x.val fun e w'=>e=.returned (.string ⟨(Wire.textE (pfE r.proof)).toArray⟩)∧Kept [] x.val w'):=fun x=>text_any (pfE r.proof) x.val hPl (HEF.out.kept0 x.property);have q0:∀ x:KW qF,x.val.cell? ⟨o,0,none⟩=some (.slice aF N.length cF):=fun x=>x.cell EF.out.O.cell
          have s1:¬ 9223372036854775807 < (Wire.textsE T).length+(Wire.numsE N).length:=by omega
          have s2:¬ 9223372036854775807 < (Wire.textsE T).length+(Wire.numsE N).length+(Wire.textE (pfE r.proof)).length:=by omega
          have hk9:=EF.out.O.k0;clear hN l0 l1 l2 hNi hTs;go_upto_region 43 with (fail);refine wp_region_kept qF (Kept.refl _ _) (by kernel_rfl) (by kernel_rfl) ?_
          repeat (go_big_quiet_step (first|(go_at_call 110;exact quiet_kept (CT.out _))|(go_at_call 71;exact quiet_kept (CN.out _))|(go_at_call 72;exact quiet_kept (CP.out _))))
          refine wpQuiet_nil ?_;rintro w9 ⟨⟨_,hk10⟩,rfl⟩;go_wp2_with fail
          go_ret2
          exact ⟨by rw [HR.out,hRE.out];simp,hk9.trans hk10⟩
 ·rw [pfRes_no hs] at HPF;have HR:=Lib.hid (encRes_no hs);clear hs
  go_enter Tryz.func43,Tryz.ntmps43
  go_upto_region 1 with (fail);rw [HW.out];go_wp2_with (go_at_call 106;refine HPF.out.mono ?_);rintro e w1 ⟨rfl,hk1⟩;go_wp2_with fail
  go_ret2
  exact ⟨by rw [HR.out];rfl,hkW.trans hk1⟩
end Go.Proofs.YtpcdfepndmconaaGreatDoor
