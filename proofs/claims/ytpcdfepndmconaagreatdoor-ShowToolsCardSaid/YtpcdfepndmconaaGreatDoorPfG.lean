/- A proof is read: the reference's Decode. -/
import Derived.Test.YtpcdfepndmconaaGreatDoorPfD
import Derived.Test.YtpcdfepndmconaaGreatDoorRr1
import Derived.Test.YtpcdfepndmconaaGreatDoorRr5
import Derived.Deep.CutBlock
import Derived.Deep.DeepCutAuto
import Derived.Outline
namespace Go.Proofs.YtpcdfepndmconaaGreatDoor
open Go.RowKit Tape
/-- what the reference's reader's Nums gives -/
def RNumsP (b:Nat) (l:List Int) (rd:Wire.Rd) (w:World) (e:Ending) (w':World):Prop:=∃ a c,e=.returned (.slice a l.length c)∧w'.ownsRow w.heap.size 3 1 (.slice a l.length c) l.length (ints l)∧RrAt w' b rd∧Kept [b] w w'
theorem rr_numsP {l:List Int} {r':Wire.Rd} (b:Nat) (r:Wire.Rd) (hq:Wire.nums r=(l,r')) (w:World) (h:RrAt w b r) (ho:Wire.Ok r) (hs:Fits r) :
  Calls Tryz.prog 65 #[.pointer (some ⟨b,0,none⟩)] w (RNumsP b l r' w):=by
 refine (rr_nums b r w h ho hs).mono fun e w' ⟨v,h1,h2,h3,h4⟩=>?_;rw [hq] at h2 h3;obtain ⟨a,c,rfl⟩:=own_len h2 (by decide);exact ⟨a,c,h1,h2,h3,h4⟩
/-- the rounds of a clause -/
def InRel3 (wr:World) (b g:Nat) (X:List Nat) (fin:List (Int × List Int) × Tp) (N:Nat) (vd va vi:Value) (w2:World):Prop :=
 ∃ (m:Nat) (r:Tp) (acc:List (Int × List Int)) (ad aa:Option Addr) (n cd n' ca:Nat),vd=.slice ad n cd∧va=.slice aa n' ca∧vi=.int .i64 acc.length∧acc.length+m=N∧TR spnd m r acc fin∧QfI wr w2 b g X ad n cd aa n' ca (acc.map Prod.fst) (acc.map Prod.snd) r
/-- behind a clause -/
def InEnd3 (wr:World) (b g:Nat) (X:List Nat) (r0:Tp) (N:Nat) (vd va:Value) (w2:World):Prop :=
 ∃ (r:Tp) (acc:List (Int × List Int)) (ad aa:Option Addr) (n cd n' ca:Nat),vd=.slice ad n cd∧va=.slice aa n' ca∧acc.length≤N∧Stg clause r0 acc r∧QfI wr w2 b g X ad n cd aa n' ca (acc.map Prod.fst) (acc.map Prod.snd) r
def OutRel3 (w:World) (b g po B:Nat) (fin:List (List (Int × List Int)) × Tp) (N:Nat) (vi:Value) (wr:World):Prop :=
 ∃ (m:Nat) (r:Tp) (acc:List (List (Int × List Int))) (X:List Nat) (a1 a2:Option Addr) (n1 c1 n2 c2:Nat),vi=.int .i64 acc.length∧acc.length+m=N∧TR clause m r acc fin∧QfO w wr b g po B X a1 n1 c1 a2 n2 c2 (acc.map (List.map Prod.fst)) (acc.map (List.map Prod.snd)) r
def OutEnd3 (w:World) (b g po B:Nat) (r0:Tp) (N:Nat) (wr:World):Prop :=
 ∃ (r:Tp) (acc:List (List (Int × List Int))) (X:List Nat) (a1 a2:Option Addr) (n1 c1 n2 c2:Nat),acc.length≤N∧Stg (many clause) r0 acc r∧QfO w wr b g po B X a1 n1 c1 a2 n2 c2 (acc.map (List.map Prod.fst)) (acc.map (List.map Prod.snd)) r
theorem OutRel3.next {w wf:World} {b g po B N m:Nat} {fin:List (List (Int × List Int)) × Tp} {acc:List (List (Int × List Int))} {x:List (Int × List Int)} {a1 a2:Option Addr} {n1 c1 n2 c2:Nat} {r:Tp} {X':List Nat}
  (O:QfO w wf b g po B X' a1 n1 c1 a2 n2 c2 (acc.map (List.map Prod.fst)++[x.map Prod.fst]) (acc.map (List.map Prod.snd)++[x.map Prod.snd]) r) (hN:acc.length+(m+1)=N) (hf:TR clause m r (acc++[x]) fin) :
  OutRel3 w b g po B fin N (.int .i64 ((acc.length:Int)+1)) wf :=
 ⟨m,r,acc++[x],X',a1,a2,n1,c1,n2,c2,by simp,by simp;omega,hf,by rw [List.map_append,List.map_append];exact O⟩
/-- the cells of a row -/
theorem RwAt.cells {T:TypeId} {w:World} {b g:Nat} {r:Tp} (h:RwAt T w b g r):w.cell? ⟨b,2,none⟩=some (.bool r.bad):=by
 obtain ⟨a,c,xs,p,h1,_⟩:=h.st;exact h1.cell 2
set_option maxRecDepth 100000 in
set_option maxHeartbeats 16000000 in
theorem rpfDec_any (s:List UInt8) (w:World) (hE:Env w) (hs:s.length≤100000000) :
  Calls Tryz.prog 122 #[.string ⟨s.toArray⟩] w (PfDP (readPf s) w):=by
 obtain ⟨ns,rd,hns⟩:∃ ns rd,Wire.nums ⟨s,false⟩=(ns,rd):=⟨_,_,rfl⟩
 have hnl:ns.length≤100000001:=by have:=nums_len ⟨s,false⟩ hs;rw [hns] at this;exact this
 have HEQ:=Lib.hid (readPf_eq hns);obtain ⟨W,hW⟩:∃ W,w.alloc (.cells #[.slice none 0 0,.slice none 0 0] 65)=W:=⟨_,rfl⟩;have hbW:Blk W w.heap.size 65 #[.slice none 0 0,.slice none 0 0]:=hW▸Blk.new _ _ _;have hkW:Kept [] w W:=hW▸(Kept.refl _ _).alloc _
 have hWs:W.heap.size=w.heap.size+1:=by rw [←hW];simp
 have HWs:=Lib.hid hWs
 have hw0:0 < w.heap.size:=by have:=hE.size;have:0 < NG:=(by decide);omega
 have hwW:w.heap.size < W.heap.size:=by omega
 have HEW:=Lib.hid (hE.kept0 hkW);have HO:=Lib.hid (rr_open s W HEW.out);have HW:=Lib.hid hW;have HNS:=Lib.hid hns;clear hns hW hE hWs
 go_enter Tryz.func122,Tryz.ntmps122
 go_upto_region 1 with (fail);rw [HW.out];go_wp2_with (go_at_call 64;refine HO.out.mono ?_)
 first|rintro e w1 rfl h1 k1|rintro e w1 ⟨rfl,h1,k1⟩
 have HN:=Lib.hid (rr_numsP W.heap.size ⟨s,false⟩ HNS.out w1 h1 (Wire.ok_fresh s) hs);have K1:=Lib.hid (hkW.trans k1);have hs1:=k1.size;have h1l:=h1.2.lt;have B1:=Lib.hid (hbW.kept k1 (by simp));clear h1 k1 HO hbW HEW HNS;go_upto_region 2 with (fail);go_wp2_with (go_at_call 65;refine HN.out.mono ?_);rintro e w2 ⟨av,cv,rfl,own,h2,k2⟩;have K2:=Lib.hid (K1.out.fresh k2 (fun z hz=>by rw [List.mem_singleton] at hz;omega));have B2:=Lib.hid (B1.out.kept k2 (by simp;omega));obtain ⟨g,hsrc,hg⟩:=Src.of_own own (by omega);have hs2:=k2.size;have H2:=Lib.hid h2;have HS2:=Lib.hid hsrc;have hg2:g=0∨w1.heap.size≤g∧g < w2.heap.size:=hg;clear h2 hsrc own k2 hg HN;go_upto_region 3 with (fail);obtain ⟨w3,hw3⟩:∃ w3,w2.alloc (.cells #[.slice av ns.length cv,.int .i64 0,.bool false] 190)=w3:=⟨_,rfl⟩;have k23:Kept [] w2 w3:=hw3▸(Kept.refl _ _).alloc _
 have hs3:Hid (w3.heap.size=w2.heap.size+1):=by show _=_;rw [←hw3];simp
 have T3:Hid (RwAt 190 w3 w2.heap.size g ⟨ns,false⟩):=⟨⟨av,cv,ns,0,hw3▸Blk.new _ _ _,HS2.out.keep k23 (by simp),Nat.zero_le _,hnl,fun _=>rfl,(by intro h;cases h)⟩,by omega⟩;have K3:=Lib.hid (K2.out.trans k23);have B3:=Lib.hid (B2.out.kept k23 (by simp));have HD:=Lib.hid (rr_done W.heap.size rd w3 ⟨H2.out.1,H2.out.2.kept k23 (by simp)⟩);rw [hw3];obtain ⟨b,hb⟩:∃ b,w2.heap.size=b:=⟨_,rfl⟩;rw [hb] at hs3 T3 hg2 hs2 ⊢;clear hw3 B1 B2 K2 k23 H2 HS2 hb;obtain ⟨dn,hdn⟩:∃ dn,(!rd.bad&&rd.rest.isEmpty)=dn:=⟨_,rfl⟩;have hdd:Hid (done rd=dn):=hdn;rw [hdn] at HD;clear hdn
 cases dn
 ·have HR:Hid (readPf s=(⟨[],[]⟩,false)):=by show _=_;rw [HEQ.out,hdd.out];rfl
  clear HEQ hdd;go_upto_region 4 with (go_at_call 68;refine HD.out.mono ?_;rintro e w4 ⟨rfl,k4⟩);have B4:=B3.out.kept k4 (by simp);have z0:w4.cell? ⟨w.heap.size,0,none⟩=some (.slice none 0 0):=B4.cell 0;have z1:w4.cell? ⟨w.heap.size,1,none⟩=some (.slice none 0 0):=B4.cell 1;have y0:=B4.frozen 0;have y1:=B4.frozen 1;clear B4;go_wp2_with fail;refine bodyPost_ret (v:=.tuple #[.agg #[.slice none 0 0,.slice none 0 0],.bool false]) (by simp [results,Tryz.results122,go_sem,z0,z1]) rfl ?_;rw [HR.out];exact ⟨none,0,none,0,rfl,fun _ _ _ _=>RowOf.nil_ _ _ _,fun _ _ _ _=>RowOf.nil_ _ _ _,((K3.out.trans k4).setCell (Or.inr (Nat.le_refl _)) _).setCell (Or.inr (Nat.le_refl _)) _⟩
 ·have HR:Hid (readPf s=if ended (many clause ⟨ns,false⟩).2 then (⟨(many clause ⟨ns,false⟩).1.map (List.map Prod.fst),(many clause ⟨ns,false⟩).1.map (List.map Prod.snd)⟩,true) else (⟨[],[]⟩,false)):=by show _=_;rw [HEQ.out,hdd.out];simp
  clear HEQ hdd;go_upto_region 5 with (go_at_call 68;refine HD.out.mono ?_;rintro e w4 ⟨rfl,k4⟩);have B4:=Lib.hid (B3.out.kept k4 (by simp));have K4:=Lib.hid (K3.out.trans k4);have T4:=Lib.hid (T3.out.keep k4 (by simp) (by simp));have hs4:=k4.size
  have hs34:b < w4.heap.size:=by have:=hs3.out;omega
  clear B3 K3 T3 k4 HD hs3 HW HWs h1l;go_upto_region 6 with (fail);obtain ⟨w5,hw5⟩:∃ w5,w4.alloc (.cells #[.slice none 0 0,.slice none 0 0] 65)=w5:=⟨_,rfl⟩;have k45:Kept [] w4 w5:=hw5▸(Kept.refl _ _).alloc _
  have hs5:Hid (w5.heap.size=w4.heap.size+1):=by show _=_;rw [←hw5];simp
  have P5:Hid (Blk w5 w4.heap.size 65 #[.slice none 0 0,.slice none 0 0]):=hw5▸Blk.new _ _ _;have B5:=Lib.hid (B4.out.kept k45 (by simp));have K5:=Lib.hid (K4.out.trans k45);have HC:=Lib.hid (q3_count b g ⟨ns,false⟩ w5 (T4.out.keep k45 (by simp) (by simp)));rw [hw5];obtain ⟨po,hpo⟩:∃ po,w4.heap.size=po:=⟨_,rfl⟩;rw [hpo] at hs5 P5 hs4 hs34 ⊢;have HT4:=T4.out.ne;clear hw5 B4 K4 T4 k45 hpo;go_wp2_with (go_at_call 182;refine HC.out.mono ?_);rintro e w6 ⟨N,r0,rfl,hst,hz,hcl,t6,k6⟩
  have hcl2:N≤100000001:=by have:=t6.len;omega
  have hbpo:b≠po:=by omega
  have hgpo:g≠po:=by omega
  have P6:=Lib.hid (P5.out.kept k6 (by simp;omega));have B6:=Lib.hid (B5.out.kept k6 (by simp;omega));have K6:=Lib.hid (K5.out.fresh k6 (by simp;omega));have hs6:=k6.size;have T6:=Lib.hid t6;have TR0:=Lib.hid (TR.start clause_codec hst)
  have hpo6:po < w6.heap.size:=by have:=hs5.out;omega
  obtain ⟨B,hB⟩:∃ B,w6.heap.size=B:=⟨_,rfl⟩
  have O6:Hid (QfO w w6 b g po B (List.range w.heap.size++[b,po,w.heap.size]) none 0 0 none 0 0 [] [] r0) :=
   ⟨T6.out,P6.out,rfl,rfl,Grow.nil_ _ _ _ _ _ _,Grow.nil_ _ _ _ _ _ _,by simp [obl,Value.ownBlock],by simp,by simp,fun z hz=>by simp at hz;omega,by simp [obl,Value.ownBlock],by simp [obl,Value.ownBlock],by omega,by omega,by omega,by omega,hbpo,hgpo,K6.out,by omega,by omega,by simp,B6.out,fun z hz=>by simp;omega⟩
  have hbw:w.heap.size < b:=by omega
  clear B6 t6 k6 HC P5 B5 K5 P6 K6 T6 hs5 hB hst hz
  go_upto_block 0 with (fail)
  go_cut [8,9,10,11,12,13,14,15] (fun _ _ _ _ _ _ _ _ wc=>OutEnd3 w b g po B ⟨ns,false⟩ N wc)
  case first =>
   go_wp2_with fail
   go_loopw [8] (fun vi wr=>OutRel3 w b g po B (many clause ⟨ns,false⟩) N vi wr) (fun vi _=>N - (intOf vi).toNat)
   case atStart=>exact ⟨N,r0,[],_,_,_,_,_,_,_,rfl,by simp,TR0.out,O6.out⟩
   case round =>
    obtain ⟨m,r,acc,X,a1,a2,n1,c1,n2,c2,rfl,hN,hf,hO⟩:=hrel;have O:=Lib.hid hO;have HF:=Lib.hid hf;have HN:=Lib.hid hN
    have haN:acc.length≤N:=by omega
    have cb:=hO.tp.cells;clear hO hf O6 TR0
    by_cases hgo:0 < m∧r.bad=false
    rotate_left
    ·have hk:m=0∨r.bad=true:=by
      rcases Nat.eq_zero_or_pos m with h|h
      ·exact Or.inl h
      ·right
       cases hb:r.bad
       ·exact absurd ⟨h,hb⟩ hgo
       ·rfl
     have HE:Hid (OutEnd3 w b g po B ⟨ns,false⟩ N wr):=⟨r,acc,X,a1,a2,n1,c1,n2,c2,haN,HF.out.done hk,O.out⟩;clear hgo
     by_cases hlt:acc.length < N
     ·have hb:r.bad=true:=by
       rcases hk with h|h
       ·have:=HN.out;omega
       ·exact h
      rw [hb] at cb;clear hb hk hN;go_wp2_with fail
      go_meet
      case rel=>exact HE.out
     ·clear hk hN;go_wp2_with fail
      go_meet
      case rel=>exact HE.out
    ·obtain ⟨hm,hbd⟩:=hgo;obtain ⟨m,rfl⟩:∃ k,m=k+1:=⟨m - 1,by omega⟩
     have hlt:acc.length < N:=by omega
     rw [hbd] at cb;have HBD:=Lib.hid hbd;have HC:=Lib.hid (q3_count b g r wr O.out.tp);clear hbd hm hN;go_wp2_with (go_at_call 182;refine HC.out.mono ?_);rintro e w7 ⟨N2,r7,rfl,hst2,_,hcl7,t7,k7⟩
     have hN2l:N2≤100000001:=by have:=t7.len;omega
     have O7:=Lib.hid (O.out.read k7 t7);have TR2:=Lib.hid (TR.start spnd_codec hst2)
     have I7:Hid (QfI w7 w7 b g X none 0 0 none 0 0 [] [] r7) :=
      ⟨t7,Kept.refl _ _,rfl,rfl,World.ownsRow_nil _ _ _ _,⟨X,fun _ h=>h,O7.out.hX,by simp [obl,Value.ownBlock],by simp [obl,Value.ownBlock],Grow.nil_ _ _ _ _ _ _⟩,by simp [obl,Value.ownBlock],O7.out.bX,by have:=O7.out.lb;have:=O7.out.le;omega,by have:=O7.out.lg;have:=O7.out.le;omega⟩
     clear t7 k7 HC O cb hst2
     go_upto_block 2 with (fail)
     go_cut [10,11,12,13,14,15] (fun vd va _ _ _ _ w2=>InEnd3 w7 b g X r N2 vd va w2)
     case first =>
      go_wp2_with fail
      go_loopw [10,11,12] (fun vd va vi w2=>InRel3 w7 b g X (many spnd r) N2 vd va vi w2) (fun _ _ vi _=>N2 - (intOf vi).toNat)
      case atStart=>exact ⟨N2,r7,[],none,none,0,0,0,0,rfl,rfl,rfl,by simp,TR2.out,I7.out⟩
      case round =>
       obtain ⟨m2,r2,acc2,ad,aa,n,cd,n',ca,rfl,rfl,rfl,hN2,hf2,hI⟩:=hrel;have I:=Lib.hid hI;have HF2:=Lib.hid hf2;have HN2:=Lib.hid hN2
       have haN2:acc2.length≤N2:=by omega
       have cb:=hI.tp.cells;clear hI hf2 I7 TR2
       by_cases hgo:0 < m2∧r2.bad=false
       rotate_left
       ·have hk:m2=0∨r2.bad=true:=by
         rcases Nat.eq_zero_or_pos m2 with h|h
         ·exact Or.inl h
         ·right
          cases hb:r2.bad
          ·exact absurd ⟨h,hb⟩ hgo
          ·rfl
        have HE:Hid (InEnd3 w7 b g X r N2 (.slice ad n cd) (.slice aa n' ca) wr):=⟨r2,acc2,ad,aa,n,cd,n',ca,rfl,rfl,haN2,HF2.out.done hk,I.out⟩;clear hgo
        by_cases hlt:acc2.length < N2
        ·have hb:r2.bad=true:=by
          rcases hk with h|h
          ·have:=HN2.out;omega
          ·exact h
         rw [hb] at cb;clear hb hk hN2;go_wp2_with fail
         go_meet
         case rel=>exact HE.out
        ·clear hk hN2;go_wp2_with fail
         go_meet
         case rel=>exact HE.out
       ·obtain ⟨hm,hbd⟩:=hgo;obtain ⟨m2,rfl⟩:∃ k,m2=k+1:=⟨m2 - 1,by omega⟩
        have hlt:acc2.length < N2:=by omega
        rw [hbd] at cb;have HBD2:=Lib.hid hbd;obtain ⟨ds,hds⟩:∃ ds,acc2.map Prod.fst=ds:=⟨_,rfl⟩;obtain ⟨as_,has⟩:∃ as_,acc2.map Prod.snd=as_:=⟨_,rfl⟩;rw [hds,has] at I;have HDS:=Lib.hid hds;have HAS:=Lib.hid has
        have hdl:ds.length=acc2.length:=by rw [←hds,List.length_map]
        have hasl:as_.length=acc2.length:=by rw [←has,List.length_map]
        have hnl:n≤100000001:=by have:=I.out.nd;omega
        have hnal:as_.length≤100000001:=by omega
        have hna:=Lib.hid I.out.na;have HC3:=Lib.hid (q3_one b g r2 wr I.out.tp);clear hds has hdl hasl hbd hm hN2;go_wp2_with (go_at_call 183;refine HC3.out.mono ?_);rintro e w3 ⟨x,r3,rfl,hs3,_,t3,k3⟩;have I3:=Lib.hid (I.out.read k3 t3);have S3:=Lib.hid hs3;clear t3 k3 HC3 I hs3 cb;go_wp2_with (at_builtin;refine wpList_append_ints rfl _ _ rfl w7.heap.size (.slice ad n cd) n ds rfl (I3.out.alloc _).od _ 1 [x] rfl (Row.one1 _ _) (by omega) (I3.out.alloc _).le ?_);intro a4 c4 w4 own4 k4 at4;have I4:=Lib.hid ((I3.out.alloc _).pushd k4 rfl own4 (fun z hz=>by rw [World.size_alloc];exact at4 z hz));clear own4 k4 at4 I3;have HC5:=Lib.hid (q3_count b g r3 w4 I4.out.tp);go_wp2_with (go_at_call 182;refine HC5.out.mono ?_);rintro e w5 ⟨q,r5,rfl,hst,hz,hq5,t5,k5⟩;have I5:=Lib.hid (I4.out.read k5 t5);have T5:=Lib.hid t5;have hml:=t5.len;have HST:=Lib.hid hst;obtain ⟨l,bd⟩:=r5;replace hq5:q≤l.length:=hq5;replace hml:l.length≤100000001:=hml;replace hz:bd=true→q=0:=hz
        have hzn:Hid (0 < q→bd=false):=fun h=>by cases bd;rfl;have:=hz rfl;omega
        have hgl:g < w5.heap.size:=Nat.lt_of_lt_of_le I5.out.gl I5.out.le;have hbl:b < w5.heap.size:=Nat.lt_of_lt_of_le I5.out.bl I5.out.le;have hbg:=t5.ne;clear t5 k5 HC5 hst hz I4;go_wp2_with fail
        go_loopw [14,15] (fun vo vi wr=>∃ (k:Nat) (a:Option Addr) (c:Nat),k≤q∧vi=.int .i64 k∧vo=.slice a k c∧wr.ownsRow w5.heap.size 3 1 (.slice a k c) k (ints (l.take k))∧RwAt 190 wr b g ⟨l.drop k,bd⟩∧Kept [b] w5 wr) (fun _ vi _=>q - (intOf vi).toNat)
        case atStart=>exact ⟨0,none,0,Nat.zero_le _,rfl,rfl,by simpa [ints] using World.ownsRow_nil _ _ _ _,by simpa using T5.out,Kept.refl _ _⟩
        case round =>
         obtain ⟨k,a,c,hk,rfl,rfl,hown,hr,hkr⟩:=hrel;have HO:=Lib.hid hown;have HR':=Lib.hid hr;have HK:=Lib.hid hkr;have hsz:=hkr.size;clear hown hr hkr
         by_cases hkn:k < q
         ·have hbd:=hzn.out (by omega);subst hbd
          have hkl:k < l.length:=by omega
          have hdr:l.drop k=l[k]::l.drop (k+1):=List.drop_eq_getElem_cons hkl;have htk:l.take (k+1)=l.take k++[l[k]]:=List.take_succ_eq_append_getElem hkl;have HC1:=Lib.hid (q3_one b g _ wr HR'.out);have HTK:=Lib.hid htk;have HDR:=Lib.hid hdr;clear hdr htk HR';go_wp2_with (go_at_call 183;refine HC1.out.mono ?_);rintro e w8 ⟨v,r8,rfl,hs8,_,h8,k8⟩;have O3:=Lib.hid (own_keep HO.out k8 (fun z hz hm=>by have:=own_ge HO.out z hz;rw [List.mem_singleton] at hm;omega));have hs8z:=k8.size;go_wp2_with (at_builtin;refine wpList_append_ints rfl _ _ rfl w5.heap.size (.slice a k c) k (l.take k) rfl (own_keep O3.out ((Kept.refl [] _).alloc _) (by simp)) _ 1 [v] rfl (Row.one1 _ _) (by omega) (by simp only [World.size_alloc];omega) ?_);intro a9 c9 w9 own9 k9 at9
          have hv:Hid (v=l[k]∧r8=⟨l.drop (k+1),false⟩):=by
           rw [HDR.out] at hs8
           rcases hs8 with ⟨_,x2,x3⟩|⟨x1,_⟩
           ·exact ⟨x2,x3⟩
           ·cases x1
          have hge:=own_ge O3.out;have h9:=Lib.hid ((h8.keep ((Kept.refl [] w8).alloc _) (by simp) (by simp)).keep k9 (fun hm=>by have:=hge _ hm;omega) (fun hm=>by have:=hge _ hm;omega));have hk9:Kept [b] w5 w9:=((HK.out.trans k8).alloc _).fresh k9 (fun z hz=>(hge z hz).1);rw [hv.out.2] at h9;rw [hv.out.1,←HTK.out] at own9;clear hs8 h8 k8 k9 at9 hge O3 hv HTK HC1;go_wp2
          go_roundw
          case rel=>exact ⟨k+1,a9,c9,by omega,by go_num,rfl,own9,h9.out,hk9⟩
          case measure=>simp [intOf];omega
         ·obtain rfl:k=q:=by omega
          have htl:(l.take k).length=k:=by rw [List.length_take];omega
          have HSL:Hid (Stg list r3 (l.take k) ⟨l.drop k,bd⟩):=by
           rcases HST.out with ⟨x1,x2,x3⟩|⟨x1,x2⟩
           ·refine Or.inl ⟨x1,?_,?_⟩
            ·unfold list;rw [←x2,←x3]
            ·unfold list;rw [←x2,←x3]
           ·obtain ⟨x3,x4⟩:=Tp.mk.inj x2;subst x3 x4;exact Or.inr ⟨x1,by simp [failT]⟩
          have HSP:Hid (Stg spnd r2 (x,l.take k) ⟨l.drop k,bd⟩):=Stg.both list_codec S3.out HSL.out;have HF3:=Lib.hid (HF2.out.step spnd_codec HBD2.out HSP.out);have I6:=Lib.hid (I5.out.read HK.out HR'.out);obtain ⟨L,hL⟩:∃ L,l.take k=L:=⟨_,rfl⟩;rw [hL] at HF3 HO htl;have HTL:=Lib.hid htl;obtain ⟨X2,x1,x2,x3,x4,G5⟩:=I6.out.ga
          have X50:∀ z∈X2,z < w5.heap.size∨w5.heap.size≤z:=fun z _=>by omega
          clear HSL HSP htl hL HF2;have ka6:Kept [] wr (wr.alloc (.cells #[.slice a k c] 24)):=(Kept.refl _ _).alloc _;obtain ⟨Y2,y1,y2,y3,y4,GY⟩:=I5.out.ga;have hged:=Lib.hid I5.out.ged;have hgea:=Lib.hid I5.out.gea
          have HRr:Stable Y2 (fun w=>ListR w [.slice a k c] L) (wr.alloc (.cells #[.slice a k c] 24)) :=
           (Stable.row (own_keep HO.out ka6 (by simp)) (fun z hz hm=>by have:=(own_ge HO.out z hz).1;have:=y2 z hm;omega) (by omega)).imp fun _ h=>⟨_,rfl,by rw [HTL.out];exact h⟩
          have hSb:∀ z∈[b],z < w5.heap.size→z∈Y2:=fun z hz _=>by rw [List.mem_singleton] at hz;subst hz;exact y1 _ I5.out.bX
          have G6:Grow ListR 1 24 w7.heap.size Y2 (wr.alloc (.cells #[.slice a k c] 24)) (.slice aa n' ca) as_:=GY.step (HK.out.alloc _) (fun z hz hm=>by have:=I5.out.bl;have:=hgea.out z hz;rw [List.mem_singleton] at hm;omega) hSb (fun z hz=>Or.inl hz);have HA6:=Lib.hid HRr;have HG6:=Lib.hid G6;have X1:=Lib.hid y1;have XL:=Lib.hid y2;have X3:=Lib.hid y3;have X4:=Lib.hid y4;have hle6:=Lib.hid (I6.out.alloc (.cells #[.slice a k c] 24)).le;clear ka6 GY hSb HRr G6 y1 y2 y3 y4 G5 x1 x2 x3 x4 X50;obtain ⟨i0,hi,hz0,hz1,hz2⟩:=info_parts infoL;go_wp2_with (at_builtin;refine wpList_append_grow rfl _ _ 62 rfl i0 (.slice none 0 0) 24 Tryz.underlying62 hi hz0 hz1 hz2 rfl (by decide) (by decide) rfl HG6.out _ [.slice a k c] L rfl (rowS rfl _ _ _ rfl) HA6.out (by simp [Value.oneCell']) (by omega) hle6.out X4.out ?_);intro a8 c8 w8 G8 k8 at8;have I8:=Lib.hid ((I6.out.alloc _).pusha X1.out (fun z hz=>Nat.lt_of_lt_of_le (XL.out z hz) (by simp only [World.size_alloc];omega)) X3.out k8 (by rw [hna.out]) G8 (fun z hz=>by rw [World.size_alloc];exact at8 z hz))
          have HRn:Hid (InRel3 w7 b g X (many spnd r) N2 (.slice a4 (n+1) c4) (.slice a8 (as_.length+1) c8) (.int .i64 ((acc2.length:Int)+1)) w8) :=
           ⟨m2,_,acc2++[(x,L)],a4,a8,n+1,c4,as_.length+1,c8,rfl,rfl,by simp,by have:=HN2.out;simp;omega,HF3.out,by rw [List.map_append,List.map_append,HDS.out,HAS.out];exact I8.out⟩
          clear G8 k8 at8 HA6 HG6 X1 XL X3 X4 hi hz0 hz1 hz2 I6 I5 I8;go_wp2_with fail
          go_roundw
          case rel=>exact HRn.out
          case measure=>simp [intOf];omega
     case rest =>
      obtain ⟨r2,acc2,ad,aa,n,cd,n',ca,rfl,rfl,hN2,hS2,hI⟩:=hcut;have I:=Lib.hid hI;have O8:=Lib.hid (O7.out.read hI.kb hI.tp);have hX7:=O7.out.hX;have hged:=hI.ged;have hgea:=hI.gea
      have HD0:Stable X (fun w=>ListR w [.slice ad n cd] (acc2.map Prod.fst)) wc:=by
       have h1:=hI.nd;have h2:=hI.od;rw [h1] at h2 hged ⊢
       exact (Stable.row h2 (fun z hz hm=>by have:=hged z hz;have:=hX7 z hm;omega) (by rw [List.length_map];omega)).imp fun _ h=>⟨_,rfl,h⟩
      have HC0:Stable X (fun w=>ListsR w [.slice aa n' ca] (acc2.map Prod.snd)) wc:=by
       obtain ⟨X2,x1,x2,x3,x4,G⟩:=hI.ga;have h1:=hI.na;rw [h1] at G hgea ⊢
       exact (G.done (X':=X) (fun z hz=>Or.inl (x1 z hz)) (fun z hz hm=>by have:=hgea z hz;have:=hX7 z hm;omega) (by rw [List.length_map];omega)).imp fun _ h=>⟨_,rfl,h⟩
      have HF3:=Lib.hid (HF.out.step clause_codec HBD.out hS2);have GA:Hid (Grow ListR 1 24 B X (wc.alloc (.cells #[.slice ad n cd] 24)) (.slice a1 n1 c1) (acc.map (List.map Prod.fst))):=O8.out.g1.step ((Kept.refl [] _).alloc _) (by simp) (by simp) (fun z hz=>Or.inl hz);have EA:Hid (Stable X (fun w=>ListR w [.slice ad n cd] (acc2.map Prod.fst)) (wc.alloc (.cells #[.slice ad n cd] 24))):=HD0.step ((Kept.refl [] _).alloc _) (by simp) (fun z hz=>Or.inl hz);have HCC:=Lib.hid HC0;have hle:=Lib.hid (show B≤(wc.alloc (.cells #[.slice ad n cd] 24)).heap.size by have:=O8.out.le;simp only [World.size_alloc];omega);have p0:wc.cell? ⟨po,0,none⟩=some (.slice a1 n1 c1):=O8.out.bp.cell 0
      have hal:(acc.map (List.map Prod.fst)).length≤1000000000:=by rw [List.length_map];omega
      have hal2:(acc.map (List.map Prod.snd)).length≤1000000000:=by rw [List.length_map];omega
      obtain ⟨A,hA⟩:∃ A,acc.map (List.map Prod.fst)=A:=⟨_,rfl⟩;obtain ⟨C,hC⟩:∃ C,acc.map (List.map Prod.snd)=C:=⟨_,rfl⟩;rw [hA] at O8 GA hal;rw [hC] at O8 hal2;have HAe:=Lib.hid hA;have HCe:=Lib.hid hC;clear hA hC HD0 HC0 hX7 hged hgea hI hS2 O7 I;obtain ⟨i0,hi,hz0,hz1,hz2⟩:=info_parts infoL;go_wp2_with (at_builtin;refine wpList_append_grow rfl _ _ 62 rfl i0 (.slice none 0 0) 24 Tryz.underlying62 hi hz0 hz1 hz2 rfl (by decide) (by decide) rfl GA.out _ [.slice ad n cd] (acc2.map Prod.fst) rfl (rowS rfl _ _ _ rfl) EA.out (by simp [Value.oneCell']) hal hle.out O8.out.x1 ?_);intro p9 q9 y9 G9 k9 t9;obtain ⟨X9,O9,S9⟩:=O8.out.push1 ((Kept.refl [] wc).alloc (.cells #[.slice ad n cd] 24)) k9 G9 rfl (fun z hz=>by first|exact t9 z hz|(rw [World.size_alloc];exact t9 z hz));have zz0:=((O8.out.bp.alloc (.cells #[.slice ad n cd] 24)).kept k9 (fun hm=>by have:=O8.out.ge1 _ hm;have:=O8.out.lp;omega)).cell 0;have ff0:=((O8.out.bp.alloc (.cells #[.slice ad n cd] 24)).kept k9 (fun hm=>by have:=O8.out.ge1 _ hm;have:=O8.out.lp;omega)).frozen 0;have HC9:=Lib.hid (S9 _ HCC.out);have HO9:=Lib.hid O9;clear hi hz0 hz1 hz2 G9 k9 t9 GA EA p0 O8 S9 O9 hle HCC;go_upto_region 25 with (fail);obtain ⟨u9,hu9⟩:∃ u,y9.setCell ⟨po,0,none⟩ (.slice p9 (A.length+1) q9)=u:=⟨_,rfl⟩;rw [hu9] at HC9 HO9 ⊢;clear hu9 zz0 ff0;have GA:Hid (Grow ListsR 1 62 B X9 (u9.alloc (.cells #[.slice aa n' ca] 62)) (.slice a2 n2 c2) C):=HO9.out.g2.step ((Kept.refl [] _).alloc _) (by simp) (by simp) (fun z hz=>Or.inl hz);have EA:Hid (Stable X9 (fun w=>ListsR w [.slice aa n' ca] (acc2.map Prod.snd)) (u9.alloc (.cells #[.slice aa n' ca] 62))):=HC9.out.step ((Kept.refl [] _).alloc _) (by simp) (fun z hz=>Or.inl hz)
      have hle:=Lib.hid (show B≤(u9.alloc (.cells #[.slice aa n' ca] 62)).heap.size by have:=HO9.out.le;simp only [World.size_alloc];omega);have p1:u9.cell? ⟨po,1,none⟩=some (.slice a2 n2 c2):=HO9.out.bp.cell 1;obtain ⟨i0,hi,hz0,hz1,hz2⟩:=info_parts infoLL;go_wp2_with (at_builtin;refine wpList_append_grow rfl _ _ 63 rfl i0 (.slice none 0 0) 24 Tryz.underlying63 hi hz0 hz1 hz2 rfl (by decide) (by decide) rfl GA.out _ [.slice aa n' ca] (acc2.map Prod.snd) rfl (rowS rfl _ _ _ rfl) EA.out (by simp [Value.oneCell']) hal2 hle.out HO9.out.x2 ?_);intro p8 q8 y8 G8 k8 t8;obtain ⟨X8,O8,_⟩:=HO9.out.push2 ((Kept.refl [] u9).alloc (.cells #[.slice aa n' ca] 62)) k8 G8 rfl (fun z hz=>by first|exact t8 z hz|(rw [World.size_alloc];exact t8 z hz));have zz1:=((HO9.out.bp.alloc (.cells #[.slice aa n' ca] 62)).kept k8 (fun hm=>by have:=HO9.out.ge2 _ hm;have:=HO9.out.lp;omega)).cell 1;have ff1:=((HO9.out.bp.alloc (.cells #[.slice aa n' ca] 62)).kept k8 (fun hm=>by have:=HO9.out.ge2 _ hm;have:=HO9.out.lp;omega)).frozen 1;rw [←HAe.out,←HCe.out] at O8;have HRn:=Lib.hid (OutRel3.next O8 HN.out HF3.out);rw [HCe.out] at HRn;clear hi hz0 hz1 hz2 G8 k8 t8 GA EA p1 O8 hle HC9 HO9;go_wp2_with fail
      go_roundw
      case rel=>exact HRn.out
      case measure=>simp [intOf];omega
  case rest =>
   obtain ⟨r,acc,X,a1,a2,n1,c1,n2,c2,haN,hS,hO⟩:=hcut;have O:=Lib.hid hO;have HS:=Lib.hid hS;obtain ⟨a,c,xs,p,hb,hs',hp,hx,hg,hd⟩:=hO.tp.st;have d0:wc.cell? ⟨b,0,none⟩=some (.slice a xs.length c):=hb.cell 0;have d1:wc.cell? ⟨b,1,none⟩=some (.int .i64 (p:Int)):=hb.cell 1;have d2:wc.cell? ⟨b,2,none⟩=some (.bool r.bad):=hb.cell 2;have BW:Hid (Blk wc w.heap.size 65 #[.slice none 0 0,.slice none 0 0]):=O.out.bq
   have hfail:Hid (r.bad=true∨p≠xs.length→∀ y,Kept [] wc y→PfDP (readPf s) w (.returned (.tuple #[.agg #[.slice none 0 0,.slice none 0 0],.bool false])) ((y.setCell ⟨w.heap.size,0,none⟩ (.slice none 0 0)).setCell ⟨w.heap.size,1,none⟩ (.slice none 0 0))):=fun he y ky=>by
    have hne:ended (many clause ⟨ns,false⟩).2=false:=by
     unfold ended
     rcases he with h|h
     ·rw [(HS.out.bad h).1];rfl
     ·cases hb:r.bad
      ·rw [HS.out.good hb];simp only [hb,Bool.not_false,Bool.true_and];rw [hg hb]
       cases hl:xs.drop p with
       | nil=>have:=congrArg List.length hl;rw [List.length_drop] at this;simp at this;omega
       | cons _ _=>rfl
      ·rw [(HS.out.bad hb).1];rfl
    rw [HR.out,if_neg (by rw [hne];simp)];exact ⟨none,0,none,0,rfl,fun _ _ _ _=>RowOf.nil_ _ _ _,fun _ _ _ _=>RowOf.nil_ _ _ _,((O.out.k0.trans ky).setCell (Or.inr (Nat.le_refl _)) _).setCell (Or.inr (Nat.le_refl _)) _⟩
   have hgood:Hid (r.bad=false→p=xs.length→readPf s=(⟨acc.map (List.map Prod.fst),acc.map (List.map Prod.snd)⟩,true)):=fun h1 h2=>by
    rw [HR.out,HS.out.good h1,if_pos]
    unfold ended
    simp only [h1,Bool.not_false,Bool.true_and];rw [hg h1,h2];simp
   obtain ⟨L,hL⟩:∃ L,xs.length=L:=⟨_,rfl⟩;rw [hL] at d0 hfail hgood hp hx;clear hb hs' hg hd hS hO hL
   cases hbd:r.bad
   ·rw [hbd] at d2
    by_cases hpl:p=L
    ·have HG:=Lib.hid (hgood.out hbd hpl)
     have hq:((p:Int) != (L:Int))=false:=by simp [hpl]
     clear hfail hgood hpl;go_upto_region 26 with (fail)
     go_quiet (fail)
     obtain ⟨y,hy⟩:∃ y,wc.drewN nq=y:=⟨_,rfl⟩;have ky:Kept [] wc y:=hy▸(Kept.refl _ _).drewN nq;rw [hy];have BY:=Lib.hid (BW.out.kept ky (by simp));have z0:=BY.out.cell 0;have z1:=BY.out.cell 1;have y0:=BY.out.frozen 0;have y1:=BY.out.frozen 1;clear hy;have p0:=(O.out.bp.kept ky (by simp)).cell 0;have p1:=(O.out.bp.kept ky (by simp)).cell 1;go_wp2_with fail
     have BB:Blk ((y.setCell ⟨w.heap.size,0,none⟩ (.slice a1 n1 c1)).setCell ⟨w.heap.size,1,none⟩ (.slice a2 n2 c2)) w.heap.size 65 #[.slice a1 n1 c1,.slice a2 n2 c2]:=by simpa using (BY.out.set_ 0 (.slice a1 n1 c1)).set_ 1 (.slice a2 n2 c2)
     have zz0:=BB.cell 0;have zz1:=BB.cell 1;have kk:Kept [w.heap.size] wc ((y.setCell ⟨w.heap.size,0,none⟩ (.slice a1 n1 c1)).setCell ⟨w.heap.size,1,none⟩ (.slice a2 n2 c2)):=(((ky.mono (by simp)).setCell (by simp) _).setCell (by simp) _)
     have hwB:w.heap.size < B:=by have:=O.out.wb;have:=O.out.lb;omega
     have hq1:=O.out.ge1;have hq2:=O.out.ge2;have G1:=O.out.g1.step (X':=X) kk (fun z hz hm=>by have:=hq1 z hz;rw [List.mem_singleton] at hm;omega) (fun z hz _=>by rw [List.mem_singleton] at hz;subst hz;exact O.out.qX) (fun z hz=>Or.inl hz);have G2:=O.out.g2.step (X':=X) kk (fun z hz hm=>by have:=hq2 z hz;rw [List.mem_singleton] at hm;omega) (fun z hz _=>by rw [List.mem_singleton] at hz;subst hz;exact O.out.qX) (fun z hz=>Or.inl hz);have hn1:=O.out.e1;have hn2:=O.out.e2;have hk0:=((O.out.k0.trans ky).setCell (p:=⟨w.heap.size,0,none⟩) (Or.inr (Nat.le_refl _)) (.slice a1 n1 c1)).setCell (p:=⟨w.heap.size,1,none⟩) (Or.inr (Nat.le_refl _)) (.slice a2 n2 c2)
     have hal:(acc.map (List.map Prod.fst)).length≤9223372036854775807:=by rw [List.length_map];omega
     have hbl:(acc.map (List.map Prod.snd)).length≤9223372036854775807:=by rw [List.length_map];omega
     refine bodyPost_ret (v:=.tuple #[.agg #[.slice a1 n1 c1,.slice a2 n2 c2],.bool true]) (by simp [results,Tryz.results122,go_sem,zz0,zz1]) rfl ?_;rw [HG.out];refine ⟨a1,c1,a2,c2,?_,?_,?_,hk0⟩
     ·show _=Ending.returned (.tuple #[.agg #[.slice a1 (acc.map (List.map Prod.fst)).length c1,.slice a2 (acc.map (List.map Prod.snd)).length c2],_])
      rw [←hn1,←hn2]
     ·show Stable _ (fun w=>RowOf ListR 1 w (.slice a1 (acc.map (List.map Prod.fst)).length c1) (acc.map (List.map Prod.fst))) _
      rw [←hn1];exact G1.done (fun z hz=>Or.inl (O.out.rX z (by simpa using hz))) (fun z hz hm=>by have:=hq1 z hz;simp at hm;omega) hal
     ·show Stable _ (fun w=>RowOf ListsR 1 w (.slice a2 (acc.map (List.map Prod.snd)).length c2) (acc.map (List.map Prod.snd))) _
      rw [←hn2];exact G2.done (fun z hz=>Or.inl (O.out.rX z (by simpa using hz))) (fun z hz hm=>by have:=hq2 z hz;simp at hm;omega) hbl
    ·have hF:=Lib.hid (hfail.out (Or.inr hpl))
     have hq:((p:Int) != (L:Int))=true:=by simp;omega
     clear hfail hgood hpl;go_upto_region 26 with (fail)
     go_quiet (fail)
     obtain ⟨y,hy⟩:∃ y,wc.drewN nq=y:=⟨_,rfl⟩;have ky:Kept [] wc y:=hy▸(Kept.refl _ _).drewN nq;rw [hy];have BY:=Lib.hid (BW.out.kept ky (by simp));have z0:=BY.out.cell 0;have z1:=BY.out.cell 1;have y0:=BY.out.frozen 0;have y1:=BY.out.frozen 1;clear hy;go_wp2_with fail;refine bodyPost_ret (v:=.tuple #[.agg #[.slice none 0 0,.slice none 0 0],.bool false]) (by simp [results,Tryz.results122,go_sem,z0,z1]) rfl (hF.out y ky)
   ·rw [hbd] at d2;have hF:=Lib.hid (hfail.out (Or.inl hbd));clear hfail hgood;go_upto_region 26 with (fail)
    go_quiet (fail)
    obtain ⟨y,hy⟩:∃ y,wc.drewN nq=y:=⟨_,rfl⟩;have ky:Kept [] wc y:=hy▸(Kept.refl _ _).drewN nq;rw [hy];have BY:=Lib.hid (BW.out.kept ky (by simp));have z0:=BY.out.cell 0;have z1:=BY.out.cell 1;have y0:=BY.out.frozen 0;have y1:=BY.out.frozen 1;clear hy;go_wp2_with fail;refine bodyPost_ret (v:=.tuple #[.agg #[.slice none 0 0,.slice none 0 0],.bool false]) (by simp [results,Tryz.results122,go_sem,z0,z1]) rfl (hF.out y ky)
end Go.Proofs.YtpcdfepndmconaaGreatDoor
