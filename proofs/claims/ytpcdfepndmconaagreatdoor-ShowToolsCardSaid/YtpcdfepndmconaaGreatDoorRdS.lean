/- Lists of strings read: items[string], Texts. -/
import Derived.Test.YtpcdfepndmconaaGreatDoorRf3
import Derived.Laws.Entries
import Derived.Test.YtpcdfepndmconaaGreatDoorEnv
import Derived.Outline
import Derived.Laws.Rows
import Derived.Deep.Cut
import Derived.Test.YtpcdfepndmconaaGreatDoorKnu
import Derived.StillTailTactics
import Derived.Deep.RegionHeld3
import Derived.ArgAppend
import Derived.Lib.ConvBytes
import Derived.Deep.AppendLies
/- JOINED: Rf4 ShaP Sh1 Sh2 Sh3 Ap Apo Name Stat EncS RdS -/
/- The reference's setups: ValidSetup. -/
namespace Go.Proofs.YtpcdfepndmconaaGreatDoor
open Go.RowKit
set_option maxRecDepth 100000 in
set_option maxHeartbeats 800000 in
theorem rother_any (P Q G x:Int) (q:Nat) (w:World) (hok:GrpOk P Q G q) (hx:Wire.I64 x) :
  Calls Tryz.prog 166 #[.agg (grpV P Q G),.int .i64 x] w fun e w'=>e=.returned (.bool (othB q x))∧Kept [] w w':=by
 obtain ⟨W,hW⟩:∃ W,w.alloc (.cells (grpV P Q G) 23)=W:=⟨_,rfl⟩;have hb:Blk W w.heap.size 23 (grpV P Q G):=hW▸Blk.new _ _ _;have hkW:Kept [] w W:=hW▸(Kept.refl _ _).alloc _;have e0:W.cell? ⟨w.heap.size,0,none⟩=some (.int .i64 P):=hb.cell 0;have e1:W.cell? ⟨w.heap.size,1,none⟩=some (.int .i64 Q):=hb.cell 1;have e2:W.cell? ⟨w.heap.size,2,none⟩=some (.int .i64 G):=hb.cell 2;have HW:=Lib.hid hW;have HE:=Lib.hid (rmember_any P Q G x q W hok hx)
 unfold othB
 clear hb hW hok
 by_cases h1:x=1
 ·subst h1
  go_enter Tryz.func166,Tryz.ntmps166
  go_wp2_with fail;rw [HW.out];go_wp2_with fail;go_ret;exact ⟨rfl,hkW⟩
 ·have hne:(x != 1)=true:=by simpa using h1
  have hne':(x==1)=false:=by simpa using h1
  rw [hne'];obtain ⟨t,ht⟩:∃ t,memB q x=t:=⟨_,rfl⟩;rw [ht] at HE ⊢;clear ht hne'
  go_enter Tryz.func166,Tryz.ntmps166
  go_wp2_with fail;rw [HW.out];go_wp2_with (go_at_call 170;((with_reducible refine HE.out.mono ?_);rintro e w1 ⟨rfl,hk⟩));go_ret;exact ⟨rfl,hkW.trans hk⟩
set_option maxRecDepth 100000 in
set_option maxHeartbeats 1600000 in
theorem rvalidSetup_any (v:Value) (s:Stp) (w:World) (h:StpV w v s):Calls Tryz.prog 89 #[v] w fun e w'=>e=.returned (.bool (setupB s))∧Kept [] w w':=by
 obtain ⟨⟨a,c,rfl,hrow⟩,ip,iq,ig,ib,il⟩:=h;obtain ⟨P,Q,G,bases,blind⟩:=s
 simp only at ip iq ig ib il hrow ⊢
 have hlen:=hrow.form;obtain ⟨_,_,_,hl1,_⟩:=hlen;obtain ⟨W,hW⟩:∃ W,w.alloc (.cells #[.int .i64 P,.int .i64 Q,.int .i64 G,.slice a bases.length c,.int .i64 blind] 26)=W:=⟨_,rfl⟩;have hb:Blk W w.heap.size 26 #[.int .i64 P,.int .i64 Q,.int .i64 G,.slice a bases.length c,.int .i64 blind]:=hW▸Blk.new _ _ _;have hkW:Kept [] w W:=hW▸(Kept.refl _ _).alloc _;have HR:=Lib.hid (hrow.kept hkW);have HB:=Lib.hid hb;have K0:Hid (∀ w',Kept [] W w'→w'.cell? ⟨w.heap.size,0,none⟩=some (.int .i64 P)):=Kept.cellOf (hb.cell 0);have K1:Hid (∀ w',Kept [] W w'→w'.cell? ⟨w.heap.size,1,none⟩=some (.int .i64 Q)):=Kept.cellOf (hb.cell 1);have K2:Hid (∀ w',Kept [] W w'→w'.cell? ⟨w.heap.size,2,none⟩=some (.int .i64 G)):=Kept.cellOf (hb.cell 2);have K3:Hid (∀ w',Kept [] W w'→w'.cell? ⟨w.heap.size,3,none⟩=some (.slice a bases.length c)):=Kept.cellOf (hb.cell 3);have K4:Hid (∀ w',Kept [] W w'→w'.cell? ⟨w.heap.size,4,none⟩=some (.int .i64 blind)):=Kept.cellOf (hb.cell 4);have e0:=K0.out W (Kept.refl _ _);have e1:=K1.out W (Kept.refl _ _);have e2:=K2.out W (Kept.refl _ _);have HW:=Lib.hid hW;have VG:=Lib.hid (rvalidGroup_any P Q G W ip iq ig);have IB:=Lib.hid ib;obtain ⟨g,hg⟩:∃ g,groupB P Q G=g:=⟨_,rfl⟩
 unfold setupB
 simp only
 rw [hg] at VG ⊢;have HG:=Lib.hid hg;clear hb hW hrow ib hg
 cases g
 ·rw [Bool.false_and]
  go_enter Tryz.func89,Tryz.ntmps89
  go_wp2_with fail;rw [HW.out];go_wp2_with (go_at_call 165;with_reducible refine VG.out.mono ?_);rintro e w1 ⟨rfl,k1⟩;go_wp2_with fail;go_ret;exact ⟨rfl,hkW.trans k1⟩
 rw [Bool.true_and]
 by_cases c1:bases.length < 2
 ·rw [decide_eq_false (show ¬ 2≤bases.length by omega),Bool.false_and]
  have d1:decide ((bases.length:Int) < 2)=true:=by simp;omega
  go_enter Tryz.func89,Tryz.ntmps89
  go_wp2_with fail;rw [HW.out];go_wp2_with (go_at_call 165;with_reducible refine VG.out.mono ?_);rintro e w1 ⟨rfl,k1⟩;clear e0 e1 e2;have e3:=K3.out w1 k1;go_wp2_with fail;go_ret;exact ⟨rfl,hkW.trans k1⟩
 have d1:decide ((bases.length:Int) < 2)=false:=by simp;omega
 rw [decide_eq_true (show 2≤bases.length by omega),Bool.true_and]
 by_cases c2:7 < bases.length
 ·rw [decide_eq_false (show ¬ bases.length≤7 by omega),Bool.false_and]
  have d2:decide ((7:Int) < (bases.length:Int))=true:=by simp;omega
  go_enter Tryz.func89,Tryz.ntmps89
  go_wp2_with fail;rw [HW.out];go_wp2_with (go_at_call 165;with_reducible refine VG.out.mono ?_);rintro e w1 ⟨rfl,k1⟩;clear e0 e1 e2;have e3:=K3.out w1 k1;go_wp2_with fail;go_ret;exact ⟨rfl,hkW.trans k1⟩
 have d2:decide ((7:Int) < (bases.length:Int))=false:=by simp;omega
 rw [decide_eq_true (show bases.length≤7 by omega),Bool.true_and];obtain ⟨q,hok,hgn⟩:=groupB_ok HG.out
 have hqt:Q.toNat=q:=by have:=hok.hQ;omega
 rw [hqt]
 have CL:Hid (∀ w' x,Wire.I64 x→Calls Tryz.prog 166 #[.agg (grpV P Q G),.int .i64 x] w' fun e w2=>e=.returned (.bool (othB q x))∧Kept [] w' w2) :=
  fun w' x hx=>rother_any P Q G x q w' hok hx
 obtain ⟨R,hR⟩:∃ R,(bases.all (othB q)&&othB q blind)=R:=⟨_,rfl⟩;rw [hR];obtain ⟨t0,ht0⟩:∃ t,othB q blind=t:=⟨_,rfl⟩;rw [ht0] at hR;have HRR:=Lib.hid hR
 have CB:Hid (∀ w',Calls Tryz.prog 166 #[.agg (grpV P Q G),.int .i64 blind] w' fun e w2=>e=.returned (.bool t0)∧Kept [] w' w2):=fun w'=>by
  have:=CL.out w' blind il
  rwa [ht0] at this
 clear hR hok hqt ht0
 cases t0
 ·have hR:=HRR.out;rw [Bool.and_false] at hR;subst hR
  go_enter Tryz.func89,Tryz.ntmps89
  go_wp2_with fail;rw [HW.out];go_wp2_with (go_at_call 165;with_reducible refine VG.out.mono ?_);rintro e w1 ⟨rfl,k1⟩;clear e0 e1 e2;have e0:=K0.out w1 k1;have e1:=K1.out w1 k1;have e2:=K2.out w1 k1;have e3:=K3.out w1 k1;have e4:=K4.out w1 k1;go_wp2_with (go_at_call 166;with_reducible refine (CB.out w1).mono ?_);rintro e w2 ⟨rfl,k2⟩;go_wp2_with fail;go_ret;exact ⟨rfl,hkW.trans (k1.trans k2)⟩
 go_enter Tryz.func89,Tryz.ntmps89
 go_wp2_with fail;rw [HW.out];go_wp2_with (go_at_call 165;with_reducible refine VG.out.mono ?_);rintro e w1 ⟨rfl,k1⟩;clear e0 e1 e2;have e0:=K0.out w1 k1;have e1:=K1.out w1 k1;have e2:=K2.out w1 k1;have e3:=K3.out w1 k1;have e4:=K4.out w1 k1;go_wp2_with (go_at_call 166;with_reducible refine (CB.out w1).mono ?_);rintro e w2 ⟨rfl,k2⟩;replace k1:=k1.trans k2;clear e0 e1 e2 e3 e4;go_wp2_with fail
 go_loopw [3] (fun i wr=>∃ k:Nat,k≤bases.length∧i=.int .i64 k∧(∀ j (hj:j < bases.length),j < k→othB q bases[j]=true)∧Kept [] W wr) (fun i _=>bases.length - (intOf i).toNat)
 case atStart=>exact ⟨0,Nat.zero_le _,rfl,fun j _ hj=>by omega,k1⟩
 case round =>
  obtain ⟨k,hk,rfl,hm,hkr⟩:=hrel;have HM:=Lib.hid hm;clear hm;have e3:=K3.out wr hkr
  by_cases hlt:k < bases.length
  ·obtain ⟨ba,oa,rfl,hca⟩:=(HR.out.kept hkr).at_ (by omega);have x0:∀ w',Kept [] wr w'→w'.cell? ⟨w.heap.size,0,none⟩=some (.int .i64 P):=Kept.cellOf (K0.out wr hkr);have x1:∀ w',Kept [] wr w'→w'.cell? ⟨w.heap.size,1,none⟩=some (.int .i64 Q):=Kept.cellOf (K1.out wr hkr);have x2:∀ w',Kept [] wr w'→w'.cell? ⟨w.heap.size,2,none⟩=some (.int .i64 G):=Kept.cellOf (K2.out wr hkr);have x3:∀ w',Kept [] wr w'→w'.cell? ⟨w.heap.size,3,none⟩=some (.slice (some ⟨ba,oa,none⟩) bases.length c):=Kept.cellOf (K3.out wr hkr);have xa:∀ w',Kept [] wr w'→w'.cell? ⟨ba,oa+k,none⟩=some (.int .i64 bases[k]):=Kept.cellOf (hca k _ (ints_get hlt))
   have HC:Hid (∀ w',Calls Tryz.prog 166 #[.agg #[.int .i64 P,.int .i64 Q,.int .i64 G],.int .i64 bases[k]] w' fun e w2=>e=.returned (.bool (othB q bases[k]))∧Kept [] w' w2) :=
    fun w'=>CL.out w' bases[k] (IB.out _ (List.getElem_mem hlt))
   obtain ⟨t,ht⟩:∃ t,othB q bases[k]=t:=⟨_,rfl⟩;rw [ht] at HC;have HT:=Lib.hid ht;clear hca ht;go_upto_region 6 with (fail);clear e3
   go_region_held3 (fun w'=>Kept [] wr w') (first|assumption|exact (Kept.refl _ _).drew|exact Kept.alloc (by assumption) _)
    ((go_at_call 166;with_reducible refine (kept_from (W:=wr) (by assumption) (HC.out _)).mono ?_;rintro e w3 ⟨rfl,hk3⟩))
   clear x0 x1 x2 x3 xa
   cases t
   ·have hR:=HRR.out;rw [all_take_false hlt HT.out,Bool.false_and] at hR;subst hR;go_wp2;go_ret;exact ⟨rfl,hkW.trans (hkr.trans hk3)⟩
   ·go_wp2
    go_roundw
    case rel=>exact ⟨k+1,by omega,by go_num,fun j hj hjk=>by
     rcases Nat.lt_or_ge j k with h|h
     ·exact HM.out j hj h
     ·obtain rfl:j=k:=by omega
      exact HT.out,hkr.trans hk3⟩
    case measure=>simp [intOf];omega
  ·obtain rfl:k=bases.length:=by omega
   have hR:=HRR.out;rw [all_of (fun j hj=>HM.out j hj hj),Bool.true_and] at hR;subst hR;go_wp2_with fail;go_ret;exact ⟨rfl,hkW.trans hkr⟩
end Go.Proofs.YtpcdfepndmconaaGreatDoor
/- SHA-256 as a function of bytes, and its words as the model spells them. -/
namespace Go.ShaP
/-! ### the words as the model spells them -/
end Go.ShaP
/- The hash function's small parts: rotations, the first state, the tables. -/
namespace Go.Proofs.YtpcdfepndmconaaGreatDoor
open Go.RowKit ShaP
end Go.Proofs.YtpcdfepndmconaaGreatDoor
/- The hash function's message schedule, as the program makes it. -/
namespace Go.Proofs.YtpcdfepndmconaaGreatDoor
open Go.RowKit ShaP
end Go.Proofs.YtpcdfepndmconaaGreatDoor
/- The hash function's compression, as the program does it. -/
namespace Go.Proofs.YtpcdfepndmconaaGreatDoor
open Go.RowKit ShaP
end Go.Proofs.YtpcdfepndmconaaGreatDoor
/- A row of bytes that one appends to, one at a time, its block whatever: the call's own, or that of a conversion. -/
namespace Go.Proofs.YtpcdfepndmconaaGreatDoor
open Go.RowKit ShaP
end Go.Proofs.YtpcdfepndmconaaGreatDoor
/- An append onto a row that the call owns: the old elements stay where they lay, also in the old block. For a region that draws its order and loads from that row. -/
namespace Go.Proofs.YtpcdfepndmconaaGreatDoor
open Go.RowKit
end Go.Proofs.YtpcdfepndmconaaGreatDoor
/- base.letter, digit, inner, run, Name. -/
namespace Go.Proofs.YtpcdfepndmconaaGreatDoor
open Go.RowKit
end Go.Proofs.YtpcdfepndmconaaGreatDoor
/- Statutes: ValidStatute, Seats. -/
namespace Go.Proofs.YtpcdfepndmconaaGreatDoor
open Go.RowKit
def strs (l:List (List UInt8)):List Value:=l.map fun s=>.string ⟨s.toArray⟩
theorem strs_get {l:List (List UInt8)} {k:Nat} (h:k < l.length):(strs l)[k]?=some (.string ⟨l[k].toArray⟩):=by simp [strs,h]
end Go.Proofs.YtpcdfepndmconaaGreatDoor
/- Lists of strings: Texts. -/
namespace Go.Proofs.YtpcdfepndmconaaGreatDoor
open Go.RowKit
theorem flat_lenS (l:List (List UInt8)) (h:∀ x∈l,x.length≤1000):(l.flatMap Wire.textE).length≤1022*l.length:=by
 induction l with
 | nil=>simp
 | cons a l ih =>
  have h1:=h a (by simp);have h3:=Wire.itoa_len a.length ⟨by omega,by omega⟩;have h2:=ih fun x hx=>h x (by simp [hx]);simp only [List.flatMap_cons,List.length_append,List.length_cons,Wire.textE,List.length_nil];omega
/-- the loop's relation -/
def EncRelS (w0:World) (b:Nat) (l:List (List UInt8)) (i:Value) (wr:World):Prop :=
 ∃ k:Nat,k≤l.length∧i=.int .i64 k∧Lib.IsBuilder TB 5 w0.heap.size b (Lib.byteCells (Lib.itoa l.length++[91]++(l.take k).flatMap Wire.textE)) wr∧Kept [] w0 wr
set_option maxRecDepth 100000 in
set_option maxHeartbeats 1000000 in
theorem encoded_string (v:Value) (l:List (List UInt8)) (w:World) (hv:Row w 1 v l.length (strs l)) (hE:Env w) (hl:l.length≤100000) (hi:∀ x∈l,x.length≤1000) :
  Calls Tryz.prog 176 #[v,.func (.func 72) #[] #[]] w fun e w'=>e=.returned (.string ⟨(Wire.textsE l).toArray⟩)∧Kept [] w w':=by
 have hv0:=hv;obtain ⟨_,hlen,a,c,rfl,_,_⟩:=hv0;have hil:=Wire.itoa_len l.length ⟨by omega,by omega⟩;have hcat:=bcat
 go_enter Tryz.func176,Tryz.ntmps176
 go_wp2_with (first
  | (go_at_call 152;refine (itoa_any l.length _ ⟨by omega,by omega⟩ (by exact hE.alloc _)).mono ?_;rintro e w1 ⟨rfl,hk⟩))
 have hk0:Kept [] w w1:=((Kept.refl [] w).alloc _).trans hk;have hsz:=hk.size;rw [World.size_alloc] at hsz
 have hb0:Lib.IsBuilder TB 5 w.heap.size w.heap.size [] w1 :=
  Or.inl ⟨Nat.le_refl _,.slice none 0 0,(hk.block _ (by simp) (by simp)).trans (heap_alloc_new w _),World.ownsRow_nil _ _ _ _,by simp [Value.ownBlock]⟩
 have hws:=writeString_any w.heap.size w.heap.size [] ⟨(Lib.itoa l.length++[91]).toArray⟩ w1 hb0 (by simp [ByteArray.size];omega) (by omega);have HW:=Lib.hid hws;clear hws;go_wp2_with (go_at_call 194;refine HW.out.mono ?_);rintro e w2 ⟨rfl,hb2,hbl2⟩;have hk2:Kept [] w w2:=hk0.then_below hbl2;go_wp2_with fail
 go_loopw [7,15] (fun _ i wr=>EncRelS w w.heap.size l i wr) (fun _ i _=>l.length - (intOf i).toNat)
 case atStart=>exact ⟨0,Nat.zero_le _,rfl,Or.inr (by simpa [Lib.strCells_toArray] using hb2),hk2⟩
 case round =>
  obtain ⟨k,hkl,rfl,hb,hkr⟩:=hrel;have hE':=hE.kept0 hkr;have hrow:=hv.kept hkr
  by_cases hlt:k < l.length
  ·obtain ⟨bb,off,rfl,hc⟩:=hrow.at_ (by omega);have hx:=hc k _ (strs_get hlt);have hI:=hi l[k] (List.getElem_mem hlt)
   have hIl:(Wire.textE l[k]).length≤1022:=by
    have h3:=Wire.itoa_len (l[k].length:Int) ⟨by omega,by omega⟩;simp only [Wire.textE,List.length_append,List.length_cons,List.length_nil];omega
   have hfl:=flat_lenS (l.take k) (fun x hx=>hi x (List.mem_of_mem_take hx))
   have htk:(l.take k).length≤100000:=by rw [List.length_take];omega
   have HF:Hid (l.take (k+1)=l.take k++[l[k]]):=List.take_succ_eq_append_getElem hlt;have hks:=hkr.size;have HT:=Lib.hid (text_any l[k] wr (by omega) hE');clear hc
   go_wp2_with (first
    | (go_at_call 72;refine HT.out.mono ?_))
   rintro e w3 ⟨rfl,hk3⟩
   have hb3:Lib.IsBuilder TB 5 w.heap.size w.heap.size (Lib.byteCells (Lib.itoa l.length++[91]++(l.take k).flatMap Wire.textE)) w3:=by
    rcases hb with hb|hb
    ·exact Or.inl (builder_kept hb hk3)
    ·exact Or.inr (builder_kept hb hk3)
   have hws:=writeString_any w.heap.size w.heap.size _ ⟨(Wire.textE l[k]).toArray⟩ w3 hb3
    (by rw [Lib.byteCells_length];simp only [ByteArray.size,List.size_toArray,List.length_append,List.length_singleton];omega) (by have:=hk3.size;omega)
   have HW2:=Lib.hid hws;clear hws;go_wp2_with (go_at_call 194;refine HW2.out.mono ?_);rintro e w4 ⟨rfl,hb4,hbl4⟩;have hk4:Kept [] w w4:=(hkr.trans hk3).then_below hbl4;go_wp2
   go_roundw
   case rel =>
    refine ⟨k+1,by omega,by go_num,?_,hk4⟩;refine Or.inr ?_
    have e1:Lib.itoa l.length++[91]++(l.take (k+1)).flatMap Wire.textE=(Lib.itoa l.length++[91]++(l.take k).flatMap Wire.textE)++Wire.textE l[k]:=by
     rw [HF.out,List.flatMap_append];simp only [List.flatMap_cons,List.flatMap_nil,List.append_nil,List.append_assoc]
    rw [e1,Lib.byteCells_append,←Lib.strCells_toArray (Wire.textE l[k])];exact hb4
   case measure=>simp [intOf];omega
  ·obtain rfl:k=l.length:=by omega
   rw [List.take_length] at hb;have hfl:=flat_lenS l hi;have hks:=hkr.size;obtain ⟨F,hF⟩:∃ F,l.flatMap Wire.textE=F:=⟨_,rfl⟩;rw [hF] at hb hfl;have HF:=Lib.hid hF;clear hF;have hss:=Tryz.Builder_String_any w.heap.size w.heap.size _ wr hb hks;have HS:=Lib.hid hss;clear hss;go_wp2_with (go_at_call 195;refine HS.out.mono ?_);rintro e w3 ⟨rfl,hbl3⟩;go_wp2;go_ret;refine ⟨?_,hkr.then_below hbl3⟩
   have e1:Wire.textsE l=Lib.itoa l.length++91::(F++[93]):=by
    unfold Wire.textsE Wire.listE
    rw [HF.out]
    simp
   rw [e1]
   simp
set_option maxHeartbeats 400000 in
theorem texts_any (v:Value) (l:List (List UInt8)) (w:World) (hv:Row w 1 v l.length (strs l)) (hE:Env w) (hl:l.length≤100000) (hi:∀ x∈l,x.length≤1000) :
  Calls Tryz.prog 110 #[v] w fun e w'=>e=.returned (.string ⟨(Wire.textsE l).toArray⟩)∧Kept [] w w':=by
 have H:=Lib.hid (encoded_string v l w hv hE hl hi)
 go_enter Tryz.func110,Tryz.ntmps110
 go_wp2_with (go_at_call 176;refine H.out.mono ?_);rintro e w1 ⟨rfl,hk⟩;go_wp2;go_ret;exact ⟨rfl,hk⟩
end Go.Proofs.YtpcdfepndmconaaGreatDoor
namespace Go.Proofs.YtpcdfepndmconaaGreatDoor
open Go.RowKit
theorem infoStr:(Tryz.prog.info? 9).map (fun i=>(i.zero,i.size,i.bytes))=some (some (.string ⟨#[]⟩),1,16):=by kernel_rfl
theorem text_pays (r:Wire.Rd):(Wire.text r).2.bad=true∨((Wire.text r).2.bad=false∧(Wire.text r).2.rest.length+1≤r.rest.length):=by
 cases h:(Wire.text r).2.bad
 ·right
  obtain ⟨_,h2,_⟩:=Wire.text_inv r h;refine ⟨rfl,?_⟩
  conv=>rhs;rw [h2]
  simp only [Wire.textE,List.length_append,List.length_cons,List.length_nil];omega
 ·exact Or.inl rfl
/-- the loop's relation -/
def ItemsRelS (w0:World) (b:Nat) (fin:List (List UInt8) × Wire.Rd) (L:Nat) (v i:Value) (wr:World):Prop :=
 ∃ (n:Nat) (r:Wire.Rd) (acc:List (List UInt8)),n≤9223372036854775807∧i=.int .i64 n∧Wire.loop Wire.text n r acc=fin∧wr.ownsRow w0.heap.size 9 1 v acc.length (strs acc) ∧
  RdAt wr b r∧Kept [b] w0 wr∧Fits r∧Pays L r acc.length
set_option maxHeartbeats 1000000 in
theorem items_string (b:Nat) (r:Wire.Rd) (w:World) (h:RdAt w b r) (hE:Env w) (hs:Fits r) :
  Calls Tryz.prog 177 #[.pointer (some ⟨b,0,none⟩),.func (.func 61) #[.pointer (some ⟨b,0,none⟩)] #[]] w fun en w' =>
   ∃ v,en=.returned v∧w'.ownsRow w.heap.size 9 1 v (Wire.texts r).1.length (strs (Wire.texts r).1)∧RdAt w' b (Wire.texts r).2∧Kept [b] w w':=by
 obtain ⟨n,r1,hq⟩:∃ n r1,Wire.number 91 0 r=(n,r1):=⟨_,_,rfl⟩
 have hn0:0≤n:=by have:=Wire.number_least 91 0 (by omega) r;rw [hq] at this;exact this
 have hn1:n≤9223372036854775807:=by have:=Wire.number_bounds 91 0 r;rw [hq] at this;exact this.2
 obtain ⟨m,rfl⟩:=Int.eq_ofNat_of_zero_le hn0;have hs1:=fits_number hq hs;obtain ⟨fin,hfin⟩:∃ fin,Wire.loop Wire.text m r1 []=fin:=⟨_,rfl⟩;have H:=Lib.hid hq;have HF:=Lib.hid hfin;have hbl:=h.2.lt;obtain ⟨i0,hi,hz0,hz1,hz2⟩:=info_parts infoStr;clear hq hfin
 go_enter Tryz.func177,Tryz.ntmps177
 go_wp2_with (go_at_call 142;refine (rd_number' b r 91 0 H.out _ h hE hs).mono ?_);rintro e w1 ⟨rfl,h1,hk1⟩;go_wp2_with fail
 go_loopw [5,6] (fun v i wr=>ItemsRelS w b fin 100000000 v i wr) (fun _ i _=>(intOf i).toNat)
 case atStart =>
  exact ⟨m,r1,[],by omega,rfl,HF.out,by simpa [strs] using World.ownsRow_nil _ _ _ _,h1,hk1,hs1,fun _=>by unfold Fits at hs1;simpa using hs1,by simp⟩
 case round =>
  obtain ⟨n,r',acc,hn,rfl,hl,hown,hr,hk,hf,hp⟩:=hrel;have hE':=hE.kept hk (by intro x hx;rw [List.mem_singleton] at hx;subst hx;exact h.1);have hsz:=hk.size;have c1:=hr.c1;have HL:=Lib.hid hl;clear hl
  by_cases hgo:0 < n∧r'.bad=false
  ·obtain ⟨hn0,hbad⟩:=hgo;obtain ⟨n,rfl⟩:∃ k,n=k+1:=⟨n - 1,by omega⟩;obtain ⟨y,r2,hy⟩:∃ y r2,Wire.text r'=(y,r2):=⟨_,_,rfl⟩;have hr2:=rd_text b r' wr hr hE' hf;have hpay:=hp.step hbad (text_pays r')
   have hf2:Fits r2:=by have:=(fits_text hf).1;rw [hy] at this;exact this
   have hl2:Wire.loop Wire.text n r2 (acc++[y])=fin:=by
    have:=HL.out;simp only [Wire.loop,hbad,Bool.false_eq_true,if_false,hy] at this;exact this
   rw [hy] at hr2 hpay
   simp only at hr2 hpay
   have HR:=Lib.hid hr2;have HL2:=Lib.hid hl2;rw [hbad] at c1;clear hy hr2 hl2 hbad
   go_wp2_with (first
    | (go_at_call 61;refine HR.out.mono ?_;rintro e w2 ⟨rfl,h2,hk2⟩;have hown2:=own_kept hown hk2 (by simpa using hbl))
    | (at_builtin;refine wpList_append_own _ rfl _ _ 44 rfl w.heap.size 9 i0 (.string ⟨#[]⟩) 1 16 Tryz.underlying44 hi hz0 hz1 hz2 rfl (by decide) _ _ _ rfl (hown2.alloc _) ⟨w2.heap.size,0,none⟩ 1 1 [.string ⟨y.toArray⟩] rfl rfl ?c1 ?c2 ?c3 ?c4 ?c5 ?_))
   case c1=>exact cell_one_new _ _ _
   case c2=>intro u hu;rw [List.mem_singleton] at hu;subst hu;rfl
   case c3=>have:=hpay.2;unfold maxLen;omega
   case c4=>have:=hpay.2;omega
   case c5=>have:=hk2.size;simp;omega
   intro v' w3 hown3 hg3 _;have hk3:Kept [b] w w3:=((hk.trans hk2).alloc _).grown hg3 (fun k hk=>Or.inr (hown2.lt k hk).1);have hr3:RdAt w3 b r2:=⟨h2.1,(hg3.block b (Nat.lt_of_lt_of_le h2.2.lt (by simp)) (fun e=>by have:=(hown2.lt b e.symm).1;omega)).trans (h2.2.alloc _)⟩
   have e3:strs acc++[.string ⟨y.toArray⟩]=strs (acc++[y]):=by simp [strs]
   rw [e3] at hown3;clear e3 hg3 hown2 hown h2 hk2 hk hr c1;go_wp2
   go_roundw
   case rel=>exact ⟨n,r2,acc++[y],by omega,by go_num,HL2.out,by simpa using hown3,hr3,hk3,hf2,by simpa using hpay⟩
   case measure=>simp [intOf]
  ·have hfin:fin=(acc,r'):=by
    rw [←HL.out]
    cases n with
    | zero=>rfl
    | succ n =>
     have hb:r'.bad=true:=by
      cases hb:r'.bad
      ·exact absurd ⟨by omega,hb⟩ hgo
      ·rfl
     simp [Wire.loop,hb]
   have hout:Wire.texts r=(if (Wire.close [93] r').bad then [] else acc,Wire.close [93] r'):=by
    unfold Wire.texts Wire.items
    rw [H.out];simp only [Int.toNat_natCast];rw [HF.out,hfin]
    simp only
    split <;> rfl
   obtain ⟨rc,hrc⟩:∃ rc,Wire.close [93] r'=rc:=⟨_,rfl⟩;have hcl:=rd_close b r' [93] wr hr;rw [hrc] at hcl hout;have HC:=Lib.hid hcl;have HO:=Lib.hid hout;obtain ⟨va,vc,rfl⟩:=own_form hown
   have hexit:(n=0)∨(0 < n∧r'.bad=true):=by
    rcases Nat.eq_zero_or_pos n with h0|h0
    ·exact Or.inl h0
    ·right
     refine ⟨h0,?_⟩
     cases hb:r'.bad
     ·exact absurd ⟨h0,hb⟩ hgo
     ·rfl
   clear hcl hrc hfin hout HL hgo
   rcases hexit with rfl|⟨hn0,hb⟩
   ·cases hbc:rc.bad
    all_goals
     go_wp2_with (go_at_call 144;refine HC.out.mono ?_;rintro e w2 ⟨rfl,h2,hk2⟩;have d1:=h2.c1;rw [hbc] at d1);go_ret;rw [HO.out];simp only [hbc,if_true,Bool.false_eq_true,if_false];refine ⟨_,rfl,?_,h2,hk.trans hk2⟩
    ·exact own_kept hown hk2 (by simpa using hbl)
    ·exact by simpa [strs] using World.ownsRow_nil _ _ _ _
   ·rw [hb] at c1
    cases hbc:rc.bad
    all_goals
     go_wp2_with (go_at_call 144;refine HC.out.mono ?_;rintro e w2 ⟨rfl,h2,hk2⟩;have d1:=h2.c1;rw [hbc] at d1);go_ret;rw [HO.out];simp only [hbc,if_true,Bool.false_eq_true,if_false];refine ⟨_,rfl,?_,h2,hk.trans hk2⟩
    ·exact own_kept hown hk2 (by simpa using hbl)
    ·exact by simpa [strs] using World.ownsRow_nil _ _ _ _
set_option maxHeartbeats 400000 in
theorem rd_texts (b:Nat) (r:Wire.Rd) (w:World) (h:RdAt w b r) (hE:Env w) (hs:Fits r) :
  Calls Tryz.prog 115 #[.pointer (some ⟨b,0,none⟩)] w fun en w' =>
   ∃ v,en=.returned v∧w'.ownsRow w.heap.size 9 1 v (Wire.texts r).1.length (strs (Wire.texts r).1)∧RdAt w' b (Wire.texts r).2∧Kept [b] w w':=by
 have H:=Lib.hid (items_string b r w h hE hs);obtain ⟨q,hq⟩:∃ q,Wire.texts r=q:=⟨_,rfl⟩;rw [hq] at H ⊢;clear hq
 go_enter Tryz.func115,Tryz.ntmps115
 go_wp2_with (go_at_call 177;refine H.out.mono ?_);rintro e w1 ⟨v,rfl,ho,hr,hk⟩;obtain ⟨a,c,rfl⟩:=own_form ho;go_wp2;go_ret;exact ⟨_,rfl,ho,hr,hk⟩
theorem fits_loopS:∀ (n:Nat) (r:Wire.Rd) (acc:List (List UInt8)),(Wire.loop Wire.text n r acc).2.rest.length≤r.rest.length
 | 0,r,acc=>by simp [Wire.loop]
 | n+1,r,acc=>by
  simp only [Wire.loop]
  split
  ·simp
  ·refine Nat.le_trans (fits_loopS n _ _) ?_
   rcases text_pays r with h|⟨_,h⟩
   ·unfold Wire.text
    have h1:=Wire.number_rest_le 58 0 r
    split
    ·simp [Wire.failed]
    ·have h2:=Wire.close_rest_le [44] ⟨(Wire.number 58 0 r).2.rest.drop (Wire.number 58 0 r).1.toNat,(Wire.number 58 0 r).2.bad⟩;simp only [List.length_drop] at h2
     split <;> (simp only;omega)
   ·omega
theorem fits_texts {r:Wire.Rd} (hs:Fits r):Fits (Wire.texts r).2:=by
 have h1:=Wire.number_rest_le 91 0 r;have h2:=fits_loopS (Wire.number 91 0 r).1.toNat (Wire.number 91 0 r).2 [];have h3:=Wire.close_rest_le [93] (Wire.loop Wire.text (Wire.number 91 0 r).1.toNat (Wire.number 91 0 r).2 []).2
 unfold Wire.texts Wire.items Fits at *
 split <;> (simp only;omega)
theorem rd_texts' {l:List (List UInt8)} {r':Wire.Rd} (b:Nat) (r:Wire.Rd) (hq:Wire.texts r=(l,r')) (w:World) (h:RdAt w b r) (hE:Env w) (hs:Fits r) :
  Calls Tryz.prog 115 #[.pointer (some ⟨b,0,none⟩)] w fun en w' =>
   ∃ v,en=.returned v∧w'.ownsRow w.heap.size 9 1 v l.length (strs l)∧RdAt w' b r'∧Kept [b] w w':=by
 have:=rd_texts b r w h hE hs;rw [hq] at this;exact this
theorem fits_texts' {l:List (List UInt8)} {r r':Wire.Rd} (hq:Wire.texts r=(l,r')) (hs:Fits r):Fits r':=by
 have:=fits_texts hs;rw [hq] at this;exact this
end Go.Proofs.YtpcdfepndmconaaGreatDoor
