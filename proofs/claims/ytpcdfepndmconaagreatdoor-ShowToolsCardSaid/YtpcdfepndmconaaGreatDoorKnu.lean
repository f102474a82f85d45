/- Division of two words by one, as math/bits does it: the arithmetic alone. -/
import Derived.Test.YtpcdfepndmconaaGreatDoorEnv
import Derived.Test.YtpcdfepndmconaaGreatDoorShelf
import Derived.Lib.Builder
import Derived.Shelf.Strings.Builder1
import Derived.Test.YtpcdfepndmconaaGreatDoorRd4
import Derived.Lib.AppendIntMem
/- JOINED: Build Enc Nums Knu -/
/- A strings.Builder that the call itself has made: copyCheck, WriteString (this dump's copyCheck has no text at its panic, so the shelf's is not laid). -/
namespace Go.Proofs.YtpcdfepndmconaaGreatDoor
open Go.RowKit
abbrev TB:TypeId:=204
theorem infoB:(Tryz.prog.info? 204).map (·.size)=some 2:=by kernel_rfl
theorem liesB:liesAt Tryz.prog Tryz.prog.depth 204 (2 / Tryz.prog.cellsOf 204) 0 204 1=true:=by kernel_rfl
theorem infoByte:(Tryz.prog.info? 5).map (fun i=>(i.zero,i.size,i.bytes))=some (some (.int .u8 0),1,1):=by kernel_rfl
set_option maxRecDepth 100000 in
set_option maxHeartbeats 1000000 in
theorem copyCheck_used (b:Nat) (w:World) (h0:w.cell? ⟨b,0,none⟩=some (.pointer (some ⟨b,0,none⟩))) :
  Calls Tryz.prog 211 #[.pointer (some ⟨b,0,none⟩)] w fun e w'=>e=.returned (.tuple #[])∧w'=w:=by
 obtain ⟨j,hj,_⟩:=Option.map_eq_some_iff.1 infoB
 go_enter Tryz.func211,Tryz.ntmps211
 go_wp2;rw [Lib.run_neq_ptr_same w _ Tryz.underlying201 hj];go_wp2
 go_end0
 exact ⟨rfl,rfl⟩
set_option maxRecDepth 100000 in
set_option maxHeartbeats 1000000 in
theorem copyCheck_fresh (b:Nat) (w:World) (h0:w.cell? ⟨b,0,none⟩=some (.pointer none)) (hsh:w.shape? b=some (TB,2)) (hfz:w.frozen? ⟨b,0,none⟩=false) :
  Calls Tryz.prog 211 #[.pointer (some ⟨b,0,none⟩)] w fun e w'=>e=.returned (.tuple #[])∧w'=w.setCell ⟨b,0,none⟩ (.pointer (some ⟨b,0,none⟩)):=by
 obtain ⟨j,hj,hjs⟩:=Option.map_eq_some_iff.1 infoB
 go_enter Tryz.func211,Tryz.ntmps211
 go_wp2;rw [Lib.run_to_unsafe w ⟨b,0,none⟩ Tryz.underlying201 Tryz.underlying234 hj (by rw [hjs];decide) hsh (Nat.zero_lt_succ 1)];simp only [Result.andThen];rw [Oper.upon_value];go_wp2;rw [run_callFunc_extern Tryz.func227 (by kernel_rfl) (by kernel_rfl) (by kernel_rfl) (e:=Extern.AbiNoEscape.same) (by kernel_rfl)];rw [Lib.run_noEscape];simp only [Result.andThen];rw [Oper.upon_value];go_wp2;rw [Lib.run_from_unsafe w ⟨b,0,none⟩ Tryz.underlying234 Tryz.underlying201 hj hsh liesB];simp only [Result.andThen];rw [Oper.upon_value];go_wp2
 go_end0
 exact ⟨rfl,rfl⟩
theorem copyCheck_any (B b:Nat) (l:List Value) (w:World) (h:Lib.IsBuilder TB 5 B b l w) :
  Calls Tryz.prog 211 #[.pointer (some ⟨b,0,none⟩)] w fun e w'=>e=.returned (.tuple #[]) ∧
   (Lib.BuilderAt TB 5 B b (.pointer (some ⟨b,0,none⟩)) l w'∧Below B w w'):=by
 rcases h with h|h
 ·refine (copyCheck_fresh b w h.cell0 h.shape h.frozen0).mono ?_;rintro e w' ⟨rfl,rfl⟩;exact ⟨rfl,h.used _,(Below.refl B w).setCell (p:=⟨b,0,none⟩) h.1 _⟩
 ·refine (copyCheck_used b w h.cell0).mono ?_;rintro e w' ⟨rfl,rfl⟩;exact ⟨rfl,h,Below.refl B _⟩
set_option maxRecDepth 100000 in
set_option maxHeartbeats 2000000 in
theorem writeString_any (B b:Nat) (l:List Value) (s:ByteArray) (w:World) (h:Lib.IsBuilder TB 5 B b l w) (hlen:l.length+s.size≤140737488355328) (hBw:B≤w.heap.size) :
  Calls Tryz.prog 194 #[.pointer (some ⟨b,0,none⟩),.string s] w fun e w'=>e=.returned (.tuple #[.int .i64 s.size,.nilIface]) ∧
   (Lib.BuilderAt TB 5 B b (.pointer (some ⟨b,0,none⟩)) (l++Lib.strCells s) w'∧Below B w w'):=by
 obtain ⟨i0,hi,hz0,hz1,hz2⟩:=info_parts infoByte
 go_enter Tryz.func194,Tryz.ntmps194
 go_wp2_with (go_at_call 211;refine (copyCheck_any B b l _ h).mono ?_);rintro e w1 ⟨rfl,h1,hb1⟩;obtain ⟨hB,v,hbk,hown,hne⟩:=h1
 have c0:w1.cell? ⟨b,0,none⟩=some (.pointer (some ⟨b,0,none⟩)):=by rw [Lib.cell_of_heap hbk];rfl
 have c1:w1.cell? ⟨b,1,none⟩=some v:=by rw [Lib.cell_of_heap hbk];rfl
 go_wp2_with (at_builtin;refine Lib.wpList_append_own_string _ rfl _ _ 202 9 rfl B 5 i0 Tryz.underlying202 Tryz.underlying9 hi hz0 hz1 hz2 _ _ _ rfl hown s rfl ?c3 ?c4 ?c5 ?_)
 case c3=>unfold maxLen;omega
 case c4=>omega
 case c5=>have:=hb1.size;omega
 intro v' w2 hown' hgrow _
 have hlt:b < w1.heap.size:=by
  rcases Nat.lt_or_ge b w1.heap.size with h'|h'
  ·exact h'
  ·simp [Array.getElem?_eq_none h'] at hbk
 have hb2:w2.heap[b]?=some (.cells #[.pointer (some ⟨b,0,none⟩),v] TB (0,0)):=by
  rw [hgrow.block b hlt (fun e=>hne e.symm)];exact hbk
 have d0:w2.cell? ⟨b,0,none⟩=some (.pointer (some ⟨b,0,none⟩)):=by rw [Lib.cell_of_heap hb2];rfl
 have d1:w2.cell? ⟨b,1,none⟩=some v:=by rw [Lib.cell_of_heap hb2];rfl
 have f1:w2.frozen? ⟨b,1,none⟩=false:=Lib.frozen_of_heap hb2 1
 obtain ⟨ao,n',cap,rfl⟩:∃ ao n' cap,v'=.slice ao n' cap:=by
  rcases hown'.2 with ⟨hv,_⟩|⟨g,cap,cur,hv,_⟩
  ·exact ⟨_,_,_,hv⟩
  ·exact ⟨_,_,_,hv⟩
 go_wp2
 go_ret2
 refine ⟨rfl,?_,?_⟩
 ·exact Lib.BuilderAt.put (T:=TB) (e:=5) hB hb2 (bs':=l++Lib.strCells s) (by simpa [Lib.strCells_length] using hown') (by decide)
 ·exact (hb1.grown hgrow (by have:=hb1.size;omega) (fun k hk=>(hown.lt k hk).1)).setCell (p:=⟨b,1,none⟩) hB _
end Go.Proofs.YtpcdfepndmconaaGreatDoor
/- What is written: Int, Text, Nums. -/
namespace Go.Proofs.YtpcdfepndmconaaGreatDoor
open Go.RowKit
/-! ### a slice that reads as a list of cells -/
def Row (w:World) (size:Nat) (v:Value) (n:Nat) (l:List Value):Prop :=
 l.length=n*size∧n≤9223372036854775807∧∃ a c,v=.slice a n c∧n≤c∧(0 < n→∃ b off,a=some ⟨b,off,none⟩∧∀ k u,l[k]?=some u→w.cell? ⟨b,off+k,none⟩=some u)
theorem Row.kept {w w':World} {size:Nat} {v:Value} {n:Nat} {l:List Value} (h:Row w size v n l) (k:Kept [] w w'):Row w' size v n l:=by
 obtain ⟨h1,h2,a,c,hv,hcc,hc⟩:=h;refine ⟨h1,h2,a,c,hv,hcc,fun hn=>?_⟩;obtain ⟨b,off,ha,hcell⟩:=hc hn;refine ⟨b,off,ha,fun j u hu=>?_⟩;have:=hcell j u hu;exact (k.cell (World.block_lt_of_cell? w _ this) (by simp)).trans this
theorem Row.form {w:World} {size:Nat} {v:Value} {n:Nat} {l:List Value} (h:Row w size v n l):∃ a c,v=.slice a n c∧n≤9223372036854775807∧n≤c:=by
 obtain ⟨_,h2,a,c,hv,hcc,_⟩:=h;exact ⟨a,c,hv,h2,hcc⟩
theorem Row.at_ {w:World} {size n m c:Nat} {a:Option Addr} {l:List Value} (h:Row w size (.slice a n c) m l) (hm:0 < m) :
  ∃ b off,a=some ⟨b,off,none⟩∧∀ k u,l[k]?=some u→w.cell? ⟨b,off+k,none⟩=some u:=by
 obtain ⟨_,_,a',c',hv,_,hc⟩:=h;injection hv with e1 e2 e3;subst e1;exact hc hm
theorem add_cell (b off k:Nat):(⟨b,off,none⟩:Addr).add k=⟨b,off+k,none⟩:=by
 unfold Addr.add;split
 ·next h=>subst h;rfl
 ·rfl
theorem Row.of_own {w:World} {B:Nat} {e:TypeId} {size:Nat} {v:Value} {n:Nat} {xs:List Value} (h:w.ownsRow B e size v n xs) (hn:n≤9223372036854775807):Row w size v n xs:=by
 refine ⟨h.1,hn,?_⟩
 rcases h.2 with ⟨h1,h2⟩|⟨g,cap,cur,hv,hB,hg,hnc,hcm,hcs,hx⟩
 ·subst h2;exact ⟨_,_,h1,by omega,fun hn=>by omega⟩
 ·refine ⟨_,_,hv,hnc,fun _=>⟨g,0,rfl,fun k u hu=>?_⟩⟩;rw [←hx] at hu;simp only [World.cell?,hg,Option.isSome_none,Bool.false_eq_true,if_false,Nat.zero_add];rw [List.getElem?_take] at hu
  split at hu
  ·simpa using hu
  ·cases hu
theorem bcat:∀ x y:List UInt8,(⟨x.toArray⟩:ByteArray)++⟨y.toArray⟩=⟨(x++y).toArray⟩:=fun x y=>ByteArray.mk_append_mk x y
set_option maxHeartbeats 400000 in
theorem int_any (n:Int) (w:World) (hn:Wire.I64 n) (hE:Env w) :
  Calls Tryz.prog 75 #[.int .i64 n] w fun e w'=>e=.returned (.string ⟨(Wire.intE n).toArray⟩)∧Kept [] w w':=by
 have hl:=Wire.itoa_len n hn;have hcat:=bcat
 go_enter Tryz.func75,Tryz.ntmps75
 go_wp2_with (go_at_call 152;refine (itoa_any n _ hn hE).mono ?_;rintro e w1 ⟨rfl,hk⟩);go_ret;exact ⟨rfl,hk⟩
theorem textE_eq (s:List UInt8):Lib.itoa s.length++58::(s++[44])=Wire.textE s:=by simp [Wire.textE]
set_option maxHeartbeats 400000 in
theorem text_any (s:List UInt8) (w:World) (hn:s.length≤100000000) (hE:Env w) :
  Calls Tryz.prog 72 #[.string ⟨s.toArray⟩] w fun e w'=>e=.returned (.string ⟨(Wire.textE s).toArray⟩)∧Kept [] w w':=by
 have hl:=Wire.itoa_len s.length ⟨by omega,by omega⟩;have hcat:=bcat
 go_enter Tryz.func72,Tryz.ntmps72
 go_wp2_with (go_at_call 152;refine (itoa_any s.length _ ⟨by omega,by omega⟩ hE).mono ?_;rintro e w1 ⟨rfl,hk⟩);go_ret;exact ⟨by rw [←textE_eq];simp,hk⟩
theorem intE_len (n:Int) (hn:Wire.I64 n):(Wire.intE n).length≤21:=by
 have:=Wire.itoa_len n hn;simp only [Wire.intE,List.length_append,List.length_singleton];omega
theorem flat_len (l:List Int) (h:∀ x∈l,Wire.I64 x):(l.flatMap Wire.intE).length≤21*l.length:=by
 induction l with
 | nil=>simp
 | cons a l ih =>
  have h1:=intE_len a (h a (by simp));have h2:=ih fun x hx=>h x (by simp [hx]);simp only [List.flatMap_cons,List.length_append,List.length_cons];omega
theorem builder_kept {T e:TypeId} {B b:Nat} {p:Value} {l:List Value} {w w':World} (h:Lib.BuilderAt T e B b p l w) (k:Kept [] w w'):Lib.BuilderAt T e B b p l w':=by
 obtain ⟨h1,v,h2,h3,h4⟩:=h;exact ⟨h1,v,(k.block b (Array.getElem?_eq_some_iff.1 h2).1 (by simp)).trans h2,own_kept h3 k (by simp),h4⟩
theorem textE_len (s:List UInt8) (h:s.length≤100000000):(Wire.textE s).length≤100000022:=by
 have:=Wire.itoa_len s.length ⟨by omega,by omega⟩;simp only [Wire.textE,List.length_append,List.length_singleton];omega
/-- the loop's relation -/
def EncRel (w0:World) (b:Nat) (l:List Int) (i:Value) (wr:World):Prop :=
 ∃ k:Nat,k≤l.length∧i=.int .i64 k∧Lib.IsBuilder TB 5 w0.heap.size b (Lib.byteCells (Lib.itoa l.length++[91]++(l.take k).flatMap Wire.intE)) wr∧Kept [] w0 wr
set_option maxRecDepth 100000 in
set_option maxHeartbeats 1000000 in
theorem encoded_int (v:Value) (l:List Int) (w:World) (hv:Row w 1 v l.length (ints l)) (hE:Env w) (hl:l.length≤100000001) (hi:∀ x∈l,Wire.I64 x) :
  Calls Tryz.prog 151 #[v,.func (.func 75) #[] #[]] w fun e w'=>e=.returned (.string ⟨(Wire.numsE l).toArray⟩)∧Kept [] w w':=by
 have hv0:=hv;obtain ⟨_,hlen,a,c,rfl,_,_⟩:=hv0;have hil:=Wire.itoa_len l.length ⟨by omega,by omega⟩;have hcat:=bcat
 go_enter Tryz.func151,Tryz.ntmps151
 go_wp2_with (first
  | (go_at_call 152;refine (itoa_any l.length _ ⟨by omega,by omega⟩ (by exact hE.alloc _)).mono ?_;rintro e w1 ⟨rfl,hk⟩))
 have hk0:Kept [] w w1:=((Kept.refl [] w).alloc _).trans hk;have hsz:=hk.size;rw [World.size_alloc] at hsz
 have hb0:Lib.IsBuilder TB 5 w.heap.size w.heap.size [] w1 :=
  Or.inl ⟨Nat.le_refl _,.slice none 0 0,(hk.block _ (by simp) (by simp)).trans (heap_alloc_new w _),World.ownsRow_nil _ _ _ _,by simp [Value.ownBlock]⟩
 have hws:=writeString_any w.heap.size w.heap.size [] ⟨(Lib.itoa l.length++[91]).toArray⟩ w1 hb0 (by simp [ByteArray.size];omega) (by omega);have HW:=Lib.hid hws;clear hws;go_wp2_with (go_at_call 194;refine HW.out.mono ?_);rintro e w2 ⟨rfl,hb2,hbl2⟩;have hk2:Kept [] w w2:=hk0.then_below hbl2;go_wp2_with fail
 go_loopw [7,15] (fun _ i wr=>EncRel w w.heap.size l i wr) (fun _ i _=>l.length - (intOf i).toNat)
 case atStart=>exact ⟨0,Nat.zero_le _,rfl,Or.inr (by simpa [Lib.strCells_toArray] using hb2),hk2⟩
 case round =>
  obtain ⟨k,hkl,rfl,hb,hkr⟩:=hrel;have hE':=hE.kept0 hkr;have hrow:=hv.kept hkr
  by_cases hlt:k < l.length
  ·obtain ⟨bb,off,rfl,hc⟩:=hrow.at_ (by omega);have hx:=hc k (.int .i64 l[k]) (by simp [ints,hlt]);have hI:=hi l[k] (List.getElem_mem hlt);have hIl:=intE_len l[k] hI;have hfl:=flat_len (l.take k) (fun x hx=>hi x (List.mem_of_mem_take hx))
   have htk:(l.take k).length≤100000001:=by rw [List.length_take];omega
   have HF:Hid (l.take (k+1)=l.take k++[l[k]]):=List.take_succ_eq_append_getElem hlt;have hks:=hkr.size;clear hc
   go_wp2_with (first
    | (go_at_call 75;refine (int_any l[k] _ hI hE').mono ?_))
   rintro e w3 ⟨rfl,hk3⟩
   have hb3:Lib.IsBuilder TB 5 w.heap.size w.heap.size (Lib.byteCells (Lib.itoa l.length++[91]++(l.take k).flatMap Wire.intE)) w3:=by
    rcases hb with hb|hb
    ·exact Or.inl (builder_kept hb hk3)
    ·exact Or.inr (builder_kept hb hk3)
   have hws:=writeString_any w.heap.size w.heap.size _ ⟨(Wire.intE l[k]).toArray⟩ w3 hb3
    (by rw [Lib.byteCells_length];simp only [ByteArray.size,List.size_toArray,List.length_append,List.length_singleton];omega) (by have:=hk3.size;omega)
   have HW2:=Lib.hid hws;clear hws;go_wp2_with (go_at_call 194;refine HW2.out.mono ?_);rintro e w4 ⟨rfl,hb4,hbl4⟩;have hk4:Kept [] w w4:=(hkr.trans hk3).then_below hbl4;go_wp2
   go_roundw
   case rel =>
    refine ⟨k+1,by omega,by go_num,?_,hk4⟩;refine Or.inr ?_
    have e1:Lib.itoa l.length++[91]++(l.take (k+1)).flatMap Wire.intE=(Lib.itoa l.length++[91]++(l.take k).flatMap Wire.intE)++Wire.intE l[k]:=by
     rw [HF.out,List.flatMap_append];simp only [List.flatMap_cons,List.flatMap_nil,List.append_nil,List.append_assoc]
    rw [e1,Lib.byteCells_append,←Lib.strCells_toArray (Wire.intE l[k])];exact hb4
   case measure=>simp [intOf];omega
  ·obtain rfl:k=l.length:=by omega
   rw [List.take_length] at hb;have hfl:=flat_len l hi;have hks:=hkr.size;obtain ⟨F,hF⟩:∃ F,l.flatMap Wire.intE=F:=⟨_,rfl⟩;rw [hF] at hb hfl;have HF:=Lib.hid hF;clear hF;have hss:=Tryz.Builder_String_any w.heap.size w.heap.size _ wr hb hks;have HS:=Lib.hid hss;clear hss;go_wp2_with (go_at_call 195;refine HS.out.mono ?_);rintro e w3 ⟨rfl,hbl3⟩;go_wp2;go_ret;refine ⟨?_,hkr.then_below hbl3⟩
   have e1:Wire.numsE l=Lib.itoa l.length++91::(F++[93]):=by
    unfold Wire.numsE Wire.listE
    rw [HF.out]
    simp
   rw [e1]
   simp
set_option maxHeartbeats 400000 in
theorem nums_any (v:Value) (l:List Int) (w:World) (hv:Row w 1 v l.length (ints l)) (hE:Env w) (hl:l.length≤100000001) (hi:∀ x∈l,Wire.I64 x) :
  Calls Tryz.prog 71 #[v] w fun e w'=>e=.returned (.string ⟨(Wire.numsE l).toArray⟩)∧Kept [] w w':=by
 have H:=Lib.hid (encoded_int v l w hv hE hl hi)
 go_enter Tryz.func71,Tryz.ntmps71
 go_wp2_with (go_at_call 151;refine H.out.mono ?_);rintro e w1 ⟨rfl,hk⟩;go_wp2;go_ret;exact ⟨rfl,hk⟩
set_option maxHeartbeats 400000 in
theorem rd_nums (b:Nat) (r:Wire.Rd) (w:World) (h:RdAt w b r) (hE:Env w) (hs:Fits r) :
  Calls Tryz.prog 60 #[.pointer (some ⟨b,0,none⟩)] w fun en w' =>
   ∃ v,en=.returned v∧w'.ownsRow w.heap.size 3 1 v (Wire.nums r).1.length (ints (Wire.nums r).1)∧RdAt w' b (Wire.nums r).2∧Kept [b] w w':=by
 have H:=Lib.hid (items_int b r w h hE hs);obtain ⟨q,hq⟩:∃ q,Wire.nums r=q:=⟨_,rfl⟩;rw [hq] at H ⊢;clear hq
 go_enter Tryz.func60,Tryz.ntmps60
 go_wp2_with (go_at_call 141;refine H.out.mono ?_);rintro e w1 ⟨v,rfl,ho,hr,hk⟩;obtain ⟨a,c,rfl⟩:=own_form ho;go_wp2;go_ret;exact ⟨_,rfl,ho,hr,hk⟩
theorem fits_loop (one:Wire.Rd→Int × Wire.Rd) (h1:∀ r,(one r).2.rest.length≤r.rest.length):∀ (n:Nat) (r:Wire.Rd) (acc:List Int),(Wire.loop one n r acc).2.rest.length≤r.rest.length
 | 0,r,acc=>by simp [Wire.loop]
 | n+1,r,acc=>by
  simp only [Wire.loop]
  split
  ·simp
  ·exact Nat.le_trans (fits_loop one h1 n _ _) (h1 r)
theorem fits_nums {r:Wire.Rd} (hs:Fits r):Fits (Wire.nums r).2:=by
 have h1:=Wire.number_rest_le 91 0 r;have h2:=fits_loop rdInt (fun r=>Wire.number_rest_le 59 _ r) (Wire.number 91 0 r).1.toNat (Wire.number 91 0 r).2 [];have h3:=Wire.close_rest_le [93] (Wire.loop rdInt (Wire.number 91 0 r).1.toNat (Wire.number 91 0 r).2 []).2;rw [nums_eq]
 unfold Wire.items Fits at *
 split <;> (simp only;omega)
theorem loop_ok_all (one:Wire.Rd→Int × Wire.Rd) (h1:∀ r,Wire.I64 (one r).1):∀ (n:Nat) (r:Wire.Rd) (acc:List Int),(∀ x∈acc,Wire.I64 x)→∀ x∈(Wire.loop one n r acc).1,Wire.I64 x
 | 0,r,acc,h=>by simpa [Wire.loop] using h
 | n+1,r,acc,h=>by
  simp only [Wire.loop]
  split
  ·exact h
  ·refine loop_ok_all one h1 n _ _ ?_;intro x hx;rw [List.mem_append,List.mem_singleton] at hx
   rcases hx with hx|rfl
   ·exact h x hx
   ·exact h1 r
theorem loop_pays (L:Nat):∀ (n:Nat) (r:Wire.Rd) (acc:List Int),Pays L r acc.length→(Wire.loop rdInt n r acc).1.length≤L+1
 | 0,r,acc,h=>by simpa [Wire.loop] using h.2
 | n+1,r,acc,h=>by
  simp only [Wire.loop]
  split
  ·exact h.2
  ·next hb =>
   have hb':r.bad=false:=by simpa using hb
   refine loop_pays L n _ _ ?_;have:=h.step hb' (number_pays 59 (-9223372036854775808) r);rw [List.length_append,List.length_singleton];exact this
theorem nums_len (r:Wire.Rd) (hs:Fits r):(Wire.nums r).1.length≤100000001:=by
 have h1:=Wire.number_rest_le 91 0 r;have h2:=loop_pays 100000000 (Wire.number 91 0 r).1.toNat (Wire.number 91 0 r).2 [] ⟨fun _=>by unfold Fits at hs;simp only [List.length_nil];omega,by simp⟩;rw [nums_eq]
 unfold Wire.items
 split
 ·simp
 ·exact h2
theorem nums_i64 (r:Wire.Rd):∀ x∈(Wire.nums r).1,Wire.I64 x:=by
 have h2:=loop_ok_all rdInt (fun r=>Wire.number_bounds 59 _ r) (Wire.number 91 0 r).1.toNat (Wire.number 91 0 r).2 [] (by simp);rw [nums_eq]
 unfold Wire.items
 split
 ·simp
 ·exact h2
/-! the reader's methods, told by what they give -/
theorem rd_nums' {l:List Int} {r':Wire.Rd} (b:Nat) (r:Wire.Rd) (hq:Wire.nums r=(l,r')) (w:World) (h:RdAt w b r) (hE:Env w) (hs:Fits r) :
  Calls Tryz.prog 60 #[.pointer (some ⟨b,0,none⟩)] w fun en w' =>
   ∃ v,en=.returned v∧w'.ownsRow w.heap.size 3 1 v l.length (ints l)∧RdAt w' b r'∧Kept [b] w w':=by
 have:=rd_nums b r w h hE hs;rw [hq] at this;exact this
theorem rd_text' {l:List UInt8} {r':Wire.Rd} (b:Nat) (r:Wire.Rd) (hq:Wire.text r=(l,r')) (w:World) (h:RdAt w b r) (hE:Env w) (hs:Fits r) :
  Calls Tryz.prog 61 #[.pointer (some ⟨b,0,none⟩)] w fun en w' =>
   en=.returned (.string ⟨l.toArray⟩)∧RdAt w' b r'∧Kept [b] w w':=by
 have:=rd_text b r w h hE hs;rw [hq] at this;exact this
theorem fits_nums' {l:List Int} {r r':Wire.Rd} (hq:Wire.nums r=(l,r')) (hs:Fits r):Fits r':=by
 have:=fits_nums hs;rw [hq] at this;exact this
end Go.Proofs.YtpcdfepndmconaaGreatDoor
/- Small functions on lists of ints: SameNums, total, Min, Max. -/
namespace Go.Proofs.YtpcdfepndmconaaGreatDoor
open Go.RowKit
theorem ints_get {l:List Int} {k:Nat} (h:k < l.length):(ints l)[k]?=some (.int .i64 l[k]):=by simp [ints,h]
end Go.Proofs.YtpcdfepndmconaaGreatDoor
namespace Go.Knu
/-- one step of the division by halves: the state of the loop -/
structure St (Y yn1 yn0 u un1 q rh:Nat):Prop where
 hy:Y=yn1*4294967296+yn0
 hy1:2147483648≤yn1
 hy1':yn1 < 4294967296
 hy0:yn0 < 4294967296
 hu:u < Y
 h1:un1 < 4294967296
 hq:(u*4294967296+un1) / Y≤q
 hr:q*yn1+rh=u
theorem St.start {Y yn1 yn0 u un1:Nat} (hy:Y=yn1*4294967296+yn0) (hy1:2147483648≤yn1) (hy1':yn1 < 4294967296) (hy0:yn0 < 4294967296) (hu:u < Y) (h1:un1 < 4294967296) :
  St Y yn1 yn0 u un1 (u / yn1) (u % yn1):=by
 refine ⟨hy,hy1,hy1',hy0,hu,h1,?_,by rw [Nat.mul_comm];exact Nat.div_add_mod u yn1⟩
 -- N / Y ≤ u / yn1
 have hY:0 < Y:=by omega
 refine (Nat.div_le_iff_le_mul_add_pred hY).2 ?_
 -- N ≤ Y * (u / yn1) + (Y - 1)
 have e:=Nat.div_add_mod u yn1;have hm:=Nat.mod_lt u (show 0 < yn1 by omega)
 generalize u / yn1=k at *
 generalize u % yn1=r at *
 subst hy;rw [Nat.add_mul]
 have:yn1*4294967296*k=(yn1*k)*4294967296:=by rw [Nat.mul_right_comm]
 rw [this,←e,Nat.add_mul];have h3:0≤yn0*k:=Nat.zero_le _
 generalize yn1*k=p at *
 generalize yn0*k=t at *
 omega
theorem St.q_lt {Y yn1 yn0 u un1 q rh:Nat} (h:St Y yn1 yn0 u un1 q rh):q≤4294967297:=by
 obtain ⟨hy,hy1,hy1',hy0,hu,h1,hq,hr⟩:=h
 rcases Nat.lt_or_ge 4294967297 q with h|h
 ·have:4294967298*yn1≤q*yn1:=Nat.mul_le_mul_right _ (by omega);omega
 ·exact h
theorem St.big {Y yn1 yn0 u un1 q rh:Nat} (h:St Y yn1 yn0 u un1 q rh) (hb:4294967296≤rh):q < 4294967296:=by
 obtain ⟨hy,hy1,hy1',hy0,hu,h1,hq,hr⟩:=h
 rcases Nat.lt_or_ge q 4294967296 with h|h
 ·exact h
 ·have:4294967296*yn1≤q*yn1:=Nat.mul_le_mul_right _ h;omega
theorem St.qlt {Y yn1 yn0 u un1 q rh:Nat} (h:St Y yn1 yn0 u un1 q rh):(u*4294967296+un1) / Y < 4294967296:=by
 obtain ⟨hy,hy1,hy1',hy0,hu,h1,hq,hr⟩:=h;refine Nat.div_lt_of_lt_mul ?_;have:(u+1)*4294967296≤Y*4294967296:=Nat.mul_le_mul_right _ hu;omega
theorem split {Y yn1 yn0 u un1 q rh:Nat} (hy:Y=yn1*4294967296+yn0) (hr:q*yn1+rh=u) :
  q*Y+(rh*4294967296+un1)=(u*4294967296+un1)+q*yn0:=by
 subst hy hr;rw [Nat.mul_add,Nat.add_mul,←Nat.mul_assoc];omega
/-- the loop's test is false: the quotient is exact -/
theorem St.done {Y yn1 yn0 u un1 q rh:Nat} (h:St Y yn1 yn0 u un1 q rh) (hc:q*yn0≤rh*4294967296+un1):q=(u*4294967296+un1) / Y:=by
 obtain ⟨hy,hy1,hy1',hy0,hu,h1,hq,hr⟩:=h;have e:=split (un1:=un1) hy hr
 have hle:q*Y≤u*4294967296+un1:=by omega
 have:=(Nat.le_div_iff_mul_le (show 0 < Y by omega)).2 hle;omega
theorem ar1 {a b N R:Nat} (e:a+R=N+b) (h:R < b):N < a:=by omega
/-- the loop's test is true: one less -/
theorem St.step {Y yn1 yn0 u un1 q rh:Nat} (h:St Y yn1 yn0 u un1 q rh) (hc:4294967296≤q∨rh*4294967296+un1 < q*yn0):1≤q∧St Y yn1 yn0 u un1 (q - 1) (rh+yn1):=by
 have hql:=h.qlt;obtain ⟨hy,hy1,hy1',hy0,hu,h1,hq,hr⟩:=h
 have hlt:(u*4294967296+un1) / Y < q:=by
  rcases hc with hc|hc
  ·omega
  ·refine (Nat.div_lt_iff_lt_mul (show 0 < Y by omega)).2 ?_;have e:=split (un1:=un1) hy hr;exact ar1 e hc
 have hq1:1≤q:=Nat.lt_of_le_of_lt (Nat.zero_le _) hlt;refine ⟨hq1,hy,hy1,hy1',hy0,hu,h1,Nat.le_sub_one_of_lt hlt,?_⟩
 have:q*yn1=(q - 1)*yn1+yn1:=by
  conv=>lhs;rw [show q=(q - 1)+1 by omega,Nat.add_mul,Nat.one_mul]
 omega
/-- behind a step, with a remainder of more than a half word -/
theorem St.broke {Y yn1 yn0 u un1 q rh:Nat} (h:St Y yn1 yn0 u un1 q rh) (hb:4294967296≤rh):q=(u*4294967296+un1) / Y:=by
 have hql:=h.big hb;refine h.done ?_;have:q*yn0≤4294967295*4294967295:=Nat.mul_le_mul (by omega) (by have:=h.hy0;omega);have:4294967296*4294967296≤rh*4294967296:=Nat.mul_le_mul_right _ hb;omega
theorem rest {N Y q:Nat} (hq:q=N / Y):q*Y≤N∧N - q*Y=N % Y:=by
 subst hq;have:=Nat.div_add_mod N Y;rw [Nat.mul_comm] at this
 constructor <;> omega
theorem ar2 {a b D:Nat} (e:a*18446744073709551616+b=D):(a*4294967296+b / 4294967296)*4294967296+b % 4294967296=D:=by
 have hb:=Nat.div_add_mod b 4294967296
 have h1:a*18446744073709551616=a*4294967296*4294967296:=by rw [Nat.mul_assoc]
 rw [Nat.add_mul,Nat.add_assoc,Nat.mul_comm (b / 4294967296),hb,←h1,e]
/-- two steps: the remainder of the scaled numbers, scaled back -/
theorem two {hi lo y s un32 un10 un21:Nat} (e1:un32*18446744073709551616+un10=(hi*18446744073709551616+lo)*2 ^ s)
  (e2:un21=(un32*4294967296+un10 / 4294967296) % (y*2 ^ s)) :
  (un21*4294967296+un10 % 4294967296) % (y*2 ^ s) / 2 ^ s=(hi*18446744073709551616+lo) % y:=by
 have e3:(un21*4294967296+un10 % 4294967296) % (y*2 ^ s)=((hi*18446744073709551616+lo)*2 ^ s) % (y*2 ^ s):=by
  generalize y*2 ^ s=Z at *
  subst e2;have hg:∀ M H:Nat,M % Z*H % Z=M*H % Z:=fun M H=>Nat.mod_mul_mod M H Z;have h:=hg (un32*4294967296+un10 / 4294967296) 4294967296;have h2:(un32*4294967296+un10 / 4294967296)*4294967296+un10 % 4294967296=(hi*18446744073709551616+lo)*2 ^ s:=ar2 e1;rw [Nat.add_mod,h,←Nat.add_mod,h2]
 rw [e3,Nat.mul_mod_mul_right,Nat.mul_div_cancel _ (Nat.two_pow_pos s)]
/-- the shifted halves -/
theorem shifted {hi lo s:Nat} (hs:s≤64):(hi*2 ^ s+lo / 2 ^ (64 - s))*18446744073709551616+lo*2 ^ s % 18446744073709551616=(hi*18446744073709551616+lo)*2 ^ s:=by
 have e:lo*2 ^ s / 18446744073709551616=lo / 2 ^ (64 - s):=by
  have h2:18446744073709551616=2 ^ (64 - s)*2 ^ s:=by rw [←Nat.pow_add,show 64 - s+s=64 by omega]
  rw [h2,Nat.mul_div_mul_right _ _ (Nat.two_pow_pos s)]
 have h3:=Nat.div_add_mod (lo*2 ^ s) 18446744073709551616;rw [e] at h3
 have h4:(hi*18446744073709551616+lo)*2 ^ s=hi*2 ^ s*18446744073709551616+lo*2 ^ s:=by rw [Nat.add_mul,Nat.mul_right_comm hi]
 rw [h4,Nat.add_mul,Nat.add_assoc];refine congrArg _ ?_;rw [Nat.mul_comm (lo / 2 ^ (64 - s))];exact h3
/-- the halves' or is their sum -/
theorem or_add {a b s:Nat} (hb:b < 2 ^ s):a*2 ^ s ||| b=a*2 ^ s+b:=by
 rw [Nat.mul_comm a (2 ^ s),Nat.two_pow_add_eq_or_of_lt hb]
theorem div_lt {lo s:Nat} (hl:lo < 18446744073709551616) (hs:s≤64):lo / 2 ^ (64 - s) < 2 ^ s:=by
 rw [Nat.div_lt_iff_lt_mul (Nat.two_pow_pos _),←Nat.pow_add,show s+(64 - s)=64 by omega];exact hl
theorem un_lt {hi lo y s:Nat} (hh:hi < y) (hl:lo < 18446744073709551616) (hs:s≤64):hi*2 ^ s+lo / 2 ^ (64 - s) < y*2 ^ s:=by
 have h1:=div_lt hl hs;have h2:(hi+1)*2 ^ s≤y*2 ^ s:=Nat.mul_le_mul_right _ hh;rw [Nat.add_mul,Nat.one_mul] at h2
 generalize lo / 2 ^ (64 - s)=a at *
 generalize hi*2 ^ s=b at *
 generalize y*2 ^ s=c at *
 omega
end Go.Knu
