/- SameNums of the reference. -/
import Derived.Test.YtpcmamoomaddoaaGreatDoorSnq
import Derived.Test.YtpcmamoomaddoaaGreatDoorSrk
/- JOINED: Key Nums -/
/- saneAccount's key and issue. -/
namespace Go.Proofs.YtpcmamoomaddoaaGreatDoor
open Go.RowKit
theorem key_end {w2:World} {tmps:Array Value} {v0 v1 v2 v3 X:Value} {b:Nat} {R:Ending→World→Prop} (hb:Blk w2 b 36 #[v0,v1,v2,v3]) (h0:tmps[0]?.getD undef=.pointer (some ⟨b,0,none⟩))
  (hX:.agg #[v0,v1,v2,v3]=X) (hR:R (.returned X) w2) :
  bodyPost Tryz.prog Tryz.f25 R Exit.ret { tmps:=tmps,defers:=[] } w2:=by
 subst hX;have c0:w2.cell? ⟨b,0,none⟩=some v0:=hb.cell 0;have c1:w2.cell? ⟨b,1,none⟩=some v1:=hb.cell 1;have c2:w2.cell? ⟨b,2,none⟩=some v2:=hb.cell 2;have c3:w2.cell? ⟨b,3,none⟩=some v3:=hb.cell 3;refine bodyPost_ret (v:=.agg #[v0,v1,v2,v3]) ?_ rfl hR;simp only [results,Tryz.results25]
 simp [go_sem,h0,c0,c1,c2,c3]
set_option maxRecDepth 100000 in
set_option maxHeartbeats 2000000 in
theorem key_any (w:World):Calls Tryz.prog 25 #[] w fun e w'=>Kept [] w w'∧∃ a:Option Addr,e=.returned (.agg #[.string ⟨#[105,100]⟩,.int .i64 4,.slice a 1 1,.slice none 0 0])∧Row w' 1 (.slice a 1 1) 1 (strs [[97,103,101]]):=by
 obtain ⟨W,hW⟩:∃ W,w.alloc (.cells #[.string ⟨#[]⟩,.int .i64 0,.slice none 0 0,.slice none 0 0] 36)=W:=⟨_,rfl⟩;have hB:Blk W w.heap.size 36 #[.string ⟨#[]⟩,.int .i64 0,.slice none 0 0,.slice none 0 0]:=hW▸Blk.new _ _ _;have hK:Kept [] w W:=hW▸(Kept.refl _ _).alloc _;have hlt:=hB.lt;have hB2:=hB.alloc (.cells #[.string ⟨#[97,103,101]⟩] 9);have c0:(W.alloc (.cells #[.string ⟨#[97,103,101]⟩] 9)).cell? ⟨w.heap.size,0,none⟩=some (.string ⟨#[]⟩):=hB2.cell 0;have c1:(W.alloc (.cells #[.string ⟨#[97,103,101]⟩] 9)).cell? ⟨w.heap.size,1,none⟩=some (.int .i64 0):=hB2.cell 1;have c2:(W.alloc (.cells #[.string ⟨#[97,103,101]⟩] 9)).cell? ⟨w.heap.size,2,none⟩=some (.slice none 0 0):=hB2.cell 2;have c3:(W.alloc (.cells #[.string ⟨#[97,103,101]⟩] 9)).cell? ⟨w.heap.size,3,none⟩=some (.slice none 0 0):=hB2.cell 3;have f0:=hB2.frozen 0;have f1:=hB2.frozen 1;have f2:=hB2.frozen 2;have f3:=hB2.frozen 3;have HW:=Lib.hid hW;have HK:=Lib.hid hK;have HB2:=Lib.hid hB2;clear hW hB hK hB2 hlt
 go_enter Tryz.func25,Tryz.ntmps25
 go_upto_region 1 with (fail);have hW':=HW.out;rw [hW'];clear hW';go_wp2_with fail
 have hs:W.heap.size≠w.heap.size:=by
  have:=HB2.out
  have h2:W.heap.size=w.heap.size+1:=by rw [←HW.out,World.size_alloc]
  omega
 have hn:=((((Blk.new W 9 #[.string ⟨#[97,103,101]⟩]).far (p:=⟨w.heap.size,0,none⟩) hs (.string ⟨#[105,100]⟩)).far (p:=⟨w.heap.size,1,none⟩) hs (.int .i64 4)).far (p:=⟨w.heap.size,2,none⟩) hs (.slice (some ⟨W.heap.size,0,none⟩) 1 1)).far (p:=⟨w.heap.size,3,none⟩) hs (.slice none 0 0);refine key_end ((((HB2.out.set_ 0 _).set_ 1 _).set_ 2 _).set_ 3 _) rfl rfl ⟨(((((HK.out.alloc _).setCell (Or.inr (Nat.le_refl _)) _).setCell (Or.inr (Nat.le_refl _)) _).setCell (Or.inr (Nat.le_refl _)) _).setCell (Or.inr (Nat.le_refl _)) _),_,rfl,?_⟩;exact row_of_blk (cs:=[.string ⟨#[97,103,101]⟩]) hn rfl (by decide)
theorem issue_end {w2:World} {tmps:Array Value} {v0 v1 v2 v3 v4 v5 v6 X:Value} {b:Nat} {R:Ending→World→Prop} (hb:Blk w2 b 42 #[v0,v1,v2,v3,v4,v5,v6]) (h0:tmps[4]?.getD undef=.pointer (some ⟨b,0,none⟩))
  (hX:.agg #[v0,v1,v2,v3,v4,v5,v6]=X) (hR:R (.returned X) w2) :
  bodyPost Tryz.prog Tryz.f26 R Exit.ret { tmps:=tmps,defers:=[] } w2:=by
 subst hX;have c0:w2.cell? ⟨b,0,none⟩=some v0:=hb.cell 0;have c1:w2.cell? ⟨b,1,none⟩=some v1:=hb.cell 1;have c2:w2.cell? ⟨b,2,none⟩=some v2:=hb.cell 2;have c3:w2.cell? ⟨b,3,none⟩=some v3:=hb.cell 3;have c4:w2.cell? ⟨b,4,none⟩=some v4:=hb.cell 4;have c5:w2.cell? ⟨b,5,none⟩=some v5:=hb.cell 5;have c6:w2.cell? ⟨b,6,none⟩=some v6:=hb.cell 6;refine bodyPost_ret (v:=.agg #[v0,v1,v2,v3,v4,v5,v6]) ?_ rfl hR;simp only [results,Tryz.results26]
 simp [go_sem,h0,c0,c1,c2,c3,c4,c5,c6]
set_option maxRecDepth 100000 in
set_option maxHeartbeats 2000000 in
theorem issue_any (a b:Int) (w:World):Calls Tryz.prog 26 #[.int .i64 a,.int .i64 b] w fun e w'=>Kept [] w w'∧∃ ad:Option Addr,e=.returned (.agg #[.int .i64 0,.slice ad 2 2,.int .i64 0,.int .i64 0,.int .i64 0,.int .i64 0,.int .i64 0])∧Row w' 1 (.slice ad 2 2) 2 (ints [a,b]):=by
 obtain ⟨W,hW⟩:∃ W,w.alloc (.cells #[.int .i64 0,.slice none 0 0,.int .i64 0,.int .i64 0,.int .i64 0,.int .i64 0,.int .i64 0] 42)=W:=⟨_,rfl⟩;have hB:Blk W w.heap.size 42 #[.int .i64 0,.slice none 0 0,.int .i64 0,.int .i64 0,.int .i64 0,.int .i64 0,.int .i64 0]:=hW▸Blk.new _ _ _;have hK:Kept [] w W:=hW▸(Kept.refl _ _).alloc _;have hB2:=hB.alloc (.cells #[.int .i64 a,.int .i64 b] 3);have c0:(W.alloc (.cells #[.int .i64 a,.int .i64 b] 3)).cell? ⟨w.heap.size,0,none⟩=some (.int .i64 0):=hB2.cell 0;have c1:(W.alloc (.cells #[.int .i64 a,.int .i64 b] 3)).cell? ⟨w.heap.size,1,none⟩=some (.slice none 0 0):=hB2.cell 1;have c2:(W.alloc (.cells #[.int .i64 a,.int .i64 b] 3)).cell? ⟨w.heap.size,2,none⟩=some (.int .i64 0):=hB2.cell 2;have c3:(W.alloc (.cells #[.int .i64 a,.int .i64 b] 3)).cell? ⟨w.heap.size,3,none⟩=some (.int .i64 0):=hB2.cell 3;have c4:(W.alloc (.cells #[.int .i64 a,.int .i64 b] 3)).cell? ⟨w.heap.size,4,none⟩=some (.int .i64 0):=hB2.cell 4;have c5:(W.alloc (.cells #[.int .i64 a,.int .i64 b] 3)).cell? ⟨w.heap.size,5,none⟩=some (.int .i64 0):=hB2.cell 5;have c6:(W.alloc (.cells #[.int .i64 a,.int .i64 b] 3)).cell? ⟨w.heap.size,6,none⟩=some (.int .i64 0):=hB2.cell 6;have f0:=hB2.frozen 0;have f1:=hB2.frozen 1;have f2:=hB2.frozen 2;have f3:=hB2.frozen 3;have f4:=hB2.frozen 4;have f5:=hB2.frozen 5;have f6:=hB2.frozen 6;have HW:=Lib.hid hW;have HK:=Lib.hid hK;have HB2:=Lib.hid hB2;clear hW hB hK hB2
 go_enter Tryz.func26,Tryz.ntmps26
 go_upto_region 1 with (fail);have hW':=HW.out;rw [hW'];clear hW';go_wp2_with fail
 have hs:W.heap.size≠w.heap.size:=by
  have h2:W.heap.size=w.heap.size+1:=by rw [←HW.out,World.size_alloc]
  omega
 have hn:=((((((((Blk.new W 3 #[.int .i64 a,.int .i64 b]).far (p:=⟨w.heap.size,0,none⟩) hs (.int .i64 0)).far (p:=⟨w.heap.size,1,none⟩) hs (.slice (some ⟨W.heap.size,0,none⟩) 2 2)).far (p:=⟨w.heap.size,2,none⟩) hs (.int .i64 0)).far (p:=⟨w.heap.size,3,none⟩) hs (.int .i64 0)).far (p:=⟨w.heap.size,4,none⟩) hs (.int .i64 0)).far (p:=⟨w.heap.size,5,none⟩) hs (.int .i64 0)).far (p:=⟨w.heap.size,6,none⟩) hs (.int .i64 0));refine issue_end (((((((HB2.out.set_ 0 _).set_ 1 _).set_ 2 _).set_ 3 _).set_ 4 _).set_ 5 _).set_ 6 _) rfl rfl ⟨((((((((HK.out.alloc _).setCell (Or.inr (Nat.le_refl _)) _).setCell (Or.inr (Nat.le_refl _)) _).setCell (Or.inr (Nat.le_refl _)) _).setCell (Or.inr (Nat.le_refl _)) _).setCell (Or.inr (Nat.le_refl _)) _).setCell (Or.inr (Nat.le_refl _)) _).setCell (Or.inr (Nat.le_refl _)) _),_,rfl,?_⟩;exact row_of_blk (cs:=[.int .i64 a,.int .i64 b]) hn rfl (by decide)
end Go.Proofs.YtpcmamoomaddoaaGreatDoor
namespace Go.Proofs.YtpcmamoomaddoaaGreatDoor
open Go.RowKit
set_option maxHeartbeats 800000 in
theorem sameNums_any (va vb:Value) (a b:List Int) (w:World) (ha:Row w 1 va a.length (ints a)) (hb:Row w 1 vb b.length (ints b)) :
  Calls Tryz.prog 20 #[va,vb] w fun e w'=>e=.returned (.bool (decide (a=b)))∧Kept [] w w':=by
 obtain ⟨aa,ca,rfl,hla,_⟩:=ha.form;obtain ⟨ab,cb,rfl,hlb,_⟩:=hb.form
 by_cases hl:a.length=b.length
 ·have hlq:((a.length:Int) != (b.length:Int))=false:=by simp;omega
  have HL:=Lib.hid hl;clear hl
  go_enter Tryz.func20,Tryz.ntmps20
  go_wp2_with fail
  go_loopw [5] (fun i wr=>∃ k:Nat,k≤a.length∧i=.int .i64 k∧(a=b↔a.drop k=b.drop k)∧Kept [] w wr) (fun i _=>a.length - (intOf i).toNat)
  case atStart=>exact ⟨0,Nat.zero_le _,rfl,by simp,Kept.refl _ _⟩
  case round =>
   obtain ⟨k,hk,rfl,hr,hkr⟩:=hrel;have HR:=Lib.hid hr;clear hr
   by_cases hlt:k < a.length
   ·have hltb:k < b.length:=by have:=HL.out;omega
    obtain ⟨ba,oa,rfl,hca⟩:=(ha.kept hkr).at_ (by omega);obtain ⟨bb,ob,rfl,hcb⟩:=(hb.kept hkr).at_ (by omega);have xa:=hca k _ (ints_get hlt);have xb:=hcb k _ (ints_get hltb);have hda:a.drop k=a[k]::a.drop (k+1):=List.drop_eq_getElem_cons hlt;have hdb:b.drop k=b[k]::b.drop (k+1):=List.drop_eq_getElem_cons hltb
    by_cases he:a[k]=b[k]
    ·have heq:(a[k] != b[k])=false:=by simp [he]
     have hn:a=b↔a.drop (k+1)=b.drop (k+1):=by rw [HR.out,hda,hdb,he];exact ⟨fun h=>(List.cons.inj h).2,fun h=>by rw [h]⟩
     have HN:=Lib.hid hn;clear hn hda hdb he hca hcb;go_wp2_with fail
     go_quiet (fail)
     go_wp2_with fail
     go_roundw
     case rel=>exact ⟨k+1,by omega,by go_num,HN.out,hkr.drewN _⟩
     case measure=>simp [intOf];omega
    ·have heq:(a[k] != b[k])=true:=by simp [he]
     have hn:¬ a=b:=by rw [HR.out,hda,hdb];intro h;injection h with h1;exact he h1
     have HN:=Lib.hid hn;clear hn hda hdb he hca hcb;go_wp2_with fail
     go_quiet (fail)
     go_wp2_with fail;go_ret;exact ⟨by rw [decide_eq_false HN.out];rfl,hkr.drewN _⟩
   ·obtain rfl:k=a.length:=by omega
    have hn:a=b:=by rw [HR.out,List.drop_length,HL.out,List.drop_length]
    have HN:=Lib.hid hn;clear hn;go_wp2_with fail;go_ret;exact ⟨by rw [decide_eq_true HN.out];rfl,hkr⟩
 ·have hlq:((a.length:Int) != (b.length:Int))=true:=by simp;omega
  have hn:¬ a=b:=fun h=>hl (by rw [h]);have HN:=Lib.hid hn;clear hn hl
  go_enter Tryz.func20,Tryz.ntmps20
  go_wp2_with fail;go_ret;exact ⟨by rw [decide_eq_false HN.out];rfl,Kept.refl _ _⟩
end Go.Proofs.YtpcmamoomaddoaaGreatDoor
