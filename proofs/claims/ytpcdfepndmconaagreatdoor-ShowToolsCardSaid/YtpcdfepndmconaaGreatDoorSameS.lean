/- Equal records compare as equal: SameNums, SameProof, tickets, spends, SameRecord. -/
import Derived.Test.YtpcdfepndmconaaGreatDoorSg1
import Derived.Test.YtpcdfepndmconaaGreatDoorKnu
import Derived.Test.YtpcdfepndmconaaGreatDoorRtk
/- JOINED: SameR SameS -/
/- Equal things compare as equal: SameInts, SameLists, SameNums, SameProof, tickets and spends. -/
namespace Go.Proofs.YtpcdfepndmconaaGreatDoor
open Go.RowKit Tape
set_option maxHeartbeats 800000 in
theorem sameInts_any (va vb:Value) (a b:List Int) (w:World) (ha:Row w 1 va a.length (ints a)) (hb:Row w 1 vb b.length (ints b)) :
  Calls Tryz.prog 37 #[va,vb] w fun e w'=>e=.returned (.bool (decide (a=b)))∧Kept [] w w':=by
 obtain ⟨aa,ca,rfl,hla,_⟩:=ha.form;obtain ⟨ab,cb,rfl,hlb,_⟩:=hb.form
 by_cases hl:a.length=b.length
 ·have hlq:((a.length:Int) != (b.length:Int))=false:=by simp;omega
  have HL:=Lib.hid hl;clear hl
  go_enter Tryz.func37,Tryz.ntmps37
  go_wp2_with fail
  go_loopw [5] (fun i wr=>∃ k:Nat,k≤a.length∧i=.int .i64 k∧(a=b↔a.drop k=b.drop k)∧Kept [] w wr) (fun i _=>a.length - (intOf i).toNat)
  case atStart=>exact ⟨0,Nat.zero_le _,rfl,by simp,Kept.refl _ _⟩
  case round =>
   obtain ⟨k,hk,rfl,hr,hkr⟩:=hrel;have HR:=Lib.hid hr;clear hr
   by_cases hlt:k < a.length
   ·have hltb:k < b.length:=by have:=HL.out;omega
    obtain ⟨ba,oa,rfl,hca⟩:=(ha.kept hkr).at_ (by omega);obtain ⟨bb,ob,rfl,hcb⟩:=(hb.kept hkr).at_ (by omega);have xa:=hca k _ (ints_get hlt);have xb:=hcb k _ (ints_get hltb);have hda:a.drop k=a[k]::a.drop (k+1):=List.drop_eq_getElem_cons hlt;have hdb:b.drop k=b[k]::b.drop (k+1):=List.drop_eq_getElem_cons hltb
    by_cases he:a[k]=b[k]
    ·have heq:(a[k] != b[k])=false:=by simp [he]
     have hn:a=b↔a.drop (k+1)=b.drop (k+1):=by rw [HR.out,hda,hdb,he];exact ⟨fun h=>(List.cons.inj h).2,fun h=>by rw [h]⟩
     have HN:=Lib.hid hn;clear hn hda hdb he hca hcb;go_wp2_with fail
     go_quiet (fail)
     go_wp2_with fail
     go_roundw
     case rel=>exact ⟨k+1,by omega,by go_num,HN.out,hkr.drewN _⟩
     case measure=>simp [intOf];omega
    ·have heq:(a[k] != b[k])=true:=by simp [he]
     have hn:¬ a=b:=by rw [HR.out,hda,hdb];intro h;injection h with h1;exact he h1
     have HN:=Lib.hid hn;clear hn hda hdb he hca hcb;go_wp2_with fail
     go_quiet (fail)
     go_wp2_with fail;go_ret;exact ⟨by rw [decide_eq_false HN.out];rfl,hkr.drewN _⟩
   ·obtain rfl:k=a.length:=by omega
    have hn:a=b:=by rw [HR.out,List.drop_length,HL.out,List.drop_length]
    have HN:=Lib.hid hn;clear hn;go_wp2_with fail;go_ret;exact ⟨by rw [decide_eq_true HN.out];rfl,hkr⟩
 ·have hlq:((a.length:Int) != (b.length:Int))=true:=by simp;omega
  have hn:¬ a=b:=fun h=>hl (by rw [h]);have HN:=Lib.hid hn;clear hn hl
  go_enter Tryz.func37,Tryz.ntmps37
  go_wp2_with fail;go_ret;exact ⟨by rw [decide_eq_false HN.out];rfl,Kept.refl _ _⟩
theorem sameInts_eq {va vb:Value} {l:List Int} {w:World} (ha:Row w 1 va l.length (ints l)) (hb:Row w 1 vb l.length (ints l)) :
  Calls Tryz.prog 37 #[va,vb] w fun e w'=>e=.returned (.bool true)∧Kept [] w w' :=
 (sameInts_any va vb l l w ha hb).mono fun _ _ h=>⟨by rw [h.1];simp,h.2⟩
set_option maxRecDepth 100000 in
set_option maxHeartbeats 1000000 in
theorem sameLists_eq (va vb:Value) (l:List (List Int)) (w:World) (ha:RowOf ListR 1 w va l) (hb:RowOf ListR 1 w vb l) :
  Calls Tryz.prog 128 #[va,vb] w fun e w'=>e=.returned (.bool true)∧Kept [] w w':=by
 obtain ⟨aa,ca,rfl,hla,_⟩:=ha.form;obtain ⟨ab,cb,rfl,hlb,_⟩:=hb.form;have HA:=Lib.hid ha;have HB:=Lib.hid hb
 have hlq:((l.length:Int) != (l.length:Int))=false:=by simp
 clear ha hb
 go_enter Tryz.func128,Tryz.ntmps128
 go_wp2_with fail
 go_loopw [5] (fun i wr=>∃ k:Nat,k≤l.length∧i=.int .i64 k∧Kept [] w wr) (fun i _=>l.length - (intOf i).toNat)
 case atStart=>exact ⟨0,Nat.zero_le _,rfl,Kept.refl _ _⟩
 case round =>
  obtain ⟨k,hk,rfl,hkr⟩:=hrel
  by_cases hlt:k < l.length
  ·obtain ⟨ba,oa,ua,rfl,xa,v1,e1,hva⟩:=(RowOf.kept HA.out (fun _ _ x=>x.kept hkr) hkr).one k hlt;obtain ⟨bb,ob,ub,rfl,xb,v2,e2,hvb⟩:=(RowOf.kept HB.out (fun _ _ x=>x.kept hkr) hkr).one k hlt;injection e1 with e1;injection e2 with e2;subst e1 e2;have HV:Hid (Calls Tryz.prog 37 #[ua,ub] wr.drew fun e w'=>e=.returned (.bool true)∧Kept [] wr.drew w'):=sameInts_eq (hva.kept ((Kept.refl _ _).drew)) (hvb.kept ((Kept.refl _ _).drew));have HC:Hid (∀ x:KW wr,Calls Tryz.prog 37 #[ua,ub] x.val fun e w'=>e=.returned (.bool true)∧Kept [] x.val w'):=fun x=>sameInts_eq (hva.kept x.property) (hvb.kept x.property);have ya:∀ x:KW wr,x.val.cell? ⟨ba,oa+k,none⟩=some ua:=fun x=>x.cell xa;have yb:∀ x:KW wr,x.val.cell? ⟨bb,ob+k,none⟩=some ub:=fun x=>x.cell xb;clear hva hvb HV;go_upto_region 6 with (fail);refine wp_region_kept wr (Kept.refl _ _) (by kernel_rfl) (by kernel_rfl) ?_
   repeat (go_big_quiet_step ((go_at_call 37;exact quiet_kept (HC.out _))))
   refine wpQuiet_nil ?_;rintro w2 ⟨⟨_,hk3⟩,rfl⟩;go_wp2_with fail
   go_roundw
   case rel=>exact ⟨k+1,by omega,by go_num,hkr.trans hk3⟩
   case measure=>simp [intOf];omega
  ·obtain rfl:k=l.length:=by omega
   go_wp2_with fail;go_ret;exact ⟨rfl,hkr⟩
end Go.Proofs.YtpcdfepndmconaaGreatDoor
namespace Go.Proofs.YtpcdfepndmconaaGreatDoor
open Go.RowKit Tape
set_option maxRecDepth 100000 in
set_option maxHeartbeats 1000000 in
theorem sameNums3_eq (va vb:Value) (l:List (List (List Int))) (w:World) (ha:RowOf ListsR 1 w va l) (hb:RowOf ListsR 1 w vb l) :
  Calls Tryz.prog 185 #[va,vb] w fun e w'=>e=.returned (.bool true)∧Kept [] w w':=by
 obtain ⟨aa,ca,rfl,hla,_⟩:=ha.form;obtain ⟨ab,cb,rfl,hlb,_⟩:=hb.form;have HA:=Lib.hid ha;have HB:=Lib.hid hb
 have hlq:((l.length:Int) != (l.length:Int))=false:=by simp
 clear ha hb
 go_enter Tryz.func185,Tryz.ntmps185
 go_wp2_with fail
 go_loopw [5] (fun i wr=>∃ k:Nat,k≤l.length∧i=.int .i64 k∧Kept [] w wr) (fun i _=>l.length - (intOf i).toNat)
 case atStart=>exact ⟨0,Nat.zero_le _,rfl,Kept.refl _ _⟩
 case round =>
  obtain ⟨k,hk,rfl,hkr⟩:=hrel
  by_cases hlt:k < l.length
  ·obtain ⟨ba,oa,ua,rfl,xa,v1,e1,hva⟩:=(RowOf.kept HA.out (fun _ _ x=>x.kept hkr) hkr).one k hlt;obtain ⟨bb,ob,ub,rfl,xb,v2,e2,hvb⟩:=(RowOf.kept HB.out (fun _ _ x=>x.kept hkr) hkr).one k hlt;injection e1 with e1;injection e2 with e2;subst e1 e2;have HC:Hid (∀ x:KW wr,Calls Tryz.prog 128 #[ua,ub] x.val fun e w'=>e=.returned (.bool true)∧Kept [] x.val w'):=fun x=>sameLists_eq _ _ _ _ (RowOf.kept hva (fun _ _ y=>ListR.kept y x.property) x.property) (RowOf.kept hvb (fun _ _ y=>ListR.kept y x.property) x.property);have ya:∀ x:KW wr,x.val.cell? ⟨ba,oa+k,none⟩=some ua:=fun x=>x.cell xa;have yb:∀ x:KW wr,x.val.cell? ⟨bb,ob+k,none⟩=some ub:=fun x=>x.cell xb;clear hva hvb;go_upto_region 6 with (fail);refine wp_region_kept wr (Kept.refl _ _) (by kernel_rfl) (by kernel_rfl) ?_
   repeat (go_big_quiet_step ((go_at_call 128;exact quiet_kept (HC.out _))))
   refine wpQuiet_nil ?_;rintro w2 ⟨⟨_,hk3⟩,rfl⟩;go_wp2_with fail
   go_roundw
   case rel=>exact ⟨k+1,by omega,by go_num,hkr.trans hk3⟩
   case measure=>simp [intOf];omega
  ·obtain rfl:k=l.length:=by omega
   go_wp2_with fail;go_ret;exact ⟨rfl,hkr⟩
set_option maxRecDepth 100000 in
set_option maxHeartbeats 1000000 in
theorem sameProof_eq (da an db bn:Value) (p:Pf) (w:World) (h1:RowOf ListR 1 w da p.dares) (h2:RowOf ListsR 1 w an p.answers) (h3:RowOf ListR 1 w db p.dares) (h4:RowOf ListsR 1 w bn p.answers) :
  Calls Tryz.prog 129 #[.agg #[da,an],.agg #[db,bn]] w fun e w'=>e=.returned (.bool true)∧Kept [] w w':=by
 obtain ⟨a1,c1,rfl,_,_⟩:=h1.form;obtain ⟨a2,c2,rfl,_,_⟩:=h2.form;obtain ⟨a3,c3,rfl,_,_⟩:=h3.form;obtain ⟨a4,c4,rfl,_,_⟩:=h4.form;have hb1:=(Blk.new w 65 #[.slice a1 p.dares.length c1,.slice a2 p.answers.length c2]).alloc (.cells #[.slice a3 p.dares.length c3,.slice a4 p.answers.length c4] 65);have hb2:=Blk.new (w.alloc (.cells #[.slice a1 p.dares.length c1,.slice a2 p.answers.length c2] 65)) 65 #[.slice a3 p.dares.length c3,.slice a4 p.answers.length c4];rw [World.size_alloc] at hb2;obtain ⟨W,hW⟩:∃ W,(w.alloc (.cells #[.slice a1 p.dares.length c1,.slice a2 p.answers.length c2] 65)).alloc (.cells #[.slice a3 p.dares.length c3,.slice a4 p.answers.length c4] 65)=W:=⟨_,rfl⟩;have hkW:Kept [] w W:=hW▸((Kept.refl _ _).alloc _).alloc _;rw [hW] at hb1 hb2
 have HL:Hid (∀ w',Kept [] W w'→Calls Tryz.prog 128 #[.slice a1 p.dares.length c1,.slice a3 p.dares.length c3] w' fun e w2=>e=.returned (.bool true)∧Kept [] w' w2):=fun w' k =>
  sameLists_eq _ _ _ _ (RowOf.kept h1 (fun _ _ y=>ListR.kept y (hkW.trans k)) (hkW.trans k)) (RowOf.kept h3 (fun _ _ y=>ListR.kept y (hkW.trans k)) (hkW.trans k))
 have HN:Hid (∀ w',Kept [] W w'→Calls Tryz.prog 185 #[.slice a2 p.answers.length c2,.slice a4 p.answers.length c4] w' fun e w2=>e=.returned (.bool true)∧Kept [] w' w2):=fun w' k =>
  sameNums3_eq _ _ _ _ (RowOf.kept h2 (fun _ _ y=>ListsR.kept y (hkW.trans k)) (hkW.trans k)) (RowOf.kept h4 (fun _ _ y=>ListsR.kept y (hkW.trans k)) (hkW.trans k))
 have HW:=Lib.hid hW;have B1:=Lib.hid hb1;have B2:=Lib.hid hb2;have e0:=hb1.cell 0;have e2:=hb2.cell 0;clear hW h1 h2 h3 h4 hb1 hb2
 go_enter Tryz.func129,Tryz.ntmps129
 go_upto_region 1 with (fail);rw [HW.out];go_wp2_with (go_at_call 128;refine (HL.out W (Kept.refl _ _)).mono ?_);rintro e w1 ⟨rfl,hk1⟩;clear e0 e2;have e1:=(B1.out.kept hk1 (by simp)).cell 1;have e3:=(B2.out.kept hk1 (by simp)).cell 1;go_wp2_with (go_at_call 185;refine (HN.out w1 hk1).mono ?_);rintro e w2 ⟨rfl,hk2⟩;go_wp2_with fail;go_ret;exact ⟨rfl,hkW.trans (hk1.trans hk2)⟩
/-- a list of ints is handed back, in new memory -/
def RowRet (l:List Int) (w:World) (e:Ending) (w':World):Prop:=∃ v,e=.returned v∧Row w' 1 v l.length (ints l)∧Kept [] w w'
set_option maxRecDepth 100000 in
set_option maxHeartbeats 1000000 in
theorem ticket06_any (t:Tick) (w:World):Calls Tryz.prog 112 #[.agg (tickC t).toArray] w (RowRet (tickE t) w):=by
 obtain ⟨t1,t2,t3,t4,t5,t6⟩:=t
 show Calls _ _ #[.agg #[.int .i64 t1,.int .i64 t2,.int .i64 t3,.int .i64 t4,.int .i64 t5,.int .i64 t6]] _ _
 go_enter Tryz.func112,Tryz.ntmps112
 go_wp2_with fail;go_ret;exact ⟨_,rfl,Row.six (by simp only [World.size_alloc]) t1 t2 t3 t4 t5 t6,((Kept.refl _ _).alloc _).alloc _⟩
set_option maxRecDepth 100000 in
set_option maxHeartbeats 1000000 in
theorem spend06_any (x:Spnd) (u:Value) (w:World) (hu:Row w 1 u x.2.length (ints x.2)) (hs:x.2.length≤100000000):Calls Tryz.prog 113 #[.agg #[.int .i64 x.1,u]] w (RowRet (spndE x) w):=by
 obtain ⟨dare,ans⟩:=x;obtain ⟨au,cu,rfl,_,_⟩:=hu.form;replace hs:ans.length≤100000000:=hs;obtain ⟨Z,hZ⟩:∃ Z,w.alloc (.cells #[.int .i64 dare,.slice au ans.length cu] 110)=Z:=⟨_,rfl⟩;have hkZ:Kept [] w Z:=hZ▸(Kept.refl _ _).alloc _;have bZ:Blk Z w.heap.size 110 #[.int .i64 dare,.slice au ans.length cu]:=hZ▸Blk.new _ _ _;have ho:=World.ownsRow_lit (base:=Z.heap.size) (e:=3) (size:=1) Z #[.int .i64 dare,.int .i64 (ans.length:Int)] 2 (Nat.le_refl _) (by decide) rfl;have HO:Hid ((Z.alloc (.cells #[.int .i64 dare,.int .i64 (ans.length:Int)] 3)).ownsRow Z.heap.size 3 1 (.slice (some ⟨Z.heap.size,0,none⟩) 2 2) 2 (ints [dare,(ans.length:Int)])):=ho;have HU:=Lib.hid (hu.kept (hkZ.alloc (.cells #[.int .i64 dare,.int .i64 (ans.length:Int)] 3)));have HZ:=Lib.hid hZ;have x0:=bZ.cell 0;have x1:=bZ.cell 1;have y1:=(bZ.alloc (.cells #[.int .i64 dare,.int .i64 (ans.length:Int)] 3)).cell 1;clear hZ ho hu bZ
 go_enter Tryz.func113,Tryz.ntmps113
 go_upto_region 1 with (fail);rw [HZ.out];go_wp2_with (at_builtin;refine wpList_append_ints rfl _ _ rfl Z.heap.size (.slice (some ⟨Z.heap.size,0,none⟩) 2 2) 2 [dare,(ans.length:Int)] rfl HO.out (.slice au ans.length cu) ans.length ans rfl HU.out (by omega) (by simp only [World.size_alloc];omega) ?_);intro a1 c1 w1 own1 k1 _;have hr:=Row.of_own own1 (by omega)
 have hk1:Kept [] w w1:=(hkZ.alloc _).fresh k1 (fun z hz=>by
  have:=(own_ge HO.out z hz).1;have:=hkZ.size
  omega)
 have hlen:(spndE (dare,ans)).length=2+ans.length:=by simp [spndE,listE];omega
 have HR:Hid (Row w1 1 (.slice a1 (2+ans.length) c1) (spndE (dare,ans)).length (ints (spndE (dare,ans)))):=by
  rw [hlen];exact hr
 clear own1 k1 hr x0 x1 y1 hlen;go_wp2_with fail;go_ret;exact ⟨_,rfl,HR.out,hk1⟩
end Go.Proofs.YtpcdfepndmconaaGreatDoor
