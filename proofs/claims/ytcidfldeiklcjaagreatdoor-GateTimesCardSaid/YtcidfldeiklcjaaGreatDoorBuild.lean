import Derived.Test.YtcidfldeiklcjaaGreatDoorWire
import Derived.Test.YtcidfldeiklcjaaGreatDoorShelf
import Derived.Lib.AtoiErrMem
import Derived.LaidLaws
import Derived.Sort.Grow
import Derived.Outline
import Derived.Deep.RegionHeld3
import Derived.Deep.RegionWith
import Derived.Deep.DeepCutAuto
import Derived.LoopTactic
import Derived.Lib.Builder
set_option maxRecDepth 100000
set_option maxHeartbeats 32000000
namespace Go.Proofs.YtcidfldeiklcjaaGreatDoor
open Go.RowKit
open Go.Proofs.Tryz
def NG:Nat:=max (max 3 5) 6+1
theorem oH : prog.globalNamed "internal/strconv.uint64pow10" = some 3 := by kernel_rfl
theorem wQ : prog.globalNamed "strconv.ErrSyntax" = some 5 := by kernel_rfl
theorem wR : prog.globalNamed "strconv.ErrRange" = some 6 := by kernel_rfl
structure Env (w:World):Prop where
 size:NG<=w.heap.size
 pow10 : Lib.TabIs prog w "internal/strconv.uint64pow10" .u64 Lib.pow10Tab
 syn : ∃ tp p, w.var? prog "strconv.ErrSyntax" = some #[.iface tp p]
 rng : ∃ tp p, w.var? prog "strconv.ErrRange" = some #[.iface tp p]
theorem gN{S:List Nat}{w w':World}{n:String}{g:Nat}{cs:Array Value}(hg:prog.globalNamed n=some g)(h:Kept S w w')(hS:g∉S)
  (hv:w.var? prog n=some cs):w'.var? prog n=some cs:=by
 unfold World.var? at hv ⊢
 rw[hg]at hv ⊢;simp only[Option.bind_some]at hv ⊢
 have hlt:g < w.heap.size:=by
  rcases Nat.lt_or_ge g w.heap.size with h1|h1
  ·exact h1
  ·rw[Array.getElem?_eq_none h1]at hv;cases hv
 rw[h.block g hlt hS];exact hv
theorem Env.kept{S:List Nat}{w w':World}(hE:Env w)(h:Kept S w w')(hS:∀k∈S,NG<=k):Env w':=by
 have ne:∀g,g < NG->g∉S:=fun g hg hx=>by have:=hS g hx;omega
 refine⟨Nat.le_trans hE.size h.size,gN oH h (ne _ (by decide)) hE.pow10,?_,?_⟩
 ·obtain⟨tp,p,hv⟩:=hE.syn;exact⟨tp,p,gN wQ h (ne _ (by decide)) hv⟩
 ·obtain⟨tp,p,hv⟩:=hE.rng;exact⟨tp,p,gN wR h (ne _ (by decide)) hv⟩
theorem Env.kept0{w w':World}(hE:Env w)(h:Kept [] w w'):Env w':=hE.kept h (by simp)
theorem Env.drewN{w:World}(hE:Env w)(n:Nat):Env (w.drewN n):=hE.kept0 (kr.drewN n)
theorem Env.drew{w:World}(hE:Env w):Env w.drew:=hE.kept0 kr.drew
theorem Env.alloc{w:World}(hE:Env w)(o:Obj):Env (w.alloc o):=hE.kept0 (kr.alloc o)
theorem uf(w:World)(os:Array Obj):Kept [] w (Sort.grow w os) := ⟨rfl,rfl,rfl,by simp[Sort.grow],fun k hk _=>by
  show(w.heap++os)[k]?=_
  rw[Array.getElem?_append_left hk]⟩
theorem dQ(n:Int)(w:World)(hn:Wire.I64 n)(hE:Env w) :
  Calls prog 139 #[n] w fun e w'=>e=.returned (.string ⟨(Lib.itoa n).toArray⟩)/\Kept [] w w' :=
 (Tryz.strconv_Itoa n hn.1 hn.2 w hE.pow10).mono fun _ _ ⟨he,k,os,hw⟩=>⟨he,by subst hw;exact((kr.drewN k).trans (uf _ os))⟩
theorem oS(s:ByteArray)(v:Int)(w:World)(hs:s.size<=100000000)(h:Lib.atoiAll s.data.toList=.ok v) :
  Calls prog 210 #[.string s] w fun e w'=>e=.returned (.tuple #[v,.nilIface])/\Kept [] w w' :=
 (Tryz.strconv_Atoi_ok s (by omega) v h w).mono fun _ _ ⟨he,hw⟩=>⟨he,by
  rcases hw with rfl|⟨t,rfl⟩
  ·exact kr
  ·exact Kept.of_below (Lib.bytesWorld_below _ _ _)⟩
def yU(w:World)(e:Ending)(w':World):Prop:=∃(k:Int) (T:TypeId) (N:Nat),e=.returned (.tuple #[k,.iface T (.pointer (some ⟨N,0,none⟩))])/\Kept [] w w'
theorem xB(s:ByteArray)(w:World)(hs:s.size<=100000000)(h:∀v,Lib.atoiAll s.data.toList≠.ok v)(hE:Env w) :
  Calls prog 210 #[.string s] w (yU w):=by
 obtain⟨tp,p,h1⟩:=hE.syn;obtain⟨tq,q,h2⟩:=hE.rng
 cases ha:Lib.atoiAll s.data.toList with
 |ok v=>exact absurd ha (h v)
 |range=>exact(Tryz.strconv_Atoi_range_var s (by omega) ha tq q w h2).mono fun _ _ ⟨N,he,_,_,hb⟩=>⟨_,_,_,he,Kept.of_below hb⟩
 |_=>exact(Tryz.strconv_Atoi_syntax_var s (by omega) ha tp p w h1).mono fun _ _ ⟨N,he,_,_,hb⟩=>⟨_,_,_,he,Kept.of_below hb⟩
def RdAt(w:World)(b:Nat)(r:Wire.Rd):Prop:=NG<=b/\Blk w b 202 #[r.rest,.bool r.bad]
theorem RdAt.set2{w:World}{b:Nat}{r:Wire.Rd}(h:RdAt w b r)(s:List UInt8)(bd:Bool) :
  RdAt ((w.setCell ⟨b,0,none⟩ s).setCell ⟨b,1,none⟩ bd) b ⟨s,bd⟩ := ⟨h.1,by simpa using(h.2.set_ 0 s).set_ 1 bd⟩
theorem RdAt.set1{w:World}{b:Nat}{r:Wire.Rd}(h:RdAt w b r)(s:List UInt8) :
  RdAt (w.setCell ⟨b,0,none⟩ s) b ⟨s,r.bad⟩ := ⟨h.1,by simpa using h.2.set_ 0 s⟩
theorem RdAt.c0{w:World}{b:Nat}{r:Wire.Rd}(h:RdAt w b r):w.cell? ⟨b,0,none⟩=some (.string ⟨r.rest.toArray⟩):=by simpa using h.2.cell 0
theorem RdAt.c1{w:World}{b:Nat}{r:Wire.Rd}(h:RdAt w b r):w.cell? ⟨b,1,none⟩=some (.bool r.bad):=by simpa using h.2.cell 1
theorem fP(b:Nat)(r:Wire.Rd)(w:World)(h:RdAt w b r) :
  Calls prog 172 #[.pointer (some ⟨b,0,none⟩)] w fun e w'=>e=.returned (.tuple #[])/\RdAt w' b Wire.be/\Kept [b] w w':=by
 have c0:=h.c0;have c1:=h.c1;obtain⟨f0,f1⟩:=bf2 h.2
 go_enter func172,ntmps172
 go_wp2
 go_end0
 exact⟨rfl,h.set2 [] true,((kr.setCell (by simp) _).setCell (by simp) _)⟩
theorem kM{s e:List UInt8}(h:Lib.hasPrefix s e=true):Lib.trimPrefix s e=s.drop e.length:=by
 unfold Lib.trimPrefix;rw[if_pos h]
theorem lF(b:Nat)(r:Wire.Rd)(e:List UInt8)(w:World)(h:RdAt w b r) :
  Calls prog 173 #[.pointer (some ⟨b,0,none⟩),e] w fun en w' =>
   en=.returned (.tuple #[])/\RdAt w' b (Wire.close e r)/\Kept [b] w w':=by
 have m:=h.c0;have l:=h.c1;obtain⟨k,j⟩:=bf2 h.2
 by_cases hp:Lib.hasPrefix r.rest e=true
 ·have a:Wire.close e r=⟨r.rest.drop e.length,r.bad⟩:=by unfold Wire.close;rw[if_pos hp]
  have c:=Lib.hid a;have g:=Lib.hid (kM hp);clear a
  go_enter func173,ntmps173
  go_wp2_with (go_at_call 211;refine(Tryz.strings_CutPrefix _ _ _).mono ?_;rintro e w' ⟨rfl,rfl⟩)
  go_end0
  rw[c.out,g.out];exact⟨rfl,h.set1 _,(kr.setCell (by simp) _)⟩
 ·have hp':Lib.hasPrefix r.rest e=false:=by simpa using hp
  have a:Wire.close e r=Wire.be:=by unfold Wire.close;rw[if_neg hp]
  have c:=Lib.hid a;clear a hp
  go_enter func173,ntmps173
  go_wp2_with (first
   |(go_at_call 211;refine(Tryz.strings_CutPrefix _ _ _).mono ?_;rintro e w' ⟨rfl,rfl⟩)
   |(go_at_call 172;refine(fP b ⟨_,_⟩ _ (h.set1 _)).mono ?_;rintro e i ⟨rfl,d,f⟩))
  go_end0
  rw[c.out];exact⟨rfl,d,(kr.setCell (by simp) _).trans f⟩
open Lib(hid)
theorem gG(l:List UInt8)(a b:Nat):(⟨l.toArray⟩:ByteArray).extract a b=⟨((l.drop a).take (b - a)).toArray⟩:=by
 rw[Lib.extract_eq]
theorem kD(l:List UInt8):(⟨l.toArray⟩:ByteArray).extract 0 (min (l.length:Int) 21).toNat=⟨(l.take 21).toArray⟩:=by
 rw[gG]
 congr 2
 simp only[List.drop_zero,Nat.sub_zero]
 rcases Nat.le_total l.length 21 with h|h
 ·rw[show(min (l.length:Int) 21).toNat=l.length from by omega,List.take_of_length_le (Nat.le_refl _),List.take_of_length_le h]
 ·rw[show(min (l.length:Int) 21).toNat=21 from by omega]
theorem jo(l:List UInt8)(k:Nat):(⟨l.toArray⟩:ByteArray).extract 0 k=⟨(l.take k).toArray⟩:=by
 rw[gG];rfl
theorem gU(l:List UInt8)(k:Nat):(⟨l.toArray⟩:ByteArray).extract k l.length=⟨(l.drop k).toArray⟩:=by
 rw[gG,List.take_of_length_le (by simp)]
theorem cC(l:List UInt8)(e:UInt8)(w:World) :
  Calls prog 209 #[l,.int .u8 (e.toNat:Int)] w fun en w'=>en=.returned (.int .i64 (Lib.indexByte l e))/\w=w' :=
 (Tryz.strings_IndexByte ⟨l.toArray⟩ (e.toNat:Int) w).mono fun _ _ ⟨he,hw⟩=>⟨by rw[he];simp,hw.symm⟩
theorem lE(b:Nat)(r:Wire.Rd)(e:UInt8)(least:Int)(w:World)(h:RdAt w b r)
  (hs:r.rest.length<=140737488355328)
  (hi:Lib.indexByte (r.rest.take 21) e < 0) :
  Calls prog 171 #[.pointer (some ⟨b,0,none⟩),.int .u8 (e.toNat:Int),least] w fun en w' =>
   en=.returned (.int .i64 0)/\RdAt w' b Wire.be/\Kept [b] w w':=by
 have c0:=h.c0;have c1:=h.c1;have hx:=kD r.rest
 go_enter func171,ntmps171
 go_wp2_with fail
 go_quiet (fail)
 go_wp2_with (first
  |(go_at_call 209;refine(cC _ _ _).mono ?_;rintro e w' ⟨rfl,rfl⟩)
  |(go_at_call 172;refine(fP b r _ ⟨h.1,h.2.drewN _⟩).mono ?_;rintro e w1 ⟨rfl,hr,hk⟩))
 go_ret;exact⟨rfl,hr,(kr.drewN nq).trans hk⟩
theorem mx(b:Nat)(r:Wire.Rd)(e:UInt8)(least:Int)(w:World)(h:RdAt w b r)(hE:Env w)
  (hs:r.rest.length<=140737488355328) (k:Nat)
  (hi:Lib.indexByte (r.rest.take 21) e=k) (hk:k < (r.rest.take 21).length) (ha:∀v,Lib.atoiAll ((r.rest.take 21).take k)≠.ok v) :
  Calls prog 171 #[.pointer (some ⟨b,0,none⟩),.int .u8 (e.toNat:Int),least] w fun en w' =>
   en=.returned (.int .i64 0)/\RdAt w' b Wire.be/\Kept [b] w w':=by
 have q:=h.c0;have p:=h.c1;have n:=kD r.rest;have o:=jo (r.rest.take 21) k;have l:=hid ha
 have hk':k<=min 21 r.rest.length:=by rw[List.length_take]at hk;omega
 have d:((r.rest.take 21).take k).length<=100000000:=by rw[List.length_take,List.length_take];omega
 clear ha
 go_enter func171,ntmps171
 go_wp2_with fail
 go_quiet (fail)
 go_wp2_with (first
  |(go_at_call 209;refine(cC _ _ _).mono ?_;rintro e w' ⟨rfl,rfl⟩)
  |(go_at_call 210;refine(xB ⟨((r.rest.take 21).take k).toArray⟩ _ ?ha1 ?ha2 ?ha3).mono ?_))
 case ha1=>exact d
 case ha2=>exact l
 case ha3=>exact hE.drewN nq
 rintro e g ⟨j,T,N,rfl,a⟩;have f:RdAt g b r:=⟨h.1,h.2.kept (((Kept.refl [] w).drewN nq).trans a) (by simp)⟩;go_wp2_with fail
 go_quiet (fail)
 go_wp2_with (go_at_call 172;refine(fP b r _ ⟨f.1,f.2.drewN _⟩).mono ?_;rintro e m ⟨rfl,i,c⟩);go_ret;exact⟨rfl,i,(((((Kept.refl [] w).drewN _).trans a).drewN nq).mono (by simp)).trans c⟩
theorem ox(b:Nat)(r:Wire.Rd)(e:UInt8)(least:Int)(w:World)(h:RdAt w b r)(hE:Env w)
  (hs:r.rest.length<=140737488355328) (k:Nat) (n:Int)
  (hi:Lib.indexByte (r.rest.take 21) e=k) (hk:k < (r.rest.take 21).length) (ha:Lib.atoiAll ((r.rest.take 21).take k)=.ok n)
  (hq:Lib.itoa n=(r.rest.take 21).take k) (hl:least<=n) :
  Calls prog 171 #[.pointer (some ⟨b,0,none⟩),.int .u8 (e.toNat:Int),least] w fun en w' =>
   en=.returned n/\RdAt w' b ⟨r.rest.drop (k+1),r.bad⟩/\Kept [b] w w':=by
 have A:=h.c0;have z:=h.c1;have u:=kD r.rest;have v:=jo (r.rest.take 21) k;have o:=gU r.rest (k+1);have t:=hid ha
 have m:(Lib.itoa n==(r.rest.take 21).take k)=true:=by simp[hq]
 have p:decide (n < least)=false:=by simp;omega
 have s:=hid (Lib.atoiAll_bounds ha)
 have hk':k<=min 21 r.rest.length:=by rw[List.length_take]at hk;omega
 have q:k < r.rest.length:=by rw[List.length_take]at hk;omega
 have f:((r.rest.take 21).take k).length<=100000000:=by rw[List.length_take,List.length_take];omega
 clear ha hq
 go_enter func171,ntmps171
 go_wp2_with fail
 go_quiet (fail)
 go_wp2_with (first
  |(go_at_call 209;refine(cC _ _ _).mono ?_;rintro e w' ⟨rfl,rfl⟩)
  |(go_at_call 210;refine(oS ⟨((r.rest.take 21).take k).toArray⟩ n _ ?ha1 ?ha2).mono ?_))
 case ha1=>exact f
 case ha2=>exact t
 rintro e i ⟨rfl,a⟩;have j:RdAt i b r:=⟨h.1,h.2.kept (((Kept.refl [] w).drewN nq).trans a) (by simp)⟩;have d:=(hE.drewN nq).kept0 a;go_wp2_with fail
 go_region_held3 (fun _=>True) (trivial) ((go_at_call 139;refine(dQ n _ s (by exact d.drew)).mono ?_;rintro e l ⟨rfl,c⟩))
 have g:RdAt l b r:=⟨j.1,j.2.kept ((Kept.refl [] i).drew.trans c) (by simp)⟩;have y:=g.c0;have x:=g.2.frozen 0;go_wp2;go_ret;exact⟨rfl,g.set1 _,((((((Kept.refl [] w).drewN _).trans a).drew.trans c)).mono (by simp)).setCell (by simp) _⟩
theorem mw(b:Nat)(r:Wire.Rd)(e:UInt8)(least:Int)(w:World)(h:RdAt w b r)(hE:Env w)
  (hs:r.rest.length<=140737488355328) (k:Nat) (n:Int)
  (hi:Lib.indexByte (r.rest.take 21) e=k) (hk:k < (r.rest.take 21).length) (ha:Lib.atoiAll ((r.rest.take 21).take k)=.ok n)
  (hq:¬(Lib.itoa n=(r.rest.take 21).take k/\least<=n)) :
  Calls prog 171 #[.pointer (some ⟨b,0,none⟩),.int .u8 (e.toNat:Int),least] w fun en w' =>
   en=.returned (.int .i64 0)/\RdAt w' b Wire.be/\Kept [b] w w':=by
 have A:=h.c0;have z:=h.c1;have x:=kD r.rest;have y:=jo (r.rest.take 21) k;have s:=hid ha;have q:=hid (Lib.atoiAll_bounds ha)
 have hk':k<=min 21 r.rest.length:=by rw[List.length_take]at hk;omega
 have i:((r.rest.take 21).take k).length<=100000000:=by rw[List.length_take,List.length_take];omega
 clear ha
 by_cases hq1:Lib.itoa n=(r.rest.take 21).take k
 ·have o:(Lib.itoa n==(r.rest.take 21).take k)=true:=by simp[hq1]
  have v:decide (n < least)=true:=by simp;exact Int.not_le.1 fun h=>hq ⟨hq1,h⟩
  clear hq hq1
  go_enter func171,ntmps171
  go_wp2_with fail
  go_quiet (fail)
  go_wp2_with (first
   |(go_at_call 209;refine(cC _ _ _).mono ?_;rintro e w' ⟨rfl,rfl⟩)
   |(go_at_call 210;refine(oS ⟨((r.rest.take 21).take k).toArray⟩ n _ ?ha1 ?ha2).mono ?_))
  case ha1=>exact i
  case ha2=>exact s
  rintro e g ⟨rfl,a⟩;have j:RdAt g b r:=⟨h.1,h.2.kept (((Kept.refl [] w).drewN nq).trans a) (by simp)⟩;have f:=(hE.drewN nq).kept0 a;go_wp2_with fail
  go_region_held3 (fun _=>True) (trivial) ((go_at_call 139;refine(dQ n _ q (by exact f.drew)).mono ?_;rintro e l ⟨rfl,c⟩))
  have p:RdAt l b r:=⟨j.1,j.2.kept ((Kept.refl [] g).drew.trans c) (by simp)⟩;go_wp2_with (go_at_call 172;refine(fP b r _ p).mono ?_;rintro e t ⟨rfl,m,d⟩);go_ret;exact⟨rfl,m,((((((Kept.refl [] w).drewN _).trans a).drew.trans c)).mono (by simp)).trans d⟩
 ·have o:(Lib.itoa n==(r.rest.take 21).take k)=false:=by simp[hq1]
  have u:(!(Lib.itoa n==(r.rest.take 21).take k))=true:=by simp[hq1]
  clear hq hq1
  go_enter func171,ntmps171
  go_wp2_with fail
  go_quiet (fail)
  go_wp2_with (first
   |(go_at_call 209;refine(cC _ _ _).mono ?_;rintro e w' ⟨rfl,rfl⟩)
   |(go_at_call 210;refine(oS ⟨((r.rest.take 21).take k).toArray⟩ n _ ?ha1 ?ha2).mono ?_))
  case ha1=>exact i
  case ha2=>exact s
  rintro e g ⟨rfl,a⟩;have j:RdAt g b r:=⟨h.1,h.2.kept (((Kept.refl [] w).drewN nq).trans a) (by simp)⟩;have f:=(hE.drewN nq).kept0 a;go_wp2_with fail;refine ax g kr (by kernel_rfl) (by kernel_rfl) ?_
  repeat (go_big_quiet_step ((go_at_call 139;exact aA (dQ n _ q (by exact f.kept0 (Subtype.property _))))))
  refine wpQuiet_nil ?_;rintro l ⟨⟨_,c⟩,rfl⟩;have p:RdAt l b r:=⟨j.1,j.2.kept c (by simp)⟩;go_wp2_with (go_at_call 172;refine(fP b r _ p).mono ?_;rintro e t ⟨rfl,m,d⟩);go_ret;exact⟨rfl,m,(((((Kept.refl [] w).drewN _).trans a).trans c).mono (by simp)).trans d⟩
theorem tI(b:Nat)(r:Wire.Rd)(e:UInt8)(least:Int)(w:World)(h:RdAt w b r)(hE:Env w)(hs:r.rest.length<=140737488355328) :
  Calls prog 171 #[.pointer (some ⟨b,0,none⟩),.int .u8 (e.toNat:Int),least] w fun en w' =>
   en=.returned (.int .i64 (Wire.ar e least r).1)/\RdAt w' b (Wire.ar e least r).2/\Kept [b] w w':=by
 by_cases hi:Lib.indexByte (r.rest.take 21) e < 0
 ·have d:Wire.ar e least r=(0,Wire.be):=by unfold Wire.ar;rw[if_pos hi]
  rw[d];exact lE b r e least w h hs hi
 ·obtain⟨k,c⟩:∃k:Nat,Lib.indexByte (r.rest.take 21) e=k:=⟨(Lib.indexByte (r.rest.take 21) e).toNat,by omega⟩;obtain⟨t,g,a⟩:=Wire.fB (r.rest.take 21) e (by omega);rw[c,Int.toNat_natCast]at a
  cases ha:Lib.atoiAll ((r.rest.take 21).take k)with
  |ok n =>
   by_cases hq:Lib.itoa n=(r.rest.take 21).take k/\least<=n
   ·have d:Wire.ar e least r=(n,⟨r.rest.drop (k+1),r.bad⟩):=by
     unfold Wire.ar
     rw[if_neg hi,c,Int.toNat_natCast,ha]
     simp only
     rw[if_pos hq]
    rw[d];exact ox b r e least w h hE hs k n c a ha hq.1 hq.2
   ·have d:Wire.ar e least r=(0,Wire.be):=by
     unfold Wire.ar
     rw[if_neg hi,c,Int.toNat_natCast,ha]
     simp only
     rw[if_neg hq]
    rw[d];exact mw b r e least w h hE hs k n c a ha hq
  |_ =>
   have d:Wire.ar e least r=(0,Wire.be):=by unfold Wire.ar;rw[if_neg hi,c,Int.toNat_natCast,ha]
   rw[d];exact mx b r e least w h hE hs k c a (by rw[ha];intro v f;cases f)
end Go.Proofs.YtcidfldeiklcjaaGreatDoor
namespace Go.Proofs.YtcidfldeiklcjaaGreatDoor
open Go.RowKit
open Go.Proofs.Tryz
def Fits(r:Wire.Rd):Prop:=r.rest.length<=100000000
theorem cW{n:Int}{r1:Wire.Rd}(b:Nat)(r:Wire.Rd)(e:UInt8)(least:Int)(hq:Wire.ar e least r=(n,r1))(w:World)(h:RdAt w b r)(hE:Env w)(hs:Fits r) :
  Calls prog 171 #[.pointer (some ⟨b,0,none⟩),.int .u8 (e.toNat:Int),least] w fun en w' =>
   en=.returned n/\RdAt w' b r1/\Kept [b] w w':=by
 have:=tI b r e least w h hE (by unfold Fits at hs;omega);rw[hq]at this;exact this
theorem Env.keptR{w w':World}{b:Nat}{r:Wire.Rd}(hE:Env w)(h:RdAt w b r)(k:Kept [b] w w'):Env w' :=
 hE.kept k (by intro x hx;obtain rfl:=ms hx;exact h.1)
theorem ov(b:Nat)(r r1:Wire.Rd)(n:Int)(hq:Hid (Wire.ar 58 0 r=(n,r1)))(hlt:decide ((r1.rest.length:Int) < n)=true)(w:World)(h:RdAt w b r)(hE:Env w)(hs:Fits r) :
  Calls prog 126 #[.pointer (some ⟨b,0,none⟩)] w fun en w'=>en=.returned (.string ⟨#[]⟩)/\RdAt w' b Wire.be/\Kept [b] w w':=by
 go_enter func126,ntmps126
 go_wp2_with (go_at_call 171;refine(cW b r 58 0 hq.out _ h hE hs).mono ?_);rintro e w1 ⟨rfl,h1,hk1⟩;have c0:=h1.c0;go_wp2_with (go_at_call 172;refine(fP b r1 _ h1).mono ?_;rintro e w2 ⟨rfl,h2,hk2⟩);go_ret;exact⟨rfl,h2,hk1.trans hk2⟩
def txt(bd:Bool)(l:List UInt8):ByteArray:=if bd then⟨#[]⟩else⟨l.toArray⟩
theorem pM(b:Nat)(r r1 r2:Wire.Rd)(m:Nat)(hq:Hid (Wire.ar 58 0 r=((m:Int),r1)))(hm:m<=r1.rest.length)(_hf1:Fits r1)
  (hc:Hid (Wire.close [44] ⟨r1.rest.drop m,r1.bad⟩=r2)) (w:World) (h:RdAt w b r) (hE:Env w) (hs:Fits r) :
  Calls prog 126 #[.pointer (some ⟨b,0,none⟩)] w fun en w'=>en=.returned (.string (txt r2.bad (r1.rest.take m)))/\RdAt w' b r2/\Kept [b] w w':=by
 have i:decide ((r1.rest.length:Int) < (m:Int))=false:=by simp;omega
 have n:=jo r1.rest m;have l:=gU r1.rest m
 unfold Fits at _hf1
 go_enter func126,ntmps126
 go_wp2_with (go_at_call 171;refine(cW b r 58 0 hq.out _ h hE hs).mono ?_);rintro e k ⟨rfl,f,c⟩;have p:=f.c0;have o:=f.2.frozen 0;go_wp2_with (go_at_call 173;refine(lF b ⟨r1.rest.drop m,r1.bad⟩ [44] _ (f.set1 _)).mono ?_);rintro e j ⟨rfl,d,a⟩;rw[hc.out]at d;have g:=d.c1
 cases hb:r2.bad
 ·rw[hb]at g;go_wp2;go_ret;exact⟨by rw[hb];rfl,d,(c.setCell (by simp) _).trans a⟩
 ·rw[hb]at g;go_wp2;go_ret;exact⟨by rw[hb];rfl,d,(c.setCell (by simp) _).trans a⟩
theorem aP{e:UInt8}{least n:Int}{r r1:Wire.Rd}(hq:Wire.ar e least r=(n,r1))(hs:Fits r):Fits r1:=by
 have:=Wire.vZ e least r;rw[hq]at this
 unfold Fits at *
 simp only at this
 omega
theorem rM{e:List UInt8}{r:Wire.Rd}(hs:Fits r):Fits (Wire.close e r):=by
 have:=Wire.xN e r
 unfold Fits at *
 omega
theorem so(b:Nat)(r:Wire.Rd)(w:World)(h:RdAt w b r)(hE:Env w)(hs:Fits r) :
  Calls prog 126 #[.pointer (some ⟨b,0,none⟩)] w fun en w' =>
   en=.returned (.string ⟨(Wire.text r).1.toArray⟩)/\RdAt w' b (Wire.text r).2/\Kept [b] w w':=by
 obtain⟨n,r1,a⟩:∃n r1,Wire.ar 58 0 r=(n,r1):=⟨_,_,rfl⟩
 have c:0<=n:=by have:=Wire.yt 58 0 (by omega) r;rw[a]at this;exact this
 obtain⟨m,rfl⟩:=Int.eq_ofNat_of_zero_le c
 by_cases hlt:(r1.rest.length:Int) < (m:Int)
 ·have d:Wire.text r=([],Wire.be):=by unfold Wire.text;rw[a];simp only;rw[if_pos hlt]
  rw[d];exact ov b r r1 _ a (by simpa using hlt) w h hE hs
 ·refine(pM b r r1 _ m a (by omega) (aP a hs) rfl w h hE hs).mono ?_;rintro e w' ⟨rfl,g,f⟩
  have d:Wire.text r=(if(Wire.close [44] ⟨r1.rest.drop m,r1.bad⟩).bad then[]else r1.rest.take m,Wire.close [44] ⟨r1.rest.drop m,r1.bad⟩):=by
   unfold Wire.text;rw[a];simp only[Int.toNat_natCast];rw[if_neg hlt];split <;> rfl
  rw[d];refine⟨?_,g,f⟩
  unfold txt
  split <;> rfl
theorem eN{r:Wire.Rd}(hs:Fits r):Fits (Wire.text r).2/\Fits ⟨(Wire.text r).1,false⟩:=by
 obtain⟨n,r1,hq⟩:∃n r1,Wire.ar 58 0 r=(n,r1):=⟨_,_,rfl⟩;have h1:=aP hq hs
 have h2:Fits ⟨r1.rest.drop n.toNat,r1.bad⟩:=by unfold Fits at *;simp only[List.length_drop];omega
 have h3:=rM (e:=[44]) h2
 unfold Wire.text
 rw[hq]
 simp only
 split
 ·exact⟨by simp[Fits,Wire.be],by simp[Fits]⟩
 ·split
  ·exact⟨h3,by simp[Fits]⟩
  ·exact⟨h3,by unfold Fits at *;simp only[List.length_take];omega⟩
theorem vK(b:Nat)(r:Wire.Rd)(w:World)(h:RdAt w b r)(hE:Env w)(hs:Fits r) :
  Calls prog 129 #[.pointer (some ⟨b,0,none⟩)] w fun en w' =>
   en=.returned (.int .i64 (Wire.ar 59 (-9223372036854775808) r).1)/\RdAt w' b (Wire.ar 59 (-9223372036854775808) r).2/\Kept [b] w w':=by
 obtain⟨n,r1,hq⟩:∃n r1,Wire.ar 59 (-9223372036854775808) r=(n,r1):=⟨_,_,rfl⟩;rw[hq];have H:=Lib.hid hq;clear hq
 go_enter func129,ntmps129
 go_wp2_with (go_at_call 171;refine(cW b r 59 _ H.out _ h hE hs).mono ?_);rintro e w1 ⟨rfl,h1,hk1⟩;go_wp2;go_ret;exact⟨rfl,h1,hk1⟩
theorem oy(b:Nat)(r:Wire.Rd)(w:World)(h:RdAt w b r) :
  Calls prog 131 #[.pointer (some ⟨b,0,none⟩)] w fun en w' =>
   en=.returned (.bool (!r.bad&&r.rest.isEmpty))/\Kept [] w w':=by
 have c0:=h.c0;have c1:=h.c1
 cases hb:r.bad
 ·rw[hb]at c1
  go_enter func131,ntmps131
  go_wp2;go_ret;exact⟨by simp,kr⟩
 ·rw[hb]at c1
  go_enter func131,ntmps131
  go_wp2;go_ret;exact⟨by simp,kr⟩
theorem ow(s:List UInt8)(w:World)(hE:Env w) :
  Calls prog 124 #[s] w fun en w' =>
   en=.returned (.pointer (some ⟨w.heap.size,0,none⟩))/\RdAt w' w.heap.size ⟨s,false⟩/\Kept [] w w':=by
 go_enter func124,ntmps124
 go_wp2;go_ret;exact⟨rfl,⟨hE.size,Blk.new _ _ _⟩,kr.alloc _⟩
open Lib(hid)
def dZ(r:Wire.Rd):Int × Wire.Rd:=Wire.ar 59 (-9223372036854775808) r
theorem ij(r:Wire.Rd):Wire.nums r=Wire.items dZ r:=rfl
theorem kj:(prog.info? 3).map (fun i=>(i.zero,i.size,i.bytes))=some (some (.int .i64 0),1,8):=by kernel_rfl
def ints(l:List Int):List Value:=l.map (Value.int .i64)
def Pays(L:Nat)(r:Wire.Rd)(n:Nat):Prop:=(r.bad=false->n+r.rest.length<=L)/\n<=L+1
theorem fw(e:UInt8)(least:Int)(r:Wire.Rd) :
  (Wire.ar e least r).2.bad=true\/((Wire.ar e least r).2.bad=false/\(Wire.ar e least r).2.rest.length+1<=r.rest.length):=by
 cases h:(Wire.ar e least r).2.bad
 ·right
  obtain⟨_,h2,_⟩:=Wire.eX e least r h;refine⟨rfl,?_⟩
  conv=>rhs;rw[h2]
  simp only[List.length_append,List.length_cons];omega
 ·exact Or.inl rfl
theorem Pays.step{L n:Nat}{r r':Wire.Rd}(h:Pays L r n)(hb:r.bad=false)(h':r'.bad=true\/(r'.bad=false/\r'.rest.length+1<=r.rest.length)):Pays L r' (n+1):=by
 have h1:=h.1 hb;refine⟨fun hb'=>?_,by omega⟩
 rcases h' with h2|⟨_,h2⟩
 ·rw[h2]at hb';cases hb'
 ·omega
def xH(w0:World)(b:Nat)(fin:List Int × Wire.Rd)(L:Nat)(v i:Value)(wr:World):Prop :=
 ∃(n:Nat) (r:Wire.Rd) (acc:List Int),n<=9223372036854775807/\i=n/\Wire.loop dZ n r acc=fin/\wr.ownsRow w0.heap.size 3 1 v acc.length (ints acc) /\
  RdAt wr b r/\Kept [b] w0 wr/\Fits r/\Pays L r acc.length
theorem ui(b:Nat)(r:Wire.Rd)(w:World)(h:RdAt w b r)(hE:Env w)(hs:Fits r) :
  Calls prog 170 #[.pointer (some ⟨b,0,none⟩),.func (.func 129) #[.pointer (some ⟨b,0,none⟩)] #[]] w fun en w' =>
   ∃v,en=.returned v/\w'.ownsRow w.heap.size 3 1 v (Wire.nums r).1.length (ints (Wire.nums r).1)/\RdAt w' b (Wire.nums r).2/\Kept [b] w w':=by
 obtain⟨n,r1,J⟩:∃n r1,Wire.ar 91 0 r=(n,r1):=⟨_,_,rfl⟩
 have A:0<=n:=by have:=Wire.yt 91 0 (by omega) r;rw[J]at this;exact this
 have a2:n<=9223372036854775807:=by have:=Wire.xM 91 0 r;rw[J]at this;exact this.2
 obtain⟨m,rfl⟩:=Int.eq_ofNat_of_zero_le A;have z:=aP J hs;obtain⟨G,g⟩:=nm (Wire.loop dZ m r1 []);have H:=hid J;have HF:=hid g;have E:=h.2.lt;obtain⟨i0,hi,U,T,R⟩:=info_parts kj;clear J g
 go_enter func170,ntmps170
 go_wp2_with (go_at_call 171;refine(cW b r 91 0 H.out _ h hE hs).mono ?_);rintro e w1 ⟨rfl,h1,Y⟩;go_wp2_with fail
 go_loopw [5,6] (fun v i wr=>xH w b G 100000000 v i wr) (fun _ i _=>(intOf i).toNat)
 case atStart =>
  exact⟨m,r1,[],by omega,rfl,HF.out,by simpa [ints]using World.ownsRow_nil _ _ _ _,h1,Y,z,fun _=>by unfold Fits at z;simpa using z,by simp⟩
 case round =>
  obtain⟨n,r',l,hn,rfl,hl,f,O,t,hf,hp⟩:=hrel;have hE':=hE.kept t (by intro x hx;obtain rfl:=ms hx;exact h.1);have a1:=t.size;have M:=O.c1;have HL:=hid hl;clear hl
  by_cases hgo:0 < n/\r'.bad=false
  ·obtain⟨A,j⟩:=hgo;obtain⟨n,rfl⟩:∃k,n=k+1:=⟨n - 1,by omega⟩;obtain⟨y,r2,N⟩:∃y r2,dZ r'=(y,r2):=⟨_,_,rfl⟩;have s:=vK b r' wr O hE' hf;have d:=hp.step j (fw 59 (-9223372036854775808) r');have hy':Wire.ar 59 (-9223372036854775808) r'=(y,r2):=N;have Z:=aP N hf
   have L:Wire.loop dZ n r2 (l++[y])=G:=by
    have:=HL.out;simp only[Wire.loop,j,Bool.false_eq_true,if_false,N]at this;exact this
   rw[hy']at s d
   simp only at s d
   have HR:=hid s;have a0:=hid L;rw[j]at M;clear N hy' s L j
   go_wp2_with (first
    |(go_at_call 129;refine HR.mono ?_;rintro e Q ⟨rfl,q,a⟩;have c:=bZ f a (by simpa using E))
    |(at_builtin;refine wpList_append_own _ rfl _ _ 24 rfl w.heap.size 3 i0 (.int .i64 0) 1 8 underlying24 hi U T R rfl (by decide) _ _ _ rfl (c.alloc _) ⟨Q.heap.size,0,none⟩ 1 1 [y] rfl rfl ?M ?c2 ?c3 ?c4 ?c5 ?_))
   case M=>exact cell_one_new _ _ _
   case c2=>intro u hu;obtain rfl:=ms hu;rfl
   case c3=>have:=d.2;unfold maxLen;omega
   case c4=>have:=d.2;omega
   case c5=>have:=a.size;simp;omega
   intro v' w3 o B _;have X:Kept [b] w w3:=((t.trans a).alloc _).grown B (fun k t=>Or.inr (c.lt k t).1);have V:RdAt w3 b r2:=⟨q.1,(B.block b (Nat.lt_of_lt_of_le q.2.lt (by simp)) (fun e=>by have:=(c.lt b e.symm).1;omega)).trans (q.2.alloc _)⟩
   have e3:ints l++[.int .i64 y]=ints (l++[y]):=by simp[ints]
   rw[e3]at o;clear e3 B c f q a t O M;go_wp2
   go_roundw
   case rel=>exact⟨n,r2,l++[y],by omega,by go_num,a0.out,by simpa using o,V,X,Z,by simpa using d⟩
   case measure=>simp[intOf]
  ·have g:G=(l,r'):=by
    rw[<-HL.out]
    cases n with
    |zero=>rfl
    |succ n =>
     have F:r'.bad=true:=by
      cases F:r'.bad
      ·exact absurd ⟨by omega,F⟩ hgo
      ·rfl
     simp[Wire.loop,F]
   have p:Wire.nums r=(if(Wire.close [93] r').bad then[]else l,Wire.close [93] r'):=by
    rw[ij]
    unfold Wire.items
    rw[H.out];simp only[Int.toNat_natCast];rw[HF.out,g]
    simp only
    split <;> rfl
   obtain⟨rc,I⟩:=nm (Wire.close [93] r');have D:=lF b r' [93] wr O;rw[I]at D p;have HC:=hid D;have HO:=hid p;obtain⟨va,vc,rfl⟩:=aG f
   have C:(n=0)\/(0 < n/\r'.bad=true):=by
    rcases Nat.eq_zero_or_pos n with P|P
    ·exact Or.inl P
    ·right
     refine⟨P,?_⟩
     cases F:r'.bad
     ·exact absurd ⟨P,F⟩ hgo
     ·rfl
   clear D I g p HL hgo
   rcases C with rfl|⟨A,F⟩
   ·cases hbc:rc.bad
    all_goals
     go_wp2_with (go_at_call 173;refine HC.out.mono ?_;rintro e Q ⟨rfl,q,a⟩;have d1:=q.c1;rw[hbc]at d1);go_ret;rw[HO.out];simp only[hbc,if_true,Bool.false_eq_true,if_false];refine⟨_,rfl,?_,q,t.trans a⟩
    ·exact bZ f a (by simpa using E)
    ·exact by simpa [ints]using World.ownsRow_nil _ _ _ _
   ·rw[F]at M
    cases hbc:rc.bad
    all_goals
     go_wp2_with (go_at_call 173;refine HC.out.mono ?_;rintro e Q ⟨rfl,q,a⟩;have d1:=q.c1;rw[hbc]at d1);go_ret;rw[HO.out];simp only[hbc,if_true,Bool.false_eq_true,if_false];refine⟨_,rfl,?_,q,t.trans a⟩
    ·exact bZ f a (by simpa using E)
    ·exact by simpa [ints]using World.ownsRow_nil _ _ _ _
end Go.Proofs.YtcidfldeiklcjaaGreatDoor
namespace Go.Proofs.YtcidfldeiklcjaaGreatDoor
open Go.RowKit
open Go.Proofs.Tryz
abbrev TB:TypeId:=213
theorem zd:(prog.info? 213).map (·.size)=some 2:=by kernel_rfl
theorem liesB:liesAt prog prog.depth 213 (2 / prog.cellsOf 213) 0 213 1=true:=by kernel_rfl
theorem infoByte:(prog.info? 5).map (fun i=>(i.zero,i.size,i.bytes))=some (some (.int .u8 0),1,1):=by kernel_rfl
theorem mf(b:Nat)(w:World)(h0:w.cell? ⟨b,0,none⟩=some (.pointer (some ⟨b,0,none⟩))) :
  Calls prog 213 #[.pointer (some ⟨b,0,none⟩)] w fun e w'=>e=.returned (.tuple #[])/\w'=w:=by
 obtain⟨j,hj,_⟩:=Option.map_eq_some_iff.1 zd
 go_enter func213,ntmps213
 go_wp2;rw[Lib.run_neq_ptr_same w _ underlying211 hj];go_wp2
 go_end0
 exact⟨rfl,rfl⟩
theorem jX(b:Nat)(w:World)(h0:w.cell? ⟨b,0,none⟩=some (.pointer none))(hsh:w.shape? b=some (TB,2))(hfz:w.frozen? ⟨b,0,none⟩=false) :
  Calls prog 213 #[.pointer (some ⟨b,0,none⟩)] w fun e w'=>e=.returned (.tuple #[])/\w'=w.setCell ⟨b,0,none⟩ (.pointer (some ⟨b,0,none⟩)):=by
 obtain⟨j,c,a⟩:=Option.map_eq_some_iff.1 zd
 go_enter func213,ntmps213
 go_wp2;rw[Lib.run_to_unsafe w ⟨b,0,none⟩ underlying211 underlying249 c (by rw[a];decide) hsh (Nat.zero_lt_succ 1)];simp only[Result.andThen];rw[Oper.upon_value];go_wp2;rw[run_callFunc_extern func232 (by kernel_rfl) (by kernel_rfl) (by kernel_rfl) (e:=Extern.AbiNoEscape.same) (by kernel_rfl)];rw[Lib.run_noEscape];simp only[Result.andThen];rw[Oper.upon_value];go_wp2;rw[Lib.run_from_unsafe w ⟨b,0,none⟩ underlying249 underlying211 c hsh liesB];simp only[Result.andThen];rw[Oper.upon_value];go_wp2
 go_end0
 exact⟨rfl,rfl⟩
theorem mE(B b:Nat)(l:List Value)(w:World)(h:Lib.IsBuilder TB 5 B b l w) :
  Calls prog 213 #[.pointer (some ⟨b,0,none⟩)] w fun e w'=>e=.returned (.tuple #[]) /\
   (Lib.BuilderAt TB 5 B b (.pointer (some ⟨b,0,none⟩)) l w'/\Below B w w'):=by
 rcases h with h|h
 ·refine(jX b w h.cell0 h.shape h.frozen0).mono ?_;rintro e w' ⟨rfl,rfl⟩;exact⟨rfl,h.used _,(Below.refl B w).setCell (p:=⟨b,0,none⟩) h.1 _⟩
 ·refine(mf b w h.cell0).mono ?_;rintro e w' ⟨rfl,rfl⟩;exact⟨rfl,h,Below.refl B _⟩
theorem cE(B b:Nat)(l:List Value)(s:ByteArray)(w:World)(h:Lib.IsBuilder TB 5 B b l w)(hlen:l.length+s.size<=140737488355328)(hBw:B<=w.heap.size) :
  Calls prog 179 #[.pointer (some ⟨b,0,none⟩),.string s] w fun e w'=>e=.returned (.tuple #[s.size,.nilIface]) /\
   (Lib.BuilderAt TB 5 B b (.pointer (some ⟨b,0,none⟩)) (l++Lib.strCells s) w'/\Below B w w'):=by
 obtain⟨A,C,r,q,o⟩:=info_parts infoByte
 go_enter func179,ntmps179
 go_wp2_with (go_at_call 213;refine(mE B b l _ h).mono ?_);rintro e n ⟨rfl,D,i⟩;obtain⟨y,v,c,f,u⟩:=D
 have L:n.cell? ⟨b,0,none⟩=some (.pointer (some ⟨b,0,none⟩)):=by rw[Lib.cell_of_heap c];rfl
 have J:n.cell? ⟨b,1,none⟩=some v:=by rw[Lib.cell_of_heap c];rfl
 go_wp2_with (at_builtin;refine Lib.wpList_append_own_string _ rfl _ _ 144 9 rfl B 5 A underlying144 underlying9 C r q o _ _ _ rfl f s rfl ?c3 ?c4 ?c5 ?_)
 case c3=>unfold maxLen;omega
 case c4=>omega
 case c5=>have:=i.size;omega
 intro v' m hown' a _
 have x:b < n.heap.size:=by
  rcases Nat.lt_or_ge b n.heap.size with h'|h'
  ·exact h'
  ·simp[Array.getElem?_eq_none h']at c
 have d:m.heap[b]?=some (.cells #[.pointer (some ⟨b,0,none⟩),v] TB (0,0)):=by
  rw[a.block b x (fun e=>u e.symm)];exact c
 have I:m.cell? ⟨b,0,none⟩=some (.pointer (some ⟨b,0,none⟩)):=by rw[Lib.cell_of_heap d];rfl
 have G:m.cell? ⟨b,1,none⟩=some v:=by rw[Lib.cell_of_heap d];rfl
 have F:m.frozen? ⟨b,1,none⟩=false:=Lib.frozen_of_heap d 1
 obtain⟨z,n',j,rfl⟩:∃z n' j,v'=.slice z n' j:=by
  rcases hown'.2 with⟨t,_⟩|⟨g,j,E,t,_⟩
  ·exact⟨_,_,_,t⟩
  ·exact⟨_,_,_,t⟩
 go_wp2
 go_ret2
 refine⟨rfl,?_,?_⟩
 ·exact Lib.BuilderAt.put (T:=TB) (e:=5) y d (bs':=l++Lib.strCells s) (by simpa [Lib.strCells_length]using hown') (by decide)
 ·exact(i.grown a (by have:=i.size;omega) (fun k hk=>(f.lt k hk).1)).setCell (p:=⟨b,1,none⟩) y _
end Go.Proofs.YtcidfldeiklcjaaGreatDoor
