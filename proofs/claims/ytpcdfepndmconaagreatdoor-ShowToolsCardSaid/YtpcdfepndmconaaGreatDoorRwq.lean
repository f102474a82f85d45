/- The reference's rows: one, count, list, ticket, spend. -/
import Derived.Test.YtpcdfepndmconaaGreatDoorPfI
import Derived.Test.YtpcdfepndmconaaGreatDoorPfE
namespace Go.Proofs.YtpcdfepndmconaaGreatDoor
open Go.RowKit Tape
def failT:Tp:=⟨[],true⟩
/-- what a reader that stops at a fault gives, said of one that reads on -/
def Stg {α:Type} (one:Tp→α × Tp) (r:Tp) (v:α) (r':Tp):Prop :=
 ((one r).2.bad=false∧v=(one r).1∧r'=(one r).2)∨((one r).2.bad=true∧r'=failT)
theorem Stg.bad {α:Type} {one:Tp→α × Tp} {r r':Tp} {v:α} (h:Stg one r v r') (hb:r'.bad=true):(one r).2.bad=true∧r'=failT:=by
 rcases h with ⟨h1,_,h3⟩|⟨h1,h2⟩
 ·rw [h3,h1] at hb;cases hb
 ·exact ⟨h1,h2⟩
theorem Stg.good {α:Type} {one:Tp→α × Tp} {r r':Tp} {v:α} (h:Stg one r v r') (hb:r'.bad=false):one r=(v,r'):=by
 rcases h with ⟨_,h2,h3⟩|⟨_,h2⟩
 ·rw [h2,h3]
 ·rw [h2] at hb;cases hb
theorem codec_bad {α:Type} {enc:α→List Int} {one:Tp→α × Tp} (c:Codec enc one) {r:Tp} (h:r.bad=true):(one r).2.bad=true:=by
 cases hb:(one r).2.bad
 ·have:=(c.inv r hb).1;rw [h] at this;cases this
 ·rfl
theorem Stg.both {α β:Type} {eb:β→List Int} {f:Tp→α × Tp} {g:Tp→β × Tp} (cb:Codec eb g) {r r1 r2:Tp} {x:α} {y:β} (h1:Stg f r x r1) (h2:Stg g r1 y r2):Stg (Tape.both f g) r (x,y) r2:=by
 rcases h1 with ⟨a1,a2,a3⟩|⟨a1,a2⟩
 ·subst a3
  rcases h2 with ⟨b1,b2,b3⟩|⟨b1,b2⟩
  ·exact Or.inl ⟨b1,by rw [a2,b2];rfl,b3⟩
  ·exact Or.inr ⟨b1,b2⟩
 ·have hb:=codec_bad cb a1;subst a2
  rcases h2 with ⟨b1,_,_⟩|⟨_,b2⟩
  ·rw [codec_bad cb (r:=failT) rfl] at b1;cases b1
  ·exact Or.inr ⟨hb,b2⟩
/-- the reference's row at a block, said of the plain tape -/
structure RwAt (T:TypeId) (w:World) (b g:Nat) (r:Tp):Prop where
 st:∃ (a:Option Addr) (c:Nat) (xs:List Int) (p:Nat),Blk w b T #[.slice a xs.length c,.int .i64 (p:Int),.bool r.bad]∧Src w g a c xs∧p≤xs.length∧xs.length≤100000001∧(r.bad=false→r.left=xs.drop p)∧(r.bad=true→r.left=[])
 ne:b≠g
section
variable {T:TypeId} {w w':World} {b g:Nat} {r:Tp} {S:List Nat}
theorem RwAt.keep (h:RwAt T w b g r) (k:Kept S w w') (hb:b∉S) (hg:g∉S):RwAt T w' b g r:=by
 obtain ⟨a,c,xs,p,h1,h2,h3⟩:=h.st;exact ⟨⟨a,c,xs,p,h1.kept k hb,h2.keep k hg,h3⟩,h.ne⟩
theorem RwAt.lt (h:RwAt T w b g r):b < w.heap.size:=by
 obtain ⟨a,c,xs,p,h1,_⟩:=h.st;exact h1.lt
theorem RwAt.len (h:RwAt T w b g r):r.left.length≤100000001:=by
 obtain ⟨a,c,xs,p,_,_,_,h4,h5,h6⟩:=h.st
 cases hb:r.bad
 ·rw [h5 hb,List.length_drop];omega
 ·rw [h6 hb];simp
theorem RwAt.nil_ (h:RwAt T w b g r) (hb:r.bad=true):r=failT:=by
 obtain ⟨a,c,xs,p,_,_,_,_,_,h6⟩:=h.st;obtain ⟨l,bd⟩:=r;have h7:l=[]:=h6 hb;have h8:bd=true:=hb;subst h7 h8
 rfl
end
/-- what a reader of ints leaves -/
def OneQ (T:TypeId) (b g:Nat) (r:Tp) (w:World) (e:Ending) (w':World):Prop:=∃ v r',e=.returned (.int .i64 v)∧Stg next r v r'∧(r'.bad=true→v=0)∧RwAt T w' b g r'∧Kept [b] w w'
def CountQ (T:TypeId) (b g:Nat) (r:Tp) (w:World) (e:Ending) (w':World):Prop:=∃ (v:Nat) (r':Tp),e=.returned (.int .i64 (v:Int))∧Stg count r v r'∧(r'.bad=true→v=0)∧v≤r'.left.length∧RwAt T w' b g r'∧Kept [b] w w'
theorem wrap_at {x:Int} (h1:-9223372036854775808≤x) (h2:x≤9223372036854775807):IntKind.i64.wrap x=x:=by rw [IntKind.wrap_i64];omega
set_option maxRecDepth 100000 in
set_option maxHeartbeats 1000000 in
theorem q6_one (b g:Nat) (r:Tp) (w:World) (h:RwAt 152 w b g r) :
  Calls Tryz.prog 184 #[.pointer (some ⟨b,0,none⟩)] w (OneQ 152 b g r w):=by
 obtain ⟨⟨a,c,xs,p,hb,hs,hp,hx,hg,hd⟩,hne⟩:=h;obtain ⟨l,bd⟩:=r;have f0:=hb.frozen 0;have f1:=hb.frozen 1;have f2:=hb.frozen 2
 have HN:Hid (g∉[b]):=by show g∉[b];simp;omega
 have HB:=Lib.hid hb;have HS:=Lib.hid hs;have c0:w.cell? ⟨b,0,none⟩=some (.slice a xs.length c):=hb.cell 0;have c1:w.cell? ⟨b,1,none⟩=some (.int .i64 (p:Int)):=hb.cell 1;have c2:w.cell? ⟨b,2,none⟩=some (.bool bd):=hb.cell 2
 have hfail:Hid ((next ⟨l,bd⟩).2.bad=true→∀ y,Kept [] w y→OneQ 152 b g ⟨l,bd⟩ w (.returned (.int .i64 0)) (y.setCell ⟨b,2,none⟩ (.bool true))):=fun h y ky =>
  ⟨0,failT,rfl,Or.inr ⟨h,rfl⟩,fun _=>rfl,⟨⟨a,c,xs,p,by simpa [failT] using (HB.out.kept ky (by simp)).set_ 2 (.bool true),(HS.out.keep ky (by simp)).keep (S:=[b]) ((Kept.refl _ _).setCell (by simp) _) HN.out,hp,hx,(by intro h;cases h),fun _=>rfl⟩,hne⟩,(ky.mono (by simp)).setCell (by simp) _⟩
 clear hb hs
 cases bd
 ·have hl:l=xs.drop p:=hg rfl;clear hg hd
  by_cases hlt:p < xs.length
  ·have hdr:l=xs[p]::xs.drop (p+1):=by rw [hl];exact List.drop_eq_getElem_cons hlt
   obtain ⟨off,rfl,hc⟩:=HS.out.2.2 (by omega);have x0:w.cell? ⟨g,off+p,none⟩=some (.int .i64 xs[p]):=hc p _ (List.getElem?_eq_getElem hlt)
   have hgood:Hid (∀ y z,Kept [] w y→Kept [] (y.setCell ⟨b,1,none⟩ (.int .i64 ((p:Int)+1))) z→OneQ 152 b g ⟨l,false⟩ w (.returned (.int .i64 xs[p])) z):=by
    intro y z ky kz;refine ⟨xs[p],⟨xs.drop (p+1),false⟩,rfl,Or.inl ?_,(by intro h;cases h),RwAt.keep ⟨⟨_,c,xs,p+1,?_,(HS.out.keep ky (by simp)).keep (S:=[b]) ((Kept.refl _ _).setCell (by simp) _) HN.out,by omega,hx,fun _=>rfl,(by intro h;cases h)⟩,hne⟩ kz (by simp) (by simp),((ky.mono (by simp)).setCell (by simp) _).trans (kz.mono (by simp))⟩
    ·rw [hdr];exact ⟨rfl,rfl,rfl⟩
    ·simpa using (HB.out.kept ky (by simp)).set_ 1 (.int .i64 ((p:Int)+1))
   have hrow:=Lib.hid (HS.out.row);have hcc:=HS.out.1;obtain ⟨v,hv⟩:∃ v,xs[p]=v:=⟨_,rfl⟩;obtain ⟨L,hL⟩:∃ L,xs.length=L:=⟨_,rfl⟩;rw [hv] at x0 hgood;rw [hL] at c0 hlt hcc hx hp
   have e1:(p:Int)+1 - 1=(p:Int):=by omega
   have hge:¬ (p:Int) ≥ (L:Int):=by omega
   have hq:decide ((L:Int)≤(p:Int))=false:=by simp;omega
   have HL:=Lib.hid hL;clear hfail hc hdr hl hv hL
   go_enter Tryz.func184,Tryz.ntmps184
   go_upto_region 1 with (fail)
   go_quiet (fail)
   obtain ⟨y,hy⟩:∃ y,w.drewN nq=y:=⟨_,rfl⟩;have ky:Kept [] w y:=hy▸(Kept.refl _ _).drewN nq;rw [hy];have hb:=HB.out.kept ky (by simp);have d0:=hb.cell 0;have d1:=hb.cell 1;have d2:=hb.cell 2;have g1:=hb.frozen 1;have g2:=hb.frozen 2;clear hb hy;rw [HL.out] at d0;have u0:∀ z,Kept [b] y z→z.cell? ⟨g,off+p,none⟩=some (.int .i64 v):=fun z k=>(((ky.mono (by simp)).trans k).cell (World.block_lt_of_cell? w _ x0) HN.out).trans x0;go_upto_region 5 with (fail);obtain ⟨y2,hy2⟩:∃ y2,y.setCell ⟨b,1,none⟩ (.int .i64 ((p:Int)+1))=y2:=⟨_,rfl⟩;have k2:Kept [b] y y2:=hy2▸(Kept.refl _ _).setCell (by simp) _;have hb2:Blk y2 b 152 #[.slice (some ⟨g,off,none⟩) xs.length c,.int .i64 ((p:Int)+1),.bool false]:=hy2▸(by simpa using (HB.out.kept ky (by simp)).set_ 1 (.int .i64 ((p:Int)+1)));have e0:=hb2.cell 0;have e1':y2.cell? ⟨b,1,none⟩=some (.int .i64 ((p:Int)+1)):=hb2.cell 1;replace e0:y2.cell? ⟨b,0,none⟩=some (.slice (some ⟨g,off,none⟩) L c):=HL.out▸e0;have x2:=u0 y2 k2;have hG:=Lib.hid (fun z=>hgood.out y z ky);rw [hy2] at hG ⊢;clear hy2 hb2 k2 u0 d0 d1 d2 g1 g2 c0 c1 c2 f0 f1 f2 x0 hgood
   go_quiet (fail)
   go_wp2;go_ret;exact hG.out _ ((Kept.refl _ _).drewN _)
  ·have h0:xs.drop p=[]:=List.drop_eq_nil_of_le (by omega);have hF:=Lib.hid (hfail.out (by rw [hl,h0];rfl));obtain ⟨L,hL⟩:∃ L,xs.length=L:=⟨_,rfl⟩;rw [hL] at c0 hlt hx hp
   obtain rfl:p=L:=by omega
   have hq:decide ((p:Int)≤(p:Int))=true:=by simp
   clear hfail h0 hl hL
   go_enter Tryz.func184,Tryz.ntmps184
   go_upto_region 1 with (fail)
   go_quiet (fail)
   obtain ⟨y,hy⟩:∃ y,w.drewN nq=y:=⟨_,rfl⟩;have ky:Kept [] w y:=hy▸(Kept.refl _ _).drewN nq;rw [hy];have hb:=HB.out.kept ky (by simp);have d0:=hb.cell 0;have d1:=hb.cell 1;have d2:=hb.cell 2;have g1:=hb.frozen 1;have g2:=hb.frozen 2;clear hb hy;go_wp2;go_ret;exact hF.out y ky
 ·have hnil:l=[]:=hd rfl;have hF:=Lib.hid (hfail.out (by rw [hnil];rfl));clear hfail hg hd hnil
  go_enter Tryz.func184,Tryz.ntmps184
  go_upto_region 1 with (fail)
  go_quiet (fail)
  obtain ⟨y,hy⟩:∃ y,w.drewN nq=y:=⟨_,rfl⟩;have ky:Kept [] w y:=hy▸(Kept.refl _ _).drewN nq;rw [hy];have hb:=HB.out.kept ky (by simp);have d0:=hb.cell 0;have d1:=hb.cell 1;have d2:=hb.cell 2;have g1:=hb.frozen 1;have g2:=hb.frozen 2;clear hb hy;go_wp2;go_ret;exact hF.out y ky
set_option maxRecDepth 100000 in
set_option maxHeartbeats 1000000 in
theorem q6_count (b g:Nat) (r:Tp) (w:World) (h:RwAt 152 w b g r) :
  Calls Tryz.prog 123 #[.pointer (some ⟨b,0,none⟩)] w (CountQ 152 b g r w):=by
 have HC:=Lib.hid (q6_one b g r w h);clear h
 go_enter Tryz.func123,Tryz.ntmps123
 go_wp2_with (go_at_call 184;refine HC.out.mono ?_);rintro e w1 ⟨n,r1,rfl,hst,hz,h1,k1⟩;have H1:=Lib.hid h1;obtain ⟨⟨a,c,xs,p,hb,hs,hp,hx,hg,hd⟩,hne⟩:=h1;have hml:=hs.2.1
 have HN:Hid (g∉[b]):=by show g∉[b];simp;omega
 have HB:=Lib.hid hb;have HS:=Lib.hid hs;have HK:=Lib.hid k1;have f2:=hb.frozen 2;have c0:w1.cell? ⟨b,0,none⟩=some (.slice a xs.length c):=hb.cell 0;have c1:w1.cell? ⟨b,1,none⟩=some (.int .i64 (p:Int)):=hb.cell 1;have c2:w1.cell? ⟨b,2,none⟩=some (.bool r1.bad):=hb.cell 2
 have hcb:Hid (r1.bad=true→Stg count r 0 r1):=fun hbd=>by
  obtain ⟨x1,x2⟩:=hst.bad hbd;refine Or.inr ⟨?_,x2⟩
  unfold count
  split
  ·rfl
  ·exact x1
 have hcn:Hid (r1.bad=false→(n < 0∨(xs.length:Int) - p < n)→(count r).2.bad=true):=fun hbd hor=>by
  have h2:=hst.good hbd
  have h3:r1.left.length=xs.length - p:=by rw [hg hbd,List.length_drop]
  have h4:=count_of h2
  rcases hor with h|h
  ·rw [h4.1 h]
  ·by_cases h0:n < 0
   ·rw [h4.1 h0]
   ·rw [h4.2.1 (by omega) (by omega)]
 have hcy:Hid (r1.bad=false→0≤n→n≤(xs.length:Int) - p→Stg count r n.toNat r1∧n.toNat≤r1.left.length):=fun hbd h0 h1=>by
  have h2:=hst.good hbd
  have h3:r1.left.length=xs.length - p:=by rw [hg hbd,List.length_drop]
  have h4:=(count_of h2).2.2 h0 (by omega);exact ⟨Or.inl ⟨by rw [h4];exact hbd,by rw [h4],by rw [h4]⟩,by omega⟩
 have hfail:Hid ((count r).2.bad=true→∀ y,Kept [] w1 y→CountQ 152 b g r w (.returned (.int .i64 0)) (y.setCell ⟨b,2,none⟩ (.bool true))):=fun h y ky =>
  ⟨0,failT,rfl,Or.inr ⟨h,rfl⟩,fun _=>rfl,Nat.zero_le _,⟨⟨a,c,xs,p,by simpa [failT] using (HB.out.kept ky (by simp)).set_ 2 (.bool true),(HS.out.keep ky (by simp)).keep (S:=[b]) ((Kept.refl _ _).setCell (by simp) _) HN.out,hp,hx,(by intro h;cases h),fun _=>rfl⟩,hne⟩,(HK.out.trans (ky.mono (by simp))).setCell (by simp) _⟩
 obtain ⟨L,hL⟩:∃ L,xs.length=L:=⟨_,rfl⟩;rw [hL] at hcn hcy hp hx hml c0;clear hb hs HC k1 hst hg hd hL
 cases hbd:r1.bad
 ·by_cases hn:n < 0
  ·have hF:=Lib.hid (hfail.out (hcn.out hbd (Or.inl hn)));clear hcn hcy hcb hfail;go_upto_region 2 with (fail)
   go_quiet (fail)
   obtain ⟨y,hy⟩:∃ y,w1.drewN nq=y:=⟨_,rfl⟩;have ky:Kept [] w1 y:=hy▸(Kept.refl _ _).drewN nq;rw [hy];have hb:=HB.out.kept ky (by simp);have d0:=hb.cell 0;have d1:=hb.cell 1;have d2:=hb.cell 2;have g1:=hb.frozen 1;have g2:=hb.frozen 2;clear hb hy;go_wp2;go_ret;exact hF.out y ky
  ·by_cases hl:(L:Int) - (p:Int) < n
   ·have hF:=Lib.hid (hfail.out (hcn.out hbd (Or.inr hl)));have hw:IntKind.i64.wrap ((L:Int) - (p:Int))=(L:Int) - (p:Int):=wrap_at (by omega) (by omega);clear hcn hcy hcb hfail;go_upto_region 2 with (fail)
    go_quiet (fail)
    obtain ⟨y,hy⟩:∃ y,w1.drewN nq=y:=⟨_,rfl⟩;have ky:Kept [] w1 y:=hy▸(Kept.refl _ _).drewN nq;rw [hy];have hb:=HB.out.kept ky (by simp);have d0:=hb.cell 0;have d1:=hb.cell 1;have d2:=hb.cell 2;have g1:=hb.frozen 1;have g2:=hb.frozen 2;clear hb hy;go_wp2;go_ret;exact hF.out y ky
   ·have hF:=Lib.hid (hcy.out hbd (by omega) (by omega));have hw:IntKind.i64.wrap ((L:Int) - (p:Int))=(L:Int) - (p:Int):=wrap_at (by omega) (by omega);have HBD:=Lib.hid hbd;clear hcn hcy hcb hfail hbd;go_upto_region 2 with (fail)
    go_quiet (fail)
    obtain ⟨y,hy⟩:∃ y,w1.drewN nq=y:=⟨_,rfl⟩;have ky:Kept [] w1 y:=hy▸(Kept.refl _ _).drewN nq;rw [hy];have hb:=HB.out.kept ky (by simp);have d0:=hb.cell 0;have d1:=hb.cell 1;have d2:=hb.cell 2;have g1:=hb.frozen 1;have g2:=hb.frozen 2;clear hb hy;go_wp2;go_ret;refine ⟨n.toNat,r1,(by show Ending.returned (.int .i64 n)=_;rw [Int.toNat_of_nonneg (by omega)]),hF.out.1,fun h=>?_,hF.out.2,H1.out.keep ky (by simp) (by simp),HK.out.trans (ky.mono (by simp))⟩;rw [HBD.out] at h
    cases h
 ·have h0:=hz hbd;have hF:=Lib.hid (hcb.out hbd);have hbn:=H1.out.nil_ hbd;have hw:IntKind.i64.wrap ((L:Int) - (p:Int))=(L:Int) - (p:Int):=wrap_at (by omega) (by omega);subst h0
  have hge:¬ (L:Int) - (p:Int) < 0:=by omega
  clear hcn hcy hcb hfail hbd;go_upto_region 2 with (fail)
  go_quiet (fail)
  obtain ⟨y,hy⟩:∃ y,w1.drewN nq=y:=⟨_,rfl⟩;have ky:Kept [] w1 y:=hy▸(Kept.refl _ _).drewN nq;rw [hy];have hb:=HB.out.kept ky (by simp);have d0:=hb.cell 0;have d1:=hb.cell 1;have d2:=hb.cell 2;have g1:=hb.frozen 1;have g2:=hb.frozen 2;clear hb hy;go_wp2;go_ret;exact ⟨0,r1,rfl,hF.out,fun _=>rfl,Nat.zero_le _,H1.out.keep ky (by simp) (by simp),HK.out.trans (ky.mono (by simp))⟩
set_option maxRecDepth 100000 in
set_option maxHeartbeats 1000000 in
theorem q3_one (b g:Nat) (r:Tp) (w:World) (h:RwAt 190 w b g r) :
  Calls Tryz.prog 183 #[.pointer (some ⟨b,0,none⟩)] w (OneQ 190 b g r w):=by
 obtain ⟨⟨a,c,xs,p,hb,hs,hp,hx,hg,hd⟩,hne⟩:=h;obtain ⟨l,bd⟩:=r;have f0:=hb.frozen 0;have f1:=hb.frozen 1;have f2:=hb.frozen 2
 have HN:Hid (g∉[b]):=by show g∉[b];simp;omega
 have HB:=Lib.hid hb;have HS:=Lib.hid hs;have c0:w.cell? ⟨b,0,none⟩=some (.slice a xs.length c):=hb.cell 0;have c1:w.cell? ⟨b,1,none⟩=some (.int .i64 (p:Int)):=hb.cell 1;have c2:w.cell? ⟨b,2,none⟩=some (.bool bd):=hb.cell 2
 have hfail:Hid ((next ⟨l,bd⟩).2.bad=true→∀ y,Kept [] w y→OneQ 190 b g ⟨l,bd⟩ w (.returned (.int .i64 0)) (y.setCell ⟨b,2,none⟩ (.bool true))):=fun h y ky =>
  ⟨0,failT,rfl,Or.inr ⟨h,rfl⟩,fun _=>rfl,⟨⟨a,c,xs,p,by simpa [failT] using (HB.out.kept ky (by simp)).set_ 2 (.bool true),(HS.out.keep ky (by simp)).keep (S:=[b]) ((Kept.refl _ _).setCell (by simp) _) HN.out,hp,hx,(by intro h;cases h),fun _=>rfl⟩,hne⟩,(ky.mono (by simp)).setCell (by simp) _⟩
 clear hb hs
 cases bd
 ·have hl:l=xs.drop p:=hg rfl;clear hg hd
  by_cases hlt:p < xs.length
  ·have hdr:l=xs[p]::xs.drop (p+1):=by rw [hl];exact List.drop_eq_getElem_cons hlt
   obtain ⟨off,rfl,hc⟩:=HS.out.2.2 (by omega);have x0:w.cell? ⟨g,off+p,none⟩=some (.int .i64 xs[p]):=hc p _ (List.getElem?_eq_getElem hlt)
   have hgood:Hid (∀ y z,Kept [] w y→Kept [] (y.setCell ⟨b,1,none⟩ (.int .i64 ((p:Int)+1))) z→OneQ 190 b g ⟨l,false⟩ w (.returned (.int .i64 xs[p])) z):=by
    intro y z ky kz;refine ⟨xs[p],⟨xs.drop (p+1),false⟩,rfl,Or.inl ?_,(by intro h;cases h),RwAt.keep ⟨⟨_,c,xs,p+1,?_,(HS.out.keep ky (by simp)).keep (S:=[b]) ((Kept.refl _ _).setCell (by simp) _) HN.out,by omega,hx,fun _=>rfl,(by intro h;cases h)⟩,hne⟩ kz (by simp) (by simp),((ky.mono (by simp)).setCell (by simp) _).trans (kz.mono (by simp))⟩
    ·rw [hdr];exact ⟨rfl,rfl,rfl⟩
    ·simpa using (HB.out.kept ky (by simp)).set_ 1 (.int .i64 ((p:Int)+1))
   have hrow:=Lib.hid (HS.out.row);have hcc:=HS.out.1;obtain ⟨v,hv⟩:∃ v,xs[p]=v:=⟨_,rfl⟩;obtain ⟨L,hL⟩:∃ L,xs.length=L:=⟨_,rfl⟩;rw [hv] at x0 hgood;rw [hL] at c0 hlt hcc hx hp
   have e1:(p:Int)+1 - 1=(p:Int):=by omega
   have hge:¬ (p:Int) ≥ (L:Int):=by omega
   have hq:decide ((L:Int)≤(p:Int))=false:=by simp;omega
   have HL:=Lib.hid hL;clear hfail hc hdr hl hv hL
   go_enter Tryz.func183,Tryz.ntmps183
   go_upto_region 1 with (fail)
   go_quiet (fail)
   obtain ⟨y,hy⟩:∃ y,w.drewN nq=y:=⟨_,rfl⟩;have ky:Kept [] w y:=hy▸(Kept.refl _ _).drewN nq;rw [hy];have hb:=HB.out.kept ky (by simp);have d0:=hb.cell 0;have d1:=hb.cell 1;have d2:=hb.cell 2;have g1:=hb.frozen 1;have g2:=hb.frozen 2;clear hb hy;rw [HL.out] at d0;have u0:∀ z,Kept [b] y z→z.cell? ⟨g,off+p,none⟩=some (.int .i64 v):=fun z k=>(((ky.mono (by simp)).trans k).cell (World.block_lt_of_cell? w _ x0) HN.out).trans x0;go_upto_region 5 with (fail);obtain ⟨y2,hy2⟩:∃ y2,y.setCell ⟨b,1,none⟩ (.int .i64 ((p:Int)+1))=y2:=⟨_,rfl⟩;have k2:Kept [b] y y2:=hy2▸(Kept.refl _ _).setCell (by simp) _;have hb2:Blk y2 b 190 #[.slice (some ⟨g,off,none⟩) xs.length c,.int .i64 ((p:Int)+1),.bool false]:=hy2▸(by simpa using (HB.out.kept ky (by simp)).set_ 1 (.int .i64 ((p:Int)+1)));have e0:=hb2.cell 0;have e1':y2.cell? ⟨b,1,none⟩=some (.int .i64 ((p:Int)+1)):=hb2.cell 1;replace e0:y2.cell? ⟨b,0,none⟩=some (.slice (some ⟨g,off,none⟩) L c):=HL.out▸e0;have x2:=u0 y2 k2;have hG:=Lib.hid (fun z=>hgood.out y z ky);rw [hy2] at hG ⊢;clear hy2 hb2 k2 u0 d0 d1 d2 g1 g2 c0 c1 c2 f0 f1 f2 x0 hgood
   go_quiet (fail)
   go_wp2;go_ret;exact hG.out _ ((Kept.refl _ _).drewN _)
  ·have h0:xs.drop p=[]:=List.drop_eq_nil_of_le (by omega);have hF:=Lib.hid (hfail.out (by rw [hl,h0];rfl));obtain ⟨L,hL⟩:∃ L,xs.length=L:=⟨_,rfl⟩;rw [hL] at c0 hlt hx hp
   obtain rfl:p=L:=by omega
   have hq:decide ((p:Int)≤(p:Int))=true:=by simp
   clear hfail h0 hl hL
   go_enter Tryz.func183,Tryz.ntmps183
   go_upto_region 1 with (fail)
   go_quiet (fail)
   obtain ⟨y,hy⟩:∃ y,w.drewN nq=y:=⟨_,rfl⟩;have ky:Kept [] w y:=hy▸(Kept.refl _ _).drewN nq;rw [hy];have hb:=HB.out.kept ky (by simp);have d0:=hb.cell 0;have d1:=hb.cell 1;have d2:=hb.cell 2;have g1:=hb.frozen 1;have g2:=hb.frozen 2;clear hb hy;go_wp2;go_ret;exact hF.out y ky
 ·have hnil:l=[]:=hd rfl;have hF:=Lib.hid (hfail.out (by rw [hnil];rfl));clear hfail hg hd hnil
  go_enter Tryz.func183,Tryz.ntmps183
  go_upto_region 1 with (fail)
  go_quiet (fail)
  obtain ⟨y,hy⟩:∃ y,w.drewN nq=y:=⟨_,rfl⟩;have ky:Kept [] w y:=hy▸(Kept.refl _ _).drewN nq;rw [hy];have hb:=HB.out.kept ky (by simp);have d0:=hb.cell 0;have d1:=hb.cell 1;have d2:=hb.cell 2;have g1:=hb.frozen 1;have g2:=hb.frozen 2;clear hb hy;go_wp2;go_ret;exact hF.out y ky
set_option maxRecDepth 100000 in
set_option maxHeartbeats 1000000 in
theorem q3_count (b g:Nat) (r:Tp) (w:World) (h:RwAt 190 w b g r) :
  Calls Tryz.prog 182 #[.pointer (some ⟨b,0,none⟩)] w (CountQ 190 b g r w):=by
 have HC:=Lib.hid (q3_one b g r w h);clear h
 go_enter Tryz.func182,Tryz.ntmps182
 go_wp2_with (go_at_call 183;refine HC.out.mono ?_);rintro e w1 ⟨n,r1,rfl,hst,hz,h1,k1⟩;have H1:=Lib.hid h1;obtain ⟨⟨a,c,xs,p,hb,hs,hp,hx,hg,hd⟩,hne⟩:=h1;have hml:=hs.2.1
 have HN:Hid (g∉[b]):=by show g∉[b];simp;omega
 have HB:=Lib.hid hb;have HS:=Lib.hid hs;have HK:=Lib.hid k1;have f2:=hb.frozen 2;have c0:w1.cell? ⟨b,0,none⟩=some (.slice a xs.length c):=hb.cell 0;have c1:w1.cell? ⟨b,1,none⟩=some (.int .i64 (p:Int)):=hb.cell 1;have c2:w1.cell? ⟨b,2,none⟩=some (.bool r1.bad):=hb.cell 2
 have hcb:Hid (r1.bad=true→Stg count r 0 r1):=fun hbd=>by
  obtain ⟨x1,x2⟩:=hst.bad hbd;refine Or.inr ⟨?_,x2⟩
  unfold count
  split
  ·rfl
  ·exact x1
 have hcn:Hid (r1.bad=false→(n < 0∨(xs.length:Int) - p < n)→(count r).2.bad=true):=fun hbd hor=>by
  have h2:=hst.good hbd
  have h3:r1.left.length=xs.length - p:=by rw [hg hbd,List.length_drop]
  have h4:=count_of h2
  rcases hor with h|h
  ·rw [h4.1 h]
  ·by_cases h0:n < 0
   ·rw [h4.1 h0]
   ·rw [h4.2.1 (by omega) (by omega)]
 have hcy:Hid (r1.bad=false→0≤n→n≤(xs.length:Int) - p→Stg count r n.toNat r1∧n.toNat≤r1.left.length):=fun hbd h0 h1=>by
  have h2:=hst.good hbd
  have h3:r1.left.length=xs.length - p:=by rw [hg hbd,List.length_drop]
  have h4:=(count_of h2).2.2 h0 (by omega);exact ⟨Or.inl ⟨by rw [h4];exact hbd,by rw [h4],by rw [h4]⟩,by omega⟩
 have hfail:Hid ((count r).2.bad=true→∀ y,Kept [] w1 y→CountQ 190 b g r w (.returned (.int .i64 0)) (y.setCell ⟨b,2,none⟩ (.bool true))):=fun h y ky =>
  ⟨0,failT,rfl,Or.inr ⟨h,rfl⟩,fun _=>rfl,Nat.zero_le _,⟨⟨a,c,xs,p,by simpa [failT] using (HB.out.kept ky (by simp)).set_ 2 (.bool true),(HS.out.keep ky (by simp)).keep (S:=[b]) ((Kept.refl _ _).setCell (by simp) _) HN.out,hp,hx,(by intro h;cases h),fun _=>rfl⟩,hne⟩,(HK.out.trans (ky.mono (by simp))).setCell (by simp) _⟩
 obtain ⟨L,hL⟩:∃ L,xs.length=L:=⟨_,rfl⟩;rw [hL] at hcn hcy hp hx hml c0;clear hb hs HC k1 hst hg hd hL
 cases hbd:r1.bad
 ·by_cases hn:n < 0
  ·have hF:=Lib.hid (hfail.out (hcn.out hbd (Or.inl hn)));clear hcn hcy hcb hfail;go_upto_region 2 with (fail)
   go_quiet (fail)
   obtain ⟨y,hy⟩:∃ y,w1.drewN nq=y:=⟨_,rfl⟩;have ky:Kept [] w1 y:=hy▸(Kept.refl _ _).drewN nq;rw [hy];have hb:=HB.out.kept ky (by simp);have d0:=hb.cell 0;have d1:=hb.cell 1;have d2:=hb.cell 2;have g1:=hb.frozen 1;have g2:=hb.frozen 2;clear hb hy;go_wp2;go_ret;exact hF.out y ky
  ·by_cases hl:(L:Int) - (p:Int) < n
   ·have hF:=Lib.hid (hfail.out (hcn.out hbd (Or.inr hl)));have hw:IntKind.i64.wrap ((L:Int) - (p:Int))=(L:Int) - (p:Int):=wrap_at (by omega) (by omega);clear hcn hcy hcb hfail;go_upto_region 2 with (fail)
    go_quiet (fail)
    obtain ⟨y,hy⟩:∃ y,w1.drewN nq=y:=⟨_,rfl⟩;have ky:Kept [] w1 y:=hy▸(Kept.refl _ _).drewN nq;rw [hy];have hb:=HB.out.kept ky (by simp);have d0:=hb.cell 0;have d1:=hb.cell 1;have d2:=hb.cell 2;have g1:=hb.frozen 1;have g2:=hb.frozen 2;clear hb hy;go_wp2;go_ret;exact hF.out y ky
   ·have hF:=Lib.hid (hcy.out hbd (by omega) (by omega));have hw:IntKind.i64.wrap ((L:Int) - (p:Int))=(L:Int) - (p:Int):=wrap_at (by omega) (by omega);have HBD:=Lib.hid hbd;clear hcn hcy hcb hfail hbd;go_upto_region 2 with (fail)
    go_quiet (fail)
    obtain ⟨y,hy⟩:∃ y,w1.drewN nq=y:=⟨_,rfl⟩;have ky:Kept [] w1 y:=hy▸(Kept.refl _ _).drewN nq;rw [hy];have hb:=HB.out.kept ky (by simp);have d0:=hb.cell 0;have d1:=hb.cell 1;have d2:=hb.cell 2;have g1:=hb.frozen 1;have g2:=hb.frozen 2;clear hb hy;go_wp2;go_ret;refine ⟨n.toNat,r1,(by show Ending.returned (.int .i64 n)=_;rw [Int.toNat_of_nonneg (by omega)]),hF.out.1,fun h=>?_,hF.out.2,H1.out.keep ky (by simp) (by simp),HK.out.trans (ky.mono (by simp))⟩;rw [HBD.out] at h
    cases h
 ·have h0:=hz hbd;have hF:=Lib.hid (hcb.out hbd);have hbn:=H1.out.nil_ hbd;have hw:IntKind.i64.wrap ((L:Int) - (p:Int))=(L:Int) - (p:Int):=wrap_at (by omega) (by omega);subst h0
  have hge:¬ (L:Int) - (p:Int) < 0:=by omega
  clear hcn hcy hcb hfail hbd;go_upto_region 2 with (fail)
  go_quiet (fail)
  obtain ⟨y,hy⟩:∃ y,w1.drewN nq=y:=⟨_,rfl⟩;have ky:Kept [] w1 y:=hy▸(Kept.refl _ _).drewN nq;rw [hy];have hb:=HB.out.kept ky (by simp);have d0:=hb.cell 0;have d1:=hb.cell 1;have d2:=hb.cell 2;have g1:=hb.frozen 1;have g2:=hb.frozen 2;clear hb hy;go_wp2;go_ret;exact ⟨0,r1,rfl,hF.out,fun _=>rfl,Nat.zero_le _,H1.out.keep ky (by simp) (by simp),HK.out.trans (ky.mono (by simp))⟩
/-- what list leaves -/
def ListQ (b g:Nat) (r:Tp) (w:World) (e:Ending) (w':World):Prop :=
 ∃ l r' a c,e=.returned (.slice a l.length c)∧w'.ownsRow w.heap.size 3 1 (.slice a l.length c) l.length (ints l)∧Stg list r l r'∧l.length≤100000001∧RwAt 152 w' b g r'∧Kept [b] w w'
set_option maxRecDepth 100000 in
set_option maxHeartbeats 2000000 in
theorem q6_list (b g:Nat) (r:Tp) (w:World) (h:RwAt 152 w b g r) (hgl:g < w.heap.size) :
  Calls Tryz.prog 126 #[.pointer (some ⟨b,0,none⟩)] w (ListQ b g r w):=by
 have HC:=Lib.hid (q6_count b g r w h);have hlt:=h.lt;have hne:=h.ne;clear h
 go_enter Tryz.func126,Tryz.ntmps126
 go_wp2_with (go_at_call 123;refine HC.out.mono ?_);rintro e w1 ⟨n,r1,rfl,hst,hz,hnl,h1,k1⟩;have hml:=h1.len;have H1:=Lib.hid h1;have K1:=Lib.hid k1;have HST:=Lib.hid hst;have hs1:=k1.size;obtain ⟨l,bd⟩:=r1;replace hnl:n≤l.length:=hnl;replace hml:l.length≤100000001:=hml;replace hz:bd=true→n=0:=hz
 have hzn:Hid (0 < n→bd=false):=fun h=>by cases bd;rfl;have:=hz rfl;omega
 clear h1 k1 hst hz HC;go_wp2_with fail
 go_loopw [4,5] (fun vo vi wr=>∃ (k:Nat) (a:Option Addr) (c:Nat),k≤n∧vi=.int .i64 k∧vo=.slice a k c∧wr.ownsRow w.heap.size 3 1 (.slice a k c) k (ints (l.take k))∧RwAt 152 wr b g ⟨l.drop k,bd⟩∧Kept [b] w wr) (fun _ vi _=>n - (intOf vi).toNat)
 case atStart=>exact ⟨0,none,0,Nat.zero_le _,rfl,rfl,by simpa [ints] using World.ownsRow_nil _ _ _ _,by simpa using H1.out,K1.out⟩
 case round =>
  obtain ⟨k,a,c,hk,rfl,rfl,hown,hr,hkr⟩:=hrel;have HO:=Lib.hid hown;have HR:=Lib.hid hr;have HK:=Lib.hid hkr;have hsz:=hkr.size;clear hown hr hkr
  by_cases hkn:k < n
  ·have hbd:=hzn.out (by omega);subst hbd
   have hkl:k < l.length:=by omega
   have hdr:l.drop k=l[k]::l.drop (k+1):=List.drop_eq_getElem_cons hkl;have htk:l.take (k+1)=l.take k++[l[k]]:=List.take_succ_eq_append_getElem hkl;have HC1:=Lib.hid (q6_one b g _ wr HR.out);rw [hdr] at HC1;have HTK:=Lib.hid htk;have HDR:=Lib.hid hdr;clear hdr htk HR;go_wp2_with (go_at_call 184;refine HC1.out.mono ?_);rintro e w3 ⟨v,r3,rfl,hs3,_,h3,k3⟩;have O3:=Lib.hid (own_keep HO.out k3 (fun z hz hm=>by have:=own_ge HO.out z hz;rw [List.mem_singleton] at hm;omega));have hs3z:=k3.size;go_wp2_with (at_builtin;(refine wpList_append_ints rfl _ _ rfl w.heap.size (.slice a k c) k (l.take k) rfl (own_keep O3.out ((Kept.refl [] _).alloc _) (by simp)) _ 1 [v] rfl (Row.one1 _ _) (by omega) (by simp only [World.size_alloc];omega) ?_));intro a4 c4 w4 own4 k4 at4
   have hv:Hid (v=l[k]∧r3=⟨l.drop (k+1),false⟩):=by
    try rw [HDR.out] at hs3
    rcases hs3 with ⟨_,x2,x3⟩|⟨x1,_⟩
    ·exact ⟨x2,x3⟩
    ·cases x1
   have hge:=own_ge O3.out;have h4:=Lib.hid ((h3.keep ((Kept.refl [] w3).alloc _) (by simp) (by simp)).keep k4 (fun hm=>by have:=hge _ hm;omega) (fun hm=>by have:=hge _ hm;omega));have hk4:Kept [b] w w4:=((HK.out.trans k3).alloc _).fresh k4 (fun z hz=>(hge z hz).1);rw [hv.out.2] at h4;rw [hv.out.1,←HTK.out] at own4;clear hs3 h3 k3 k4 at4 hge O3 hv HTK HC1 HDR;go_wp2
   go_roundw
   case rel=>exact ⟨k+1,a4,c4,by omega,by go_num,rfl,own4,h4.out,hk4⟩
   case measure=>simp [intOf];omega
  ·obtain rfl:k=n:=by omega
   have htl:(l.take k).length=k:=by rw [List.length_take];omega
   have hfin:Hid (ListQ b g r w (.returned (.slice a k c)) wr):=by
    refine ⟨l.take k,⟨l.drop k,bd⟩,a,c,by rw [htl],by rw [htl];exact HO.out,?_,by omega,HR.out,HK.out⟩
    rcases HST.out with ⟨x1,x2,x3⟩|⟨x1,x2⟩
    ·refine Or.inl ⟨x1,?_,?_⟩
     ·unfold list;rw [←x2,←x3]
     ·unfold list;rw [←x2,←x3]
    ·obtain ⟨x3,x4⟩:=Tp.mk.inj x2;subst x3 x4;exact Or.inr ⟨x1,by simp [failT]⟩
   clear htl;go_wp2;go_ret;exact hfin.out
def TickQ (b g:Nat) (r:Tp) (w:World) (e:Ending) (w':World):Prop :=
 ∃ t1 t2 t3 t4 t5 t6 r',e=.returned (.agg #[.int .i64 t1,.int .i64 t2,.int .i64 t3,.int .i64 t4,.int .i64 t5,.int .i64 t6])∧Stg tick r (t1,t2,t3,t4,t5,t6) r'∧RwAt 152 w' b g r'∧Kept [b] w w'
set_option maxRecDepth 100000 in
set_option maxHeartbeats 4000000 in
theorem q6_ticket (b g:Nat) (r:Tp) (w:World) (h:RwAt 152 w b g r) (hgl:g < w.heap.size) :
  Calls Tryz.prog 124 #[.pointer (some ⟨b,0,none⟩)] w (TickQ b g r w):=by
 have hlt:=h.lt;have hne:=h.ne;obtain ⟨R,hR⟩:∃ R,w.heap.size=R:=⟨_,rfl⟩;obtain ⟨W,hW⟩:∃ W,w.alloc (.cells #[.int .i64 0,.int .i64 0,.int .i64 0,.int .i64 0,.int .i64 0,.int .i64 0] 134)=W:=⟨_,rfl⟩
 have hbR:Blk W R 134 #[.int .i64 0,.int .i64 0,.int .i64 0,.int .i64 0,.int .i64 0,.int .i64 0]:=by rw [←hR,←hW];exact Blk.new _ _ _
 have hkW:Kept [] w W:=hW▸(Kept.refl _ _).alloc _
 have hsW:W.heap.size=R+1:=by rw [←hW,←hR];simp
 obtain ⟨U0,hU⟩:∃ U,W.alloc (.cells #[.int .i64 0,.int .i64 0,.int .i64 0,.int .i64 0,.int .i64 0,.int .i64 0] 134)=U:=⟨_,rfl⟩;obtain ⟨V,hV⟩:∃ V,W.heap.size=V:=⟨_,rfl⟩
 have hb0:Blk U0 V 134 #[.int .i64 0,.int .i64 0,.int .i64 0,.int .i64 0,.int .i64 0,.int .i64 0]:=by rw [←hV,←hU];exact Blk.new _ _ _
 have k0:Kept [] W U0:=hU▸(Kept.refl _ _).alloc _;have B0:=Lib.hid hb0;have C0:=Lib.hid (hbR.kept k0 (by simp));have K0:Hid (Kept [b] w U0):=(hkW.trans k0).mono (by simp);have Q0:=Lib.hid (h.keep (hkW.trans k0) (by simp) (by simp));have HW:=Lib.hid hW;have HU:=Lib.hid hU;rw [hR] at hlt hgl
 have HVQ:Hid (V=R+1):=by show _=_;omega
 have hVR:R < V:=by omega
 have HR:=Lib.hid hR;have HV:=Lib.hid hV;clear hW hU hbR hb0 hkW k0 h hsW hV hR
 go_enter Tryz.func124,Tryz.ntmps124
 go_upto_region 2 with (fail);rw [HW.out,HU.out,HR.out,show R+1=V from HVQ.out.symm];have HC1:=Lib.hid (q6_one b g r U0 Q0.out);go_upto_region 3 with (go_at_call 184;refine HC1.out.mono ?_;rintro e w1 ⟨t1,s1,rfl,hst,_,hq,kq⟩;have bq:=B0.out.kept kq (by simp;omega);have x0:=bq.cell 0;have y0:=bq.frozen 0);obtain ⟨U1,hU⟩:∃ U,w1.setCell ⟨V,0,none⟩ (.int .i64 t1)=U:=⟨_,rfl⟩
 have B1:Hid (Blk U1 V 134 #[.int .i64 t1,.int .i64 0,.int .i64 0,.int .i64 0,.int .i64 0,.int .i64 0]):=by show Blk _ _ _ _;have:=bq.set_ 0 (.int .i64 t1);rw [hU] at this;simpa using this
 have C1:Hid (Blk U1 R 134 #[.int .i64 0,.int .i64 0,.int .i64 0,.int .i64 0,.int .i64 0,.int .i64 0]):=hU▸(C0.out.kept kq (by simp;omega)).kept (S:=[V]) ((Kept.refl _ _).setCell (by simp) _) (by simp;omega);have K1:Hid (Kept [b] w U1):=hU▸(K0.out.trans kq).setCell (Or.inr (by have:=HR.out;show w.heap.size≤V;omega)) _;have Q1:Hid (RwAt 152 U1 b g s1):=hU▸hq.keep (S:=[V]) ((Kept.refl _ _).setCell (by simp) _) (by simp;omega) (by simp;omega);have S1:=Lib.hid hst;rw [hU];clear hU bq x0 y0 hq kq hst B0 C0 K0 Q0 HC1;have HC2:=Lib.hid (q6_one b g s1 U1 Q1.out);go_upto_region 4 with (go_at_call 184;refine HC2.out.mono ?_;rintro e w2 ⟨t2,s2,rfl,hst,_,hq,kq⟩;have bq:=B1.out.kept kq (by simp;omega);have x1:=bq.cell 1;have y1:=bq.frozen 1);obtain ⟨U2,hU⟩:∃ U,w2.setCell ⟨V,1,none⟩ (.int .i64 t2)=U:=⟨_,rfl⟩
 have B2:Hid (Blk U2 V 134 #[.int .i64 t1,.int .i64 t2,.int .i64 0,.int .i64 0,.int .i64 0,.int .i64 0]):=by show Blk _ _ _ _;have:=bq.set_ 1 (.int .i64 t2);rw [hU] at this;simpa using this
 have C2:Hid (Blk U2 R 134 #[.int .i64 0,.int .i64 0,.int .i64 0,.int .i64 0,.int .i64 0,.int .i64 0]):=hU▸(C1.out.kept kq (by simp;omega)).kept (S:=[V]) ((Kept.refl _ _).setCell (by simp) _) (by simp;omega);have K2:Hid (Kept [b] w U2):=hU▸(K1.out.trans kq).setCell (Or.inr (by have:=HR.out;show w.heap.size≤V;omega)) _;have Q2:Hid (RwAt 152 U2 b g s2):=hU▸hq.keep (S:=[V]) ((Kept.refl _ _).setCell (by simp) _) (by simp;omega) (by simp;omega);have S2:=Lib.hid hst;rw [hU];clear hU bq x1 y1 hq kq hst B1 C1 K1 Q1 HC2;have HC3:=Lib.hid (q6_one b g s2 U2 Q2.out);go_upto_region 5 with (go_at_call 184;refine HC3.out.mono ?_;rintro e w3 ⟨t3,s3,rfl,hst,_,hq,kq⟩;have bq:=B2.out.kept kq (by simp;omega);have x2:=bq.cell 2;have y2:=bq.frozen 2);obtain ⟨U3,hU⟩:∃ U,w3.setCell ⟨V,2,none⟩ (.int .i64 t3)=U:=⟨_,rfl⟩
 have B3:Hid (Blk U3 V 134 #[.int .i64 t1,.int .i64 t2,.int .i64 t3,.int .i64 0,.int .i64 0,.int .i64 0]):=by show Blk _ _ _ _;have:=bq.set_ 2 (.int .i64 t3);rw [hU] at this;simpa using this
 have C3:Hid (Blk U3 R 134 #[.int .i64 0,.int .i64 0,.int .i64 0,.int .i64 0,.int .i64 0,.int .i64 0]):=hU▸(C2.out.kept kq (by simp;omega)).kept (S:=[V]) ((Kept.refl _ _).setCell (by simp) _) (by simp;omega);have K3:Hid (Kept [b] w U3):=hU▸(K2.out.trans kq).setCell (Or.inr (by have:=HR.out;show w.heap.size≤V;omega)) _;have Q3:Hid (RwAt 152 U3 b g s3):=hU▸hq.keep (S:=[V]) ((Kept.refl _ _).setCell (by simp) _) (by simp;omega) (by simp;omega);have S3:=Lib.hid hst;rw [hU];clear hU bq x2 y2 hq kq hst B2 C2 K2 Q2 HC3;have HC4:=Lib.hid (q6_one b g s3 U3 Q3.out);go_upto_region 6 with (go_at_call 184;refine HC4.out.mono ?_;rintro e w4 ⟨t4,s4,rfl,hst,_,hq,kq⟩;have bq:=B3.out.kept kq (by simp;omega);have x3:=bq.cell 3;have y3:=bq.frozen 3);obtain ⟨U4,hU⟩:∃ U,w4.setCell ⟨V,3,none⟩ (.int .i64 t4)=U:=⟨_,rfl⟩
 have B4:Hid (Blk U4 V 134 #[.int .i64 t1,.int .i64 t2,.int .i64 t3,.int .i64 t4,.int .i64 0,.int .i64 0]):=by show Blk _ _ _ _;have:=bq.set_ 3 (.int .i64 t4);rw [hU] at this;simpa using this
 have C4:Hid (Blk U4 R 134 #[.int .i64 0,.int .i64 0,.int .i64 0,.int .i64 0,.int .i64 0,.int .i64 0]):=hU▸(C3.out.kept kq (by simp;omega)).kept (S:=[V]) ((Kept.refl _ _).setCell (by simp) _) (by simp;omega);have K4:Hid (Kept [b] w U4):=hU▸(K3.out.trans kq).setCell (Or.inr (by have:=HR.out;show w.heap.size≤V;omega)) _;have Q4:Hid (RwAt 152 U4 b g s4):=hU▸hq.keep (S:=[V]) ((Kept.refl _ _).setCell (by simp) _) (by simp;omega) (by simp;omega);have S4:=Lib.hid hst;rw [hU];clear hU bq x3 y3 hq kq hst B3 C3 K3 Q3 HC4;have HC5:=Lib.hid (q6_one b g s4 U4 Q4.out);go_upto_region 7 with (go_at_call 184;refine HC5.out.mono ?_;rintro e w5 ⟨t5,s5,rfl,hst,_,hq,kq⟩;have bq:=B4.out.kept kq (by simp;omega);have x4:=bq.cell 4;have y4:=bq.frozen 4);obtain ⟨U5,hU⟩:∃ U,w5.setCell ⟨V,4,none⟩ (.int .i64 t5)=U:=⟨_,rfl⟩
 have B5:Hid (Blk U5 V 134 #[.int .i64 t1,.int .i64 t2,.int .i64 t3,.int .i64 t4,.int .i64 t5,.int .i64 0]):=by show Blk _ _ _ _;have:=bq.set_ 4 (.int .i64 t5);rw [hU] at this;simpa using this
 have C5:Hid (Blk U5 R 134 #[.int .i64 0,.int .i64 0,.int .i64 0,.int .i64 0,.int .i64 0,.int .i64 0]):=hU▸(C4.out.kept kq (by simp;omega)).kept (S:=[V]) ((Kept.refl _ _).setCell (by simp) _) (by simp;omega);have K5:Hid (Kept [b] w U5):=hU▸(K4.out.trans kq).setCell (Or.inr (by have:=HR.out;show w.heap.size≤V;omega)) _;have Q5:Hid (RwAt 152 U5 b g s5):=hU▸hq.keep (S:=[V]) ((Kept.refl _ _).setCell (by simp) _) (by simp;omega) (by simp;omega);have S5:=Lib.hid hst;rw [hU];clear hU bq x4 y4 hq kq hst B4 C4 K4 Q4 HC5;have HC6:=Lib.hid (q6_one b g s5 U5 Q5.out);go_upto_region 8 with (go_at_call 184;refine HC6.out.mono ?_;rintro e w6 ⟨t6,s6,rfl,hst,_,hq,kq⟩;have bq:=B5.out.kept kq (by simp;omega);have x5:=bq.cell 5;have y5:=bq.frozen 5);obtain ⟨U6,hU⟩:∃ U,w6.setCell ⟨V,5,none⟩ (.int .i64 t6)=U:=⟨_,rfl⟩
 have B6:Hid (Blk U6 V 134 #[.int .i64 t1,.int .i64 t2,.int .i64 t3,.int .i64 t4,.int .i64 t5,.int .i64 t6]):=by show Blk _ _ _ _;have:=bq.set_ 5 (.int .i64 t6);rw [hU] at this;simpa using this
 have C6:Hid (Blk U6 R 134 #[.int .i64 0,.int .i64 0,.int .i64 0,.int .i64 0,.int .i64 0,.int .i64 0]):=hU▸(C5.out.kept kq (by simp;omega)).kept (S:=[V]) ((Kept.refl _ _).setCell (by simp) _) (by simp;omega);have K6:Hid (Kept [b] w U6):=hU▸(K5.out.trans kq).setCell (Or.inr (by have:=HR.out;show w.heap.size≤V;omega)) _;have Q6:Hid (RwAt 152 U6 b g s6):=hU▸hq.keep (S:=[V]) ((Kept.refl _ _).setCell (by simp) _) (by simp;omega) (by simp;omega);have S6:=Lib.hid hst;rw [hU];clear hU bq x5 y5 hq kq hst B5 C5 K5 Q5 HC6;have b0:=B6.out.cell 0;have c0:=C6.out.cell 0;have f0:=C6.out.frozen 0;have b1:=B6.out.cell 1;have c1:=C6.out.cell 1;have f1:=C6.out.frozen 1;have b2:=B6.out.cell 2;have c2:=C6.out.cell 2;have f2:=C6.out.frozen 2;have b3:=B6.out.cell 3;have c3:=C6.out.cell 3;have f3:=C6.out.frozen 3;have b4:=B6.out.cell 4;have c4:=C6.out.cell 4;have f4:=C6.out.frozen 4;have b5:=B6.out.cell 5;have c5:=C6.out.cell 5;have f5:=C6.out.frozen 5;have HS:Hid (Stg tick r (t1,t2,t3,t4,t5,t6) s6):=(Stg.both (both_codec next_codec (both_codec next_codec (both_codec next_codec (both_codec next_codec next_codec)))) S1.out (Stg.both (both_codec next_codec (both_codec next_codec (both_codec next_codec next_codec))) S2.out (Stg.both (both_codec next_codec (both_codec next_codec next_codec)) S3.out (Stg.both (both_codec next_codec next_codec) S4.out (Stg.both next_codec S5.out S6.out)))));clear S1 S2 S3 S4 S5 S6;go_wp2_with fail;obtain ⟨wf,hwf⟩:∃ wf,((((((U6.setCell ⟨R,0,none⟩ (.int .i64 t1)).setCell ⟨R,1,none⟩ (.int .i64 t2)).setCell ⟨R,2,none⟩ (.int .i64 t3)).setCell ⟨R,3,none⟩ (.int .i64 t4)).setCell ⟨R,4,none⟩ (.int .i64 t5)).setCell ⟨R,5,none⟩ (.int .i64 t6))=wf:=⟨_,rfl⟩
 have kf:Kept [R] U6 wf:=hwf▸(((((((Kept.refl [R] U6).setCell (by simp) _).setCell (by simp) _).setCell (by simp) _).setCell (by simp) _).setCell (by simp) _).setCell (by simp) _);have kq:Kept [b] w wf:=hwf▸((((((K6.out.setCell (Or.inr (by have:=HR.out;show w.heap.size≤R;omega)) _).setCell (Or.inr (by have:=HR.out;show w.heap.size≤R;omega)) _).setCell (Or.inr (by have:=HR.out;show w.heap.size≤R;omega)) _).setCell (Or.inr (by have:=HR.out;show w.heap.size≤R;omega)) _).setCell (Or.inr (by have:=HR.out;show w.heap.size≤R;omega)) _).setCell (Or.inr (by have:=HR.out;show w.heap.size≤R;omega)) _)
 have BB:Blk wf R 134 #[.int .i64 t1,.int .i64 t2,.int .i64 t3,.int .i64 t4,.int .i64 t5,.int .i64 t6]:=by have:=((((((C6.out.set_ 0 (.int .i64 t1)).set_ 1 (.int .i64 t2)).set_ 2 (.int .i64 t3)).set_ 3 (.int .i64 t4)).set_ 4 (.int .i64 t5)).set_ 5 (.int .i64 t6));rw [hwf] at this;simpa using this
 have z0:=BB.cell 0;have z1:=BB.cell 1;have z2:=BB.cell 2;have z3:=BB.cell 3;have z4:=BB.cell 4;have z5:=BB.cell 5;rw [hwf];refine bodyPost_ret (v:=.agg #[.int .i64 t1,.int .i64 t2,.int .i64 t3,.int .i64 t4,.int .i64 t5,.int .i64 t6]) (by simp [results,Tryz.results124,go_sem,z0,z1,z2,z3,z4,z5]) rfl ?_;exact ⟨t1,t2,t3,t4,t5,t6,s6,rfl,HS.out,Q6.out.keep kf (by simp;omega) (by simp;omega),kq⟩
def SpndQ (b g:Nat) (r:Tp) (w:World) (e:Ending) (w':World):Prop :=
 ∃ d l r' a c,e=.returned (.agg #[.int .i64 d,.slice a l.length c])∧w'.ownsRow w.heap.size 3 1 (.slice a l.length c) l.length (ints l)∧Stg spnd r (d,l) r'∧l.length≤100000001∧RwAt 152 w' b g r'∧Kept [b] w w'
set_option maxRecDepth 100000 in
set_option maxHeartbeats 4000000 in
theorem q6_spend (b g:Nat) (r:Tp) (w:World) (h:RwAt 152 w b g r) (hgl:g < w.heap.size) :
  Calls Tryz.prog 125 #[.pointer (some ⟨b,0,none⟩)] w (SpndQ b g r w):=by
 have hlt:=h.lt;have hne:=h.ne;obtain ⟨R,hR⟩:∃ R,w.heap.size=R:=⟨_,rfl⟩;obtain ⟨W,hW⟩:∃ W,w.alloc (.cells #[.int .i64 0,.slice none 0 0] 110)=W:=⟨_,rfl⟩
 have hbR:Blk W R 110 #[.int .i64 0,.slice none 0 0]:=by rw [←hR,←hW];exact Blk.new _ _ _
 have hkW:Kept [] w W:=hW▸(Kept.refl _ _).alloc _
 have hsW:W.heap.size=R+1:=by rw [←hW,←hR];simp
 obtain ⟨U0,hU⟩:∃ U,W.alloc (.cells #[.int .i64 0,.slice none 0 0] 110)=U:=⟨_,rfl⟩;obtain ⟨V,hV⟩:∃ V,W.heap.size=V:=⟨_,rfl⟩
 have hb0:Blk U0 V 110 #[.int .i64 0,.slice none 0 0]:=by rw [←hV,←hU];exact Blk.new _ _ _
 have k0:Kept [] W U0:=hU▸(Kept.refl _ _).alloc _;have B0:=Lib.hid hb0;have C0:=Lib.hid (hbR.kept k0 (by simp));have K0:Hid (Kept [b] w U0):=(hkW.trans k0).mono (by simp);have Q0:=Lib.hid (h.keep (hkW.trans k0) (by simp) (by simp));have HW:=Lib.hid hW;have HU:=Lib.hid hU;have hsU:V < U0.heap.size:=B0.out.lt;rw [hR] at hlt hgl
 have HVQ:Hid (V=R+1):=by show _=_;omega
 have hVR:R < V:=by omega
 have HR:=Lib.hid hR;have HV:=Lib.hid hV;clear hW hU hbR hb0 hkW k0 h hsW hV hR
 go_enter Tryz.func125,Tryz.ntmps125
 go_upto_region 2 with (fail);rw [HW.out,HU.out,HR.out,show R+1=V from HVQ.out.symm];have HC1:=Lib.hid (q6_one b g r U0 Q0.out);go_upto_region 3 with (go_at_call 184;refine HC1.out.mono ?_;rintro e w1 ⟨t1,s1,rfl,hst,_,hq,kq⟩;have bq:=B0.out.kept kq (by simp;omega);have x0:=bq.cell 0;have y0:=bq.frozen 0);obtain ⟨U1,hU⟩:∃ U,w1.setCell ⟨V,0,none⟩ (.int .i64 t1)=U:=⟨_,rfl⟩
 have B1:Hid (Blk U1 V 110 #[.int .i64 t1,.slice none 0 0]):=by show Blk _ _ _ _;have:=bq.set_ 0 (.int .i64 t1);rw [hU] at this;simpa using this
 have C1:Hid (Blk U1 R 110 #[.int .i64 0,.slice none 0 0]):=hU▸(C0.out.kept kq (by simp;omega)).kept (S:=[V]) ((Kept.refl _ _).setCell (by simp) _) (by simp;omega);have K1:Hid (Kept [b] w U1):=hU▸(K0.out.trans kq).setCell (Or.inr (by have:=HR.out;show w.heap.size≤V;omega)) _;have Q1:Hid (RwAt 152 U1 b g s1):=hU▸hq.keep (S:=[V]) ((Kept.refl _ _).setCell (by simp) _) (by simp;omega) (by simp;omega);have S1:=Lib.hid hst;have hsU1:V < U1.heap.size:=B1.out.lt;rw [hU];clear hU bq x0 y0 hq kq hst B0 C0 K0 Q0 HC1;have HC2:=Lib.hid (q6_list b g s1 U1 Q1.out (by omega));go_upto_region 4 with (go_at_call 126;refine HC2.out.mono ?_;rintro e w2 ⟨l,s2,a,c,rfl,own,hst,hll,hq,kq⟩;have bq:=B1.out.kept kq (by simp;omega);have x1:=bq.cell 1;have y1:=bq.frozen 1);obtain ⟨U2,hU⟩:∃ U,w2.setCell ⟨V,1,none⟩ (.slice a l.length c)=U:=⟨_,rfl⟩
 have B2:Hid (Blk U2 V 110 #[.int .i64 t1,.slice a l.length c]):=by show Blk _ _ _ _;have:=bq.set_ 1 (.slice a l.length c);rw [hU] at this;simpa using this
 have C2:Hid (Blk U2 R 110 #[.int .i64 0,.slice none 0 0]):=hU▸(C1.out.kept kq (by simp;omega)).kept (S:=[V]) ((Kept.refl _ _).setCell (by simp) _) (by simp;omega);have K2:Hid (Kept [b] w U2):=hU▸(K1.out.trans kq).setCell (Or.inr (by have:=HR.out;show w.heap.size≤V;omega)) _;have Q2:Hid (RwAt 152 U2 b g s2):=hU▸hq.keep (S:=[V]) ((Kept.refl _ _).setCell (by simp) _) (by simp;omega) (by simp;omega);have O2:Hid (U2.ownsRow U1.heap.size 3 1 (.slice a l.length c) l.length (ints l)):=hU▸own_keep own (S:=[V]) ((Kept.refl _ _).setCell (by simp) _) (fun z hz hm=>by have:=own_ge own z hz;rw [List.mem_singleton] at hm;omega);have HS:Hid (Stg spnd r (t1,l) s2):=Stg.both list_codec S1.out hst;rw [hU];clear hU bq x1 y1 hq kq hst B1 C1 K1 Q1 HC2 own S1;have b0:=B2.out.cell 0;have b1:=B2.out.cell 1;have c0:=C2.out.cell 0;have c1:=C2.out.cell 1;have f0:=C2.out.frozen 0;have f1:=C2.out.frozen 1;go_wp2_with fail;obtain ⟨wf,hwf⟩:∃ wf,(U2.setCell ⟨R,0,none⟩ (.int .i64 t1)).setCell ⟨R,1,none⟩ (.slice a l.length c)=wf:=⟨_,rfl⟩;have kf:Kept [R] U2 wf:=hwf▸((Kept.refl _ _).setCell (by simp) _).setCell (by simp) _;have kq:Kept [b] w wf:=hwf▸(K2.out.setCell (Or.inr (by have:=HR.out;show w.heap.size≤R;omega)) _).setCell (Or.inr (by have:=HR.out;show w.heap.size≤R;omega)) _
 have BB:Blk wf R 110 #[.int .i64 t1,.slice a l.length c]:=by have:=(C2.out.set_ 0 (.int .i64 t1)).set_ 1 (.slice a l.length c);rw [hwf] at this;simpa using this
 have z0:=BB.cell 0;have z1:=BB.cell 1;rw [hwf];refine bodyPost_ret (v:=.agg #[.int .i64 t1,.slice a l.length c]) (by simp [results,Tryz.results125,go_sem,z0,z1]) rfl ?_;refine ⟨t1,l,s2,a,c,rfl,own_base (own_keep O2.out kf (fun z hz hm=>by have:=own_ge O2.out z hz;rw [List.mem_singleton] at hm;omega)) (by have:=HR.out;omega),HS.out,hll,Q2.out.keep kf (by simp;omega) (by simp;omega),kq⟩
end Go.Proofs.YtpcdfepndmconaaGreatDoor
