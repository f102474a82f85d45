/- The parser's name and number. -/
import Derived.Test.YtpcmamoomaddoaaGreatDoorLnx
import Derived.Deep.QuietTactic
import Derived.BigQuiet
/- JOINED: Lsc Ps1 Ps2 Ps3 Ps4 -/
/- base.Scan. -/
namespace Go.Proofs.YtpcmamoomaddoaaGreatDoor
open Go.RowKit
def tokC (t:Tok):List Value:=[.int .i64 t.kind,.string ⟨t.text.toArray⟩,.int .i64 t.n,.int .i64 t.pos]
def TokR (_:World) (c:List Value) (t:Tok):Prop:=c=tokC t
def toksC (l:List Tok):List Value:=(l.map tokC).flatten
theorem infoTok:(Tryz.prog.info? 170).map (fun i=>(i.zero,i.size,i.bytes))=some (some (.agg #[.int .i64 0,.string ⟨#[]⟩,.int .i64 0,.int .i64 0]),4,40):=by kernel_rfl
theorem toks_snoc (l:List Tok) (t:Tok):toksC (l++[t])=toksC l++tokC t:=by simp [toksC]
theorem toks_row {w:World} {B:Nat} {v:Value} {l:List Tok} (h:w.ownsRow B 170 4 v l.length (toksC l)) (hl:l.length≤9223372036854775807):RowOf TokR 4 w v l :=
 RowOf.of_own h (by simp) (fun c hc=>by obtain ⟨t,_,rfl⟩:=List.mem_map.1 hc;rfl) (fun k a ha=>⟨tokC a,by simp [ha],rfl⟩) hl
theorem gapC_suffix:∀ (f:Nat) (l:Bs),gapC f l <:+ l
 | 0,l=>List.suffix_refl _
 | f+1,[]=>List.suffix_refl _
 | f+1,c::t=>by
  rw [gapC]
  split
  ·exact ((gapC_suffix f _).trans (List.dropWhile_suffix _)).trans (List.dropWhile_suffix _)
  ·exact List.suffix_refl _
theorem gapB_suffix (l:Bs):gapB l <:+ l:=(gapC_suffix _ _).trans (List.dropWhile_suffix _)
theorem gapB_drop (l:Bs):l.drop (l.length - (gapB l).length)=gapB l:=(List.suffix_iff_eq_drop.1 (gapB_suffix l)).symm
/-- what Scan hands back -/
def ScanR (n:Nat) (s:Bs) (w':World) (e:Ending):Except Int (List Tok)→Prop
 | .error c=>∃ a:Nat,e=.returned (.tuple #[.slice none 0 0,.int .i64 a,.int .i64 c])
 | .ok ts=>∃ a c,e=.returned (.tuple #[.slice a ts.length c,.int .i64 0,.int .i64 0])∧Stable (List.range n) (fun w=>RowOf TokR 4 w (.slice a ts.length c) ts) w'∧ts.length≤s.length
def ScanE (s:Bs) (w:World) (e:Ending) (w':World):Prop :=
 Kept [] w w'∧((4000 < s.length∧e=.returned (.tuple #[.slice none 0 0,.int .i64 0,.int .i64 6]))∨(s.length≤4000∧ScanR w.heap.size s w' e (scanB (s.length+1) s 0 [])))
set_option maxRecDepth 100000 in
set_option maxHeartbeats 4000000 in
theorem scan_any (B:Nat) (s:Bs) (w:World) (hs:s.length≤100000000) (hE:EnvB B w) :
  Calls Tryz.prog 67 #[.string ⟨s.toArray⟩] w (ScanE s w):=by
 obtain ⟨i0,hi,hz0,hz1,hz2⟩:=info_parts infoTok
 by_cases hlong:(4000:Int) < (s.length:Int)
 ·go_enter Tryz.func67,Tryz.ntmps67
  go_wp2_with fail;refine bodyPost_ret (v:=.tuple #[.slice none 0 0,.int .i64 0,.int .i64 6]) (by simp [results,Tryz.results67,go_sem]) rfl ⟨Kept.refl _ _,Or.inl ⟨by omega,rfl⟩⟩
 ·obtain ⟨R,hR⟩:∃ R,scanB (s.length+1) s 0 []=R:=⟨_,rfl⟩
  have hend:∀ (e:Ending) (w':World),Kept [] w w'→ScanR w.heap.size s w' e R→ScanE s w e w':=fun e w' k h=>⟨k,Or.inr ⟨by omega,by rw [hR];exact h⟩⟩
  have HEND:=Lib.hid hend;have HR:=Lib.hid hR;have HE:=Lib.hid hE;clear hend hR hE
  go_enter Tryz.func67,Tryz.ntmps67
  go_wp2_with fail
  go_loopw [5,6] (fun v i wr=>∃ (p f:Nat) (out:List Tok),p≤s.length∧i=.int .i64 p∧wr.ownsRow w.heap.size 170 4 v out.length (toksC out)∧Kept [] w wr∧s.length - p < f∧scanB f (s.drop p) p out=R∧out.length≤p) (fun _ i _=>s.length - (intOf i).toNat)
  case atStart=>exact ⟨0,s.length+1,[],Nat.zero_le _,rfl,World.ownsRow_nil _ _ _ _,Kept.refl _ _,by omega,HR.out,Nat.zero_le _⟩
  case round =>
   obtain ⟨p,f,out,hp,rfl,hown,hkr,hf,hsc,hol⟩:=hrel;obtain ⟨av,cv,rfl⟩:=own_len hown (by decide);obtain ⟨f,rfl⟩:∃ g,f=g+1:=⟨f - 1,by omega⟩;rw [scanB] at hsc;have hgap:=gap_any (s.drop p) wr (by rw [List.length_drop];omega);have hgd:=gapB_drop (s.drop p);have hsx:=(gapB_suffix (s.drop p)).length_le;obtain ⟨r,hr⟩:∃ r,gapB (s.drop p)=r:=⟨_,rfl⟩;rw [hr] at hsc hgap hgd hsx;rw [List.length_drop] at hgap hgd hsx;obtain ⟨g,hg⟩:∃ g,s.length - p - r.length=g:=⟨_,rfl⟩;rw [hg] at hgap hgd;rw [List.drop_drop] at hgd;have HGAP:=Lib.hid hgap;have HO:=Lib.hid hown;have HK:=Lib.hid hkr;have HSC:=Lib.hid hsc;have HGD:=Lib.hid hgd;clear hgap hown hkr hsc hgd hr HR
   rcases r with _|⟨a,t⟩
   ·have hpg:p+g=s.length:=by simp at hg;omega
    have HP:=Lib.hid hpg
    have h4:((p:Int)+(g:Int)==(s.length:Int))=true:=by simp;omega
    have hfin:=HSC.out
    simp only at hfin
    subst hfin;clear hpg;go_wp2_with (go_at_call 113;rw [post_eq];refine HGAP.out.mono ?_;rintro e w' ⟨rfl,rfl⟩);refine bodyPost_ret (v:=.tuple #[.slice av out.length cv,.int .i64 0,.int .i64 0]) (by simp [results,Tryz.results67,go_sem]) rfl ?_;exact HEND.out _ _ HK.out ⟨av,cv,rfl,(Stable.own HO.out (fun z hz hm=>by have:=(own_ge HO.out z hz).1;have:=List.mem_range.1 hm;omega)).imp fun _ h=>toks_row h (by omega),by omega⟩
   ·have hpl:p+g < s.length:=by simp at hg hsx;omega
    obtain ⟨q,hq⟩:∃ q,p+g=q:=⟨_,rfl⟩;rw [hq] at hpl HGD
    have hqi:(p:Int)+(g:Int)=(q:Int):=by omega
    have h4:((q:Int)==(s.length:Int))=false:=by simp;omega
    have hsl:(s.drop q).length=t.length+1:=by rw [HGD.out];rfl
    rw [List.length_drop] at hsl;have hnx:=Lib.hid (next_any B a t wr (by omega) (HE.out.kept0 HK.out));have hfin:=HSC.out
    simp only at hfin
    cases hn:nextB (a::t) with
    | error c =>
     have hc0:((c:Int) != 0)=true:=by simpa using nextB_err hn
     rw [hn] at hnx hfin
     simp only at hfin
     subst hfin;clear hn HSC
     go_wp2_with (first
      | (go_at_call 113;rw [post_eq];refine HGAP.out.mono ?_;rintro e w' ⟨rfl,rfl⟩)
      | (go_at_call 114;rw [post_eq,HGD.out];refine hnx.out.mono ?_;unfold nextRet;rintro e w5 ⟨rfl,k5⟩))
     refine bodyPost_ret (v:=.tuple #[.slice none 0 0,.int .i64 q,.int .i64 c]) (by simp [results,Tryz.results67,go_sem]) rfl ?_;refine HEND.out _ _ ?_ ⟨q,rfl⟩;exact HK.out.trans (k5.alloc _)
    | ok x =>
     obtain ⟨tk,n⟩:=x;have hln:=nextB_len hn;rw [hn] at hnx hfin
     simp only at hfin
     have hat:p+((s.drop p).length - (t.length+1))=q:=by rw [List.length_drop];rw [List.length_cons] at hg;omega
     have hpi:(p:Int)+(((s.drop p).length:Int) - ((t.length:Int)+1))=(q:Int):=by rw [List.length_drop];rw [List.length_cons] at hg hsx;omega
     rw [hat,hpi] at hfin
     have hdn:s.drop (q+n)=(a::t).drop n:=by rw [←HGD.out,List.drop_drop]
     rw [←hdn] at hfin;clear hpi hdn;have HF:=Lib.hid hfin;clear hn HSC hfin hat
     go_upto_region 12 with (first
      | (go_at_call 113;rw [post_eq];refine HGAP.out.mono ?_;rintro e w' ⟨rfl,rfl⟩)
      | (go_at_call 114;rw [post_eq,HGD.out];refine hnx.out.mono ?_;unfold nextRet;rintro e w5 ⟨rfl,k5⟩))
     obtain ⟨wA,hwA⟩:∃ x,w5.alloc (.cells #[.int .i64 tk.kind,.string ⟨tk.text.toArray⟩,.int .i64 tk.n,.int .i64 q] 170)=x:=⟨_,rfl⟩;rw [hwA];have hBA:Blk wA w5.heap.size 170 #[.int .i64 tk.kind,.string ⟨tk.text.toArray⟩,.int .i64 tk.n,.int .i64 q]:=hwA▸Blk.new _ _ _;have kA:Kept [] wr wA:=hwA▸k5.alloc _;have a0:wA.cell? ⟨w5.heap.size,0,none⟩=some (.int .i64 tk.kind):=hBA.cell 0;have a1:wA.cell? ⟨w5.heap.size,1,none⟩=some (.string ⟨tk.text.toArray⟩):=hBA.cell 1;have a2:wA.cell? ⟨w5.heap.size,2,none⟩=some (.int .i64 tk.n):=hBA.cell 2;have a3:wA.cell? ⟨w5.heap.size,3,none⟩=some (.int .i64 q):=hBA.cell 3;have KA:=Lib.hid kA;clear hwA hBA kA k5;go_wp2_with (at_builtin;refine wpList_append_row rfl _ _ _ rfl w.heap.size 170 i0 _ 4 40 Tryz.underlying123 hi hz0 hz1 hz2 rfl (by decide) _ out.length (toksC out) rfl (own_keep HO.out (S:=[]) (KA.out.alloc _) (by simp)) _ 1 (tokC ⟨tk.kind,tk.text,tk.n,q⟩) rfl (row_of_blk (cs:=tokC ⟨tk.kind,tk.text,tk.n,q⟩) (Blk.new _ _ _) rfl (by decide)) (by simp [tokC,Value.oneCell']) (by unfold maxLen;omega) (by omega) (by simp only [World.size_alloc];have:=HK.out.size;have:=KA.out.size;omega) ?_);intro a' c' w6 hown6 hg6 hl6;have hk6:Kept [] w w6:=(HK.out.trans (KA.out.alloc _)).fresh hg6 (fun z hz=>(own_ge HO.out z hz).1)
     have hown7:w6.ownsRow w.heap.size 170 4 (.slice a' (out.length+1) c') (out++[(⟨tk.kind,tk.text,tk.n,q⟩:Tok)]).length (toksC (out++[(⟨tk.kind,tk.text,tk.n,q⟩:Tok)])):=by
      rw [toks_snoc,List.length_append];exact hown6
     have HO7:=Lib.hid hown7;clear hown6 hg6 hl6 hown7 hqi;go_wp2_with fail
     go_roundw
     case rel=>exact ⟨q+n,f,out++[⟨tk.kind,tk.text,tk.n,q⟩],by omega,by go_num,HO7.out,hk6,by omega,HF.out,by rw [List.length_append];simp;omega⟩
     case measure=>simp [intOf];omega
end Go.Proofs.YtpcmamoomaddoaaGreatDoor
/- The parser's own memory; fail, peek. -/
namespace Go.Proofs.YtpcmamoomaddoaaGreatDoor
open Go.RowKit
/-- a parser at the token with index i: its struct in block rb; the tokens were there in W0 -/
structure Ps (B:Nat) (W0:World) (rb:Nat) (ts:List Tok) (a:Option Addr) (c:Nat) (z:Int) (w:World) (i:Nat):Prop where
 env:EnvB B W0
 kept:Kept [] W0 w
 lo:W0.heap.size≤rb
 row:RowOf TokR 4 W0 (.slice a ts.length c) ts
 blk:Blk w rb 131 #[.slice a ts.length c,.int .i64 i,.int .i64 z]
 small:ts.length≤4000
 ok:∀ t∈ts,t.text.length≤100000∧0≤t.n∧t.n≤1099511627776
 le:i≤ts.length
section
variable {B:Nat} {W0:World} {rb:Nat} {ts:List Tok} {a:Option Addr} {c:Nat} {z:Int} {w w':World} {i:Nat}
theorem Ps.step (h:Ps B W0 rb ts a c z w i) (k:Kept [] w w'):Ps B W0 rb ts a c z w' i:=⟨h.env,h.kept.trans k,h.lo,h.row,h.blk.kept k (by simp),h.small,h.ok,h.le⟩
theorem Ps.envw (h:Ps B W0 rb ts a c z w i):EnvB B w:=h.env.kept0 h.kept
/-- it moves on by one -/
theorem Ps.next_ (h:Ps B W0 rb ts a c z w i) (hi:i+1≤ts.length):Ps B W0 rb ts a c z (w.setCell ⟨rb,1,none⟩ (.int .i64 ((i+1:Nat):Int))) (i+1) :=
 ⟨h.env,h.kept.setCell (Or.inr h.lo) _,h.lo,h.row,h.blk.set_ 1 _,h.small,h.ok,hi⟩
/-- the cells of a token -/
theorem Ps.tok (h:Ps B W0 rb ts a c z w i) {k:Nat} {t:Tok} (ht:ts[k]?=some t):∃ b off,a=some ⟨b,off,none⟩∧w.cell? ⟨b,off+k*4,none⟩=some (.int .i64 t.kind) ∧
  w.cell? ⟨b,off+k*4+1,none⟩=some (.string ⟨t.text.toArray⟩)∧w.cell? ⟨b,off+k*4+2,none⟩=some (.int .i64 t.n)∧w.cell? ⟨b,off+k*4+3,none⟩=some (.int .i64 t.pos):=by
 have hp:0 < ts.length:=by
  rcases Nat.eq_zero_or_pos ts.length with h0|h0
  ·rw [List.eq_nil_of_length_eq_zero h0] at ht;simp at ht
  ·exact h0
 obtain ⟨b,off,ha,hc⟩:=h.row.at_ hp;obtain ⟨cs,h1,h2,h3⟩:=hc k t ht;have h2':cs=tokC t:=h2;subst h2'
 have f:∀ (j:Nat) v,j < 4→(tokC t)[j]?=some v→w.cell? ⟨b,off+(k*4+j),none⟩=some v:=fun j v hj hv=>by
  have:=h3 j v hj hv;exact (h.kept.cell (World.block_lt_of_cell? W0 _ this) (by simp)).trans this
 exact ⟨b,off,ha,f 0 _ (by decide) rfl,f 1 _ (by decide) rfl,f 2 _ (by decide) rfl,f 3 _ (by decide) rfl⟩
end
/-- the parser stops with an error -/
def Fails (S:List Nat) (w:World) (c:Int) (e:Ending) (w':World):Prop :=
 (∃ p:Int,e=.panicked [{ v:=.iface 127 (.agg #[.int .i64 c,.int .i64 p]),recovered:=false }])∧Kept S w w'
set_option maxRecDepth 100000 in
set_option maxHeartbeats 1000000 in
theorem fail_any {B:Nat} {W0:World} {rb:Nat} {ts:List Tok} {a:Option Addr} {c:Nat} {z:Int} {w:World} {i:Nat} (h:Ps B W0 rb ts a c z w i) (er:Int) (k:Nat) (hk:k≤ts.length) (I:Int) (hI:I=(k:Int)) :
  Calls Tryz.prog 72 #[.pointer (some ⟨rb,0,none⟩),.int .i64 er,.int .i64 I] w (Fails [] w er):=by
 subst hI;have c0:w.cell? ⟨rb,0,none⟩=some (.slice a ts.length c):=h.blk.cell 0;have c2:w.cell? ⟨rb,2,none⟩=some (.int .i64 z):=h.blk.cell 2;have hsm:=h.small
 by_cases hlt:k < ts.length
 ·have hki:(k:Int) < (ts.length:Int):=by omega
  obtain ⟨t,ht⟩:∃ t,ts[k]?=some t:=⟨_,List.getElem?_eq_getElem hlt⟩;obtain ⟨b,off,rfl,_,_,_,t3⟩:=h.tok ht
  go_enter Tryz.func72,Tryz.ntmps72
  go_wp2_with fail;exact ⟨rfl,⟨_,rfl⟩,Kept.refl _ _⟩
 ·have hki:¬ (k:Int) < (ts.length:Int):=by omega
  go_enter Tryz.func72,Tryz.ntmps72
  go_wp2_with fail;exact ⟨rfl,⟨_,rfl⟩,Kept.refl _ _⟩
def peekV:Option Tok→Value
 | none=>.tuple #[.agg #[.int .i64 0,.string ⟨#[]⟩,.int .i64 0,.int .i64 0],.bool false]
 | some t=>.tuple #[.agg #[.int .i64 t.kind,.string ⟨t.text.toArray⟩,.int .i64 t.n,.int .i64 t.pos],.bool true]
theorem peek_end {w w2:World} {tmps:Array Value} {v0 v1 v2 v3 n X:Value} {b:Nat} (hb:Blk w2 b 170 #[v0,v1,v2,v3]) (h2:tmps[2]?.getD undef=.pointer (some ⟨b,0,none⟩))
  (h3:tmps[3]?.getD undef=n) (hk:Kept [] w w2) (hX:.tuple #[.agg #[v0,v1,v2,v3],n]=X) :
  bodyPost Tryz.prog Tryz.f116 (fun e w'=>e=.returned X∧Kept [] w w') Exit.ret { tmps:=tmps,defers:=[] } w2:=by
 subst hX;have c0:w2.cell? ⟨b,0,none⟩=some v0:=hb.cell 0;have c1:w2.cell? ⟨b,1,none⟩=some v1:=hb.cell 1;have c2:w2.cell? ⟨b,2,none⟩=some v2:=hb.cell 2;have c3:w2.cell? ⟨b,3,none⟩=some v3:=hb.cell 3;refine bodyPost_ret (v:=.tuple #[.agg #[v0,v1,v2,v3],n]) ?_ rfl ⟨rfl,hk⟩;simp only [results,Tryz.results116]
 simp [go_sem,h2,h3,c0,c1,c2,c3]
set_option maxRecDepth 100000 in
set_option maxHeartbeats 4000000 in
theorem peek_any {B:Nat} {W0:World} {rb:Nat} {ts:List Tok} {a:Option Addr} {c:Nat} {z:Int} {w:World} {i:Nat} (h:Ps B W0 rb ts a c z w i) :
  Calls Tryz.prog 116 #[.pointer (some ⟨rb,0,none⟩)] w fun e w'=>e=.returned (peekV ts[i]?)∧Kept [] w w':=by
 obtain ⟨W,hW⟩:∃ W,w.alloc (.cells #[.int .i64 0,.string ⟨#[]⟩,.int .i64 0,.int .i64 0] 170)=W:=⟨_,rfl⟩;have hB:Blk W w.heap.size 170 #[.int .i64 0,.string ⟨#[]⟩,.int .i64 0,.int .i64 0]:=hW▸Blk.new _ _ _;have hkW:Kept [] w W:=hW▸(Kept.refl _ _).alloc _;have hw:=h.step hkW;have c0:W.cell? ⟨rb,0,none⟩=some (.slice a ts.length c):=hw.blk.cell 0;have c1:W.cell? ⟨rb,1,none⟩=some (.int .i64 i):=hw.blk.cell 1;have hsm:=h.small;have hle:=h.le;have HB:=Lib.hid hB;have HKW:=Lib.hid hkW;have HW:=Lib.hid hW;have q0:∀ v0 v1 v2 v3,Blk ((((W.setCell ⟨w.heap.size,0,none⟩ v0).setCell ⟨w.heap.size,1,none⟩ v1).setCell ⟨w.heap.size,2,none⟩ v2).setCell ⟨w.heap.size,3,none⟩ v3) w.heap.size 170 #[v0,v1,v2,v3]:=fun v0 v1 v2 v3=>(((HB.out.set_ 0 v0).set_ 1 v1).set_ 2 v2).set_ 3 v3
 have k0:∀ v0 v1 v2 v3,Kept [] w ((((W.setCell ⟨w.heap.size,0,none⟩ v0).setCell ⟨w.heap.size,1,none⟩ v1).setCell ⟨w.heap.size,2,none⟩ v2).setCell ⟨w.heap.size,3,none⟩ v3):=fun v0 v1 v2 v3 =>
  (((HKW.out.setCell (Or.inr (Nat.le_refl _)) v0).setCell (Or.inr (Nat.le_refl _)) v1).setCell (Or.inr (Nat.le_refl _)) v2).setCell (Or.inr (Nat.le_refl _)) v3
 have Q0:=Lib.hid q0;have K0:=Lib.hid k0;have z0:W.cell? ⟨w.heap.size,0,none⟩=some (.int .i64 0):=HB.out.cell 0;have z1:W.cell? ⟨w.heap.size,1,none⟩=some (.string ⟨#[]⟩):=HB.out.cell 1;have z2:W.cell? ⟨w.heap.size,2,none⟩=some (.int .i64 0):=HB.out.cell 2;have z3:W.cell? ⟨w.heap.size,3,none⟩=some (.int .i64 0):=HB.out.cell 3;have f0:=HB.out.frozen 0;have f1:=HB.out.frozen 1;have f2:=HB.out.frozen 2;have f3:=HB.out.frozen 3;clear hW hB hkW q0 k0
 by_cases hlt:i < ts.length
 ·have hki:¬ (ts.length:Int)≤(i:Int):=by omega
  obtain ⟨t,ht⟩:∃ t,ts[i]?=some t:=⟨_,List.getElem?_eq_getElem hlt⟩;obtain ⟨b,off,rfl,t0,t1,t2,t3⟩:=hw.tok ht;rw [ht];clear hw h ht
  go_enter Tryz.func116,Tryz.ntmps116
  go_upto_region 1 with (fail);have hW':=HW.out;rw [hW'];clear hW'
  go_quiet ((fail))
  go_wp2_with fail
  go_region
  go_wp2_with fail;exact peek_end (Q0.out _ _ _ _) rfl rfl (((((HKW.out.drewN _).setCell (Or.inr (Nat.le_refl _)) _).setCell (Or.inr (Nat.le_refl _)) _).setCell (Or.inr (Nat.le_refl _)) _).setCell (Or.inr (Nat.le_refl _)) _) rfl
 ·have hki:(ts.length:Int)≤(i:Int):=by omega
  have hn:ts[i]?=none:=List.getElem?_eq_none (by omega);rw [hn];clear hw h hn
  go_enter Tryz.func116,Tryz.ntmps116
  go_upto_region 1 with (fail);have hW':=HW.out;rw [hW'];clear hW'
  go_quiet ((fail))
  go_wp2_with fail;exact peek_end (Q0.out _ _ _ _) rfl rfl (((((HKW.out.drewN _).setCell (Or.inr (Nat.le_refl _)) _).setCell (Or.inr (Nat.le_refl _)) _).setCell (Or.inr (Nat.le_refl _)) _).setCell (Or.inr (Nat.le_refl _)) _) rfl
end Go.Proofs.YtpcmamoomaddoaaGreatDoor
/- The parser's skip, take. -/
namespace Go.Proofs.YtpcmamoomaddoaaGreatDoor
open Go.RowKit
/-- where the parser stands behind a call -/
def PsB (B:Nat) (W0:World) (rb:Nat) (ts:List Tok) (a:Option Addr) (c:Nat) (z:Int) (w:World) (b:Bool) (i:Nat) (e:Ending) (w':World):Prop :=
 e=.returned (.bool b)∧Kept [rb] w w'∧Ps B W0 rb ts a c z w' (if b then i+1 else i)
set_option maxRecDepth 100000 in
set_option maxHeartbeats 4000000 in
theorem skip_any {B:Nat} {W0:World} {rb:Nat} {ts:List Tok} {a:Option Addr} {c:Nat} {z:Int} {w:World} {i:Nat} (h:Ps B W0 rb ts a c z w i) (s:Bs) :
  Calls Tryz.prog 115 #[.pointer (some ⟨rb,0,none⟩),.string ⟨s.toArray⟩] w (PsB B W0 rb ts a c z w (skipP ts s i) i):=by
 have hpk:=Lib.hid (peek_any h);have HP:=Lib.hid h;have hsm:=h.small;have hle:=h.le;obtain ⟨r,hr⟩:∃ r,skipP ts s i=r:=⟨_,rfl⟩;have hr2:=hr
 unfold skipP at hr2
 rw [hr];clear hr h
 cases ht:ts[i]? with
 | none =>
  rw [ht] at hpk hr2
  simp only at hr2
  subst hr2
  go_enter Tryz.func115,Tryz.ntmps115
  go_wp2_with (go_at_call 116;refine hpk.out.mono ?_;unfold peekV;rintro e w5 ⟨rfl,k5⟩);go_ret;exact ⟨rfl,(k5.alloc _).mono (by simp),HP.out.step (k5.alloc _)⟩
 | some t =>
  have hit:i+1≤ts.length:=by
   rcases Nat.lt_or_ge i ts.length with h1|h1
   ·exact h1
   ·rw [List.getElem?_eq_none h1] at ht;cases ht
  rw [ht] at hpk hr2
  simp only at hr2
  go_enter Tryz.func115,Tryz.ntmps115
  go_upto_region 2 with (go_at_call 116;refine hpk.out.mono ?_;unfold peekV;rintro e w5 ⟨rfl,k5⟩);obtain ⟨wA,hwA⟩:∃ x,w5.alloc (.cells #[.int .i64 t.kind,.string ⟨t.text.toArray⟩,.int .i64 t.n,.int .i64 t.pos] 170)=x:=⟨_,rfl⟩;rw [hwA];have hBA:Blk wA w5.heap.size 170 #[.int .i64 t.kind,.string ⟨t.text.toArray⟩,.int .i64 t.n,.int .i64 t.pos]:=hwA▸Blk.new _ _ _;have kA:Kept [] w wA:=hwA▸k5.alloc _;have a0:wA.cell? ⟨w5.heap.size,0,none⟩=some (.int .i64 t.kind):=hBA.cell 0;have a1:wA.cell? ⟨w5.heap.size,1,none⟩=some (.string ⟨t.text.toArray⟩):=hBA.cell 1;have hA:=HP.out.step kA;have c1:wA.cell? ⟨rb,1,none⟩=some (.int .i64 i):=hA.blk.cell 1;have f1:=hA.blk.frozen 1;have KA:=Lib.hid kA;have HA:=Lib.hid hA;clear hwA hBA kA k5 hA ht hpk;obtain ⟨kd,hkd⟩:∃ k,t.kind=k:=⟨_,rfl⟩;obtain ⟨x,hx⟩:∃ x,t.text=x:=⟨_,rfl⟩;rw [hkd,hx] at hr2;rw [hkd] at a0 ⊢;rw [hx] at a1 ⊢;clear hkd hx
  by_cases h3:kd=3
  ·have b3:(kd != 3)=false:=by simp [h3]
   have e1:((kd==3 || kd==0)&&x==s)=(x==s):=by simp [h3]
   rw [e1] at hr2;clear e1 h3
   by_cases hxs:x=s
   ·subst hxs;simp only [beq_self_eq_true] at hr2;subst hr2;go_wp2_with fail;go_ret;refine ⟨rfl,(KA.out.mono (by simp)).setCell (Or.inl (by simp)) _,?_⟩;have:=(HA.out).next_ hit;rw [Int.natCast_add] at this;exact this
   ·have hr3:r=false:=by rw [←hr2];simpa using hxs
    subst hr3
    have hxb:(!x==s)=true:=by simpa using hxs
    clear hr2 hxs;go_wp2_with fail;go_ret;exact ⟨rfl,KA.out.mono (by simp),HA.out⟩
  ·have b3:(kd != 3)=true:=by simp [h3]
   by_cases h0:kd=0
   ·have b0:(kd != 0)=false:=by simp [h0]
    have e1:((kd==3 || kd==0)&&x==s)=(x==s):=by simp [h0]
    rw [e1] at hr2;clear e1 h3 h0
    by_cases hxs:x=s
    ·subst hxs;simp only [beq_self_eq_true] at hr2;subst hr2;go_wp2_with fail;go_ret;refine ⟨rfl,(KA.out.mono (by simp)).setCell (Or.inl (by simp)) _,?_⟩;have:=(HA.out).next_ hit;rw [Int.natCast_add] at this;exact this
    ·have hr3:r=false:=by rw [←hr2];simpa using hxs
     subst hr3
     have hxb:(!x==s)=true:=by simpa using hxs
     clear hr2 hxs;go_wp2_with fail;go_ret;exact ⟨rfl,KA.out.mono (by simp),HA.out⟩
   ·have b0:(kd != 0)=true:=by simp [h0]
    have hr3:r=false:=by rw [←hr2];simp [h3,h0]
    subst hr3;clear hr2 h3 h0;go_wp2_with fail;go_ret;exact ⟨rfl,KA.out.mono (by simp),HA.out⟩
/-- the parser takes one word, or stops -/
def TakeE (B:Nat) (W0:World) (rb:Nat) (ts:List Tok) (a:Option Addr) (c:Nat) (z:Int) (w:World) (r:Res Unit) (e:Ending) (w':World):Prop :=
 match r with
 | .error k=>Fails [rb] w k e w'
 | .ok (_,j)=>e=.returned (.tuple #[])∧Kept [rb] w w'∧Ps B W0 rb ts a c z w' j
set_option maxRecDepth 100000 in
set_option maxHeartbeats 4000000 in
theorem take_any {B:Nat} {W0:World} {rb:Nat} {ts:List Tok} {a:Option Addr} {c:Nat} {z:Int} {w:World} {i:Nat} (h:Ps B W0 rb ts a c z w i) (s:Bs) :
  Calls Tryz.prog 69 #[.pointer (some ⟨rb,0,none⟩),.string ⟨s.toArray⟩] w (TakeE B W0 rb ts a c z w (takeP ts s i)):=by
 have hsk:=Lib.hid (skip_any h s);have hF:=Lib.hid (fun (w5:World) (k:Kept [rb] w w5) (h5:Ps B W0 rb ts a c z w5 i)=>fail_any h5 12 i h5.le (i:Int) rfl)
 unfold takeP
 cases hb:skipP ts s i
 ·rw [hb] at hsk;clear hb h
  go_enter Tryz.func69,Tryz.ntmps69
  go_upto_region 1 with (go_at_call 115;refine hsk.out.mono ?_;rintro e w5 ⟨rfl,k5,h5⟩);have h6:Ps B W0 rb ts a c z w5 i:=h5;have c1:w5.cell? ⟨rb,1,none⟩=some (.int .i64 i):=h6.blk.cell 1;have FF:=Lib.hid (hF.out w5 k5 h6);clear h5;go_wp2_with (go_at_call 72;refine FF.out.mono ?_;rintro e w6 ⟨⟨p,rfl⟩,k6⟩);exact ⟨rfl,⟨p,rfl⟩,k5.trans (k6.mono (by simp))⟩
 ·rw [hb] at hsk;clear hb h hF
  go_enter Tryz.func69,Tryz.ntmps69
  go_wp2_with (go_at_call 115;refine hsk.out.mono ?_;rintro e w5 ⟨rfl,k5,h5⟩)
  go_end0
  exact ⟨rfl,k5,h5⟩
end Go.Proofs.YtpcmamoomaddoaaGreatDoor
/- slices.Contains at strings; free; the parser's name and number. -/
namespace Go.Proofs.YtpcmamoomaddoaaGreatDoor
open Go.RowKit
theorem bytes_inj {x y:Bs} (h:(⟨x.toArray⟩:ByteArray)=⟨y.toArray⟩):x=y:=by
 injection h with h;have:=congrArg Array.toList h
 simpa using this
theorem contains_strs {w:World} {v:Value} {l:List Bs} (h:Row w 1 v l.length (strs l)) (x:Bs) :
  Calls Tryz.prog 63 #[v,.string ⟨x.toArray⟩] w fun e w'=>e=.returned (.bool (l.contains x))∧w'=w:=by
 obtain ⟨a,c,rfl,hn,hc⟩:=h.form
 rcases Nat.eq_zero_or_pos l.length with h0|hp
 ·have:=List.eq_nil_of_length_eq_zero h0;subst this;exact Tryz.slices_Contains_string_empty a c _ w
 ·obtain ⟨b,off,rfl,hcell⟩:=h.at_ hp
  have:=Tryz.slices_Contains_string b off l.length c (l.map fun s=>⟨s.toArray⟩) ⟨x.toArray⟩ w (by simp) hn (fun j hj=>by
   rw [List.length_map] at hj;rw [hcell j _ (strs_get hj)]
   simp [List.getD_eq_getElem?_getD,hj])
  refine this.mono ?_;rintro e w' ⟨rfl,rfl⟩;refine ⟨?_,rfl⟩
  congr 2
  rw [List.take_of_length_le (by simp),Bool.eq_iff_iff,Lib.containsS_iff,List.contains_iff_mem,List.mem_map]
  constructor
  ·rintro ⟨y,hy,he⟩;exact bytes_inj he▸hy
  ·intro hy;exact ⟨x,hy,rfl⟩
set_option maxRecDepth 100000 in
set_option maxHeartbeats 1000000 in
theorem free_any {B:Nat} (s:Bs) (w:World) (hs:s.length≤100000000) (hE:EnvB B w) :
  Calls Tryz.prog 108 #[.string ⟨s.toArray⟩] w fun e w'=>e=.returned (.bool (freeB s))∧w=w':=by
 have hn:=Lib.hid (name_any s w hs);obtain ⟨b,off,c,_,h8,hv,hc⟩:=hE.res;have hrow:Row w 1 (.slice (some ⟨b,off,none⟩) 8 c) reservedB.length (strs reservedB):=⟨rfl,by decide,_,_,rfl,h8,fun _=>⟨b,off,rfl,hc⟩⟩;have HC:=Lib.hid (contains_strs hrow s)
 have g0:w.cell? ⟨0,0,none⟩=some (.slice (some ⟨b,off,none⟩) 8 c):=by rw [var_cell g_reserved hv 0];rfl
 obtain ⟨r,hr⟩:∃ r,reservedB.contains s=r:=⟨_,rfl⟩;rw [hr] at HC
 have HR:Hid (freeB s=(nameB s&&!r)):=by unfold freeB;rw [hr];rfl
 clear hv hc hrow hr hE
 cases hb:nameB s
 ·rw [hb] at hn HR
  go_enter Tryz.func108,Tryz.ntmps108
  go_wp2_with (go_at_call 61;refine hn.out.mono ?_;rintro e w' ⟨rfl,rfl⟩);go_ret;exact ⟨by rw [HR.out];rfl,rfl⟩
 ·rw [hb] at hn HR
  go_enter Tryz.func108,Tryz.ntmps108
  go_wp2_with (first
   | (go_at_call 61;refine hn.out.mono ?_;rintro e w' ⟨rfl,rfl⟩)
   | (go_at_call 63;refine HC.out.mono ?_;rintro e w' ⟨rfl,rfl⟩))
  go_ret;exact ⟨by rw [HR.out];simp,rfl⟩
end Go.Proofs.YtpcmamoomaddoaaGreatDoor
namespace Go.Proofs.YtpcmamoomaddoaaGreatDoor
open Go.RowKit
def NameE (B:Nat) (W0:World) (rb:Nat) (ts:List Tok) (a:Option Addr) (c:Nat) (z:Int) (w:World) (r:Res Bs) (e:Ending) (w':World):Prop :=
 match r with
 | .error k=>Fails [rb] w k e w'
 | .ok (s,j)=>e=.returned (.string ⟨s.toArray⟩)∧Kept [rb] w w'∧Ps B W0 rb ts a c z w' j
def NumE (B:Nat) (W0:World) (rb:Nat) (ts:List Tok) (a:Option Addr) (c:Nat) (z:Int) (w:World) (r:Res Int) (e:Ending) (w':World):Prop :=
 match r with
 | .error k=>Fails [rb] w k e w'
 | .ok (n,j)=>e=.returned (.int .i64 n)∧Kept [rb] w w'∧Ps B W0 rb ts a c z w' j
set_option maxRecDepth 100000 in
set_option maxHeartbeats 4000000 in
theorem pname_any {B:Nat} {W0:World} {rb:Nat} {ts:List Tok} {a:Option Addr} {c:Nat} {z:Int} {w:World} {i:Nat} (h:Ps B W0 rb ts a c z w i) :
  Calls Tryz.prog 70 #[.pointer (some ⟨rb,0,none⟩)] w (NameE B W0 rb ts a c z w (nameP ts i)):=by
 have hpk:=Lib.hid (peek_any h);have HP:=Lib.hid h;have hF:=Lib.hid (fun (w5:World) (k:Kept [] w w5)=>fail_any (h.step k) 12 i h.le (i:Int) rfl);have hsm:=h.small;have hle:=h.le;obtain ⟨r,hr⟩:∃ r,nameP ts i=r:=⟨_,rfl⟩;have hr2:=hr
 unfold nameP at hr2
 rw [hr];clear hr h
 cases ht:ts[i]? with
 | none =>
  rw [ht] at hpk hr2
  simp only at hr2
  subst hr2;clear ht
  go_enter Tryz.func70,Tryz.ntmps70
  go_upto_region 3 with (go_at_call 116;refine hpk.out.mono ?_;unfold peekV;rintro e w5 ⟨rfl,k5⟩);obtain ⟨wA,hwA⟩:∃ x,w5.alloc (.cells #[.int .i64 0,.string ⟨#[]⟩,.int .i64 0,.int .i64 0] 170)=x:=⟨_,rfl⟩;rw [hwA];have kA:Kept [] w wA:=hwA▸k5.alloc _;have c1:wA.cell? ⟨rb,1,none⟩=some (.int .i64 i):=(HP.out.step kA).blk.cell 1;have FF:=Lib.hid (hF.out wA kA);clear hwA k5;go_wp2_with (go_at_call 72;refine FF.out.mono ?_;rintro e w6 ⟨⟨p,rfl⟩,k6⟩);exact ⟨rfl,⟨p,rfl⟩,(kA.trans k6).mono (by simp)⟩
 | some t =>
  have hit:i+1≤ts.length:=by
   rcases Nat.lt_or_ge i ts.length with h1|h1
   ·exact h1
   ·rw [List.getElem?_eq_none h1] at ht;cases ht
  have hok:=HP.out.ok t (List.mem_of_getElem? ht);rw [ht] at hpk hr2
  simp only at hr2
  go_enter Tryz.func70,Tryz.ntmps70
  go_upto_region 2 with (go_at_call 116;refine hpk.out.mono ?_;unfold peekV;rintro e w5 ⟨rfl,k5⟩);obtain ⟨wA,hwA⟩:∃ x,w5.alloc (.cells #[.int .i64 t.kind,.string ⟨t.text.toArray⟩,.int .i64 t.n,.int .i64 t.pos] 170)=x:=⟨_,rfl⟩;rw [hwA];have hBA:Blk wA w5.heap.size 170 #[.int .i64 t.kind,.string ⟨t.text.toArray⟩,.int .i64 t.n,.int .i64 t.pos]:=hwA▸Blk.new _ _ _;have kA:Kept [] w wA:=hwA▸k5.alloc _;have a0:wA.cell? ⟨w5.heap.size,0,none⟩=some (.int .i64 t.kind):=hBA.cell 0;have a1:wA.cell? ⟨w5.heap.size,1,none⟩=some (.string ⟨t.text.toArray⟩):=hBA.cell 1;have hA:=HP.out.step kA;have c1:wA.cell? ⟨rb,1,none⟩=some (.int .i64 i):=hA.blk.cell 1;have f1:=hA.blk.frozen 1
  have hne:w5.heap.size≠rb:=by
   intro e;have:=(HP.out.step k5).blk.lt;omega
  have KA:=Lib.hid kA;have HA:=Lib.hid hA;have FF:=Lib.hid (hF.out wA kA);have hfr:=Lib.hid (free_any t.text wA (by omega) hA.envw);clear hwA hBA kA k5 hA ht hpk hF;obtain ⟨kd,hkd⟩:∃ k,t.kind=k:=⟨_,rfl⟩;obtain ⟨x,hx⟩:∃ x,t.text=x:=⟨_,rfl⟩;rw [hkd,hx] at hr2;rw [hkd] at a0 ⊢;rw [hx] at a1 hfr ⊢;clear hkd hx hok
  by_cases h0:kd=0
  ·have b0:(kd != 0)=false:=by simp [h0]
   have e1:(kd==0&&freeB x)=freeB x:=by simp [h0]
   rw [e1] at hr2;clear e1 h0
   cases hf:freeB x
   ·rw [hf] at hfr hr2;rw [if_neg (by simp)] at hr2;subst hr2
    go_wp2_with (first
     | (go_at_call 108;refine hfr.out.mono ?_;rintro e w' ⟨rfl,rfl⟩)
     | (go_at_call 72;refine FF.out.mono ?_;rintro e w6 ⟨⟨p,rfl⟩,k6⟩))
    exact ⟨rfl,⟨p,rfl⟩,(KA.out.trans k6).mono (by simp)⟩
   ·rw [hf] at hfr hr2;rw [if_pos rfl] at hr2;subst hr2;go_wp2_with (go_at_call 108;refine hfr.out.mono ?_;rintro e w' ⟨rfl,rfl⟩);go_ret;refine ⟨rfl,(KA.out.mono (by simp)).setCell (Or.inl (by simp)) _,?_⟩;have:=(HA.out).next_ hit;rw [Int.natCast_add] at this;exact this
  ·have b0:(kd != 0)=true:=by simp [h0]
   rw [if_neg (by simp [h0])] at hr2;subst hr2;clear h0 hfr;go_wp2_with (go_at_call 72;refine FF.out.mono ?_;rintro e w6 ⟨⟨p,rfl⟩,k6⟩);exact ⟨rfl,⟨p,rfl⟩,(KA.out.trans k6).mono (by simp)⟩
set_option maxRecDepth 100000 in
set_option maxHeartbeats 4000000 in
theorem pnum_any {B:Nat} {W0:World} {rb:Nat} {ts:List Tok} {a:Option Addr} {c:Nat} {z:Int} {w:World} {i:Nat} (h:Ps B W0 rb ts a c z w i) :
  Calls Tryz.prog 233 #[.pointer (some ⟨rb,0,none⟩)] w (NumE B W0 rb ts a c z w (numberP ts i)):=by
 have hpk:=Lib.hid (peek_any h);have HP:=Lib.hid h;have hF:=Lib.hid (fun (w5:World) (k:Kept [] w w5)=>fail_any (h.step k) 12 i h.le (i:Int) rfl);have hsm:=h.small;have hle:=h.le;obtain ⟨r,hr⟩:∃ r,numberP ts i=r:=⟨_,rfl⟩;have hr2:=hr
 unfold numberP at hr2
 rw [hr];clear hr h
 cases ht:ts[i]? with
 | none =>
  rw [ht] at hpk hr2
  simp only at hr2
  subst hr2;clear ht
  go_enter Tryz.func233,Tryz.ntmps233
  go_upto_region 3 with (go_at_call 116;refine hpk.out.mono ?_;unfold peekV;rintro e w5 ⟨rfl,k5⟩);obtain ⟨wA,hwA⟩:∃ x,w5.alloc (.cells #[.int .i64 0,.string ⟨#[]⟩,.int .i64 0,.int .i64 0] 170)=x:=⟨_,rfl⟩;rw [hwA];have kA:Kept [] w wA:=hwA▸k5.alloc _;have c1:wA.cell? ⟨rb,1,none⟩=some (.int .i64 i):=(HP.out.step kA).blk.cell 1;have FF:=Lib.hid (hF.out wA kA);clear hwA k5;go_wp2_with (go_at_call 72;refine FF.out.mono ?_;rintro e w6 ⟨⟨p,rfl⟩,k6⟩);exact ⟨rfl,⟨p,rfl⟩,(kA.trans k6).mono (by simp)⟩
 | some t =>
  have hit:i+1≤ts.length:=by
   rcases Nat.lt_or_ge i ts.length with h1|h1
   ·exact h1
   ·rw [List.getElem?_eq_none h1] at ht;cases ht
  rw [ht] at hpk hr2
  simp only at hr2
  go_enter Tryz.func233,Tryz.ntmps233
  go_upto_region 2 with (go_at_call 116;refine hpk.out.mono ?_;unfold peekV;rintro e w5 ⟨rfl,k5⟩);obtain ⟨wA,hwA⟩:∃ x,w5.alloc (.cells #[.int .i64 t.kind,.string ⟨t.text.toArray⟩,.int .i64 t.n,.int .i64 t.pos] 170)=x:=⟨_,rfl⟩;rw [hwA];have hBA:Blk wA w5.heap.size 170 #[.int .i64 t.kind,.string ⟨t.text.toArray⟩,.int .i64 t.n,.int .i64 t.pos]:=hwA▸Blk.new _ _ _;have kA:Kept [] w wA:=hwA▸k5.alloc _;have a0:wA.cell? ⟨w5.heap.size,0,none⟩=some (.int .i64 t.kind):=hBA.cell 0;have a2:wA.cell? ⟨w5.heap.size,2,none⟩=some (.int .i64 t.n):=hBA.cell 2;have hA:=HP.out.step kA;have c1:wA.cell? ⟨rb,1,none⟩=some (.int .i64 i):=hA.blk.cell 1;have f1:=hA.blk.frozen 1
  have hne:w5.heap.size≠rb:=by
   intro e;have:=(HP.out.step k5).blk.lt;omega
  have KA:=Lib.hid kA;have HA:=Lib.hid hA;have FF:=Lib.hid (hF.out wA kA);clear hwA hBA kA k5 hA ht hpk hF;obtain ⟨kd,hkd⟩:∃ k,t.kind=k:=⟨_,rfl⟩;rw [hkd] at hr2;rw [hkd] at a0 ⊢;clear hkd
  by_cases h1:kd=1
  ·have b1:(kd != 1)=false:=by simp [h1]
   rw [if_pos (by simp [h1])] at hr2;subst hr2;clear h1 FF;go_wp2_with fail;go_ret;refine ⟨rfl,(KA.out.mono (by simp)).setCell (Or.inl (by simp)) _,?_⟩;have:=(HA.out).next_ hit;rw [Int.natCast_add] at this;exact this
  ·have b1:(kd != 1)=true:=by simp [h1]
   rw [if_neg (by simp [h1])] at hr2;subst hr2;clear h1;go_wp2_with (go_at_call 72;refine FF.out.mono ?_;rintro e w6 ⟨⟨p,rfl⟩,k6⟩);exact ⟨rfl,⟨p,rfl⟩,(KA.out.trans k6).mono (by simp)⟩
end Go.Proofs.YtpcmamoomaddoaaGreatDoor
