/- ask.Parse. -/
import Derived.Test.YtpcmamoomaddoaaGreatDoorScp
import Derived.Test.YtpcmamoomaddoaaGreatDoorSiz
namespace Go.Proofs.YtpcmamoomaddoaaGreatDoor
open Go.RowKit
/-- the named results of Parse, in four blocks of their own -/
structure PB (w:World) (b:Nat) (nm:Bs) (ps:Array Value) (at_ er:Int):Prop where
 h0:Blk w b 9 #[.string ⟨nm.toArray⟩]
 h1:Blk w (b+1) 46 ps
 h2:Blk w (b+1+1) 3 #[.int .i64 at_]
 h3:Blk w (b+1+1+1) 31 #[.int .i64 er]
theorem PB.kept {w w':World} {b:Nat} {nm:Bs} {ps:Array Value} {at_ er:Int} {S:List Nat} (h:PB w b nm ps at_ er) (k:Kept S w w') (hS:∀ y∈S,y < b∨b+3 < y):PB w' b nm ps at_ er :=
 ⟨h.h0.kept k (fun hm=>by have:=hS _ hm;omega),h.h1.kept k (fun hm=>by have:=hS _ hm;omega),h.h2.kept k (fun hm=>by have:=hS _ hm;omega),h.h3.kept k (fun hm=>by have:=hS _ hm;omega)⟩
theorem PB.all {w:World} {b:Nat} {nm:Bs} {v0 v1 v2 v3 v4:Value} {at_ er:Int} (h:PB w b nm #[v0,v1,v2,v3,v4] at_ er) (nm':Bs) (u0 u1 u2 u3 u4:Value) (at' er':Int) :
  PB ((((((((w.setCell ⟨b,0,none⟩ (.string ⟨nm'.toArray⟩)).setCell ⟨b+1,0,none⟩ u0).setCell ⟨b+1,1,none⟩ u1).setCell ⟨b+1,2,none⟩ u2).setCell ⟨b+1,3,none⟩ u3).setCell ⟨b+1,4,none⟩ u4).setCell ⟨b+1+1,0,none⟩ (.int .i64 at')).setCell ⟨b+1+1+1,0,none⟩ (.int .i64 er')) b nm' #[u0,u1,u2,u3,u4] at' er' :=
 ⟨(((((((h.h0.set_ 0 _).far (p:=⟨b+1,0,none⟩) (by simp) _).far (p:=⟨b+1,1,none⟩) (by simp) _).far (p:=⟨b+1,2,none⟩) (by simp) _).far (p:=⟨b+1,3,none⟩) (by simp) _).far (p:=⟨b+1,4,none⟩) (by simp) _).far (p:=⟨b+1+1,0,none⟩) (by simp <;> omega) _).far (p:=⟨b+1+1+1,0,none⟩) (by simp <;> omega) _,
  (((((((h.h1.far (p:=⟨b,0,none⟩) (by simp) _).set_ 0 _).set_ 1 _).set_ 2 _).set_ 3 _).set_ 4 _).far (p:=⟨b+1+1,0,none⟩) (by simp) _).far (p:=⟨b+1+1+1,0,none⟩) (by simp <;> omega) _,
  (((((((h.h2.far (p:=⟨b,0,none⟩) (by simp <;> omega) _).far (p:=⟨b+1,0,none⟩) (by simp) _).far (p:=⟨b+1,1,none⟩) (by simp) _).far (p:=⟨b+1,2,none⟩) (by simp) _).far (p:=⟨b+1,3,none⟩) (by simp) _).far (p:=⟨b+1,4,none⟩) (by simp) _).set_ 0 _).far (p:=⟨b+1+1+1,0,none⟩) (by simp) _,
  (((((((h.h3.far (p:=⟨b,0,none⟩) (by simp <;> omega) _).far (p:=⟨b+1,0,none⟩) (by simp <;> omega) _).far (p:=⟨b+1,1,none⟩) (by simp <;> omega) _).far (p:=⟨b+1,2,none⟩) (by simp <;> omega) _).far (p:=⟨b+1,3,none⟩) (by simp <;> omega) _).far (p:=⟨b+1,4,none⟩) (by simp <;> omega) _).far (p:=⟨b+1+1,0,none⟩) (by simp) _).set_ 0 _⟩
theorem PB.all_kept {w0 w:World} {b:Nat} {x u0 u1 u2 u3 u4 y z:Value} (k:Kept [] w0 w) (hb:w0.heap.size=b) :
  Kept [] w0 ((((((((w.setCell ⟨b,0,none⟩ x).setCell ⟨b+1,0,none⟩ u0).setCell ⟨b+1,1,none⟩ u1).setCell ⟨b+1,2,none⟩ u2).setCell ⟨b+1,3,none⟩ u3).setCell ⟨b+1,4,none⟩ u4).setCell ⟨b+1+1,0,none⟩ y).setCell ⟨b+1+1+1,0,none⟩ z) :=
 (((((((k.setCell (Or.inr (by show w0.heap.size≤b;omega)) _).setCell (Or.inr (by show w0.heap.size≤b+1;omega)) _).setCell (Or.inr (by show w0.heap.size≤b+1;omega)) _).setCell (Or.inr (by show w0.heap.size≤b+1;omega)) _).setCell (Or.inr (by show w0.heap.size≤b+1;omega)) _).setCell (Or.inr (by show w0.heap.size≤b+1;omega)) _).setCell (Or.inr (by show w0.heap.size≤b+1+1;omega)) _).setCell (Or.inr (by show w0.heap.size≤b+1+1+1;omega)) _
theorem PB.all_keptS (w:World) (b:Nat) (x u0 u1 u2 u3 u4 y z:Value) :
  Kept [b,b+1,b+1+1,b+1+1+1] w ((((((((w.setCell ⟨b,0,none⟩ x).setCell ⟨b+1,0,none⟩ u0).setCell ⟨b+1,1,none⟩ u1).setCell ⟨b+1,2,none⟩ u2).setCell ⟨b+1,3,none⟩ u3).setCell ⟨b+1,4,none⟩ u4).setCell ⟨b+1+1,0,none⟩ y).setCell ⟨b+1+1+1,0,none⟩ z) :=
 ((((((((Kept.refl _ w).setCell (Or.inl (by simp)) _).setCell (Or.inl (by simp)) _).setCell (Or.inl (by simp)) _).setCell (Or.inl (by simp)) _).setCell (Or.inl (by simp)) _).setCell (Or.inl (by simp)) _).setCell (Or.inl (by simp)) _).setCell (Or.inl (by simp)) _
theorem PB.two {w:World} {b:Nat} {nm:Bs} {ps:Array Value} {at_ er:Int} (h:PB w b nm ps at_ er) (at' er':Int):PB ((w.setCell ⟨b+1+1,0,none⟩ (.int .i64 at')).setCell ⟨b+1+1+1,0,none⟩ (.int .i64 er')) b nm ps at' er' :=
 ⟨(h.h0.far (p:=⟨b+1+1,0,none⟩) (by simp <;> omega) _).far (p:=⟨b+1+1+1,0,none⟩) (by simp <;> omega) _,(h.h1.far (p:=⟨b+1+1,0,none⟩) (by simp) _).far (p:=⟨b+1+1+1,0,none⟩) (by simp <;> omega) _,(h.h2.set_ 0 _).far (p:=⟨b+1+1+1,0,none⟩) (by simp) _,(h.h3.far (p:=⟨b+1+1,0,none⟩) (by simp) _).set_ 0 _⟩
theorem PB.two_kept {w0 w:World} {b:Nat} {y z:Value} (k:Kept [] w0 w) (hb:w0.heap.size=b):Kept [] w0 ((w.setCell ⟨b+1+1,0,none⟩ y).setCell ⟨b+1+1+1,0,none⟩ z) :=
 (k.setCell (Or.inr (by show w0.heap.size≤b+1+1;omega)) _).setCell (Or.inr (by show w0.heap.size≤b+1+1+1;omega)) _
theorem PB.drew {w:World} {b:Nat} {nm:Bs} {ps:Array Value} {at_ er:Int} (h:PB w b nm ps at_ er):PB w.drew b nm ps at_ er:=⟨h.h0.drew,h.h1.drew,h.h2.drew,h.h3.drew⟩
theorem Kept.both {w w':World} (k:Kept [] w w') {p:Addr} (v:Value):Kept [] (w.setCell p v) (w'.setCell p v) :=
 ⟨k.os,k.tape,k.output,by simpa [World.setCell] using k.size,fun i hi _=>by
  have hi':i < w.heap.size:=by simpa [World.setCell] using hi
  have:=k.block i hi' (by simp);simp only [World.setCell,Array.getElem?_modify]
  rw [this]⟩
theorem Ps.both {B:Nat} {W0:World} {rb:Nat} {ts:List Tok} {a:Option Addr} {c:Nat} {z:Int} {w:World} {i:Nat} (h:Ps B W0 rb ts a c z w i) {p:Addr} (v:Value) (h1:p.block < W0.heap.size) (h2:B≤p.block) (h3:RowOf TokR 4 (W0.setCell p v) (.slice a ts.length c) ts) :
  Ps B (W0.setCell p v) rb ts a c z (w.setCell p v) i :=
 ⟨h.env.kept ((Kept.refl [p.block] W0).setCell (Or.inl (by simp)) v) (fun k hk=>by rw [List.mem_singleton] at hk;exact hk▸h2),h.kept.both v,by simpa [World.setCell] using h.lo,h3,h.blk.far (by have:=h.lo;omega) v,h.small,h.ok,h.le⟩
theorem Ps.both5 {B:Nat} {V:World} {rb:Nat} {ts:List Tok} {a:Option Addr} {c:Nat} {z:Int} {w:World} {i:Nat} (h:Ps B V rb ts a c z w i) {g n:Nat} (hg:g < V.heap.size) (hB:B≤g) (hn:g < n) (hrow:Stable (List.range n) (fun w=>RowOf TokR 4 w (.slice a ts.length c) ts) V) (u0 u1 u2 u3 u4:Value) :
  Ps B (((((V.setCell ⟨g,0,none⟩ u0).setCell ⟨g,1,none⟩ u1).setCell ⟨g,2,none⟩ u2).setCell ⟨g,3,none⟩ u3).setCell ⟨g,4,none⟩ u4) rb ts a c z (((((w.setCell ⟨g,0,none⟩ u0).setCell ⟨g,1,none⟩ u1).setCell ⟨g,2,none⟩ u2).setCell ⟨g,3,none⟩ u3).setCell ⟨g,4,none⟩ u4) i:=by
 have st:∀ {V:World} {k:Nat} (u:Value),Stable (List.range n) (fun w=>RowOf TokR 4 w (.slice a ts.length c) ts) V→Stable (List.range n) (fun w=>RowOf TokR 4 w (.slice a ts.length c) ts) (V.setCell ⟨g,k,none⟩ u):=fun u hs =>
  hs.step ((Kept.refl [g] _).setCell (Or.inl (by simp)) _) (fun y hy _=>by rw [List.mem_singleton] at hy;exact List.mem_range.2 (by omega)) (fun y hy=>Or.inl hy)
 have s0:=st (k:=0) u0 hrow;have s1:=st (k:=1) u1 s0;have s2:=st (k:=2) u2 s1;have s3:=st (k:=3) u3 s2;have s4:=st (k:=4) u4 s3;have h0:=h.both (p:=⟨g,0,none⟩) u0 hg hB s0.get;have h1:=h0.both (p:=⟨g,1,none⟩) u1 (by simpa [World.setCell] using hg) hB s1.get;have h2:=h1.both (p:=⟨g,2,none⟩) u2 (by simpa [World.setCell] using hg) hB s2.get;have h3:=h2.both (p:=⟨g,3,none⟩) u3 (by simpa [World.setCell] using hg) hB s3.get;exact h3.both (p:=⟨g,4,none⟩) u4 (by simpa [World.setCell] using hg) hB s4.get
def ParseE (s:Bs) (w:World) (e:Ending) (w':World):Prop :=
 Kept [] w w'∧match parseB s with
 | .error c=>∃ at_:Int,e=.returned (.tuple #[.string ⟨#[]⟩,.agg #[.int .i64 0,.string ⟨#[]⟩,.string ⟨#[]⟩,.int .i64 0,.slice none 0 0],.int .i64 at_,.int .i64 c])
 | .ok (nm,p)=>∃ cs:List Value,e=.returned (.tuple #[.string ⟨nm.toArray⟩,.agg cs.toArray,.int .i64 0,.int .i64 0])∧Stable (List.range w.heap.size) (fun w=>PdR w cs p) w'
section
variable {w2:World} {b:Nat} {nm:Bs} {v0 v1 v2 v3 v4:Value} {at_ er:Int} {tmps:Array Value} {R:Ending→World→Prop}
theorem res_parse (h:PB w2 b nm #[v0,v1,v2,v3,v4] at_ er) (t2:tmps[2]?.getD undef=.pointer (some ⟨b,0,none⟩)) (t3:tmps[3]?.getD undef=.pointer (some ⟨b+1,0,none⟩)) (t4:tmps[4]?.getD undef=.pointer (some ⟨b+1+1,0,none⟩)) (t5:tmps[5]?.getD undef=.pointer (some ⟨b+1+1+1,0,none⟩)) :
  (results Tryz.f31 tmps).run Tryz.prog w2=.ok (.tuple #[.string ⟨nm.toArray⟩,.agg #[v0,v1,v2,v3,v4],.int .i64 at_,.int .i64 er]) w2:=by
 have c0:w2.cell? ⟨b,0,none⟩=some (.string ⟨nm.toArray⟩):=h.h0.cell 0;have p0:w2.cell? ⟨b+1,0,none⟩=some v0:=h.h1.cell 0;have p1:w2.cell? ⟨b+1,1,none⟩=some v1:=h.h1.cell 1;have p2:w2.cell? ⟨b+1,2,none⟩=some v2:=h.h1.cell 2;have p3:w2.cell? ⟨b+1,3,none⟩=some v3:=h.h1.cell 3;have p4:w2.cell? ⟨b+1,4,none⟩=some v4:=h.h1.cell 4;have y0:w2.cell? ⟨b+1+1,0,none⟩=some (.int .i64 at_):=h.h2.cell 0;have z0:w2.cell? ⟨b+1+1+1,0,none⟩=some (.int .i64 er):=h.h3.cell 0;simp only [results,Tryz.results31]
 simp [go_sem,t2,t3,t4,t5,c0,p0,p1,p2,p3,p4,y0,z0]
theorem parse_ret (h:PB w2 b nm #[v0,v1,v2,v3,v4] at_ er) (t2:tmps[2]?.getD undef=.pointer (some ⟨b,0,none⟩)) (t3:tmps[3]?.getD undef=.pointer (some ⟨b+1,0,none⟩)) (t4:tmps[4]?.getD undef=.pointer (some ⟨b+1+1,0,none⟩)) (t5:tmps[5]?.getD undef=.pointer (some ⟨b+1+1+1,0,none⟩))
  (hR:R (.returned (.tuple #[.string ⟨nm.toArray⟩,.agg #[v0,v1,v2,v3,v4],.int .i64 at_,.int .i64 er])) w2):bodyPostD Tryz.prog Tryz.f31 R Exit.ret { tmps:=tmps,defers:=[] } w2:=⟨_,res_parse h t2 t3 t4 t5,hR⟩
def dfr (b:Nat):List Deferred:=[{ target:=.fn (.func 68) #[.pointer (some ⟨b,0,none⟩),.pointer (some ⟨b+1,0,none⟩),.pointer (some ⟨b+1+1,0,none⟩),.pointer (some ⟨b+1+1+1,0,none⟩)],args:=#[] }]
theorem parse_ret1 (h:PB w2 b nm #[v0,v1,v2,v3,v4] at_ er) (t2:tmps[2]?.getD undef=.pointer (some ⟨b,0,none⟩)) (t3:tmps[3]?.getD undef=.pointer (some ⟨b+1,0,none⟩)) (t4:tmps[4]?.getD undef=.pointer (some ⟨b+1+1,0,none⟩)) (t5:tmps[5]?.getD undef=.pointer (some ⟨b+1+1+1,0,none⟩))
  (hR:R (.returned (.tuple #[.string ⟨nm.toArray⟩,.agg #[v0,v1,v2,v3,v4],.int .i64 at_,.int .i64 er])) w2):bodyPostD Tryz.prog Tryz.f31 R Exit.ret { tmps:=tmps,defers:=dfr b } w2:=by
 show Leaves _ _ _ _ (dfr b) .returning w2
 unfold dfr
 refine leaves_cons (f:=68) (args:=#[.pointer (some ⟨b,0,none⟩),.pointer (some ⟨b+1,0,none⟩),.pointer (some ⟨b+1+1,0,none⟩),.pointer (some ⟨b+1+1+1,0,none⟩)]) (by simp) (by simp [go_sem]) ?_;refine (catch_idle _ _ _ _ w2).mono ?_;rintro e u w3 ⟨rfl,rfl,rfl⟩;exact ⟨_,res_parse h t2 t3 t4 t5,hR⟩
theorem parse_panic {c p:Int} (h:PB w2 b nm #[v0,v1,v2,v3,v4] at_ er) (t2:tmps[2]?.getD undef=.pointer (some ⟨b,0,none⟩)) (t3:tmps[3]?.getD undef=.pointer (some ⟨b+1,0,none⟩)) (t4:tmps[4]?.getD undef=.pointer (some ⟨b+1+1,0,none⟩)) (t5:tmps[5]?.getD undef=.pointer (some ⟨b+1+1+1,0,none⟩))
  (hR:∀ w3,Kept [b,b+1,b+2,b+3] w2 w3→R (.returned (.tuple #[.string ⟨#[]⟩,.agg #[.int .i64 0,.string ⟨#[]⟩,.string ⟨#[]⟩,.int .i64 0,.slice none 0 0],.int .i64 p,.int .i64 c])) w3) :
  bodyPostD Tryz.prog Tryz.f31 R (Exit.panic [{ v:=.iface 127 (.agg #[.int .i64 c,.int .i64 p]),recovered:=false }]) { tmps:=tmps,defers:=dfr b } w2:=by
 show Leaves _ _ _ _ (dfr b) (.panicking _) w2
 unfold dfr
 refine leaves_cons (f:=68) (args:=#[.pointer (some ⟨b,0,none⟩),.pointer (some ⟨b+1,0,none⟩),.pointer (some ⟨b+1+1,0,none⟩),.pointer (some ⟨b+1+1+1,0,none⟩)]) (by simp) (by simp [go_sem]) ?_;refine (catch_fail b c p [] w2 h.h0 h.h1 h.h2 h.h3).mono ?_;rintro e u w3 ⟨rfl,rfl,k3,b0,b1,b2,b3⟩;exact ⟨_,res_parse (nm:=[]) ⟨b0,b1,b2,b3⟩ t2 t3 t4 t5,hR w3 k3⟩
end
set_option maxRecDepth 100000 in
set_option maxHeartbeats 4000000 in
theorem parse_any (B:Nat) (s:Bs) (w:World) (hs:s.length≤100000000) (hE:EnvB B w) :
  Calls Tryz.prog 31 #[.string ⟨s.toArray⟩] w (ParseE s w):=by
 have hmf:∀ (fn:Fn) (first cap:Array Value) (w:World),(Instr.makeFunc fn first cap).run Tryz.prog w=.ok (.func fn first cap) w:=fun _ _ _ _=>rfl;obtain ⟨R,hR⟩:∃ R,parseB s=R:=⟨_,rfl⟩;have hR2:=hR
 unfold parseB at hR2
 unfold ParseE
 rw [hR];obtain ⟨b,hb⟩:∃ b,w.heap.size=b:=⟨_,rfl⟩;obtain ⟨W,hW⟩:∃ W,(((w.alloc (.cells #[.string ⟨#[]⟩] 9)).alloc (.cells #[.int .i64 0,.string ⟨#[]⟩,.string ⟨#[]⟩,.int .i64 0,.slice none 0 0] 46)).alloc (.cells #[.int .i64 0] 3)).alloc (.cells #[.int .i64 0] 31)=W:=⟨_,rfl⟩;have hkW:Kept [] w W:=hW▸((((Kept.refl _ _).alloc _).alloc _).alloc _).alloc _
 have hPB:PB W b [] #[.int .i64 0,.string ⟨#[]⟩,.string ⟨#[]⟩,.int .i64 0,.slice none 0 0] 0 0:=by
  rw [←hW,←hb];exact ⟨(((Blk.new _ _ _).alloc _).alloc _).alloc _,((Blk.new1 _ _ _ _).alloc _).alloc _,(Blk.new2 _ _ _ _ _).alloc _,Blk.new3 _ _ _ _ _ _⟩
 have H1:=Lib.hid (scan_any B s W hs (hE.kept0 hkW));have hEW:=hE.kept0 hkW;have HE:=Lib.hid hEW;have HK:=Lib.hid hkW;have HPB:=Lib.hid hPB;have HW:=Lib.hid hW;have HR2:=Lib.hid hR2;have HBW:=Lib.hid hb;have hBb:B≤b:=hb▸hE.size;clear hW hkW hPB hE hR hR2 hEW
 go_enter_defers Tryz.func31,Tryz.ntmps31
 go_upto_region 1 with (fail);have hW':=HW.out;rw [hW'];clear hW';clear hb
 have hcase:(∃ c:Int,c≠0∧R=.error c∧Hid (Calls Tryz.prog 67 #[.string ⟨s.toArray⟩] W fun e w'=>(∃ a:Int,e=.returned (.tuple #[.slice none 0 0,.int .i64 a,.int .i64 c]))∧Kept [] W w')) ∨
   (∃ ts,s.length≤4000∧scanB (s.length+1) s 0 []=.ok ts∧Hid (Calls Tryz.prog 67 #[.string ⟨s.toArray⟩] W fun e w'=>∃ a cc,e=.returned (.tuple #[.slice a ts.length cc,.int .i64 0,.int .i64 0])∧Kept [] W w'∧Stable (List.range W.heap.size) (fun w=>RowOf TokR 4 w (.slice a ts.length cc) ts) w'∧ts.length≤s.length)):=by
  have hR:=HR2.out
  by_cases hlong:4000 < s.length
  ·rw [if_pos hlong] at hR;refine Or.inl ⟨6,by decide,hR.symm,Lib.hid (H1.out.mono ?_)⟩;rintro e w1 ⟨k,h|h⟩
   ·exact ⟨⟨0,h.2⟩,k⟩
   ·omega
  ·rw [if_neg hlong] at hR
   cases hsc:scanB (s.length+1) s 0 [] with
   | error c =>
    rw [hsc] at hR;refine Or.inl ⟨c,scan_ne _ _ _ _ _ (by omega) hsc,hR.symm,Lib.hid (H1.out.mono ?_)⟩;rintro e w1 ⟨k,h|⟨_,h⟩⟩
    ·omega
    ·rw [hsc] at h;obtain ⟨a,h⟩:=h;exact ⟨⟨a,h⟩,k⟩
   | ok ts =>
    refine Or.inr ⟨ts,by omega,rfl,Lib.hid (H1.out.mono ?_)⟩;rintro e w1 ⟨k,h|⟨_,h⟩⟩
    ·omega
    ·rw [hsc] at h;obtain ⟨a,cc,h1,h2,h3⟩:=h;exact ⟨a,cc,h1,k,h2,h3⟩
 rcases hcase with ⟨c,hc,rfl,HS⟩|⟨ts,hlen,hsc,HS⟩
 ·have hcb:((c:Int) != 0)=true:=by simpa using hc
  go_upto_region 3 with (go_at_call 67;refine HS.out.mono ?_;rintro e w1 ⟨⟨sa,rfl⟩,k1⟩;have hp:=HPB.out.kept k1 (by simp);have y0:w1.cell? ⟨b+1+1,0,none⟩=some (.int .i64 0):=hp.h2.cell 0;have y1:=hp.h2.frozen 0;have z0:w1.cell? ⟨b+1+1+1,0,none⟩=some (.int .i64 0):=hp.h3.cell 0;have z1:=hp.h3.frozen 0;have HP1:=Lib.hid hp;have HK1:=Lib.hid (HK.out.trans k1);clear hp k1);obtain ⟨w2,hw2⟩:∃ x,(w1.setCell ⟨b+1+1,0,none⟩ (.int .i64 sa)).setCell ⟨b+1+1+1,0,none⟩ (.int .i64 c)=x:=⟨_,rfl⟩;rw [hw2];have hp2:PB w2 b [] #[.int .i64 0,.string ⟨#[]⟩,.string ⟨#[]⟩,.int .i64 0,.slice none 0 0] sa c:=hw2▸HP1.out.two sa c;have hk2:Kept [] w w2:=hw2▸PB.two_kept HK1.out HBW.out;clear hw2 y0 y1 z0 z1;have c0:w2.cell? ⟨b,0,none⟩=some (.string ⟨#[]⟩):=hp2.h0.cell 0;have f0:=hp2.h0.frozen 0;have p0:w2.cell? ⟨b+1,0,none⟩=some (.int .i64 0):=hp2.h1.cell 0;have q0:=hp2.h1.frozen 0;have p1:w2.cell? ⟨b+1,1,none⟩=some (.string ⟨#[]⟩):=hp2.h1.cell 1;have q1:=hp2.h1.frozen 1;have p2:w2.cell? ⟨b+1,2,none⟩=some (.string ⟨#[]⟩):=hp2.h1.cell 2;have q2:=hp2.h1.frozen 2;have p3:w2.cell? ⟨b+1,3,none⟩=some (.int .i64 0):=hp2.h1.cell 3;have q3:=hp2.h1.frozen 3;have p4:w2.cell? ⟨b+1,4,none⟩=some (.slice none 0 0):=hp2.h1.cell 4;have q4:=hp2.h1.frozen 4;have y0:w2.cell? ⟨b+1+1,0,none⟩=some (.int .i64 sa):=hp2.h2.cell 0;have y1:=hp2.h2.frozen 0;have z0:w2.cell? ⟨b+1+1+1,0,none⟩=some (.int .i64 c):=hp2.h3.cell 0;have z1:=hp2.h3.frozen 0;have HP2:=Lib.hid hp2;have HK2:=Lib.hid hk2;clear hp2 hk2
  go_region
  go_wp2_with fail;exact parse_ret (HP2.out.all [] _ _ _ _ _ sa c).drew rfl rfl rfl rfl ⟨(PB.all_kept HK2.out HBW.out).drew,_,rfl⟩
 ·have hR:=HR2.out;rw [if_neg (by omega),hsc] at hR
  simp only at hR
  have hok:=scan_ok _ _ _ _ _ (by omega) (by simp) hsc;have HR3:=Lib.hid hR;have HOK:=Lib.hid hok;clear hR hok hsc HR2;go_upto_region 4 with (go_at_call 67;refine HS.out.mono ?_;rintro e w1 ⟨ta,tc,rfl,k1,hrow,htl⟩;have hp:=HPB.out.kept k1 (by simp);have y0:w1.cell? ⟨b+1+1,0,none⟩=some (.int .i64 0):=hp.h2.cell 0;have y1:=hp.h2.frozen 0;have z0:w1.cell? ⟨b+1+1+1,0,none⟩=some (.int .i64 0):=hp.h3.cell 0;have z1:=hp.h3.frozen 0;have HP1:=Lib.hid hp;have HK1:=Lib.hid (HK.out.trans k1);have HK0:=Lib.hid k1;have HROW:=Lib.hid hrow;clear hp k1 hrow);obtain ⟨w2,hw2⟩:∃ x,(w1.setCell ⟨b+1+1,0,none⟩ (.int .i64 0)).setCell ⟨b+1+1+1,0,none⟩ (.int .i64 0)=x:=⟨_,rfl⟩;rw [hw2];have hp2:PB w2 b [] #[.int .i64 0,.string ⟨#[]⟩,.string ⟨#[]⟩,.int .i64 0,.slice none 0 0] 0 0:=hw2▸HP1.out.two 0 0;have hk2:Kept [] w w2:=hw2▸PB.two_kept HK1.out HBW.out;have hbW:b+1+1+1 < W.heap.size:=HPB.out.h3.lt;have k12:Kept [b+1+1,b+1+1+1] w1 w2:=hw2▸((Kept.refl _ _).setCell (Or.inl (by simp)) _).setCell (Or.inl (by simp)) _;have hrow2:=HROW.out.step (X':=List.range W.heap.size) k12 (fun y hy _=>by simp only [List.mem_cons,List.not_mem_nil,or_false] at hy;exact List.mem_range.2 (by omega)) (fun y hy=>Or.inl hy);have he2:EnvB B w2:=(HE.out.kept0 HK0.out).kept k12 (fun y hy=>by simp only [List.mem_cons,List.not_mem_nil,or_false] at hy;have:=hBb;omega);have HP2:=Lib.hid hp2;have HK2:=Lib.hid hk2;have HROW2:=Lib.hid hrow2;have HE2:=Lib.hid he2;clear hw2 hp2 hk2 k12 hrow2 he2 y0 y1 z0 z1 HROW HP1 HK1 HK0;go_upto_region 6 with (fail)
  obtain ⟨rb,hrb⟩:∃ g,w2.heap.size=g:=⟨_,rfl⟩;obtain ⟨w5,hw5⟩:∃ x,w2.alloc (.cells #[.slice ta ts.length tc,.int .i64 0,.int .i64 (s.length:Int)] 131)=x:=⟨_,rfl⟩;rw [hw5,hrb];have k25:Kept [] w2 w5:=hw5▸(Kept.refl _ _).alloc _;have hps:Ps B w2 rb ts ta tc (s.length:Int) w5 0:=⟨HE2.out,k25,by omega,HROW2.out.get,hrb▸hw5▸Blk.new _ _ _,by omega,HOK.out,Nat.zero_le _⟩;have hbrb:b+1+1+1 < rb:=hrb▸HP2.out.h3.lt;have hwb:w.heap.size=b:=HBW.out;have HW2:Hid (w2.heap.size=rb):=Lib.hid hrb;have HP5:=Lib.hid (HP2.out.kept k25 (by simp));have HK5:=Lib.hid (HK2.out.trans k25);have H6:=Lib.hid (take_any hps wQuestion);clear hw5 hrb k25 hps HP2 HK2 hwb;have hR:=HR3.out
  unfold questP at hR
  have HR4:=Lib.hid hR;clear hR HR3
  cases e6:takeP ts wQuestion 0 with
  | error k =>
   have hR:=HR4.out;rw [e6] at H6 hR;simp only [bnd] at hR;subst hR;go_wp2_with (go_at_call 69;refine H6.out.mono ?_;unfold TakeE;rintro e w9 ⟨⟨p,rfl⟩,k9⟩)
   exact parse_panic (HP5.out.kept k9 (fun y hy=>by rw [List.mem_singleton] at hy;omega)) rfl rfl rfl rfl fun w' k'=>⟨((HK5.out.fresh k9 (fun y hy=>by rw [List.mem_singleton] at hy;have:=HBW.out;omega)).fresh k' (fun y hy=>by simp only [List.mem_cons,List.not_mem_nil,or_false] at hy;have:=HBW.out;omega)),_,rfl⟩
  | ok y =>
  obtain ⟨u6,j6⟩:=y;have hR:=HR4.out;rw [e6] at H6 hR;simp only [bnd] at hR;have HR5:=Lib.hid hR;clear hR HR4 e6;go_upto_region 7 with (go_at_call 69;refine H6.out.mono ?_;unfold TakeE;rintro e w6 ⟨rfl,k6,h6⟩);have HP6:=Lib.hid (HP5.out.kept k6 (fun y hy=>by rw [List.mem_singleton] at hy;omega));have HK6:=Lib.hid (HK5.out.fresh k6 (fun y hy=>by rw [List.mem_singleton] at hy;have:=HBW.out;omega));have H7:=Lib.hid (pname_any h6);clear k6 h6 H6 HP5 HK5
  cases e7:nameP ts j6 with
  | error k =>
   have hR:=HR5.out;rw [e7] at H7 hR
   simp only at hR
   subst hR;go_wp2_with (go_at_call 70;refine H7.out.mono ?_;unfold NameE;rintro e w9 ⟨⟨p,rfl⟩,k9⟩)
   exact parse_panic (HP6.out.kept k9 (fun y hy=>by rw [List.mem_singleton] at hy;omega)) rfl rfl rfl rfl fun w' k'=>⟨((HK6.out.fresh k9 (fun y hy=>by rw [List.mem_singleton] at hy;have:=HBW.out;omega)).fresh k' (fun y hy=>by simp only [List.mem_cons,List.not_mem_nil,or_false] at hy;have:=HBW.out;omega)),_,rfl⟩
  | ok y =>
  obtain ⟨nm,j7⟩:=y;have hR:=HR5.out;rw [e7] at H7 hR
  simp only at hR
  have HR6:=Lib.hid hR;clear hR HR5 e7;go_upto_region 8 with (go_at_call 70;refine H7.out.mono ?_;unfold NameE;rintro e w7 ⟨rfl,k7,h7⟩;have hp7:=HP6.out.kept k7 (fun y hy=>by rw [List.mem_singleton] at hy;omega);have c0:w7.cell? ⟨b,0,none⟩=some (.string ⟨#[]⟩):=hp7.h0.cell 0;have f0:=hp7.h0.frozen 0;have HP7:=Lib.hid hp7;have HK7:=Lib.hid (HK6.out.fresh k7 (fun y hy=>by rw [List.mem_singleton] at hy;have:=HBW.out;omega));have HPS7:=Lib.hid h7;clear hp7 k7 h7);obtain ⟨wa,hwa⟩:∃ x,w7.setCell ⟨b,0,none⟩ (.string ⟨nm.toArray⟩)=x:=⟨_,rfl⟩;rw [hwa];obtain ⟨V,hV⟩:∃ x,w2.setCell ⟨b,0,none⟩ (.string ⟨nm.toArray⟩)=x:=⟨_,rfl⟩
  have hbW:b < W.heap.size:=by have:=HPB.out.h3.lt;omega
  have hrowV:Stable (List.range W.heap.size) (fun w=>RowOf TokR 4 w (.slice ta ts.length tc) ts) V:=hV▸HROW2.out.step (X':=List.range W.heap.size) ((Kept.refl [b] w2).setCell (p:=⟨b,0,none⟩) (Or.inl (by simp)) _) (fun y hy _=>by rw [List.mem_singleton] at hy;exact List.mem_range.2 (by omega)) (fun y hy=>Or.inl hy)
  have hpsA:Ps B V rb ts ta tc (s.length:Int) wa j7:=by
   rw [←hwa];have h3:=hrowV.get;rw [←hV] at h3 ⊢;exact HPS7.out.both (p:=⟨b,0,none⟩) _ (by have:=HW2.out;show b < w2.heap.size;omega) hBb h3
  have kA:Kept [] w wa:=hwa▸HK7.out.setCell (Or.inr (by have:=HBW.out;show w.heap.size≤b;omega)) _;have pA:PB wa b nm #[.int .i64 0,.string ⟨#[]⟩,.string ⟨#[]⟩,.int .i64 0,.slice none 0 0] 0 0:=hwa▸⟨HP7.out.h0.set_ 0 _,HP7.out.h1.far (p:=⟨b,0,none⟩) (by simp) _,HP7.out.h2.far (p:=⟨b,0,none⟩) (by simp <;> omega) _,HP7.out.h3.far (p:=⟨b,0,none⟩) (by simp <;> omega) _⟩;have HVS:Hid (V.heap.size=rb):=Lib.hid (by rw [←hV];simpa [World.setCell] using HW2.out);have H8:=Lib.hid (take_any hpsA [123]);have HKA:=Lib.hid kA;have HPA:=Lib.hid pA;have HRV:=Lib.hid hrowV;clear hwa hV hrowV hpsA kA pA c0 f0 HPS7 HK7 HP7 HP6 HK6 H7
  cases e8:takeP ts [123] j7 with
  | error k =>
   have hR:=HR6.out;rw [e8] at H8 hR
   simp only at hR
   subst hR;go_wp2_with (go_at_call 69;refine H8.out.mono ?_;unfold TakeE;rintro e w9 ⟨⟨p,rfl⟩,k9⟩)
   exact parse_panic (HPA.out.kept k9 (fun y hy=>by rw [List.mem_singleton] at hy;omega)) rfl rfl rfl rfl fun w' k'=>⟨((HKA.out.fresh k9 (fun y hy=>by rw [List.mem_singleton] at hy;have:=HBW.out;omega)).fresh k' (fun y hy=>by simp only [List.mem_cons,List.not_mem_nil,or_false] at hy;have:=HBW.out;omega)),_,rfl⟩
  | ok y =>
  obtain ⟨u8,j8⟩:=y;have hR:=HR6.out;rw [e8] at H8 hR
  simp only at hR
  have HR7:=Lib.hid hR;clear hR HR6 e8;go_upto_region 9 with (go_at_call 69;refine H8.out.mono ?_;unfold TakeE;rintro e w8 ⟨rfl,k8,h8⟩);have HP8:=Lib.hid (HPA.out.kept k8 (fun y hy=>by rw [List.mem_singleton] at hy;omega));have HK8:=Lib.hid (HKA.out.fresh k8 (fun y hy=>by rw [List.mem_singleton] at hy;have:=HBW.out;omega));have H9:=Lib.hid (some_any (unitP ts (ts.length+1)) h8 (fun w' j _ hq=>unit_any (ts.length+1) j w' (by omega) hq) (fun i p j hh=>by have:=(unit_size (ts:=ts) (ts.length+1) i p j hh).1;omega));have HB8:Hid (rb < w8.heap.size):=Lib.hid h8.blk.lt;clear k8 h8 H8 HPA HKA
  cases e9:someP ts (unitP ts (ts.length+1)) j8 with
  | error k =>
   have hR:=HR7.out;rw [e9] at H9 hR
   simp only at hR
   subst hR;go_wp2_with (go_at_call 71;refine H9.out.mono ?_;unfold PdE;rintro e w9 ⟨⟨p,rfl⟩,k9⟩)
   exact parse_panic (HP8.out.kept k9 (fun y hy=>by rw [List.mem_singleton] at hy;omega)) rfl rfl rfl rfl fun w' k'=>⟨((HK8.out.fresh k9 (fun y hy=>by rw [List.mem_singleton] at hy;have:=HBW.out;omega)).fresh k' (fun y hy=>by simp only [List.mem_cons,List.not_mem_nil,or_false] at hy;have:=HBW.out;omega)),_,rfl⟩
  | ok y =>
  obtain ⟨p,j9⟩:=y;have hR:=HR7.out;rw [e9] at H9 hR
  simp only at hR
  have HR8:=Lib.hid hR;clear hR HR7 e9;obtain ⟨pk,pl,pr,pc,pks⟩:=p;go_upto_region 10 with (go_at_call 71;refine H9.out.mono ?_;unfold PdE;rintro e w9 ⟨v,rfl,k9,h9,cs,rfl,hst⟩;obtain ⟨pa,pcc,rfl,_⟩:=hst.get.rows;have hp9:=HP8.out.kept k9 (fun y hy=>by rw [List.mem_singleton] at hy;omega);have p0:w9.cell? ⟨b+1,0,none⟩=some (.int .i64 0):=hp9.h1.cell 0;have q0:=hp9.h1.frozen 0;have p1:w9.cell? ⟨b+1,1,none⟩=some (.string ⟨#[]⟩):=hp9.h1.cell 1;have q1:=hp9.h1.frozen 1;have p2:w9.cell? ⟨b+1,2,none⟩=some (.string ⟨#[]⟩):=hp9.h1.cell 2;have q2:=hp9.h1.frozen 2;have p3:w9.cell? ⟨b+1,3,none⟩=some (.int .i64 0):=hp9.h1.cell 3;have q3:=hp9.h1.frozen 3;have p4:w9.cell? ⟨b+1,4,none⟩=some (.slice none 0 0):=hp9.h1.cell 4;have q4:=hp9.h1.frozen 4;have HP9:=Lib.hid hp9;have HK9:=Lib.hid (HK8.out.fresh k9 (fun y hy=>by rw [List.mem_singleton] at hy;have:=HBW.out;omega));have HPS9:=Lib.hid h9;have HST9:=Lib.hid hst;clear hp9 k9 h9 hst);obtain ⟨wb,hwb⟩:∃ x,((((w9.setCell ⟨b+1,0,none⟩ (.int .i64 pk)).setCell ⟨b+1,1,none⟩ (.string ⟨pl.toArray⟩)).setCell ⟨b+1,2,none⟩ (.string ⟨pr.toArray⟩)).setCell ⟨b+1,3,none⟩ (.int .i64 pc)).setCell ⟨b+1,4,none⟩ (.slice pa pks.length pcc)=x:=⟨_,rfl⟩;rw [hwb];have k9b:Kept [b+1] w9 wb:=hwb▸(((((Kept.refl [b+1] w9).setCell (p:=⟨b+1,0,none⟩) (Or.inl (by simp)) _).setCell (p:=⟨b+1,1,none⟩) (Or.inl (by simp)) _).setCell (p:=⟨b+1,2,none⟩) (Or.inl (by simp)) _).setCell (p:=⟨b+1,3,none⟩) (Or.inl (by simp)) _).setCell (p:=⟨b+1,4,none⟩) (Or.inl (by simp)) _;have hpsB0:=HPS9.out.both5 (g:=b+1) (n:=W.heap.size) (by have:=HVS.out;omega) (by omega) (by have:=HPB.out.h3.lt;omega) HRV.out (.int .i64 pk) (.string ⟨pl.toArray⟩) (.string ⟨pr.toArray⟩) (.int .i64 pc) (.slice pa pks.length pcc)
  rw [hwb] at hpsB0;obtain ⟨V',hpsB⟩:∃ V',Ps B V' rb ts ta tc (s.length:Int) wb j9:=⟨_,hpsB0⟩;clear hpsB0;have pB:PB wb b nm #[.int .i64 pk,.string ⟨pl.toArray⟩,.string ⟨pr.toArray⟩,.int .i64 pc,.slice pa pks.length pcc] 0 0:=⟨HP9.out.h0.kept k9b (by simp),hwb▸((((HP9.out.h1.set_ 0 _).set_ 1 _).set_ 2 _).set_ 3 _).set_ 4 _,HP9.out.h2.kept k9b (by simp),HP9.out.h3.kept k9b (by simp <;> omega)⟩;have kB:Kept [] w wb:=HK9.out.fresh k9b (fun y hy=>by rw [List.mem_singleton] at hy;have:=HBW.out;omega);have stB:=HST9.out.step (X':=List.range w8.heap.size) k9b (fun y hy _=>by rw [List.mem_singleton] at hy;have:=HB8.out;exact List.mem_range.2 (by omega)) (fun y hy=>Or.inl hy);have H10:=Lib.hid (take_any hpsB [125]);have HPB2:=Lib.hid pB;have HKB:=Lib.hid kB;have HSTB:=Lib.hid stB;clear hwb k9b pB kB stB hpsB HP9 HK9 HPS9 HST9 p0 p1 p2 p3 p4 q0 q1 q2 q3 q4 HP8 HK8 H9
  cases e10:takeP ts [125] j9 with
  | error k =>
   have hR:=HR8.out;rw [e10] at H10 hR
   simp only at hR
   subst hR;go_wp2_with (go_at_call 69;refine H10.out.mono ?_;unfold TakeE;rintro e w9 ⟨⟨p,rfl⟩,k9⟩)
   exact parse_panic (HPB2.out.kept k9 (fun y hy=>by rw [List.mem_singleton] at hy;omega)) rfl rfl rfl rfl fun w' k'=>⟨((HKB.out.fresh k9 (fun y hy=>by rw [List.mem_singleton] at hy;have:=HBW.out;omega)).fresh k' (fun y hy=>by simp only [List.mem_cons,List.not_mem_nil,or_false] at hy;have:=HBW.out;omega)),_,rfl⟩
  | ok y =>
  obtain ⟨u10,j10⟩:=y;have hR:=HR8.out;rw [e10] at H10 hR
  simp only at hR
  have HR9:=Lib.hid hR;clear hR HR8 e10;go_upto_region 11 with (go_at_call 69;refine H10.out.mono ?_;unfold TakeE;rintro e w10 ⟨rfl,k10,h10⟩);have r1:w10.cell? ⟨rb,1,none⟩=some (.int .i64 j10):=h10.blk.cell 1;have HP10:=Lib.hid (HPB2.out.kept k10 (fun y hy=>by rw [List.mem_singleton] at hy;omega));have HK10:=Lib.hid (HKB.out.fresh k10 (fun y hy=>by rw [List.mem_singleton] at hy;have:=HBW.out;omega));have HST10:=Lib.hid (HSTB.out.step (X':=List.range w8.heap.size) k10 (fun y hy _=>by rw [List.mem_singleton] at hy;have:=HB8.out;exact List.mem_range.2 (by omega)) (fun y hy=>Or.inl hy));have HF:=Lib.hid (fail_any h10 12 j10 h10.le (j10:Int) rfl);have hts:=h10.small;clear k10 h10 H10 HPB2 HKB HSTB
  by_cases hlt:j10 < ts.length
  ·have hlt':(j10:Int) < (ts.length:Int):=by omega
   have hR:=HR9.out;rw [if_pos hlt] at hR
   simp only at hR
   subst hR;go_wp2_with (go_at_call 72;refine HF.out.mono ?_;rintro e w9 ⟨⟨p,rfl⟩,k9⟩)
   exact parse_panic (HP10.out.kept k9 (by simp)) rfl rfl rfl rfl fun w' k'=>⟨((HK10.out.trans k9).fresh k' (fun y hy=>by simp only [List.mem_cons,List.not_mem_nil,or_false] at hy;have:=HBW.out;omega)),_,rfl⟩
  ·have hlt':¬ (j10:Int) < (ts.length:Int):=by omega
   have hR:=HR9.out;rw [if_neg hlt] at hR
   simp only at hR
   have p0:w10.cell? ⟨b+1,0,none⟩=some (.int .i64 pk):=HP10.out.h1.cell 0;have p1:w10.cell? ⟨b+1,1,none⟩=some (.string ⟨pl.toArray⟩):=HP10.out.h1.cell 1;have p2:w10.cell? ⟨b+1,2,none⟩=some (.string ⟨pr.toArray⟩):=HP10.out.h1.cell 2;have p3:w10.cell? ⟨b+1,3,none⟩=some (.int .i64 pc):=HP10.out.h1.cell 3;have p4:w10.cell? ⟨b+1,4,none⟩=some (.slice pa pks.length pcc):=HP10.out.h1.cell 4;have HSM:=Lib.hid (small_any HST10.out.get)
   cases hsm:smallB (.node pk pl pr pc pks)
   ·rw [hsm] at hR HSM;simp only [Bool.false_eq_true,if_false] at hR;subst hR;go_upto_region 14 with (go_at_call 73;refine HSM.out.mono ?_;rintro e w11 ⟨rfl,k11⟩);have hp11:=HP10.out.kept k11 (by simp);have c0:w11.cell? ⟨b,0,none⟩=some (.string ⟨nm.toArray⟩):=hp11.h0.cell 0;have f0:=hp11.h0.frozen 0;have p0:w11.cell? ⟨b+1,0,none⟩=some (.int .i64 pk):=hp11.h1.cell 0;have q0:=hp11.h1.frozen 0;have p1:w11.cell? ⟨b+1,1,none⟩=some (.string ⟨pl.toArray⟩):=hp11.h1.cell 1;have q1:=hp11.h1.frozen 1;have p2:w11.cell? ⟨b+1,2,none⟩=some (.string ⟨pr.toArray⟩):=hp11.h1.cell 2;have q2:=hp11.h1.frozen 2;have p3:w11.cell? ⟨b+1,3,none⟩=some (.int .i64 pc):=hp11.h1.cell 3;have q3:=hp11.h1.frozen 3;have p4:w11.cell? ⟨b+1,4,none⟩=some (.slice pa pks.length pcc):=hp11.h1.cell 4;have q4:=hp11.h1.frozen 4;have y0:w11.cell? ⟨b+1+1,0,none⟩=some (.int .i64 0):=hp11.h2.cell 0;have y1:=hp11.h2.frozen 0;have z0:w11.cell? ⟨b+1+1+1,0,none⟩=some (.int .i64 0):=hp11.h3.cell 0;have z1:=hp11.h3.frozen 0;have HP11:=Lib.hid hp11;have HK11:=Lib.hid (HK10.out.trans k11);clear hp11 k11;go_wp2_with fail;exact parse_ret1 (HP11.out.all [] _ _ _ _ _ 0 6) rfl rfl rfl rfl ⟨PB.all_kept HK11.out HBW.out,_,rfl⟩
   ·rw [hsm] at hR HSM;simp only [if_true] at hR;subst hR;go_upto_region 15 with (go_at_call 73;refine HSM.out.mono ?_;rintro e w11 ⟨rfl,k11⟩);have hp11:=HP10.out.kept k11 (by simp);have c0:w11.cell? ⟨b,0,none⟩=some (.string ⟨nm.toArray⟩):=hp11.h0.cell 0;have f0:=hp11.h0.frozen 0;have p0:w11.cell? ⟨b+1,0,none⟩=some (.int .i64 pk):=hp11.h1.cell 0;have q0:=hp11.h1.frozen 0;have p1:w11.cell? ⟨b+1,1,none⟩=some (.string ⟨pl.toArray⟩):=hp11.h1.cell 1;have q1:=hp11.h1.frozen 1;have p2:w11.cell? ⟨b+1,2,none⟩=some (.string ⟨pr.toArray⟩):=hp11.h1.cell 2;have q2:=hp11.h1.frozen 2;have p3:w11.cell? ⟨b+1,3,none⟩=some (.int .i64 pc):=hp11.h1.cell 3;have q3:=hp11.h1.frozen 3;have p4:w11.cell? ⟨b+1,4,none⟩=some (.slice pa pks.length pcc):=hp11.h1.cell 4;have q4:=hp11.h1.frozen 4;have y0:w11.cell? ⟨b+1+1,0,none⟩=some (.int .i64 0):=hp11.h2.cell 0;have y1:=hp11.h2.frozen 0;have z0:w11.cell? ⟨b+1+1+1,0,none⟩=some (.int .i64 0):=hp11.h3.cell 0;have z1:=hp11.h3.frozen 0;have HP11:=Lib.hid hp11;have HK11:=Lib.hid (HK10.out.trans k11);have HST11:=Lib.hid (HST10.out.step (X':=List.range w8.heap.size) k11 (fun y hy _=>by simp at hy) (fun y hy=>Or.inl hy));clear hp11 k11
    go_region
    go_wp2_with fail;refine parse_ret1 (HP11.out.all nm _ _ _ _ _ 0 0).drew rfl rfl rfl rfl ⟨(PB.all_kept HK11.out HBW.out).drew,[.int .i64 pk,.string ⟨pl.toArray⟩,.string ⟨pr.toArray⟩,.int .i64 pc,.slice pa pks.length pcc],rfl,?_⟩;exact HST11.out.step (PB.all_keptS _ _ _ _ _ _ _ _ _ _).drew (fun y hy _=>by simp only [List.mem_cons,List.not_mem_nil,or_false] at hy;have:=HB8.out;exact List.mem_range.2 (by omega)) (fun y hy=>Or.inl (List.mem_range.2 (by have:=List.mem_range.1 hy;have:=HB8.out;have:=HBW.out;omega)))
end Go.Proofs.YtpcmamoomaddoaaGreatDoor
