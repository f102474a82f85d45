import Derived.Test.YtpcmamoomaddoaaGreatDoorScp
import Derived.Test.YtpcmamoomaddoaaGreatDoorSiz
set_option maxRecDepth 100000
set_option maxHeartbeats 32000000
namespace Go.Proofs.YtpcmamoomaddoaaGreatDoor
open Go.RowKit
open Go.Proofs.Tryz
open Lib(hid)
/-- the named results of Parse, in four blocks of their own -/
structure PB (w:World) (b:Nat) (nm:Bs) (ps:Array Value) (at_ er:Int):Prop where
 h0:Blk w b 9 #[.string ⟨nm.toArray⟩]
 h1:Blk w (b+1) 46 ps
 h2:Blk w (b+1+1) 3 #[.int .i64 at_]
 h3:Blk w (b+1+1+1) 31 #[.int .i64 er]
theorem PB.kept{w w':World}{b:Nat}{nm:Bs}{ps:Array Value}{at_ er:Int}{S:List Nat}(h:PB w b nm ps at_ er)(k:Kept S w w')(hS:∀y∈S,y < b\/b+3 < y):PB w' b nm ps at_ er := ⟨h.h0.kept k (fun hm=>by have:=hS _ hm;omega),h.h1.kept k (fun hm=>by have:=hS _ hm;omega),h.h2.kept k (fun hm=>by have:=hS _ hm;omega),h.h3.kept k (fun hm=>by have:=hS _ hm;omega)⟩
theorem PB.all{w:World}{b:Nat}{nm:Bs}{v0 v1 v2 v3 v4:Value}{at_ er:Int}(h:PB w b nm #[v0,v1,v2,v3,v4] at_ er)(nm':Bs)(u0 u1 u2 u3 u4:Value)(at' er':Int) :
  PB ((((((((w.setCell ⟨b,0,none⟩ (.string ⟨nm'.toArray⟩)).setCell ⟨b+1,0,none⟩ u0).setCell ⟨b+1,1,none⟩ u1).setCell ⟨b+1,2,none⟩ u2).setCell ⟨b+1,3,none⟩ u3).setCell ⟨b+1,4,none⟩ u4).setCell ⟨b+1+1,0,none⟩ (.int .i64 at')).setCell ⟨b+1+1+1,0,none⟩ (.int .i64 er')) b nm' #[u0,u1,u2,u3,u4] at' er' := ⟨(((((((h.h0.set_ 0 _).far (p:=⟨b+1,0,none⟩) (by simp) _).far (p:=⟨b+1,1,none⟩) (by simp) _).far (p:=⟨b+1,2,none⟩) (by simp) _).far (p:=⟨b+1,3,none⟩) (by simp) _).far (p:=⟨b+1,4,none⟩) (by simp) _).far (p:=⟨b+1+1,0,none⟩) (by simp <;> omega) _).far (p:=⟨b+1+1+1,0,none⟩) (by simp <;> omega) _,
  (((((((h.h1.far (p:=⟨b,0,none⟩) (by simp) _).set_ 0 _).set_ 1 _).set_ 2 _).set_ 3 _).set_ 4 _).far (p:=⟨b+1+1,0,none⟩) (by simp) _).far (p:=⟨b+1+1+1,0,none⟩) (by simp <;> omega) _,
  (((((((h.h2.far (p:=⟨b,0,none⟩) (by simp <;> omega) _).far (p:=⟨b+1,0,none⟩) (by simp) _).far (p:=⟨b+1,1,none⟩) (by simp) _).far (p:=⟨b+1,2,none⟩) (by simp) _).far (p:=⟨b+1,3,none⟩) (by simp) _).far (p:=⟨b+1,4,none⟩) (by simp) _).set_ 0 _).far (p:=⟨b+1+1+1,0,none⟩) (by simp) _,
  (((((((h.h3.far (p:=⟨b,0,none⟩) (by simp <;> omega) _).far (p:=⟨b+1,0,none⟩) (by simp <;> omega) _).far (p:=⟨b+1,1,none⟩) (by simp <;> omega) _).far (p:=⟨b+1,2,none⟩) (by simp <;> omega) _).far (p:=⟨b+1,3,none⟩) (by simp <;> omega) _).far (p:=⟨b+1,4,none⟩) (by simp <;> omega) _).far (p:=⟨b+1+1,0,none⟩) (by simp) _).set_ 0 _⟩
theorem PB.all_kept{w0 w:World}{b:Nat}{x u0 u1 u2 u3 u4 y z:Value}(k:Kept [] w0 w)(hb:w0.heap.size=b) :
  Kept [] w0 ((((((((w.setCell ⟨b,0,none⟩ x).setCell ⟨b+1,0,none⟩ u0).setCell ⟨b+1,1,none⟩ u1).setCell ⟨b+1,2,none⟩ u2).setCell ⟨b+1,3,none⟩ u3).setCell ⟨b+1,4,none⟩ u4).setCell ⟨b+1+1,0,none⟩ y).setCell ⟨b+1+1+1,0,none⟩ z) :=
 (((((((k.setCell (Or.inr (by show w0.heap.size<=b;omega)) _).setCell (Or.inr (by show w0.heap.size<=b+1;omega)) _).setCell (Or.inr (by show w0.heap.size<=b+1;omega)) _).setCell (Or.inr (by show w0.heap.size<=b+1;omega)) _).setCell (Or.inr (by show w0.heap.size<=b+1;omega)) _).setCell (Or.inr (by show w0.heap.size<=b+1;omega)) _).setCell (Or.inr (by show w0.heap.size<=b+1+1;omega)) _).setCell (Or.inr (by show w0.heap.size<=b+1+1+1;omega)) _
theorem PB.all_keptS(w:World)(b:Nat)(x u0 u1 u2 u3 u4 y z:Value) :
  Kept [b,b+1,b+1+1,b+1+1+1] w ((((((((w.setCell ⟨b,0,none⟩ x).setCell ⟨b+1,0,none⟩ u0).setCell ⟨b+1,1,none⟩ u1).setCell ⟨b+1,2,none⟩ u2).setCell ⟨b+1,3,none⟩ u3).setCell ⟨b+1,4,none⟩ u4).setCell ⟨b+1+1,0,none⟩ y).setCell ⟨b+1+1+1,0,none⟩ z) :=
 ((((((((Kept.refl _ w).setCell (Or.inl (by simp)) _).setCell (Or.inl (by simp)) _).setCell (Or.inl (by simp)) _).setCell (Or.inl (by simp)) _).setCell (Or.inl (by simp)) _).setCell (Or.inl (by simp)) _).setCell (Or.inl (by simp)) _).setCell (Or.inl (by simp)) _
theorem PB.two{w:World}{b:Nat}{nm:Bs}{ps:Array Value}{at_ er:Int}(h:PB w b nm ps at_ er)(at' er':Int):PB ((w.setCell ⟨b+1+1,0,none⟩ (.int .i64 at')).setCell ⟨b+1+1+1,0,none⟩ (.int .i64 er')) b nm ps at' er' := ⟨(h.h0.far (p:=⟨b+1+1,0,none⟩) (by simp <;> omega) _).far (p:=⟨b+1+1+1,0,none⟩) (by simp <;> omega) _,(h.h1.far (p:=⟨b+1+1,0,none⟩) (by simp) _).far (p:=⟨b+1+1+1,0,none⟩) (by simp <;> omega) _,(h.h2.set_ 0 _).far (p:=⟨b+1+1+1,0,none⟩) (by simp) _,(h.h3.far (p:=⟨b+1+1,0,none⟩) (by simp) _).set_ 0 _⟩
theorem PB.two_kept{w0 w:World}{b:Nat}{y z:Value}(k:Kept [] w0 w)(hb:w0.heap.size=b):Kept [] w0 ((w.setCell ⟨b+1+1,0,none⟩ y).setCell ⟨b+1+1+1,0,none⟩ z) :=
 (k.setCell (Or.inr (by show w0.heap.size<=b+1+1;omega)) _).setCell (Or.inr (by show w0.heap.size<=b+1+1+1;omega)) _
theorem PB.drew{w:World}{b:Nat}{nm:Bs}{ps:Array Value}{at_ er:Int}(h:PB w b nm ps at_ er):PB w.drew b nm ps at_ er:=⟨h.h0.drew,h.h1.drew,h.h2.drew,h.h3.drew⟩
theorem Kept.both{w w':World}(k:Kept [] w w'){p:Addr}(v:Value):Kept [] (w.setCell p v) (w'.setCell p v) := ⟨k.os,k.tape,k.output,by simpa [World.setCell]using k.size,fun i hi _=>by
  have hi':i < w.heap.size:=by simpa [World.setCell]using hi
  have:=k.block i hi' (by simp);simp only[World.setCell,Array.getElem?_modify]
  rw[this]⟩
theorem Ps.both{B:Nat}{W0:World}{rb:Nat}{ts:List Tok}{a:Option Addr}{c:Nat}{z:Int}{w:World}{i:Nat}(h:Ps B W0 rb ts a c z w i){p:Addr}(v:Value)(h1:p.block < W0.heap.size)(h2:B<=p.block)(h3:aj TokR 4 (W0.setCell p v) (.slice a ts.length c) ts) :
  Ps B (W0.setCell p v) rb ts a c z (w.setCell p v) i := ⟨h.env.kept ((Kept.refl [p.block] W0).setCell (Or.inl (by simp)) v) (fun k hk=>by rw[List.mem_singleton]at hk;exact hk▸h2),h.kept.both v,by simpa [World.setCell]using h.lo,h3,h.blk.far (by have:=h.lo;omega) v,h.small,h.ok,h.le⟩
theorem Ps.both5{B:Nat}{V:World}{rb:Nat}{ts:List Tok}{a:Option Addr}{c:Nat}{z:Int}{w:World}{i:Nat}(h:Ps B V rb ts a c z w i){g n:Nat}(hg:g < V.heap.size)(hB:B<=g)(hn:g < n)(hrow:aw (List.range n) (fun w=>aj TokR 4 w (.slice a ts.length c) ts) V)(u0 u1 u2 u3 u4:Value) :
  Ps B (((((V.setCell ⟨g,0,none⟩ u0).setCell ⟨g,1,none⟩ u1).setCell ⟨g,2,none⟩ u2).setCell ⟨g,3,none⟩ u3).setCell ⟨g,4,none⟩ u4) rb ts a c z (((((w.setCell ⟨g,0,none⟩ u0).setCell ⟨g,1,none⟩ u1).setCell ⟨g,2,none⟩ u2).setCell ⟨g,3,none⟩ u3).setCell ⟨g,4,none⟩ u4) i:=by
 have b:∀ {V:World} {k:Nat} (u:Value),aw (List.range n) (fun w=>aj TokR 4 w (.slice a ts.length c) ts) V->aw (List.range n) (fun w=>aj TokR 4 w (.slice a ts.length c) ts) (V.setCell ⟨g,k,none⟩ u):=fun u hs =>
  hs.step ((Kept.refl [g] _).setCell (Or.inl (by simp)) _) (fun y hy _=>by rw[List.mem_singleton]at hy;exact List.mem_range.2 (by omega)) (fun y hy=>Or.inl hy)
 have j:=b (k:=0) u0 hrow;have f:=b (k:=1) u1 j;have e:=b (k:=2) u2 f;have d:=b (k:=3) u3 e;have l:=b (k:=4) u4 d;have r:=h.both (p:=⟨g,0,none⟩) u0 hg hB j.get;have q:=r.both (p:=⟨g,1,none⟩) u1 (by simpa [World.setCell]using hg) hB f.get;have o:=q.both (p:=⟨g,2,none⟩) u2 (by simpa [World.setCell]using hg) hB e.get;have m:=o.both (p:=⟨g,3,none⟩) u3 (by simpa [World.setCell]using hg) hB d.get;exact m.both (p:=⟨g,4,none⟩) u4 (by simpa [World.setCell]using hg) hB l.get
def qP(s:Bs)(w:World)(e:Ending)(w':World):Prop :=
 Kept [] w w'/\match gJ s with
 | .error c=>∃at_:Int,e=.returned (.tuple #[.string ⟨#[]⟩,.agg #[.int .i64 0,.string ⟨#[]⟩,.string ⟨#[]⟩,.int .i64 0,.slice none 0 0],.int .i64 at_,.int .i64 c])
 | .ok (nm,p)=>∃cs:List Value,e=.returned (.tuple #[.string ⟨nm.toArray⟩,.agg cs.toArray,.int .i64 0,.int .i64 0])/\aw (List.range w.heap.size) (fun w=>PdR w cs p) w'
section
variable {w2:World} {b:Nat} {nm:Bs} {v0 v1 v2 v3 v4:Value} {at_ er:Int} {tmps:Array Value} {R:Ending->World->Prop}
theorem iI(h:PB w2 b nm #[v0,v1,v2,v3,v4] at_ er)(t2:tmps[2]?.getD undef=.pointer (some ⟨b,0,none⟩))(t3:tmps[3]?.getD undef=.pointer (some ⟨b+1,0,none⟩))(t4:tmps[4]?.getD undef=.pointer (some ⟨b+1+1,0,none⟩))(t5:tmps[5]?.getD undef=.pointer (some ⟨b+1+1+1,0,none⟩)) :
  (results Tryz.f31 tmps).run prog w2=.ok (.tuple #[.string ⟨nm.toArray⟩,.agg #[v0,v1,v2,v3,v4],.int .i64 at_,.int .i64 er]) w2:=by
 have j:w2.cell? ⟨b,0,none⟩=some (.string ⟨nm.toArray⟩):=h.h0.cell 0;have i:w2.cell? ⟨b+1,0,none⟩=some v0:=h.h1.cell 0;have g:w2.cell? ⟨b+1,1,none⟩=some v1:=h.h1.cell 1;have f:w2.cell? ⟨b+1,2,none⟩=some v2:=h.h1.cell 2;have e:w2.cell? ⟨b+1,3,none⟩=some v3:=h.h1.cell 3;have d:w2.cell? ⟨b+1,4,none⟩=some v4:=h.h1.cell 4;have c:w2.cell? ⟨b+1+1,0,none⟩=some (.int .i64 at_):=h.h2.cell 0;have a:w2.cell? ⟨b+1+1+1,0,none⟩=some (.int .i64 er):=h.h3.cell 0;simp only[results,results31]
 simp[go_sem,t2,t3,t4,t5,j,i,g,f,e,d,c,a]
theorem sw(h:PB w2 b nm #[v0,v1,v2,v3,v4] at_ er)(t2:tmps[2]?.getD undef=.pointer (some ⟨b,0,none⟩))(t3:tmps[3]?.getD undef=.pointer (some ⟨b+1,0,none⟩))(t4:tmps[4]?.getD undef=.pointer (some ⟨b+1+1,0,none⟩))(t5:tmps[5]?.getD undef=.pointer (some ⟨b+1+1+1,0,none⟩))
  (hR:R (.returned (.tuple #[.string ⟨nm.toArray⟩,.agg #[v0,v1,v2,v3,v4],.int .i64 at_,.int .i64 er])) w2):bodyPostD prog Tryz.f31 R Exit.ret { tmps:=tmps,defers:=[] } w2:=⟨_,iI h t2 t3 t4 t5,hR⟩
def dfr(b:Nat):List Deferred:=[{ target:=.fn (.func 68) #[.pointer (some ⟨b,0,none⟩),.pointer (some ⟨b+1,0,none⟩),.pointer (some ⟨b+1+1,0,none⟩),.pointer (some ⟨b+1+1+1,0,none⟩)],args:=#[] }]
theorem jR(h:PB w2 b nm #[v0,v1,v2,v3,v4] at_ er)(t2:tmps[2]?.getD undef=.pointer (some ⟨b,0,none⟩))(t3:tmps[3]?.getD undef=.pointer (some ⟨b+1,0,none⟩))(t4:tmps[4]?.getD undef=.pointer (some ⟨b+1+1,0,none⟩))(t5:tmps[5]?.getD undef=.pointer (some ⟨b+1+1+1,0,none⟩))
  (hR:R (.returned (.tuple #[.string ⟨nm.toArray⟩,.agg #[v0,v1,v2,v3,v4],.int .i64 at_,.int .i64 er])) w2):bodyPostD prog Tryz.f31 R Exit.ret { tmps:=tmps,defers:=dfr b } w2:=by
 show Leaves _ _ _ _ (dfr b) .returning w2
 unfold dfr
 refine leaves_cons (f:=68) (args:=#[.pointer (some ⟨b,0,none⟩),.pointer (some ⟨b+1,0,none⟩),.pointer (some ⟨b+1+1,0,none⟩),.pointer (some ⟨b+1+1+1,0,none⟩)]) (by simp) (by simp[go_sem]) ?_;refine(qL _ _ _ _ w2).mono ?_;rintro e u a ⟨rfl,rfl,rfl⟩;exact⟨_,iI h t2 t3 t4 t5,hR⟩
theorem cS{c p:Int}(h:PB w2 b nm #[v0,v1,v2,v3,v4] at_ er)(t2:tmps[2]?.getD undef=.pointer (some ⟨b,0,none⟩))(t3:tmps[3]?.getD undef=.pointer (some ⟨b+1,0,none⟩))(t4:tmps[4]?.getD undef=.pointer (some ⟨b+1+1,0,none⟩))(t5:tmps[5]?.getD undef=.pointer (some ⟨b+1+1+1,0,none⟩))
  (hR:∀w3,Kept [b,b+1,b+2,b+3] w2 w3->R (.returned (.tuple #[.string ⟨#[]⟩,.agg #[.int .i64 0,.string ⟨#[]⟩,.string ⟨#[]⟩,.int .i64 0,.slice none 0 0],.int .i64 p,.int .i64 c])) w3) :
  bodyPostD prog Tryz.f31 R (Exit.panic [{ v:=.iface 127 (.agg #[.int .i64 c,.int .i64 p]),recovered:=false }]) { tmps:=tmps,defers:=dfr b } w2:=by
 show Leaves _ _ _ _ (dfr b) (.panicking _) w2
 unfold dfr
 refine leaves_cons (f:=68) (args:=#[.pointer (some ⟨b,0,none⟩),.pointer (some ⟨b+1,0,none⟩),.pointer (some ⟨b+1+1,0,none⟩),.pointer (some ⟨b+1+1+1,0,none⟩)]) (by simp) (by simp[go_sem]) ?_;refine(qM b c p [] w2 h.h0 h.h1 h.h2 h.h3).mono ?_;rintro e u w3 ⟨rfl,rfl,a,j,i,g,d⟩;exact⟨_,iI (nm:=[]) ⟨j,i,g,d⟩ t2 t3 t4 t5,hR w3 a⟩
end
theorem sx(B:Nat)(s:Bs)(w:World)(hs:s.length<=100000000)(hE:EnvB B w) :
  Calls prog 31 #[.string ⟨s.toArray⟩] w (qP s w):=by
 have d1:∀(fn:Fn) (first cap:Array Value) (w:World),(Instr.makeFunc fn first cap).run prog w=.ok (.func fn first cap) w:=fun _ _ _ _=>rfl;obtain⟨R,f⟩:∃R,gJ s=R:=⟨_,rfl⟩;have b9:=f
 unfold gJ at b9
 unfold qP
 rw[f];obtain⟨b,hb⟩:∃b,w.heap.size=b:=⟨_,rfl⟩;obtain⟨W,hW⟩:∃W,(((w.alloc (.cells #[.string ⟨#[]⟩] 9)).alloc (.cells #[.int .i64 0,.string ⟨#[]⟩,.string ⟨#[]⟩,.int .i64 0,.slice none 0 0] 46)).alloc (.cells #[.int .i64 0] 3)).alloc (.cells #[.int .i64 0] 31)=W:=⟨_,rfl⟩;have af:Kept [] w W:=hW▸((((Kept.refl _ _).alloc _).alloc _).alloc _).alloc _
 have c5:PB W b [] #[.int .i64 0,.string ⟨#[]⟩,.string ⟨#[]⟩,.int .i64 0,.slice none 0 0] 0 0:=by
  rw[<-hW,<-hb];exact⟨(((Blk.new _ _ _).alloc _).alloc _).alloc _,((Blk.new1 _ _ _ _).alloc _).alloc _,(Blk.new2 _ _ _ _ _).alloc _,Blk.new3 _ _ _ _ _ _⟩
 have H1:=hid (ut B s W hs (hE.kept0 af));have c6:=hE.kept0 af;have HE:=hid c6;have HK:=hid af;have a2:=hid c5;have HW:=hid hW;have bl:=hid b9;have l:=hid hb;have c7:B<=b:=hb▸hE.size;clear hW af c5 hE f b9 c6
 go_enter_defers func31,ntmps31
 go_upto_region 1 with(fail);have hW':=HW.out;rw[hW'];clear hW';clear hb
 have b8:(∃c:Int,c≠0/\R=.error c/\Hid (Calls prog 67 #[.string ⟨s.toArray⟩] W fun e w'=>(∃a:Int,e=.returned (.tuple #[.slice none 0 0,.int .i64 a,.int .i64 c]))/\Kept [] W w')) \/
   (∃ts,s.length<=4000/\eE (s.length+1) s 0 []=.ok ts/\Hid (Calls prog 67 #[.string ⟨s.toArray⟩] W fun e w'=>∃a cc,e=.returned (.tuple #[.slice a ts.length cc,.int .i64 0,.int .i64 0])/\Kept [] W w'/\aw (List.range W.heap.size) (fun w=>aj TokR 4 w (.slice a ts.length cc) ts) w'/\ts.length<=s.length)):=by
  have f:=bl.out
  by_cases hlong:4000 < s.length
  ·rw[if_pos hlong]at f;refine Or.inl ⟨6,by decide,f.symm,hid (H1.out.mono ?_)⟩;rintro e P ⟨k,h|h⟩
   ·exact⟨⟨0,h.2⟩,k⟩
   ·omega
  ·rw[if_neg hlong]at f
   cases D:eE (s.length+1) s 0 []with
   |error c =>
    rw[D]at f;refine Or.inl ⟨c,qW _ _ _ _ _ (by omega) D,f.symm,hid (H1.out.mono ?_)⟩;rintro e P ⟨k,h|⟨_,h⟩⟩
    ·omega
    ·rw[D]at h;obtain⟨a,h⟩:=h;exact⟨⟨a,h⟩,k⟩
   |ok ts =>
    refine Or.inr ⟨ts,by omega,rfl,hid (H1.out.mono ?_)⟩;rintro e P ⟨k,h|⟨_,h⟩⟩
    ·omega
    ·rw[D]at h;obtain⟨a,cc,h1,h2,h3⟩:=h;exact⟨a,cc,h1,k,h2,h3⟩
 rcases b8 with⟨c,hc,rfl,HS⟩|⟨ts,cv,D,HS⟩
 ·have d2:((c:Int) != 0)=true:=by simpa using hc
  go_upto_region 3 with(go_at_call 67;refine HS.out.mono ?_;rintro e P ⟨⟨sa,rfl⟩,k1⟩;have O:=a2.out.kept k1 (by simp);have y0:P.cell? ⟨b+1+1,0,none⟩=some (.int .i64 0):=O.h2.cell 0;have y1:=O.h2.frozen 0;have z0:P.cell? ⟨b+1+1+1,0,none⟩=some (.int .i64 0):=O.h3.cell 0;have z1:=O.h3.frozen 0;have an:=hid O;have ap:=hid (HK.out.trans k1);clear O k1);obtain⟨t,z⟩:∃x,(P.setCell ⟨b+1+1,0,none⟩ (.int .i64 sa)).setCell ⟨b+1+1+1,0,none⟩ (.int .i64 c)=x:=⟨_,rfl⟩;rw[z];have m:PB t b [] #[.int .i64 0,.string ⟨#[]⟩,.string ⟨#[]⟩,.int .i64 0,.slice none 0 0] sa c:=z▸an.out.two sa c;have X:Kept [] w t:=z▸PB.two_kept ap.out l.out;clear z y0 y1 z0 z1;have c0:t.cell? ⟨b,0,none⟩=some (.string ⟨#[]⟩):=m.h0.cell 0;have f0:=m.h0.frozen 0;have p0:t.cell? ⟨b+1,0,none⟩=some (.int .i64 0):=m.h1.cell 0;have q0:=m.h1.frozen 0;have p1:t.cell? ⟨b+1,1,none⟩=some (.string ⟨#[]⟩):=m.h1.cell 1;have q1:=m.h1.frozen 1;have p2:t.cell? ⟨b+1,2,none⟩=some (.string ⟨#[]⟩):=m.h1.cell 2;have q2:=m.h1.frozen 2;have p3:t.cell? ⟨b+1,3,none⟩=some (.int .i64 0):=m.h1.cell 3;have q3:=m.h1.frozen 3;have p4:t.cell? ⟨b+1,4,none⟩=some (.slice none 0 0):=m.h1.cell 4;have q4:=m.h1.frozen 4;have y0:t.cell? ⟨b+1+1,0,none⟩=some (.int .i64 sa):=m.h2.cell 0;have y1:=m.h2.frozen 0;have z0:t.cell? ⟨b+1+1+1,0,none⟩=some (.int .i64 c):=m.h3.cell 0;have z1:=m.h3.frozen 0;have a5:=hid m;have ao:=hid X;clear m X
  go_region
  go_wp2_with fail;exact sw (a5.out.all [] _ _ _ _ _ sa c).drew rfl rfl rfl rfl ⟨(PB.all_kept ao.out l.out).drew,_,rfl⟩
 ·have f:=bl.out;rw[if_neg (by omega),D]at f
  simp only at f
  have c3:=qV _ _ _ _ _ (by omega) (by simp) D;have ca:=hid f;have cq:=hid c3;clear f c3 D bl;go_upto_region 4 with(go_at_call 67;refine HS.out.mono ?_;rintro e P ⟨ta,tc,rfl,k1,au,d0⟩;have O:=a2.out.kept k1 (by simp);have y0:P.cell? ⟨b+1+1,0,none⟩=some (.int .i64 0):=O.h2.cell 0;have y1:=O.h2.frozen 0;have z0:P.cell? ⟨b+1+1+1,0,none⟩=some (.int .i64 0):=O.h3.cell 0;have z1:=O.h3.frozen 0;have an:=hid O;have ap:=hid (HK.out.trans k1);have cl:=hid k1;have b3:=hid au;clear O k1 au);obtain⟨t,z⟩:∃x,(P.setCell ⟨b+1+1,0,none⟩ (.int .i64 0)).setCell ⟨b+1+1+1,0,none⟩ (.int .i64 0)=x:=⟨_,rfl⟩;rw[z];have m:PB t b [] #[.int .i64 0,.string ⟨#[]⟩,.string ⟨#[]⟩,.int .i64 0,.slice none 0 0] 0 0:=z▸an.out.two 0 0;have X:Kept [] w t:=z▸PB.two_kept ap.out l.out;have cm:b+1+1+1 < W.heap.size:=a2.out.h3.lt;have b6:Kept [b+1+1,b+1+1+1] P t:=z▸((Kept.refl _ _).setCell (Or.inl (by simp)) _).setCell (Or.inl (by simp)) _;have T:=b3.out.step (X':=List.range W.heap.size) b6 (fun y hy _=>by simp only[List.mem_cons,List.not_mem_nil,or_false]at hy;exact List.mem_range.2 (by omega)) (fun y hy=>Or.inl hy);have c4:EnvB B t:=(HE.out.kept0 cl.out).kept b6 (fun y hy=>by simp only[List.mem_cons,List.not_mem_nil,or_false]at hy;have:=c7;omega);have a5:=hid m;have ao:=hid X;have a0:=hid T;have cu:=hid c4;clear z m X b6 T c4 y0 y1 z0 z1 b3 an ap cl;go_upto_region 6 with(fail)
  obtain⟨rb,U⟩:∃g,t.heap.size=g:=⟨_,rfl⟩;obtain⟨w5,ac⟩:∃x,t.alloc (.cells #[.slice ta ts.length tc,.int .i64 0,.int .i64 (s.length:Int)] 131)=x:=⟨_,rfl⟩;rw[ac,U];have aa:Kept [] t w5:=ac▸(Kept.refl _ _).alloc _;have c2:Ps B t rb ts ta tc (s.length:Int) w5 0:=⟨cu.out,aa,by omega,a0.out.get,U▸ac▸Blk.new _ _ _,by omega,cq.out,Nat.zero_le _⟩;have cx:b+1+1+1 < rb:=U▸a5.out.h3.lt;have F:w.heap.size=b:=l.out;have c8:Hid (t.heap.size=rb):=hid U;have bq:=hid (a5.out.kept aa (by simp));have bx:=hid (ao.out.trans aa);have H6:=hid (bU c2 fP);clear ac U aa c2 a5 ao F;have f:=ca.out
  unfold mK at f
  have bk:=hid f;clear f ca
  cases e6:bz ts fP 0 with
  |error k =>
   have f:=bk.out;rw[e6]at H6 f;simp only[bnd]at f;subst f;go_wp2_with (go_at_call 69;refine H6.out.mono ?_;unfold cf;rintro e J ⟨⟨p,rfl⟩,u⟩)
   exact cS (bq.out.kept u (fun y hy=>by rw[List.mem_singleton]at hy;omega)) rfl rfl rfl rfl fun w' k'=>⟨((bx.out.fresh u (fun y hy=>by rw[List.mem_singleton]at hy;have:=l.out;omega)).fresh k' (fun y hy=>by simp only[List.mem_cons,List.not_mem_nil,or_false]at hy;have:=l.out;omega)),_,rfl⟩
  |ok y =>
  obtain⟨u6,j6⟩:=y;have f:=bk.out;rw[e6]at H6 f;simp only[bnd]at f;have be:=hid f;clear f bk e6;go_upto_region 7 with(go_at_call 69;refine H6.out.mono ?_;unfold cf;rintro e w6 ⟨rfl,k6,h6⟩);have bp:=hid (bq.out.kept k6 (fun y hy=>by rw[List.mem_singleton]at hy;omega));have bv:=hid (bx.out.fresh k6 (fun y hy=>by rw[List.mem_singleton]at hy;have:=l.out;omega));have H7:=hid (fX h6);clear k6 h6 H6 bq bx
  cases e7:dH ts j6 with
  |error k =>
   have f:=be.out;rw[e7]at H7 f
   simp only at f
   subst f;go_wp2_with (go_at_call 70;refine H7.out.mono ?_;unfold jn;rintro e J ⟨⟨p,rfl⟩,u⟩)
   exact cS (bp.out.kept u (fun y hy=>by rw[List.mem_singleton]at hy;omega)) rfl rfl rfl rfl fun w' k'=>⟨((bv.out.fresh u (fun y hy=>by rw[List.mem_singleton]at hy;have:=l.out;omega)).fresh k' (fun y hy=>by simp only[List.mem_cons,List.not_mem_nil,or_false]at hy;have:=l.out;omega)),_,rfl⟩
  |ok y =>
  obtain⟨nm,j7⟩:=y;have f:=be.out;rw[e7]at H7 f
  simp only at f
  have bd:=hid f;clear f be e7;go_upto_region 8 with(go_at_call 70;refine H7.out.mono ?_;unfold jn;rintro e w7 ⟨rfl,k7,h7⟩;have ad:=bp.out.kept k7 (fun y hy=>by rw[List.mem_singleton]at hy;omega);have c0:w7.cell? ⟨b,0,none⟩=some (.string ⟨#[]⟩):=ad.h0.cell 0;have f0:=ad.h0.frozen 0;have a4:=hid ad;have ci:=hid (bv.out.fresh k7 (fun y hy=>by rw[List.mem_singleton]at hy;have:=l.out;omega));have b5:=hid h7;clear ad k7 h7);obtain⟨wa,Q⟩:∃x,w7.setCell ⟨b,0,none⟩ (.string ⟨nm.toArray⟩)=x:=⟨_,rfl⟩;rw[Q];obtain⟨V,hV⟩:∃x,t.setCell ⟨b,0,none⟩ (.string ⟨nm.toArray⟩)=x:=⟨_,rfl⟩
  have cm:b < W.heap.size:=by have:=a2.out.h3.lt;omega
  have G:aw (List.range W.heap.size) (fun w=>aj TokR 4 w (.slice ta ts.length tc) ts) V:=hV▸a0.out.step (X':=List.range W.heap.size) ((Kept.refl [b] t).setCell (p:=⟨b,0,none⟩) (Or.inl (by simp)) _) (fun y hy _=>by rw[List.mem_singleton]at hy;exact List.mem_range.2 (by omega)) (fun y hy=>Or.inl hy)
  have b0:Ps B V rb ts ta tc (s.length:Int) wa j7:=by
   rw[<-Q];have h3:=G.get;rw[<-hV]at h3 ⊢;exact b5.out.both (p:=⟨b,0,none⟩) _ (by have:=c8.out;show b < t.heap.size;omega) c7 h3
  have kA:Kept [] w wa:=Q▸ci.out.setCell (Or.inr (by have:=l.out;show w.heap.size<=b;omega)) _;have pA:PB wa b nm #[.int .i64 0,.string ⟨#[]⟩,.string ⟨#[]⟩,.int .i64 0,.slice none 0 0] 0 0:=Q▸⟨a4.out.h0.set_ 0 _,a4.out.h1.far (p:=⟨b,0,none⟩) (by simp) _,a4.out.h2.far (p:=⟨b,0,none⟩) (by simp <;> omega) _,a4.out.h3.far (p:=⟨b,0,none⟩) (by simp <;> omega) _⟩;have co:Hid (V.heap.size=rb):=hid (by rw[<-hV];simpa [World.setCell]using c8.out);have H8:=hid (bU b0 [123]);have bs:=hid kA;have bn:=hid pA;have cp:=hid G;clear Q hV G b0 kA pA c0 f0 b5 ci a4 bp bv H7
  cases e8:bz ts [123] j7 with
  |error k =>
   have f:=bd.out;rw[e8]at H8 f
   simp only at f
   subst f;go_wp2_with (go_at_call 69;refine H8.out.mono ?_;unfold cf;rintro e J ⟨⟨p,rfl⟩,u⟩)
   exact cS (bn.out.kept u (fun y hy=>by rw[List.mem_singleton]at hy;omega)) rfl rfl rfl rfl fun w' k'=>⟨((bs.out.fresh u (fun y hy=>by rw[List.mem_singleton]at hy;have:=l.out;omega)).fresh k' (fun y hy=>by simp only[List.mem_cons,List.not_mem_nil,or_false]at hy;have:=l.out;omega)),_,rfl⟩
  |ok y =>
  obtain⟨u8,j8⟩:=y;have f:=bd.out;rw[e8]at H8 f
  simp only at f
  have bc:=hid f;clear f bd e8;go_upto_region 9 with(go_at_call 69;refine H8.out.mono ?_;unfold cf;rintro e w8 ⟨rfl,k8,h8⟩);have bo:=hid (bn.out.kept k8 (fun y hy=>by rw[List.mem_singleton]at hy;omega));have bt:=hid (bs.out.fresh k8 (fun y hy=>by rw[List.mem_singleton]at hy;have:=l.out;omega));have H9:=hid (jJ (cB ts (ts.length+1)) h8 (fun w' j _ hq=>tS (ts.length+1) j w' (by omega) hq) (fun i p j hh=>by have:=(fR (ts:=ts) (ts.length+1) i p j hh).1;omega));have aq:Hid (rb < w8.heap.size):=hid h8.blk.lt;clear k8 h8 H8 bn bs
  cases e9:dw ts (cB ts (ts.length+1)) j8 with
  |error k =>
   have f:=bc.out;rw[e9]at H9 f
   simp only at f
   subst f;go_wp2_with (go_at_call 71;refine H9.out.mono ?_;unfold PdE;rintro e J ⟨⟨p,rfl⟩,u⟩)
   exact cS (bo.out.kept u (fun y hy=>by rw[List.mem_singleton]at hy;omega)) rfl rfl rfl rfl fun w' k'=>⟨((bt.out.fresh u (fun y hy=>by rw[List.mem_singleton]at hy;have:=l.out;omega)).fresh k' (fun y hy=>by simp only[List.mem_cons,List.not_mem_nil,or_false]at hy;have:=l.out;omega)),_,rfl⟩
  |ok y =>
  obtain⟨p,j9⟩:=y;have f:=bc.out;rw[e9]at H9 f
  simp only at f
  have bb:=hid f;clear f bc e9;obtain⟨pk,pl,pr,pc,A⟩:=p;go_upto_region 10 with(go_at_call 71;refine H9.out.mono ?_;unfold PdE;rintro e J ⟨v,rfl,u,h9,cs,rfl,b7⟩;obtain⟨pa,E,rfl,_⟩:=b7.get.rows;have r:=bo.out.kept u (fun y hy=>by rw[List.mem_singleton]at hy;omega);have p0:J.cell? ⟨b+1,0,none⟩=some (.int .i64 0):=r.h1.cell 0;have q0:=r.h1.frozen 0;have p1:J.cell? ⟨b+1,1,none⟩=some (.string ⟨#[]⟩):=r.h1.cell 1;have q1:=r.h1.frozen 1;have p2:J.cell? ⟨b+1,2,none⟩=some (.string ⟨#[]⟩):=r.h1.cell 2;have q2:=r.h1.frozen 2;have p3:J.cell? ⟨b+1,3,none⟩=some (.int .i64 0):=r.h1.cell 3;have q3:=r.h1.frozen 3;have p4:J.cell? ⟨b+1,4,none⟩=some (.slice none 0 0):=r.h1.cell 4;have q4:=r.h1.frozen 4;have a3:=hid r;have cb:=hid (bt.out.fresh u (fun y hy=>by rw[List.mem_singleton]at hy;have:=l.out;omega));have b4:=hid h9;have b2:=hid b7;clear r u h9 b7);obtain⟨wb,F⟩:∃x,((((J.setCell ⟨b+1,0,none⟩ (.int .i64 pk)).setCell ⟨b+1,1,none⟩ (.string ⟨pl.toArray⟩)).setCell ⟨b+1,2,none⟩ (.string ⟨pr.toArray⟩)).setCell ⟨b+1,3,none⟩ (.int .i64 pc)).setCell ⟨b+1,4,none⟩ (.slice pa A.length E)=x:=⟨_,rfl⟩;rw[F];have M:Kept [b+1] J wb:=F▸(((((Kept.refl [b+1] J).setCell (p:=⟨b+1,0,none⟩) (Or.inl (by simp)) _).setCell (p:=⟨b+1,1,none⟩) (Or.inl (by simp)) _).setCell (p:=⟨b+1,2,none⟩) (Or.inl (by simp)) _).setCell (p:=⟨b+1,3,none⟩) (Or.inl (by simp)) _).setCell (p:=⟨b+1,4,none⟩) (Or.inl (by simp)) _;have I:=b4.out.both5 (g:=b+1) (n:=W.heap.size) (by have:=co.out;omega) (by omega) (by have:=a2.out.h3.lt;omega) cp.out (.int .i64 pk) (.string ⟨pl.toArray⟩) (.string ⟨pr.toArray⟩) (.int .i64 pc) (.slice pa A.length E)
  rw[F]at I;obtain⟨V',av⟩:∃V',Ps B V' rb ts ta tc (s.length:Int) wb j9:=⟨_,I⟩;clear I;have pB:PB wb b nm #[.int .i64 pk,.string ⟨pl.toArray⟩,.string ⟨pr.toArray⟩,.int .i64 pc,.slice pa A.length E] 0 0:=⟨a3.out.h0.kept M (by simp),F▸((((a3.out.h1.set_ 0 _).set_ 1 _).set_ 2 _).set_ 3 _).set_ 4 _,a3.out.h2.kept M (by simp),a3.out.h3.kept M (by simp <;> omega)⟩;have kB:Kept [] w wb:=cb.out.fresh M (fun y hy=>by rw[List.mem_singleton]at hy;have:=l.out;omega);have c1:=b2.out.step (X':=List.range w8.heap.size) M (fun y hy _=>by rw[List.mem_singleton]at hy;have:=aq.out;exact List.mem_range.2 (by omega)) (fun y hy=>Or.inl hy);have a9:=hid (bU av [125]);have a1:=hid pB;have br:=hid kB;have b1:=hid c1;clear F M pB kB c1 av a3 cb b4 b2 p0 p1 p2 p3 p4 q0 q1 q2 q3 q4 bo bt H9
  cases e10:bz ts [125] j9 with
  |error k =>
   have f:=bb.out;rw[e10]at a9 f
   simp only at f
   subst f;go_wp2_with (go_at_call 69;refine a9.out.mono ?_;unfold cf;rintro e J ⟨⟨p,rfl⟩,u⟩)
   exact cS (a1.out.kept u (fun y hy=>by rw[List.mem_singleton]at hy;omega)) rfl rfl rfl rfl fun w' k'=>⟨((br.out.fresh u (fun y hy=>by rw[List.mem_singleton]at hy;have:=l.out;omega)).fresh k' (fun y hy=>by simp only[List.mem_cons,List.not_mem_nil,or_false]at hy;have:=l.out;omega)),_,rfl⟩
  |ok y =>
  obtain⟨cy,N⟩:=y;have f:=bb.out;rw[e10]at a9 f
  simp only at f
  have c9:=hid f;clear f bb e10;go_upto_region 11 with(go_at_call 69;refine a9.out.mono ?_;unfold cf;rintro e L ⟨rfl,ab,Y⟩);have r1:L.cell? ⟨rb,1,none⟩=some (.int .i64 N):=Y.blk.cell 1;have q:=hid (a1.out.kept ab (fun y hy=>by rw[List.mem_singleton]at hy;omega));have a8:=hid (br.out.fresh ab (fun y hy=>by rw[List.mem_singleton]at hy;have:=l.out;omega));have Z:=hid (b1.out.step (X':=List.range w8.heap.size) ab (fun y hy _=>by rw[List.mem_singleton]at hy;have:=aq.out;exact List.mem_range.2 (by omega)) (fun y hy=>Or.inl hy));have HF:=hid (dD Y 12 N Y.le (N:Int) rfl);have cz:=Y.small;clear ab Y a9 a1 br b1
  by_cases hlt:N < ts.length
  ·have hlt':(N:Int) < (ts.length:Int):=by omega
   have f:=c9.out;rw[if_pos hlt]at f
   simp only at f
   subst f;go_wp2_with (go_at_call 72;refine HF.out.mono ?_;rintro e J ⟨⟨p,rfl⟩,u⟩)
   exact cS (q.out.kept u (by simp)) rfl rfl rfl rfl fun w' k'=>⟨((a8.out.trans u).fresh k' (fun y hy=>by simp only[List.mem_cons,List.not_mem_nil,or_false]at hy;have:=l.out;omega)),_,rfl⟩
  ·have hlt':¬(N:Int) < (ts.length:Int):=by omega
   have f:=c9.out;rw[if_neg hlt]at f
   simp only at f
   have p0:L.cell? ⟨b+1,0,none⟩=some (.int .i64 pk):=q.out.h1.cell 0;have p1:L.cell? ⟨b+1,1,none⟩=some (.string ⟨pl.toArray⟩):=q.out.h1.cell 1;have p2:L.cell? ⟨b+1,2,none⟩=some (.string ⟨pr.toArray⟩):=q.out.h1.cell 2;have p3:L.cell? ⟨b+1,3,none⟩=some (.int .i64 pc):=q.out.h1.cell 3;have p4:L.cell? ⟨b+1,4,none⟩=some (.slice pa A.length E):=q.out.h1.cell 4;have ag:=hid (lB Z.out.get)
   cases hsm:dG (.node pk pl pr pc A)
   ·rw[hsm]at f ag;simp only[Bool.false_eq_true,if_false]at f;subst f;go_upto_region 14 with(go_at_call 73;refine ag.out.mono ?_;rintro e o ⟨rfl,C⟩);have d:=q.out.kept C (by simp);have c0:o.cell? ⟨b,0,none⟩=some (.string ⟨nm.toArray⟩):=d.h0.cell 0;have f0:=d.h0.frozen 0;have p0:o.cell? ⟨b+1,0,none⟩=some (.int .i64 pk):=d.h1.cell 0;have q0:=d.h1.frozen 0;have p1:o.cell? ⟨b+1,1,none⟩=some (.string ⟨pl.toArray⟩):=d.h1.cell 1;have q1:=d.h1.frozen 1;have p2:o.cell? ⟨b+1,2,none⟩=some (.string ⟨pr.toArray⟩):=d.h1.cell 2;have q2:=d.h1.frozen 2;have p3:o.cell? ⟨b+1,3,none⟩=some (.int .i64 pc):=d.h1.cell 3;have q3:=d.h1.frozen 3;have p4:o.cell? ⟨b+1,4,none⟩=some (.slice pa A.length E):=d.h1.cell 4;have q4:=d.h1.frozen 4;have y0:o.cell? ⟨b+1+1,0,none⟩=some (.int .i64 0):=d.h2.cell 0;have y1:=d.h2.frozen 0;have z0:o.cell? ⟨b+1+1+1,0,none⟩=some (.int .i64 0):=d.h3.cell 0;have z1:=d.h3.frozen 0;have a6:=hid d;have a7:=hid (a8.out.trans C);clear d C;go_wp2_with fail;exact jR (a6.out.all [] _ _ _ _ _ 0 6) rfl rfl rfl rfl ⟨PB.all_kept a7.out l.out,_,rfl⟩
   ·rw[hsm]at f ag;simp only[if_true]at f;subst f;go_upto_region 15 with(go_at_call 73;refine ag.out.mono ?_;rintro e o ⟨rfl,C⟩);have d:=q.out.kept C (by simp);have c0:o.cell? ⟨b,0,none⟩=some (.string ⟨nm.toArray⟩):=d.h0.cell 0;have f0:=d.h0.frozen 0;have p0:o.cell? ⟨b+1,0,none⟩=some (.int .i64 pk):=d.h1.cell 0;have q0:=d.h1.frozen 0;have p1:o.cell? ⟨b+1,1,none⟩=some (.string ⟨pl.toArray⟩):=d.h1.cell 1;have q1:=d.h1.frozen 1;have p2:o.cell? ⟨b+1,2,none⟩=some (.string ⟨pr.toArray⟩):=d.h1.cell 2;have q2:=d.h1.frozen 2;have p3:o.cell? ⟨b+1,3,none⟩=some (.int .i64 pc):=d.h1.cell 3;have q3:=d.h1.frozen 3;have p4:o.cell? ⟨b+1,4,none⟩=some (.slice pa A.length E):=d.h1.cell 4;have q4:=d.h1.frozen 4;have y0:o.cell? ⟨b+1+1,0,none⟩=some (.int .i64 0):=d.h2.cell 0;have y1:=d.h2.frozen 0;have z0:o.cell? ⟨b+1+1+1,0,none⟩=some (.int .i64 0):=d.h3.cell 0;have z1:=d.h3.frozen 0;have a6:=hid d;have a7:=hid (a8.out.trans C);have ba:=hid (Z.out.step (X':=List.range w8.heap.size) C (fun y hy _=>by simp at hy) (fun y hy=>Or.inl hy));clear d C
    go_region
    go_wp2_with fail;refine jR (a6.out.all nm _ _ _ _ _ 0 0).drew rfl rfl rfl rfl ⟨(PB.all_kept a7.out l.out).drew,[.int .i64 pk,.string ⟨pl.toArray⟩,.string ⟨pr.toArray⟩,.int .i64 pc,.slice pa A.length E],rfl,?_⟩;exact ba.out.step (PB.all_keptS _ _ _ _ _ _ _ _ _ _).drew (fun y hy _=>by simp only[List.mem_cons,List.not_mem_nil,or_false]at hy;have:=aq.out;exact List.mem_range.2 (by omega)) (fun y hy=>Or.inl (List.mem_range.2 (by have:=List.mem_range.1 hy;have:=aq.out;have:=l.out;omega)))
end Go.Proofs.YtpcmamoomaddoaaGreatDoor
