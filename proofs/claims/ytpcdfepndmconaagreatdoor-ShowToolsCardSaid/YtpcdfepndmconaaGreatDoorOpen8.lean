/- Arguments opened: a list of points. -/
import Derived.Test.YtpcdfepndmconaaGreatDoorOpen7
import Derived.Test.YtpcdfepndmconaaGreatDoorPrm
import Derived.Test.YtpcdfepndmconaaGreatDoorRf3
import Derived.Test.YtpcdfepndmconaaGreatDoorSg1
import Derived.Test.YtpcdfepndmconaaGreatDoorNwh
/- JOINED: Open10 Open8 -/
/- Arguments opened: a setup, a list of statutes; the program's tables out of the row's listed variables. -/
namespace Go.Proofs.YtpcdfepndmconaaGreatDoor
open Go.RowKit Go.ChangeShapes Go.WideShapes Go.Deep Tape
theorem db64Type:(Tryz.prog.globals[6]?).map (·.type)=some 255:=by kernel_rfl
theorem cellsU8:Tryz.prog.cellsOf 5=1:=by kernel_rfl
theorem cellsDb64:Tryz.prog.cellsOf 255=64:=by kernel_rfl
theorem env2_of_laid {W:World} (hL:laidMetH Tryz.prog laidList W):Env2 W:=by
 have h:laidMet Tryz.prog laidList W:=hL;exact ⟨env_of_laid hL,Lib.tabIs_of_head g_db64 db64Type Tryz.underlying255 Tryz.underlying5 cellsU8 cellsDb64 h.tail⟩
section
variable {H:Type} {enc:TypeId × Value→H} {w:World} {base:Nat} {held:Bool}
set_option maxRecDepth 100000 in
/-- a setup that came in -/
theorem setup_of {r:Reach} {b0:Nat} {v:Value} {d:DataW H} {p:List MemPlace} (hv:Value.okWide Tryz.prog w r b0 26 v) (h:DataW.Trod enc Tryz.prog w base (fun _=>true) held 26 v d p) :
  ∃ s:Stp,StpV w v s:=by
 have hC:Tryz.prog.cellsOf 26=5:=by kernel_rfl
 have hG:Tryz.prog.cellsOf 23=3:=by kernel_rfl
 obtain ⟨cs,rfl,hsz⟩:=okWide_struct Tryz.underlying26 hv;obtain ⟨l⟩:=cs
 have hl:l.length=5:=by simpa using hsz.trans hC
 obtain ⟨fuel,hf⟩:=h
 have hf':DataW.trod enc Tryz.prog w base (fun _=>true) held fuel 26 l=some (d,p):=by simpa [Value.cells] using hf
 obtain ⟨y0,n0,h0⟩:=field_many Tryz.underlying26 hf' 0 _ rfl;have g0:DataW.trod enc Tryz.prog w base (fun _=>true) held n0 23 ((l.drop 0).take (Tryz.prog.cellsOf 23))=some y0:=h0;rw [hG] at g0;obtain ⟨a0,z0,m0,q0,i0⟩:=cell_field Tryz.underlying23 g0 0 _ rfl (by kernel_rfl) (by rw [hG];decide);obtain ⟨a1,z1,m1,q1,i1⟩:=cell_field Tryz.underlying23 g0 1 _ rfl (by kernel_rfl) (by rw [hG];decide);obtain ⟨a2,z2,m2,q2,i2⟩:=cell_field Tryz.underlying23 g0 2 _ rfl (by kernel_rfl) (by rw [hG];decide);obtain ⟨u3,y3,n3,e3,h3⟩:=cell_field Tryz.underlying26 hf' 1 _ rfl (by kernel_rfl) (by rw [hC];decide);obtain ⟨u4,y4,n4,e4,h4⟩:=cell_field Tryz.underlying26 hf' 2 _ rfl (by kernel_rfl) (by rw [hC];decide);have e3':l[3]?=some u3:=e3;have e4':l[4]?=some u4:=e4;have q0':((l.drop 0).take 3)[0]?=some a0:=q0;have q1':((l.drop 0).take 3)[1]?=some a1:=q1;have q2':((l.drop 0).take 3)[2]?=some a2:=q2
 obtain rfl:l=[a0,a1,a2,u3,u4]:=by
  match l,hl with
  | [a,b,c,d,e],_=>simp at e3' e4' q0' q1' q2';subst e3' e4' q0' q1' q2';rfl
 obtain ⟨x0,rfl,w0⟩:=int_of i0;obtain ⟨x1,rfl,w1⟩:=int_of i1;obtain ⟨x2,rfl,w2⟩:=int_of i2;obtain ⟨l3,r3,w3,_⟩:=ints_of h3;obtain ⟨x4,rfl,w4⟩:=int_of h4;obtain ⟨sa,sc,rfl,hl1,hl2⟩:=r3.form;exact ⟨⟨x0,x1,x2,l3,x4⟩,⟨⟨sa,sc,rfl,r3⟩,w0,w1,w2,w3,w4⟩⟩
end
end Go.Proofs.YtpcdfepndmconaaGreatDoor
namespace Go.Proofs.YtpcdfepndmconaaGreatDoor
open Go.RowKit Go.ChangeShapes Go.WideShapes Go.Deep Tape
def toP:List Int→List Pnt3
 | a::b::c::t=>(a,b,c)::toP t
 | _=>[]
theorem toP_flat:∀ (n:Nat) (l:List Int),l.length=n*3→flatP (toP l)=l∧(toP l).length=n
 | 0,l,h=>by
  have:=List.eq_nil_of_length_eq_zero (l:=l) (by omega);subst this;exact ⟨rfl,rfl⟩
 | n+1,l,h=>by
  match l,h with
  | a::b::c::t,h =>
   obtain ⟨h1,h2⟩:=toP_flat n t (by simp at h;omega);exact ⟨by show a::b::c::flatP (toP t)=_;rw [h1],by show (toP t).length+1=_;rw [h2]⟩
  | [],h=>simp at h
  | [a],h=>simp at h;omega
  | [a,b],h=>simp at h;omega
theorem flatP_mem:∀ (l:List Pnt3) (p:Pnt3),p∈l→p.1∈flatP l∧p.2.1∈flatP l∧p.2.2∈flatP l
 | [],_,h=>by cases h
 | a::l,p,h=>by
  rcases List.mem_cons.1 h with rfl|h
  ·simp [flatP]
  ·obtain ⟨h1,h2,h3⟩:=flatP_mem l p h
   simp [flatP,h1,h2,h3]
section
variable {H:Type} {enc:TypeId × Value→H} {w:World} {base:Nat} {held:Bool}
theorem points_of {n:Nat} {u:Value} {y:DataW H × List MemPlace} (h:DataW.trod enc Tryz.prog w base (fun _=>true) held n 31 [u]=some y) :
  ∃ pts:List Pnt3,Row w 3 u pts.length (ints (flatP pts))∧∀ p∈pts,Wire.I64 p.1∧Wire.I64 p.2.1∧Wire.I64 p.2.2:=by
 obtain ⟨m,l,hr,hi⟩:=pts_of h
 have hl:l.length=m*3:=by have:=hr.1;simpa [ints] using this
 obtain ⟨h1,h2⟩:=toP_flat m l hl;refine ⟨toP l,by rw [h1,h2];exact hr,fun p hp=>?_⟩;obtain ⟨m1,m2,m3⟩:=flatP_mem _ p hp;rw [h1] at m1 m2 m3;exact ⟨hi _ m1,hi _ m2,hi _ m3⟩
end
end Go.Proofs.YtpcdfepndmconaaGreatDoor
