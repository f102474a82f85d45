import Derived.Test.YtcidfldeiklcjaaGreatDoorBallot
set_option maxRecDepth 100000
set_option maxHeartbeats 32000000
namespace Go.Proofs.YtcidfldeiklcjaaGreatDoor
open Go.RowKit
open Go.ChangeShapes Go.Deep Go.WideShapes
section
variable {H:Type} {enc:TypeId × Value->H} {w:World} {base:Nat} {held:Bool}
end
open Go.Proofs.Tryz Tape
theorem xl:(prog.globals[2]?).map (·.type)=some 255:=by kernel_rfl
theorem yP:prog.cellsOf 5=1:=by kernel_rfl
theorem uF:prog.cellsOf 255=64:=by kernel_rfl
theorem oP{W:World}(hL:laidMetH prog fA W):Env2 W:=by
 have h:laidMet prog fA W:=hL;exact⟨qt hL,Lib.tabIs_of_head rJ xl underlying255 underlying5 yP uF h.tail⟩
section
variable {H:Type} {enc:TypeId × Value->H} {w:World} {base:Nat} {held:Bool}
theorem vw{r:Reach}{b0:Nat}{v:Value}{d:DataW H}{p:List MemPlace}(hv:Value.okWide prog w r b0 26 v)(h:DataW.Trod enc prog w base (fun _=>true) held 26 v d p) :
  ∃s:Stp,StpV w v s:=by
 have k:prog.cellsOf 26=5:=by kernel_rfl
 have g:prog.cellsOf 23=3:=by kernel_rfl
 obtain⟨cs,rfl,j⟩:=okWide_struct underlying26 hv;obtain⟨l⟩:=cs
 have V:l.length=5:=by simpa using j.trans k
 obtain⟨f,X⟩:=h
 have hf':DataW.trod enc prog w base (fun _=>true) held f 26 l=some (d,p):=by simpa [Value.cells]using X
 obtain⟨u,N,h0⟩:=lW underlying26 hf' 0 _ rfl;have i:DataW.trod enc prog w base (fun _=>true) held N 23 ((l.drop 0).take (prog.cellsOf 23))=some u:=h0;rw[g]at i;obtain⟨t,z0,m0,M,R⟩:=aY underlying23 i 0 _ rfl (by kernel_rfl) (by rw[g];decide);obtain⟨q,z1,m1,L,Q⟩:=aY underlying23 i 1 _ rfl (by kernel_rfl) (by rw[g];decide);obtain⟨o,z2,m2,J,P⟩:=aY underlying23 i 2 _ rfl (by kernel_rfl) (by rw[g];decide);obtain⟨n,y3,n3,e3,Z⟩:=aY underlying26 hf' 1 _ rfl (by kernel_rfl) (by rw[k];decide);obtain⟨m,y4,n4,e4,Y⟩:=aY underlying26 hf' 2 _ rfl (by kernel_rfl) (by rw[k];decide);have e3':l[3]?=some n:=e3;have e4':l[4]?=some m:=e4;have q0':((l.drop 0).take 3)[0]?=some t:=M;have q1':((l.drop 0).take 3)[1]?=some q:=L;have q2':((l.drop 0).take 3)[2]?=some o:=J
 obtain rfl:l=[t,q,o,n,m]:=by
  match l,V with
  | [a,b,c,d,e],_=>simp at e3' e4' q0' q1' q2';subst e3' e4' q0' q1' q2';rfl
 obtain⟨A,rfl,F⟩:=ex R;obtain⟨z,rfl,E⟩:=ex Q;obtain⟨y,rfl,D⟩:=ex P;obtain⟨O,r3,C,_⟩:=ki Z;obtain⟨x,rfl,B⟩:=ex Y;obtain⟨I,G,rfl,U,T⟩:=r3.form;exact⟨⟨A,z,y,O,x⟩,⟨⟨I,G,rfl,r3⟩,F,E,D,C,B⟩⟩
end
open Tm
section
variable {H:Type} {enc:TypeId × Value->H} {w:World} {base:Nat} {held:Bool}
theorem wZ(n:Nat)(cs:List Value)(y:DataW H × List MemPlace)(hl:cs.length=8)(h:DataW.trod enc prog w base (fun _=>true) held n 52 cs=some y):∃e:Ent,EntR w cs e/\EntJ e:=by
 have i:prog.cellsOf 52=8:=by kernel_rfl
 have l:prog.cellsOf 50=2:=by kernel_rfl
 obtain⟨t,y0,n0,e0,h0⟩:=aY underlying52 h 0 _ rfl (by kernel_rfl) (by rw[i];decide);obtain⟨s,y1,n1,e1,h1⟩:=aY underlying52 h 1 _ rfl (by kernel_rfl) (by rw[i];decide);obtain⟨r,y2,n2,e2,h2⟩:=aY underlying52 h 2 _ rfl (by kernel_rfl) (by rw[i];decide);obtain⟨q,y3,n3,e3,h3⟩:=aY underlying52 h 3 _ rfl (by kernel_rfl) (by rw[i];decide);obtain⟨p,y4,n4,e4,h4⟩:=aY underlying52 h 4 _ rfl (by kernel_rfl) (by rw[i];decide);obtain⟨o,y5,n5,e5,h5⟩:=aY underlying52 h 5 _ rfl (by kernel_rfl) (by rw[i];decide);obtain⟨A,O,Z⟩:=lW underlying52 h 6 _ rfl;have m:DataW.trod enc prog w base (fun _=>true) held O 50 ((cs.drop 6).take (prog.cellsOf 50))=some A:=Z;rw[l]at m;obtain⟨z,z6,m6,N,Q⟩:=aY underlying50 m 0 _ rfl (by kernel_rfl) (by rw[l];decide);obtain⟨x,z7,m7,M,P⟩:=aY underlying50 m 1 _ rfl (by kernel_rfl) (by rw[l];decide);have e0':cs[0]?=some t:=e0;have e1':cs[1]?=some s:=e1;have e2':cs[2]?=some r:=e2;have e3':cs[3]?=some q:=e3;have e4':cs[4]?=some p:=e4;have e5':cs[5]?=some o:=e5;have q6':((cs.drop 6).take 2)[0]?=some z:=N;have q7':((cs.drop 6).take 2)[1]?=some x:=M
 obtain rfl:cs=[t,s,r,q,p,o,z,x]:=by
  match cs,hl with
  | [a,b,c,d,e,f,g,h],_=>simp at e0' e1' e2' e3' e4' e5' q6' q7';subst e0' e1' e2' e3' e4' e5' q6' q7';rfl
 obtain⟨V,rfl,I⟩:=ex h0;obtain⟨U,rfl,G⟩:=ex h1;obtain⟨T,rfl,F⟩:=ex h2;obtain⟨R,rfl,E⟩:=ex h3;obtain⟨v,r4,D,Y⟩:=ki h4;obtain⟨u,rfl,k⟩:=tr h5;obtain⟨i6',rfl,C⟩:=ex Q;obtain⟨i7',rfl,B⟩:=ex P;obtain⟨L,J,rfl,j,X⟩:=r4.form
 have hl5':u.data.toList.length<=9223372036854775807:=by simpa [maxLen]using k
 exact⟨⟨V,U,T,R,v,u.data.toList,i6',i7'⟩,⟨.slice L v.length J,by unfold entC;rw[vW],r4⟩,⟨I,G,F,E,D,C,B,j,hl5'⟩⟩
theorem yG{n:Nat}{u:Value}{y:DataW H × List MemPlace}(h:DataW.trod enc prog w base (fun _=>true) held n 27 [u]=some y):∃l:List Ent,aU w u l/\(∀e∈l,EntJ e)/\l.length<=maxLen :=
 yg underlying27 (by kernel_rfl) (by decide) wZ h
end
end Go.Proofs.YtcidfldeiklcjaaGreatDoor
