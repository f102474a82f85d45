import Derived.Test.YtcidfldeiklcjaaGreatDoorRr4
set_option maxRecDepth 100000
set_option maxHeartbeats 32000000
namespace Go.Proofs.YtcidfldeiklcjaaGreatDoor
open Go.RowKit
open Go.Proofs.Tryz
open Lib(hid)
theorem gH(e:UInt8)(r:Wire.Rd)(h:r.bad=false):(r.rest.head?==some e)=!(Wire.close [e] r).bad:=by
 rw[Wire.aab]
 by_cases hc:r.rest.head?=some e
 ·rw[if_pos hc,hc];simp[h]
 ·rw[if_neg hc];simpa [Wire.be]using hc
theorem nY(b:Nat)(r:Wire.Rd)(w:World)(h:RrAt w b r)(ho:Wire.Ok r)(hs:Fits r) :
  Calls prog 194 #[.pointer (some ⟨b,0,none⟩)] w fun en w' =>
   en=.returned (.string ⟨(Wire.text r).1.toArray⟩)/\RrAt w' b (Wire.text r).2/\Kept [b] w w':=by
 obtain⟨n,r1,d⟩:∃n r1,Wire.ar 58 0 r=(n,r1):=⟨_,_,rfl⟩
 have s:0<=n:=by have:=Wire.yt 58 0 (by omega) r;rw[d]at this;exact this
 obtain⟨m,rfl⟩:=Int.eq_ofNat_of_zero_le s
 have l:Wire.Ok r1:=by have:=Wire.fR 58 0 r ho;rw[d]at this;exact this
 have C:=hid (fN b r 58 d w h Wire.not58 ho hs);have v:=aP d hs
 unfold Fits at v
 obtain⟨x,r2,g⟩:∃x r2,Wire.text r=(x,r2):=⟨_,_,rfl⟩;rw[g]
 cases hb:r1.bad
 ·by_cases hlt:m < r1.rest.length
  ·obtain⟨k,f⟩:=nm (Wire.close [44] ⟨r1.rest.drop m,r1.bad⟩);have t:=Wire.zZ d hlt f;rw[g]at t;have i:=gH 44 ⟨r1.rest.drop m,r1.bad⟩ hb;rw[f]at i
   have G:Hid (∀w,RrAt w b ⟨r1.rest.drop m,r1.bad⟩->Calls prog 219 #[.pointer (some ⟨b,0,none⟩),.int .u8 44] w fun en w'=>en=.returned (.bool (!k.bad))/\RrAt w' b k/\Kept [b] w w'):=fun w hw=>by
    have:=lr b ⟨r1.rest.drop m,r1.bad⟩ 44 w hw (by simp only[List.length_drop];omega);rw[f,i]at this;exact this
   have J:=jo r1.rest m;have I:=gU r1.rest m;have D:=hid t
   have F:(m:Int)<=(r1.rest.length:Int):=by omega
   have p:=hid hb;clear d f i t g
   go_enter func194,ntmps194
   go_wp2_with (go_at_call 218;refine C.out.mono ?_);rintro e z ⟨rfl,a,j⟩;have E:=a.c0;have o:=a.c1;have L:=a.2.frozen 0;rw[p.out]at o;clear hb;go_wp2_with (go_at_call 219;refine(G _ (a.set1 _)).mono ?_);rintro e y ⟨rfl,B,A⟩
   cases hrb:k.bad
   ·have c:Hid (x=r1.rest.take m/\r2=k):=by
     have:=D.out;rw[hrb]at this;injection this with e1 e2;exact⟨e1,e2⟩
    clear hrb;go_wp2_with fail;go_ret;exact⟨by rw[c.out.1];rfl,by rw[c.out.2];exact B,(j.setCell (by simp) _).trans A⟩
   ·have c:Hid (x=[]/\r2=k):=by
     have:=D.out;rw[hrb]at this;injection this with e1 e2;exact⟨e1,e2⟩
    clear hrb;go_wp2_with fail;go_ret;exact⟨by rw[c.out.1];rfl,by rw[c.out.2];exact B,(j.setCell (by simp) _).trans A⟩
  ·have c:Hid (x=[]/\r2=Wire.be):=by
    have:=Wire.aaa d l (Or.inr (by omega));rw[g]at this;injection this with e1 e2;exact⟨e1,e2⟩
   have p:=hid hb
   have F:decide ((r1.rest.length:Int)<=(m:Int))=true:=by simp;omega
   have M:(r1.rest.length:Int)<=(m:Int):=by omega
   clear d g hlt hb
   go_enter func194,ntmps194
   go_wp2_with (go_at_call 218;refine C.out.mono ?_);rintro e z ⟨rfl,a,j⟩;have E:=a.c0;have o:=a.c1;rw[p.out]at o;go_wp2_with (go_at_call 220;refine(dX b _ _ a).mono ?_;rintro e y ⟨rfl,q,u⟩);go_ret;exact⟨by rw[c.out.1];rfl,by rw[c.out.2];exact q,j.trans u⟩
 ·have c:Hid (x=[]/\r2=Wire.be):=by
   have:=Wire.aaa d l (Or.inl hb);rw[g]at this;injection this with e1 e2;exact⟨e1,e2⟩
  have p:=hid hb;clear d g hb
  go_enter func194,ntmps194
  go_wp2_with (go_at_call 218;refine C.out.mono ?_);rintro e z ⟨rfl,a,j⟩;have o:=a.c1;rw[p.out]at o;go_wp2_with (go_at_call 220;refine(dX b _ _ a).mono ?_;rintro e y ⟨rfl,q,u⟩);go_ret;exact⟨by rw[c.out.1];rfl,by rw[c.out.2];exact q,j.trans u⟩
def RrRel(w0:World)(b:Nat)(fin:List Int × Wire.Rd)(L n:Nat)(v i:Value)(wr:World):Prop :=
 ∃(m:Nat) (r:Wire.Rd) (acc:List Int),m<=n/\i=.int .i64 ((n - m:Nat):Int)/\Wire.loop dZ m r acc=fin/\wr.ownsRow w0.heap.size 3 1 v acc.length (ints acc) /\
  RrAt wr b r/\Kept [b] w0 wr/\Fits r/\Pays L r acc.length/\Wire.Ok r
theorem sn(b:Nat)(r:Wire.Rd)(w:World)(h:RrAt w b r)(ho:Wire.Ok r)(hs:Fits r) :
  Calls prog 193 #[.pointer (some ⟨b,0,none⟩)] w fun en w' =>
   ∃v,en=.returned v/\w'.ownsRow w.heap.size 3 1 v (Wire.nums r).1.length (ints (Wire.nums r).1)/\RrAt w' b (Wire.nums r).2/\Kept [b] w w':=by
 obtain⟨n,r1,E⟩:∃n r1,Wire.ar 91 0 r=(n,r1):=⟨_,_,rfl⟩
 have U:0<=n:=by have:=Wire.yt 91 0 (by omega) r;rw[E]at this;exact this
 have al:n<=9223372036854775807:=by have:=Wire.xM 91 0 r;rw[E]at this;exact this.2
 obtain⟨m,rfl⟩:=Int.eq_ofNat_of_zero_le U;have B:=aP E hs
 have T:Wire.Ok r1:=by have:=Wire.fR 91 0 r ho;rw[E]at this;exact this
 have C:=hid (fN b r 91 E w h Wire.not91 ho hs);obtain⟨J,f⟩:=nm (Wire.loop dZ m r1 []);have H:=hid E;have HF:=hid f;have Y:=h.2.lt;have ab:=hid T;obtain⟨i0,hi,a2,a1,a0⟩:=info_parts kj;clear E f T ho
 go_enter func193,ntmps193
 go_wp2_with (go_at_call 218;refine C.out.mono ?_);rintro e w1 ⟨rfl,Z,a6⟩;go_wp2_with fail
 go_loopw [4,5] (fun v i wr=>RrRel w b J 100000000 m v i wr) (fun _ i _=>m - (intOf i).toNat)
 case atStart =>
  exact⟨m,r1,[],Nat.le_refl _,by rw[Nat.sub_self];rfl,HF.out,by simpa [ints]using World.ownsRow_nil _ _ _ _,Z,a6,B,⟨fun _=>by unfold Fits at B;simpa using B,by simp⟩,ab.out⟩
 case round =>
  obtain⟨n,r',q,hn,rfl,hl,o,Q,F,hf,hp,R⟩:=hrel;have ah:=F.size;have N:=Q.c1;have HL:=hid hl;have L:=hid R;clear hl R;obtain⟨j,hj⟩:=nm (m - n);rw[hj]
  have am:j<=m:=by omega
  have HJ:=hid hj;clear hj
  by_cases hgo:0 < n/\r'.bad=false
  ·obtain⟨U,p⟩:=hgo;obtain⟨n,rfl⟩:∃k,n=k+1:=⟨n - 1,by omega⟩;obtain⟨y,r2,O⟩:∃y r2,dZ r'=(y,r2):=⟨_,_,rfl⟩;have P:=vE b r' O wr Q L hf;have c:=hp.step p (fw 59 (-9223372036854775808) r');have hy':Wire.ar 59 (-9223372036854775808) r'=(y,r2):=O;have a7:=aP O hf
   have aa:Hid (Wire.Ok r2):=by have:=Wire.fR 59 (-9223372036854775808) r' L.out;rw[hy']at this;exact this
   have V:Wire.loop dZ n r2 (q++[y])=J:=by
    have:=HL.out;simp only[Wire.loop,p,Bool.false_eq_true,if_false,O]at this;exact this
   rw[hy']at c
   simp only at c
   have HR:=hid P;have ac:=hid V;rw[p]at N
   have ad:(j:Int) < (m:Int):=by have:=HJ.out;omega
   clear O hy' P V p
   go_wp2_with (first
    |(go_at_call 196;refine HR.mono ?_;rintro e w2 ⟨rfl,M,g⟩;have a:=bZ o g (by simpa using Y))
    |(at_builtin;refine wpList_append_own _ rfl _ _ 24 rfl w.heap.size 3 i0 (.int .i64 0) 1 8 underlying24 hi a2 a1 a0 rfl (by decide) _ _ _ rfl (a.alloc _) ⟨w2.heap.size,0,none⟩ 1 1 [y] rfl rfl ?N ?c2 ?c3 ?c4 ?c5 ?_))
   case N=>exact cell_one_new _ _ _
   case c2=>intro u hu;obtain rfl:=ms hu;rfl
   case c3=>have:=c.2;unfold maxLen;omega
   case c4=>have:=c.2;omega
   case c5=>have:=g.size;simp;omega
   intro v' w3 t G _;have a5:Kept [b] w w3:=((F.trans g).alloc _).grown G (fun k F=>Or.inr (a.lt k F).1);have a4:RrAt w3 b r2:=⟨M.1,(G.block b (Nat.lt_of_lt_of_le M.2.lt (by simp)) (fun e=>by have:=(a.lt b e.symm).1;omega)).trans (M.2.alloc _)⟩
   have e3:ints q++[.int .i64 y]=ints (q++[y]):=by simp[ints]
   rw[e3]at t;clear e3 G a o M g F Q N;go_wp2
   go_roundw
   case rel=>exact⟨n,r2,q++[y],by omega,by have:=HJ.out;rw[show m - n=j+1 by omega];go_num,ac.out,by simpa using t,a4,a5,a7,by simpa using c,aa.out⟩
   case measure=>simp[intOf];omega
  ·have f:J=(q,r'):=by
    rw[<-HL.out]
    cases n with
    |zero=>rfl
    |succ n =>
     have l:r'.bad=true:=by
      cases l:r'.bad
      ·exact absurd ⟨by omega,l⟩ hgo
      ·rfl
     simp[Wire.loop,l]
   have A:Wire.nums r=(if(Wire.close [93] r').bad then[]else q,Wire.close [93] r'):=by
    rw[ij]
    unfold Wire.items
    rw[H.out];simp only[Int.toNat_natCast];rw[HF.out,f]
    simp only
    split <;> rfl
   have HO:=hid A;obtain⟨va,vc,rfl⟩:=aG o
   have x:(decide ((j:Int) < (m:Int))=false)\/(decide ((j:Int) < (m:Int))=true/\r'.bad=true):=by
    rcases Nat.eq_zero_or_pos n with h0|h0
    ·left
     have:=HJ.out
     simp;omega
    ·right
     refine⟨by have:=HJ.out;simp;omega,?_⟩
     cases l:r'.bad
     ·exact absurd ⟨h0,l⟩ hgo
     ·rfl
   have HX:=hid x;clear f A HL hgo x
   cases l:r'.bad
   ·have I:=gH 93 r' l;have z:=lr b r' 93 wr Q hf
    generalize a3:Wire.close [93] r'=rc at z I HO
    rw[I]at z;have HC:Hid (Calls prog 219 #[.pointer (some ⟨b,0,none⟩),.int .u8 93] wr fun en w'=>en=.returned (.bool (!rc.bad))/\RrAt w' b rc/\Kept [b] wr w'):=z
    have d:m<=j:=by
     rcases HX with h|⟨_,h⟩
     ·simpa using h
     ·rw[l]at h;cases h
    rw[l]at N;clear I z a3 l
    cases hbc:rc.bad
    all_goals
     go_wp2_with (go_at_call 219;refine HC.mono ?_;rintro e w2 ⟨rfl,M,g⟩);go_wp2_with fail;go_ret;rw[HO.out];simp only[hbc,if_true,Bool.false_eq_true,if_false];refine⟨_,rfl,?_,M,F.trans g⟩
    ·exact bZ o g (by simpa using Y)
    ·exact by simpa [ints]using World.ownsRow_nil _ _ _ _
   ·have D:r'=Wire.be:=by
     obtain⟨s,bd⟩:=r';have Z:=L l
     simp only at Z l
     subst Z l
     rfl
    have X:Wire.close [93] r'=Wire.be:=by rw[D];rfl
    rw[X]at HO;have a9:=hid D;rw[l]at N;clear D X l HX
    by_cases hd:j < m
    all_goals
     go_wp2_with fail;go_ret;rw[HO.out];refine⟨_,rfl,by simpa [ints,Wire.be]using World.ownsRow_nil _ _ _ _,by rw[<-a9.out];exact Q,F⟩
theorem uT(r:Wire.Rd):Wire.texts r=Wire.items Wire.text r:=rfl
def zU(w0:World)(b:Nat)(fin:List (List UInt8) × Wire.Rd)(L n:Nat)(v i:Value)(wr:World):Prop :=
 ∃(m:Nat) (r:Wire.Rd) (acc:List (List UInt8)),m<=n/\i=.int .i64 ((n - m:Nat):Int)/\Wire.loop Wire.text m r acc=fin/\wr.ownsRow w0.heap.size 9 1 v acc.length (strs acc) /\
  RrAt wr b r/\Kept [b] w0 wr/\Fits r/\Pays L r acc.length/\Wire.Ok r
theorem pA(b:Nat)(r:Wire.Rd)(w:World)(h:RrAt w b r)(ho:Wire.Ok r)(hs:Fits r) :
  Calls prog 197 #[.pointer (some ⟨b,0,none⟩)] w fun en w' =>
   ∃v,en=.returned v/\w'.ownsRow w.heap.size 9 1 v (Wire.texts r).1.length (strs (Wire.texts r).1)/\RrAt w' b (Wire.texts r).2/\Kept [b] w w':=by
 obtain⟨n,r1,F⟩:∃n r1,Wire.ar 91 0 r=(n,r1):=⟨_,_,rfl⟩
 have U:0<=n:=by have:=Wire.yt 91 0 (by omega) r;rw[F]at this;exact this
 have al:n<=9223372036854775807:=by have:=Wire.xM 91 0 r;rw[F]at this;exact this.2
 obtain⟨m,rfl⟩:=Int.eq_ofNat_of_zero_le U;have D:=aP F hs
 have T:Wire.Ok r1:=by have:=Wire.fR 91 0 r ho;rw[F]at this;exact this
 have C:=hid (fN b r 91 F w h Wire.not91 ho hs);obtain⟨L,f⟩:=nm (Wire.loop Wire.text m r1 []);have H:=hid F;have HF:=hid f;have Y:=h.2.lt;have ab:=hid T;obtain⟨i0,hi,a2,a1,a0⟩:=info_parts sG;clear F f T ho
 go_enter func197,ntmps197
 go_wp2_with (go_at_call 218;refine C.out.mono ?_);rintro e w1 ⟨rfl,Z,a6⟩;go_wp2_with fail
 go_loopw [4,5] (fun v i wr=>zU w b L 100000000 m v i wr) (fun _ i _=>m - (intOf i).toNat)
 case atStart =>
  exact⟨m,r1,[],Nat.le_refl _,by rw[Nat.sub_self];rfl,HF.out,by simpa [strs]using World.ownsRow_nil _ _ _ _,Z,a6,D,⟨fun _=>by unfold Fits at D;simpa using D,by simp⟩,ab.out⟩
 case round =>
  obtain⟨n,r',q,hn,rfl,hl,o,Q,G,hf,hp,R⟩:=hrel;have ah:=G.size;have O:=Q.c1;have HL:=hid hl;have M:=hid R;clear hl R;obtain⟨j,hj⟩:=nm (m - n);rw[hj]
  have am:j<=m:=by omega
  have HJ:=hid hj;clear hj
  by_cases hgo:0 < n/\r'.bad=false
  ·obtain⟨U,p⟩:=hgo;obtain⟨n,rfl⟩:∃k,n=k+1:=⟨n - 1,by omega⟩;obtain⟨y,r2,P⟩:∃y r2,Wire.text r'=(y,r2):=⟨_,_,rfl⟩;have z:=nY b r' wr Q M hf;have c:=hp.step p (text_pays r')
   have a7:Fits r2:=by have:=(eN hf).1;rw[P]at this;exact this
   have aa:Hid (Wire.Ok r2):=by have:=Wire.yr r' M.out;rw[P]at this;exact this
   have V:Wire.loop Wire.text n r2 (q++[y])=L:=by
    have:=HL.out;simp only[Wire.loop,p,Bool.false_eq_true,if_false,P]at this;exact this
   rw[P]at z c
   simp only at z c
   have HR:=hid z;have ac:=hid V;rw[p]at O
   have ad:(j:Int) < (m:Int):=by have:=HJ.out;omega
   clear P z V p
   go_wp2_with (first
    |(go_at_call 194;refine HR.mono ?_;rintro e w2 ⟨rfl,N,g⟩;have a:=bZ o g (by simpa using Y))
    |(at_builtin;refine wpList_append_own _ rfl _ _ 121 rfl w.heap.size 9 i0 (.string ⟨#[]⟩) 1 16 underlying121 hi a2 a1 a0 rfl (by decide) _ _ _ rfl (a.alloc _) ⟨w2.heap.size,0,none⟩ 1 1 [y] rfl rfl ?O ?c2 ?c3 ?c4 ?c5 ?_))
   case O=>exact cell_one_new _ _ _
   case c2=>intro u hu;obtain rfl:=ms hu;rfl
   case c3=>have:=c.2;unfold maxLen;omega
   case c4=>have:=c.2;omega
   case c5=>have:=g.size;simp;omega
   intro v' w3 t I _;have a5:Kept [b] w w3:=((G.trans g).alloc _).grown I (fun k G=>Or.inr (a.lt k G).1);have a4:RrAt w3 b r2:=⟨N.1,(I.block b (Nat.lt_of_lt_of_le N.2.lt (by simp)) (fun e=>by have:=(a.lt b e.symm).1;omega)).trans (N.2.alloc _)⟩
   have e3:strs q++[.string ⟨y.toArray⟩]=strs (q++[y]):=by simp[strs]
   rw[e3]at t;clear e3 I a o N g G Q O;go_wp2
   go_roundw
   case rel=>exact⟨n,r2,q++[y],by omega,by have:=HJ.out;rw[show m - n=j+1 by omega];go_num,ac.out,by simpa using t,a4,a5,a7,by simpa using c,aa.out⟩
   case measure=>simp[intOf];omega
  ·have f:L=(q,r'):=by
    rw[<-HL.out]
    cases n with
    |zero=>rfl
    |succ n =>
     have l:r'.bad=true:=by
      cases l:r'.bad
      ·exact absurd ⟨by omega,l⟩ hgo
      ·rfl
     simp[Wire.loop,l]
   have B:Wire.texts r=(if(Wire.close [93] r').bad then[]else q,Wire.close [93] r'):=by
    rw[uT]
    unfold Wire.items
    rw[H.out];simp only[Int.toNat_natCast];rw[HF.out,f]
    simp only
    split <;> rfl
   have HO:=hid B;obtain⟨va,vc,rfl⟩:=aG o
   have x:(decide ((j:Int) < (m:Int))=false)\/(decide ((j:Int) < (m:Int))=true/\r'.bad=true):=by
    rcases Nat.eq_zero_or_pos n with h0|h0
    ·left
     have:=HJ.out
     simp;omega
    ·right
     refine⟨by have:=HJ.out;simp;omega,?_⟩
     cases l:r'.bad
     ·exact absurd ⟨h0,l⟩ hgo
     ·rfl
   have HX:=hid x;clear f B HL hgo x
   cases l:r'.bad
   ·have J:=gH 93 r' l;have A:=lr b r' 93 wr Q hf
    generalize a3:Wire.close [93] r'=rc at A J HO
    rw[J]at A;have HC:Hid (Calls prog 219 #[.pointer (some ⟨b,0,none⟩),.int .u8 93] wr fun en w'=>en=.returned (.bool (!rc.bad))/\RrAt w' b rc/\Kept [b] wr w'):=A
    have d:m<=j:=by
     rcases HX with h|⟨_,h⟩
     ·simpa using h
     ·rw[l]at h;cases h
    rw[l]at O;clear J A a3 l
    cases hbc:rc.bad
    all_goals
     go_wp2_with (go_at_call 219;refine HC.mono ?_;rintro e w2 ⟨rfl,N,g⟩);go_wp2_with fail;go_ret;rw[HO.out];simp only[hbc,if_true,Bool.false_eq_true,if_false];refine⟨_,rfl,?_,N,G.trans g⟩
    ·exact bZ o g (by simpa using Y)
    ·exact by simpa [strs]using World.ownsRow_nil _ _ _ _
   ·have E:r'=Wire.be:=by
     obtain⟨s,bd⟩:=r';have Z:=M l
     simp only at Z l
     subst Z l
     rfl
    have X:Wire.close [93] r'=Wire.be:=by rw[E];rfl
    rw[X]at HO;have a9:=hid E;rw[l]at O;clear E X l HX
    by_cases hd:j < m
    all_goals
     go_wp2_with fail;go_ret;rw[HO.out];refine⟨_,rfl,by simpa [strs,Wire.be]using World.ownsRow_nil _ _ _ _,by rw[<-a9.out];exact Q,G⟩
end Go.Proofs.YtcidfldeiklcjaaGreatDoor
