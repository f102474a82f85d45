import Derived.Test.YtpcmamoomaddoaaGreatDoorLgp
import Derived.Lib.SlBytesRow
import Derived.Lib.BufferRead
import Derived.LaidLaws
import Derived.Test.YtpcmamoomaddoaaGreatDoorShelf
import Derived.Deep.Cut
set_option maxRecDepth 100000
set_option maxHeartbeats 32000000
namespace Go.Proofs.YtpcmamoomaddoaaGreatDoor
open Go.RowKit
open Go.Proofs.Tryz
open Lib(hid)
theorem yn:(prog.info? 5).map (fun i=>(i.zero,i.size,i.bytes))=some (some (.int .u8 0),1,1):=by kernel_rfl
def u8s(l:Bs):List Value:=l.map fun c=>.int .u8 (c.toNat:Int)
theorem vx{w:World}{B:Nat}{v:Value}{l:Bs}(h:w.ownsRow B 5 1 v l.length (u8s l)) :
  (convert 248 9 v).run prog w=.ok (.string ⟨l.toArray⟩) w:=by
 rcases h.2 with⟨o,n⟩|⟨g,c,p,e,q,j,f,m,k,d⟩
 ·have:l=[]:=by simpa [u8s]using n
  subst this;subst o;exact Lib.run_convert_nil_bytes w _ _ 5 0 underlying248 underlying5 underlying9
 ·subst e;have:=Lib.run_convert_whole (P:=prog) w 248 5 9 underlying248 underlying5 underlying9 g 0 ⟨l.toArray⟩ (fun i hi=>?_) c
  ·exact this
  ·have b:i < l.length:=by simpa [ByteArray.size]using hi
   have a:(u8s l)[i]?=some (.int .u8 (l[i].toNat:Int)):=by simp[u8s,b]
   rw[<-d,List.getElem?_take]at a
   split at a
   ·simp only[World.cell?,j,Option.isSome_none,Bool.false_eq_true,if_false,Nat.zero_add];rw[Array.getElem?_toList]at a;exact a
   ·cases a
def mI(o:Option (Bs × Nat)):Value :=
 match o with
 |none=>.tuple #[.string ⟨#[]⟩,.int .i64 0]
 |some (v,n)=>.tuple #[.string ⟨v.toArray⟩,.int .i64 n]
theorem pS(s:List UInt8)(w:World)(hs:s.length<=100000000)(h1:1<=s.length) :
  Calls prog 151 #[.string ⟨s.toArray⟩] w fun e w'=>e=.returned (mI (quotedB (s.drop 1) [] 1))/\Kept [] w w':=by
 obtain⟨R,hR⟩:∃R,quotedB (s.drop 1) [] 1=R:=⟨_,rfl⟩;have H1:=hid hR;rw[hR];clear hR;obtain⟨T,X,D,C,B⟩:=info_parts yn
 go_enter func151,ntmps151
 go_wp2_with fail
 go_step3
 go_wp2_with fail
 go_step3
 go_wp2_with fail
 go_loopw [4,5] (fun v i wr=>∃(a:Bs) (n:Nat),1<=n/\n<=s.length/\i=.int .i64 n/\wr.ownsRow w.heap.size 5 1 v a.length (u8s a)/\Kept [] w wr/\a.length<=n/\quotedB (s.drop n) a n=R) (fun _ i _=>s.length - (intOf i).toNat)
 case atStart=>exact⟨[],1,Nat.le_refl _,h1,rfl,World.ownsRow_nil _ _ _ _,Kept.refl _ _,Nat.zero_le _,H1.out⟩
 case round =>
  obtain⟨a,n,a2,hn,rfl,x,V,a1,hq⟩:=hrel;obtain⟨av,cv,rfl⟩:=dp x (by decide);have HQ:=hid hq;have I:=hid x;have h:=hid V;clear hq H1 h1
  by_cases hlt:n < s.length
  ·have L:n < (⟨s.toArray⟩:ByteArray).size:=by simpa [ByteArray.size]using hlt
   have G:s.drop n=s[n]::s.drop (n+1):=List.drop_eq_getElem_cons hlt;obtain⟨c,Y⟩:∃c,s[n]=c:=⟨_,rfl⟩;have hc':(⟨s.toArray⟩:ByteArray)[n]'L=c:=Y;rw[Y]at G;have b:=HQ.out;rw[G,quotedB.eq_def]at b
   simp only at b
   cases hp:mM c
   ·rw[if_pos hp]at b;subst b;clear G;go_wp2_with (go_at_call 193;refine(lG _ _).mono ?_;rw[hp];rintro e w' ⟨rfl,rfl⟩);rw[Exit.noGoto_ret]
    go_ret2
    exact⟨rfl,h.out⟩
   ·rw[if_neg (by rw[hp];simp)]at b;obtain⟨m,M⟩:∃m,c.toNat=m:=⟨_,rfl⟩;have A:=hid (lG c wr);rw[hp,M]at A;rw[M]at b;have HM:=hid M
    have a6:((⟨s.toArray⟩:ByteArray)[n]'L).toNat=m:=by rw[hc'];exact M
    clear Y hc' M hp
    by_cases h34:m=34
    ·rw[if_pos h34]at b
     have hb:((m:Int)==34)=true:=by simp;omega
     have J:=hid b;clear b G h34
     by_cases h400:(400:Int) < (a.length:Int)
     ·have o:=J.out;rw[if_pos (by omega)]at o;subst o;go_wp2_with (go_at_call 193;refine A.out.mono ?_;rintro e w' ⟨rfl,rfl⟩);rw[Exit.noGoto_ret]
      go_ret2
      exact⟨rfl,h.out⟩
     ·have o:=J.out;rw[if_neg (by omega)]at o;subst o;have a5:=vx I.out;go_wp2_with (go_at_call 193;refine A.out.mono ?_;rintro e w' ⟨rfl,rfl⟩);rw[Exit.noGoto_ret]
      go_ret2
      exact⟨rfl,h.out⟩
    ·rw[if_neg h34]at b
     have hb:((m:Int)==34)=false:=by simp;omega
     by_cases h92:m=92
     ·rw[if_pos h92]at b
      have a0:((m:Int)==92)=true:=by simp;omega
      by_cases hlt2:n+1 < s.length
      ·have u:n+1 < (⟨s.toArray⟩:ByteArray).size:=by simpa [ByteArray.size]using hlt2
       have F:s.drop (n+1)=s[n+1]::s.drop (n+1+1):=List.drop_eq_getElem_cons hlt2;obtain⟨d,E⟩:∃d,s[n+1]=d:=⟨_,rfl⟩;have hdd':(⟨s.toArray⟩:ByteArray)[n+1]'u=d:=E;rw[E]at F;rw[F]at b
       simp only at b
       obtain⟨k,Q⟩:∃k,d.toNat=k:=⟨_,rfl⟩;rw[Q]at b;have P:=hid Q
       have a3:((⟨s.toArray⟩:ByteArray)[n+1]'u).toNat=k:=by rw[hdd'];exact Q
       clear E hdd' Q G F
       by_cases j:k=34\/k=92
       ·rw[if_pos j]at b;have J:=hid b;clear b
        rcases j with j|j
        ·have N:((k:Int) != 34)=false:=by simp;omega
         clear j h34 h92
         go_wp2_with (first
          |(go_at_call 193;refine A.out.mono ?_;rintro e w' ⟨rfl,rfl⟩)
          |(at_builtin;refine aH rfl _ _ _ rfl w.heap.size 5 T (.int .u8 0) 1 1 underlying248 X D C B rfl (by decide) _ a.length (u8s a) rfl (I.out.alloc _) _ 1 [.int .u8 (k:Int)] rfl (al (Blk.new _ _ _) rfl (by decide)) (by simp[Value.oneCell']) (by unfold maxLen;omega) (by omega) (by simp only[World.size_alloc];have:=h.out.size;omega) ?_))
         intro a' c' t g l p;have q:Kept [] w t:=h.out.fresh (S':=obl (.slice av a.length cv)) (((Kept.refl _ _).alloc _).trans l) (fun z hz=>(aA I.out z hz).1)
         have f:t.ownsRow w.heap.size 5 1 (.slice a' (a.length+1) c') (a++[d]).length (u8s (a++[d])):=by
          have O:u8s (a++[d])=u8s a++[.int .u8 (k:Int)]:=by simp[u8s,P.out]
          rw[O,List.length_append];exact g
         have r:=hid f;clear g l p f;go_wp2_with fail
         go_roundw
         case rel=>exact⟨a++[d],n+2,by omega,by omega,by go_num,r.out,q,by rw[List.length_append];simp;omega,J.out⟩
         case measure=>simp[intOf];omega
        ·have N:((k:Int) != 34)=true:=by simp;omega
         have Z:((k:Int) != 92)=false:=by simp;omega
         clear j h34 h92
         go_wp2_with (first
          |(go_at_call 193;refine A.out.mono ?_;rintro e w' ⟨rfl,rfl⟩)
          |(at_builtin;refine aH rfl _ _ _ rfl w.heap.size 5 T (.int .u8 0) 1 1 underlying248 X D C B rfl (by decide) _ a.length (u8s a) rfl (I.out.alloc _) _ 1 [.int .u8 (k:Int)] rfl (al (Blk.new _ _ _) rfl (by decide)) (by simp[Value.oneCell']) (by unfold maxLen;omega) (by omega) (by simp only[World.size_alloc];have:=h.out.size;omega) ?_))
         intro a' c' t g l p;have q:Kept [] w t:=h.out.fresh (S':=obl (.slice av a.length cv)) (((Kept.refl _ _).alloc _).trans l) (fun z hz=>(aA I.out z hz).1)
         have f:t.ownsRow w.heap.size 5 1 (.slice a' (a.length+1) c') (a++[d]).length (u8s (a++[d])):=by
          have O:u8s (a++[d])=u8s a++[.int .u8 (k:Int)]:=by simp[u8s,P.out]
          rw[O,List.length_append];exact g
         have r:=hid f;clear g l p f;go_wp2_with fail
         go_roundw
         case rel=>exact⟨a++[d],n+2,by omega,by omega,by go_num,r.out,q,by rw[List.length_append];simp;omega,J.out⟩
         case measure=>simp[intOf];omega
       ·rw[if_neg j]at b;subst b
        have N:((k:Int) != 34)=true:=by simp;omega
        have Z:((k:Int) != 92)=true:=by simp;omega
        clear j h34 h92;go_wp2_with (go_at_call 193;refine A.out.mono ?_;rintro e w' ⟨rfl,rfl⟩);rw[Exit.noGoto_ret]
        go_ret2
        exact⟨rfl,h.out⟩
      ·obtain U:s.length=n+1:=by omega
       have y:s.drop (n+1)=[]:=List.drop_of_length_le (by omega);rw[y]at b
       simp only at b
       subst b;clear G h34 h92 y
       have a4:(s.length:Int)<=(n:Int)+1:=by omega
       clear U;go_wp2_with (go_at_call 193;refine A.out.mono ?_;rintro e w' ⟨rfl,rfl⟩);rw[Exit.noGoto_ret]
       go_ret2
       exact⟨rfl,h.out⟩
     ·rw[if_neg h92]at b
      have a0:((m:Int)==92)=false:=by simp;omega
      have J:=hid b;clear b G h34 h92
      go_wp2_with (first
       |(go_at_call 193;refine A.out.mono ?_;rintro e w' ⟨rfl,rfl⟩)
       |(at_builtin;refine aH rfl _ _ _ rfl w.heap.size 5 T (.int .u8 0) 1 1 underlying248 X D C B rfl (by decide) _ a.length (u8s a) rfl (I.out.alloc _) _ 1 [.int .u8 (m:Int)] rfl (al (Blk.new _ _ _) rfl (by decide)) (by simp[Value.oneCell']) (by unfold maxLen;omega) (by omega) (by simp only[World.size_alloc];have:=h.out.size;omega) ?_))
      intro a' c' t g l p;have q:Kept [] w t:=h.out.fresh (S':=obl (.slice av a.length cv)) (((Kept.refl _ _).alloc _).trans l) (fun z hz=>(aA I.out z hz).1)
      have f:t.ownsRow w.heap.size 5 1 (.slice a' (a.length+1) c') (a++[c]).length (u8s (a++[c])):=by
       have O:u8s (a++[c])=u8s a++[.int .u8 (m:Int)]:=by simp[u8s,HM.out]
       rw[O,List.length_append];exact g
      have r:=hid f;clear g l p f;go_wp2_with fail
      go_roundw
      case rel=>exact⟨a++[c],n+1,by omega,by omega,by go_num,r.out,q,by rw[List.length_append];simp;omega,J.out⟩
      case measure=>simp[intOf];omega
  ·obtain rfl:n=s.length:=by omega
   have b:=HQ.out;rw[List.drop_length,quotedB]at b;subst b;go_wp2_with fail;rw[Exit.noGoto_ret]
   go_ret2
   exact⟨rfl,h.out⟩
end Go.Proofs.YtpcmamoomaddoaaGreatDoor
namespace Go.Proofs.YtpcmamoomaddoaaGreatDoor
open Go.RowKit
open Go.Proofs.Tryz
theorem jz : prog.globalNamed "cloak/base.signs" = some 1 := by kernel_rfl
theorem fd : prog.globalNamed "cloak/ask.reserved" = some 0 := by kernel_rfl
theorem nB{S:List Nat}{w w':World}{n:String}{g:Nat}{cs:Array Value}(hg:prog.globalNamed n=some g)(h:Kept S w w')(hS:g∉S)
  (hv:w.var? prog n=some cs):w'.var? prog n=some cs:=by
 unfold World.var? at hv ⊢
 rw[hg]at hv ⊢;simp only[Option.bind_some]at hv ⊢
 have hlt:g < w.heap.size:=by
  rcases Nat.lt_or_ge g w.heap.size with h1|h1
  ·exact h1
  ·rw[Array.getElem?_eq_none h1]at hv;cases hv
 rw[h.block g hlt hS];exact hv
/-- a cell of a variable -/
theorem tP{w:World}{n:String}{g:Nat}{cs:Array Value}(hg:prog.globalNamed n=some g)(hv:w.var? prog n=some cs)(i:Nat):w.cell? ⟨g,i,none⟩=cs[i]?:=by
 unfold World.var? at hv
 rw[hg]at hv;simp only[Option.bind_some]at hv
 unfold World.cell?
 split at hv
 ·next h =>
  injection hv with hv;subst hv
  simp[h]
 ·cases hv
/-- the variables are as laid; all that they lead to lies below block B -/
structure EnvB (B:Nat) (w:World):Prop where
 size:B<=w.heap.size
 low:1 < B/\0 < B/\2 < B
 mlen:∃m,w.cell? ⟨2,0,none⟩=some (.int .i64 m)
 signs : w.var? prog "cloak/base.signs" = some (strs signsB).toArray
 res : ∃ b off c, b < B ∧ 8 ≤ c ∧ w.var? prog "cloak/ask.reserved" = some #[.slice (some ⟨b, off, none⟩) 8 c] ∧ ∀ k u, (strs bO)[k]? = some u → w.cell? ⟨b, off + k, none⟩ = some u
section
variable {B:Nat} {S:List Nat} {w w':World}
theorem EnvB.kept(hE:EnvB B w)(h:Kept S w w')(hS:∀k∈S,B<=k):EnvB B w':=by
 have ne:∀g,g < B->g∉S:=fun g hg hx=>by have:=hS g hx;omega
 obtain⟨b,off,c,h1,h2,h3,h4⟩:=hE.res;obtain⟨m,hm⟩:=hE.mlen;refine⟨Nat.le_trans hE.size h.size,hE.low,⟨m,(h.cell (World.block_lt_of_cell? w _ hm) (ne _ hE.low.2.2)).trans hm⟩,nB jz h (ne _ hE.low.1) hE.signs,b,off,c,h1,h2,nB fd h (ne _ hE.low.2.1) h3,fun k u hu=>?_⟩;have:=h4 k u hu;exact(h.cell (World.block_lt_of_cell? w _ this) (ne _ h1)).trans this
theorem EnvB.kept0(hE:EnvB B w)(h:Kept [] w w'):EnvB B w':=hE.kept h (by simp)
end
open Lib(hid)
def mR(o:Except Int (Tok × Nat)):Value :=
 match o with
 | .error e=>.tuple #[.agg #[.int .i64 0,.string ⟨#[]⟩,.int .i64 0,.int .i64 0],.int .i64 0,.int .i64 e]
 | .ok (t,n)=>.tuple #[.agg #[.int .i64 t.kind,.string ⟨t.text.toArray⟩,.int .i64 t.n,.int .i64 t.pos],.int .i64 n,.int .i64 0]
theorem yq:(prog.info? 208).map (·.size)=some 19:=by kernel_rfl
theorem EnvB.row{B:Nat}{w:World}(hE:EnvB B w):∃t fr,w.heap[1]?=some (.cells (strs signsB).toArray t fr):=by
 have hv:=hE.signs
 unfold World.var? at hv
 rw[jz]at hv;simp only[Option.bind_some]at hv
 split at hv
 ·next cs t fr h =>
  injection hv with hv;exact⟨t,fr,hv▸h⟩
 ·cases hv
theorem vX(k:Nat)(hk:k < 19)(w:World):(Instr.index 208 (.agg (strs signsB).toArray) (.int .i64 (k:Int))).run prog w=.ok (.string ⟨(signsB.getD k []).toArray⟩) w:=by
 have h:∀k:Nat,k < 19->(strs signsB).toArray[k]?=some (.string ⟨(signsB.getD k []).toArray⟩):=fun k hk=>by
  rw[List.getElem?_toArray];have hl:k < signsB.length:=hk;rw[eD hl,List.getD_eq_getElem?_getD,List.getElem?_eq_getElem hl]
  rfl
 have h2:=h k hk;obtain⟨A,hA⟩:∃A,(strs signsB).toArray=A:=⟨_,rfl⟩;rw[hA]at h2 ⊢;clear hA h
 simp[Instr.index,run_underlying underlying208,asIntOf,go_sem,h2]
 omega
theorem dz{w w2:World}{tmps:Array Value}{v0 v1 v2 v3 n e X:Value}{b:Nat}(hb:Blk w2 b 170 #[v0,v1,v2,v3])(h2:tmps[2]?.getD undef=.pointer (some ⟨b,0,none⟩))
  (h3:tmps[3]?.getD undef=n) (h4:tmps[4]?.getD undef=e) (hk:Kept [] w w2) (hX:.tuple #[.agg #[v0,v1,v2,v3],n,e]=X) :
  bodyPost prog Tryz.f114 (fun e w'=>e=.returned X/\Kept [] w w') Exit.ret { tmps:=tmps,defers:=[] } w2:=by
 subst hX;have f:w2.cell? ⟨b,0,none⟩=some v0:=hb.cell 0;have d:w2.cell? ⟨b,1,none⟩=some v1:=hb.cell 1;have c:w2.cell? ⟨b,2,none⟩=some v2:=hb.cell 2;have a:w2.cell? ⟨b,3,none⟩=some v3:=hb.cell 3;refine bodyPost_ret (v:=.tuple #[.agg #[v0,v1,v2,v3],n,e]) ?_ rfl ⟨rfl,hk⟩;simp only[results,results114]
 simp[go_sem,h2,h3,h4,f,d,c,a]
theorem uM(B:Nat)(a:UInt8)(r:Bs)(w:World)(hs:r.length+1<=100000000)(hE:EnvB B w) :
  Calls prog 114 #[.string ⟨(a::r).toArray⟩] w fun e w'=>e=.returned (mR (fA (a::r)))/\Kept [] w w':=by
 have a0:0 < (⟨(a::r).toArray⟩:ByteArray).size:=by simp[ByteArray.size]
 obtain⟨m,I⟩:∃m,a.toNat=m:=⟨_,rfl⟩;have hg:((⟨(a::r).toArray⟩:ByteArray)[0]'a0).toNat=m:=I;obtain⟨W,U⟩:∃W,w.alloc (.cells #[.int .i64 0,.string ⟨#[]⟩,.int .i64 0,.int .i64 0] 170)=W:=⟨_,rfl⟩;have hB:Blk W w.heap.size 170 #[.int .i64 0,.string ⟨#[]⟩,.int .i64 0,.int .i64 0]:=U▸Blk.new _ _ _;have J:Kept [] w W:=U▸(Kept.refl _ _).alloc _;have T:=hE.kept0 J;have g:=hid hB;have l:=hid J;have HW:=hid U;have HE:=hid T;clear U hB J hE T;have y:=hid (bZ a W);have E:=hid (eP a W);rw[I]at y E;obtain⟨R,hR⟩:∃R,fA (a::r)=R:=⟨_,rfl⟩;have b:=hR;rw[fA]at b;rw[hR];clear hR;have q0:∀v0 v1 v2 v3,Blk ((((W.setCell ⟨w.heap.size,0,none⟩ v0).setCell ⟨w.heap.size,1,none⟩ v1).setCell ⟨w.heap.size,2,none⟩ v2).setCell ⟨w.heap.size,3,none⟩ v3) w.heap.size 170 #[v0,v1,v2,v3]:=fun v0 v1 v2 v3=>(((g.out.set_ 0 v0).set_ 1 v1).set_ 2 v2).set_ 3 v3
 have k0:∀v0 v1 v2 v3,Kept [] w ((((W.setCell ⟨w.heap.size,0,none⟩ v0).setCell ⟨w.heap.size,1,none⟩ v1).setCell ⟨w.heap.size,2,none⟩ v2).setCell ⟨w.heap.size,3,none⟩ v3):=fun v0 v1 v2 v3 =>
  (((l.out.setCell (Or.inr (Nat.le_refl _)) v0).setCell (Or.inr (Nat.le_refl _)) v1).setCell (Or.inr (Nat.le_refl _)) v2).setCell (Or.inr (Nat.le_refl _)) v3
 have N:=hid q0;have O:=hid k0;clear k0;clear q0
 go_enter func114,ntmps114
 go_upto_region 1 with(fail);have hW':=HW.out;rw[hW'];clear hW';have c0:W.cell? ⟨w.heap.size,0,none⟩=some (.int .i64 0):=g.out.cell 0;have c1:W.cell? ⟨w.heap.size,1,none⟩=some (.string ⟨#[]⟩):=g.out.cell 1;have c2:W.cell? ⟨w.heap.size,2,none⟩=some (.int .i64 0):=g.out.cell 2;have c3:W.cell? ⟨w.heap.size,3,none⟩=some (.int .i64 0):=g.out.cell 3;have f0:=g.out.frozen 0;have Z:=g.out.frozen 1;have Y:=g.out.frozen 2;have X:=g.out.frozen 3
 cases hl:ch a
 ·rw[hl]at y b
  cases hd:aN a
  ·rw[hd]at E b;rw[if_neg (by simp),if_neg (by simp),I]at b
   by_cases h34:m=34
   ·rw[if_pos h34]at b
    have hb:((m:Int)==34)=true:=by simp;omega
    have s:=pS (a::r) W hs (by simp);rw[show(a::r).drop 1=r from rfl]at s;have HQ:=hid s;clear s h34 I
    cases hqr:quotedB r [] 1 with
    |none =>
     rw[hqr]at HQ b
     simp only at b
     subst b
     go_wp2_with (first
      |(go_at_call 104;refine y.out.mono ?_;rintro e w' ⟨rfl,rfl⟩)
      |(go_at_call 147;refine E.out.mono ?_;rintro e w' ⟨rfl,rfl⟩)
      |(go_at_call 151;refine HQ.out.mono ?_;unfold mI;rintro e z ⟨rfl,d⟩;replace c0:=Kept.cellOf c0 z d;replace c1:=Kept.cellOf c1 z d;replace c2:=Kept.cellOf c2 z d;replace c3:=Kept.cellOf c3 z d;replace f0:=(d.frozen g.out.lt (by simp)).trans f0;replace Z:=(d.frozen (p:=⟨w.heap.size,1,none⟩) g.out.lt (by simp)).trans Z;replace Y:=(d.frozen (p:=⟨w.heap.size,2,none⟩) g.out.lt (by simp)).trans Y;replace X:=(d.frozen (p:=⟨w.heap.size,3,none⟩) g.out.lt (by simp)).trans X;replace g:=hid (g.out.kept d (by simp));replace l:=hid (l.out.trans d);clear d))
     exact dz ((((g.out.set_ 0 _).set_ 1 _).set_ 2 _).set_ 3 _) rfl rfl rfl ((((l.out.setCell (Or.inr (Nat.le_refl _)) _).setCell (Or.inr (Nat.le_refl _)) _).setCell (Or.inr (Nat.le_refl _)) _).setCell (Or.inr (Nat.le_refl _)) _) rfl
    |some x =>
     obtain⟨v,n⟩:=x;have P:=ja _ _ _ hqr
     have a5:((n:Int)==0)=false:=by simp;omega
     rw[hqr]at HQ b
     simp only at b
     subst b;clear P
     go_wp2_with (first
      |(go_at_call 104;refine y.out.mono ?_;rintro e w' ⟨rfl,rfl⟩)
      |(go_at_call 147;refine E.out.mono ?_;rintro e w' ⟨rfl,rfl⟩)
      |(go_at_call 151;refine HQ.out.mono ?_;unfold mI;rintro e z ⟨rfl,d⟩;replace c0:=Kept.cellOf c0 z d;replace c1:=Kept.cellOf c1 z d;replace c2:=Kept.cellOf c2 z d;replace c3:=Kept.cellOf c3 z d;replace f0:=(d.frozen g.out.lt (by simp)).trans f0;replace Z:=(d.frozen (p:=⟨w.heap.size,1,none⟩) g.out.lt (by simp)).trans Z;replace Y:=(d.frozen (p:=⟨w.heap.size,2,none⟩) g.out.lt (by simp)).trans Y;replace X:=(d.frozen (p:=⟨w.heap.size,3,none⟩) g.out.lt (by simp)).trans X;replace g:=hid (g.out.kept d (by simp));replace l:=hid (l.out.trans d);clear d))
     exact dz ((((g.out.set_ 0 _).set_ 1 _).set_ 2 _).set_ 3 _) rfl rfl rfl ((((l.out.setCell (Or.inr (Nat.le_refl _)) _).setCell (Or.inr (Nat.le_refl _)) _).setCell (Or.inr (Nat.le_refl _)) _).setCell (Or.inr (Nat.le_refl _)) _) rfl
   ·rw[if_neg h34]at b
    have hb:((m:Int)==34)=false:=by simp;omega
    obtain⟨tg,fr,C⟩:=HE.out.row;have HG:=hid C;obtain⟨A,V⟩:∃A,(strs signsB).toArray=A:=⟨_,rfl⟩
    have D:(prog.info? 208).map (·.size)=some A.size:=by rw[yq,<-V];rfl
    have HI:=hid D;rw[V]at HG;clear h34 I C D
    go_wp2_with (first
     |(go_at_call 104;refine y.out.mono ?_;rintro e w' ⟨rfl,rfl⟩)
     |(go_at_call 147;refine E.out.mono ?_;rintro e w' ⟨rfl,rfl⟩)
     |(refine wpList_load_row rfl _ _ rfl 1 rfl tg A fr _ HG.out underlying208 rfl HI.out ?_))
    have a4:=hid V;clear V
    go_loop [66] (fun i=>∃k:Nat,k<=19/\i=.int .i64 k/\signsB.find? (fun t=>t.isPrefixOf (a::r))=(signsB.drop k).find? (fun t=>t.isPrefixOf (a::r))) (fun i=>19 - (intOf i).toNat)
    case atStart=>exact⟨0,Nat.zero_le _,rfl,rfl⟩
    case round =>
     obtain⟨k,hk,rfl,hf⟩:=hrel;have HF:=hid hf;clear hf
     by_cases hlt:k < 19
     ·have hlt':(k:Int) < 19:=by omega
      obtain⟨t,o⟩:∃t,signsB.getD k []=t:=⟨_,rfl⟩;have a2:=vX k hlt W;rw[a4.out,o]at a2;have Q:k < signsB.length:=hlt
      have L:signsB.drop k=t::signsB.drop (k+1):=by
       rw[List.drop_eq_getElem_cons Q,<-o,List.getD_eq_getElem?_getD,List.getElem?_eq_getElem Q]
       rfl
      have c:=Tryz.strings_HasPrefix ⟨(a::r).toArray⟩ ⟨t.toArray⟩ W;have j:=HF.out;rw[L,List.find?_cons]at j;have G:Lib.hasPrefix (a::r) t=t.isPrefixOf (a::r):=rfl
      change Calls _ _ _ _ (fun e w'=>e=.returned (.bool (Lib.hasPrefix (a::r) t))/\w'=W)at c
      rw[G]at c
      cases hp:t.isPrefixOf (a::r)
      ·rw[hp]at c j
       simp only at j
       have HP:=hid c;have a3:=hid j;clear c j G L o hp;go_wp2_with (go_at_call 152;refine HP.out.mono ?_;rintro e w' ⟨rfl,rfl⟩)
       go_round
       case rel=>exact⟨k+1,by omega,by go_num,a3.out⟩
       case measure=>simp[intOf];omega
      ·rw[hp]at c j
       simp only at j
       rw[j]at b
       simp only at b
       subst b;have HP:=hid c;clear c j G L o hp HF;go_wp2_with (go_at_call 152;refine HP.out.mono ?_;rintro e w' ⟨rfl,rfl⟩);exact dz (N.out _ _ _ _) rfl rfl rfl (O.out _ _ _ _) rfl
     ·obtain rfl:k=19:=by omega
      have u:signsB.find? (fun t=>t.isPrefixOf (a::r))=none:=by rw[HF.out];rfl
      rw[u]at b
      simp only at b
      subst b;clear hlt u;go_wp2_with fail;exact dz (N.out _ _ _ _) rfl rfl rfl (O.out _ _ _ _) rfl
  ·rw[hd]at E b;have f:=hid (iF (a::r) W hs);obtain⟨q,s⟩:∃q,runB aN (a::r)=q:=⟨_,rfl⟩
   have a1:q<=r.length+1:=by rw[<-s];exact gX _ _
   rw[s]at f b;have M:=hid (uE (a::r) q);obtain⟨t,o⟩:∃t,(a::r).take q=t:=⟨_,rfl⟩
   have F:t.length=q:=by rw[<-o,List.length_take,List.length_cons];omega
   rw[o]at M b;rw[if_neg (by simp),if_pos rfl]at b;have h:=hid (qf t W (by omega));clear s o I
   cases hn:cg t with
   |none =>
    rw[hn]at h b
    simp only at b
    subst b
    go_wp2_with (first
     |(go_at_call 104;refine y.out.mono ?_;rintro e w' ⟨rfl,rfl⟩)
     |(go_at_call 147;refine E.out.mono ?_;rintro e w' ⟨rfl,rfl⟩)
     |(go_at_call 105;refine f.out.mono ?_;rintro e w' ⟨rfl,rfl⟩)
     |(go_at_call 150;rw[M.out];refine h.out.mono ?_;unfold qg;rintro e w' ⟨rfl,rfl⟩))
    exact dz (N.out _ _ _ _) rfl rfl rfl (O.out _ _ _ _) rfl
   |some k =>
    rw[hn]at h b
    simp only at b
    subst b
    go_wp2_with (first
     |(go_at_call 104;refine y.out.mono ?_;rintro e w' ⟨rfl,rfl⟩)
     |(go_at_call 147;refine E.out.mono ?_;rintro e w' ⟨rfl,rfl⟩)
     |(go_at_call 105;refine f.out.mono ?_;rintro e w' ⟨rfl,rfl⟩)
     |(go_at_call 150;rw[M.out];refine h.out.mono ?_;unfold qg;rintro e w' ⟨rfl,rfl⟩))
    exact dz (N.out _ _ _ _) rfl rfl rfl (O.out _ _ _ _) (by rw[<-F];rfl)
 ·rw[hl]at y b;rw[if_pos rfl]at b;have f:=hid (lE (a::r) W hs);obtain⟨q,s⟩:∃q,runB aT (a::r)=q:=⟨_,rfl⟩
  have a1:q<=r.length+1:=by rw[<-s];exact gX _ _
  rw[s]at f b;have M:=hid (uE (a::r) q);obtain⟨t,o⟩:∃t,(a::r).take q=t:=⟨_,rfl⟩
  have F:t.length=q:=by rw[<-o,List.length_take,List.length_cons];omega
  rw[o]at M b;have h:=hid (ke t W (by omega));clear s o I
  cases hn:cE t
  ·rw[hn]at h b;rw[if_neg (by simp)]at b;subst b
   go_wp2_with (first
    |(go_at_call 104;refine y.out.mono ?_;rintro e w' ⟨rfl,rfl⟩)
    |(go_at_call 105;refine f.out.mono ?_;rintro e w' ⟨rfl,rfl⟩)
    |(go_at_call 61;rw[M.out];refine h.out.mono ?_;rintro e w' ⟨rfl,rfl⟩))
   exact dz (N.out _ _ _ _) rfl rfl rfl (O.out _ _ _ _) rfl
  ·rw[hn]at h b;rw[if_pos rfl]at b;subst b
   go_wp2_with (first
    |(go_at_call 104;refine y.out.mono ?_;rintro e w' ⟨rfl,rfl⟩)
    |(go_at_call 105;refine f.out.mono ?_;rintro e w' ⟨rfl,rfl⟩)
    |(go_at_call 61;rw[M.out];refine h.out.mono ?_;rintro e w' ⟨rfl,rfl⟩))
   exact dz (N.out _ _ _ _) rfl rfl rfl (O.out _ _ _ _) (by rw[<-F];rfl)
def tokC(t:Tok):List Value:=[.int .i64 t.kind,.string ⟨t.text.toArray⟩,.int .i64 t.n,.int .i64 t.pos]
def TokR(_:World)(c:List Value)(t:Tok):Prop:=c=tokC t
def jD(l:List Tok):List Value:=(l.map tokC).flatten
theorem wT:(prog.info? 170).map (fun i=>(i.zero,i.size,i.bytes))=some (some (.agg #[.int .i64 0,.string ⟨#[]⟩,.int .i64 0,.int .i64 0]),4,40):=by kernel_rfl
theorem rO(l:List Tok)(t:Tok):jD (l++[t])=jD l++tokC t:=by simp[jD]
theorem tT{w:World}{B:Nat}{v:Value}{l:List Tok}(h:w.ownsRow B 170 4 v l.length (jD l))(hl:l.length<=9223372036854775807):aj TokR 4 w v l :=
 aj.of_own h (by simp) (fun c hc=>by obtain⟨t,_,rfl⟩:=List.mem_map.1 hc;rfl) (fun k a ha=>⟨tokC a,by simp[ha],rfl⟩) hl
theorem jf:∀(f:Nat) (l:Bs),gapC f l <:+ l
 |0,l=>List.suffix_refl _
 |f+1,[]=>List.suffix_refl _
 |f+1,c::t=>by
  rw[gapC]
  split
  ·exact((jf f _).trans (List.dropWhile_suffix _)).trans (List.dropWhile_suffix _)
  ·exact List.suffix_refl _
theorem eo(l:Bs):gapB l <:+ l:=(jf _ _).trans (List.dropWhile_suffix _)
theorem tz(l:Bs):l.drop (l.length - (gapB l).length)=gapB l:=(List.suffix_iff_eq_drop.1 (eo l)).symm
/-- what Scan hands back -/
def xJ(n:Nat)(s:Bs)(w':World)(e:Ending):Except Int (List Tok)->Prop
 | .error c=>∃a:Nat,e=.returned (.tuple #[.slice none 0 0,.int .i64 a,.int .i64 c])
 | .ok ts=>∃a c,e=.returned (.tuple #[.slice a ts.length c,.int .i64 0,.int .i64 0])/\aw (List.range n) (fun w=>aj TokR 4 w (.slice a ts.length c) ts) w'/\ts.length<=s.length
def xK(s:Bs)(w:World)(e:Ending)(w':World):Prop :=
 Kept [] w w'/\((4000 < s.length/\e=.returned (.tuple #[.slice none 0 0,.int .i64 0,.int .i64 6]))\/(s.length<=4000/\xJ w.heap.size s w' e (eE (s.length+1) s 0 [])))
theorem ut(B:Nat)(s:Bs)(w:World)(hs:s.length<=100000000)(hE:EnvB B w) :
  Calls prog 67 #[.string ⟨s.toArray⟩] w (xK s w):=by
 obtain⟨i0,hi,a6,a5,a4⟩:=info_parts wT
 by_cases hlong:(4000:Int) < (s.length:Int)
 ·go_enter func67,ntmps67
  go_wp2_with fail;refine bodyPost_ret (v:=.tuple #[.slice none 0 0,.int .i64 0,.int .i64 6]) (by simp[results,results67,go_sem]) rfl ⟨Kept.refl _ _,Or.inl ⟨by omega,rfl⟩⟩
 ·obtain⟨R,hR⟩:∃R,eE (s.length+1) s 0 []=R:=⟨_,rfl⟩
  have L:∀(e:Ending) (w':World),Kept [] w w'->xJ w.heap.size s w' e R->xK s w e w':=fun e w' k h=>⟨k,Or.inr ⟨by omega,by rw[hR];exact h⟩⟩
  have M:=hid L;have HR:=hid hR;have HE:=hid hE;clear L hR hE
  go_enter func67,ntmps67
  go_wp2_with fail
  go_loopw [5,6] (fun v i wr=>∃(p f:Nat) (d:List Tok),p<=s.length/\i=.int .i64 p/\wr.ownsRow w.heap.size 170 4 v d.length (jD d)/\Kept [] w wr/\s.length - p < f/\eE f (s.drop p) p d=R/\d.length<=p) (fun _ i _=>s.length - (intOf i).toNat)
  case atStart=>exact⟨0,s.length+1,[],Nat.zero_le _,rfl,World.ownsRow_nil _ _ _ _,Kept.refl _ _,by omega,HR.out,Nat.zero_le _⟩
  case round =>
   obtain⟨p,f,d,hp,rfl,y,T,hf,G,ad⟩:=hrel;obtain⟨av,cv,rfl⟩:=dp y (by decide);obtain⟨f,rfl⟩:∃g,f=g+1:=⟨f - 1,by omega⟩;rw[eE]at G;have l:=wX (s.drop p) wr (by rw[List.length_drop];omega);have m:=tz (s.drop p);have F:=(eo (s.drop p)).length_le;obtain⟨r,hr⟩:∃r,gapB (s.drop p)=r:=⟨_,rfl⟩;rw[hr]at G l m F;rw[List.length_drop]at l m F;obtain⟨g,V⟩:∃g,s.length - p - r.length=g:=⟨_,rfl⟩;rw[V]at l m;rw[List.drop_drop]at m;have D:=hid l;have HO:=hid y;have Z:=hid T;have J:=hid G;have C:=hid m;clear l y T G m hr HR
   rcases r with _|⟨a,t⟩
   ·have Q:p+g=s.length:=by simp at V;omega
    have HP:=hid Q
    have h4:((p:Int)+(g:Int)==(s.length:Int))=true:=by simp;omega
    have b:=J.out
    simp only at b
    subst b;clear Q;go_wp2_with (go_at_call 113;rw[eY];refine D.out.mono ?_;rintro e w' ⟨rfl,rfl⟩);refine bodyPost_ret (v:=.tuple #[.slice av d.length cv,.int .i64 0,.int .i64 0]) (by simp[results,results67,go_sem]) rfl ?_;exact M.out _ _ Z.out ⟨av,cv,rfl,(aw.own HO.out (fun z hz hm=>by have:=(aA HO.out z hz).1;have:=List.mem_range.1 hm;omega)).imp fun _ h=>tT h (by omega),by omega⟩
   ·have a9:p+g < s.length:=by simp at V F;omega
    obtain⟨q,hq⟩:∃q,p+g=q:=⟨_,rfl⟩;rw[hq]at a9 C
    have a8:(p:Int)+(g:Int)=(q:Int):=by omega
    have h4:((q:Int)==(s.length:Int))=false:=by simp;omega
    have a7:(s.drop q).length=t.length+1:=by rw[C.out];rfl
    rw[List.length_drop]at a7;have I:=hid (uM B a t wr (by omega) (HE.out.kept0 Z.out));have b:=J.out
    simp only at b
    cases hn:fA (a::t)with
    |error c =>
     have ag:((c:Int) != 0)=true:=by simpa using lL hn
     rw[hn]at I b
     simp only at b
     subst b;clear hn J
     go_wp2_with (first
      |(go_at_call 113;rw[eY];refine D.out.mono ?_;rintro e w' ⟨rfl,rfl⟩)
      |(go_at_call 114;rw[eY,C.out];refine I.out.mono ?_;unfold mR;rintro e N ⟨rfl,k5⟩))
     refine bodyPost_ret (v:=.tuple #[.slice none 0 0,.int .i64 q,.int .i64 c]) (by simp[results,results67,go_sem]) rfl ?_;refine M.out _ _ ?_ ⟨q,rfl⟩;exact Z.out.trans (k5.alloc _)
    |ok x =>
     obtain⟨j,n⟩:=x;have af:=iM hn;rw[hn]at I b
     simp only at b
     have Y:p+((s.drop p).length - (t.length+1))=q:=by rw[List.length_drop];rw[List.length_cons]at V;omega
     have P:(p:Int)+(((s.drop p).length:Int) - ((t.length:Int)+1))=(q:Int):=by rw[List.length_drop];rw[List.length_cons]at V F;omega
     rw[Y,P]at b
     have X:s.drop (q+n)=(a::t).drop n:=by rw[<-C.out,List.drop_drop]
     rw[<-X]at b;clear P X;have HF:=hid b;clear hn J b Y
     go_upto_region 12 with(first
      |(go_at_call 113;rw[eY];refine D.out.mono ?_;rintro e w' ⟨rfl,rfl⟩)
      |(go_at_call 114;rw[eY,C.out];refine I.out.mono ?_;unfold mR;rintro e N ⟨rfl,k5⟩))
     obtain⟨O,E⟩:∃x,N.alloc (.cells #[.int .i64 j.kind,.string ⟨j.text.toArray⟩,.int .i64 j.n,.int .i64 q] 170)=x:=⟨_,rfl⟩;rw[E];have A:Blk O N.heap.size 170 #[.int .i64 j.kind,.string ⟨j.text.toArray⟩,.int .i64 j.n,.int .i64 q]:=E▸Blk.new _ _ _;have kA:Kept [] wr O:=E▸k5.alloc _;have a0:O.cell? ⟨N.heap.size,0,none⟩=some (.int .i64 j.kind):=A.cell 0;have a1:O.cell? ⟨N.heap.size,1,none⟩=some (.string ⟨j.text.toArray⟩):=A.cell 1;have a2:O.cell? ⟨N.heap.size,2,none⟩=some (.int .i64 j.n):=A.cell 2;have a3:O.cell? ⟨N.heap.size,3,none⟩=some (.int .i64 q):=A.cell 3;have KA:=hid kA;clear E A kA k5;go_wp2_with (at_builtin;refine aH rfl _ _ _ rfl w.heap.size 170 i0 _ 4 40 underlying123 hi a6 a5 a4 rfl (by decide) _ d.length (jD d) rfl (ax HO.out (S:=[]) (KA.out.alloc _) (by simp)) _ 1 (tokC ⟨j.kind,j.text,j.n,q⟩) rfl (al (cs:=tokC ⟨j.kind,j.text,j.n,q⟩) (Blk.new _ _ _) rfl (by decide)) (by simp[tokC,Value.oneCell']) (by unfold maxLen;omega) (by omega) (by simp only[World.size_alloc];have:=Z.out.size;have:=KA.out.size;omega) ?_);intro a' c' w6 u U aa;have ab:Kept [] w w6:=(Z.out.trans (KA.out.alloc _)).fresh U (fun z hz=>(aA HO.out z hz).1)
     have o:w6.ownsRow w.heap.size 170 4 (.slice a' (d.length+1) c') (d++[(⟨j.kind,j.text,j.n,q⟩:Tok)]).length (jD (d++[(⟨j.kind,j.text,j.n,q⟩:Tok)])):=by
      rw[rO,List.length_append];exact u
     have ac:=hid o;clear u U aa o a8;go_wp2_with fail
     go_roundw
     case rel=>exact⟨q+n,f,d++[⟨j.kind,j.text,j.n,q⟩],by omega,by go_num,ac.out,ab,by omega,HF.out,by rw[List.length_append];simp;omega⟩
     case measure=>simp[intOf];omega
/-- a parser at the token with index i: its struct in block rb; the tokens were there in W0 -/
structure Ps (B:Nat) (W0:World) (rb:Nat) (ts:List Tok) (a:Option Addr) (c:Nat) (z:Int) (w:World) (i:Nat):Prop where
 env:EnvB B W0
 kept:Kept [] W0 w
 lo:W0.heap.size<=rb
 row:aj TokR 4 W0 (.slice a ts.length c) ts
 blk:Blk w rb 131 #[.slice a ts.length c,.int .i64 i,.int .i64 z]
 small:ts.length<=4000
 ok:∀t∈ts,t.text.length<=100000/\0<=t.n/\t.n<=1099511627776
 le:i<=ts.length
section
variable {B:Nat} {W0:World} {rb:Nat} {ts:List Tok} {a:Option Addr} {c:Nat} {z:Int} {w w':World} {i:Nat}
theorem Ps.step(h:Ps B W0 rb ts a c z w i)(k:Kept [] w w'):Ps B W0 rb ts a c z w' i:=⟨h.env,h.kept.trans k,h.lo,h.row,h.blk.kept k (by simp),h.small,h.ok,h.le⟩
theorem Ps.envw(h:Ps B W0 rb ts a c z w i):EnvB B w:=h.env.kept0 h.kept
/-- it moves on by one -/
theorem Ps.next_(h:Ps B W0 rb ts a c z w i)(hi:i+1<=ts.length):Ps B W0 rb ts a c z (w.setCell ⟨rb,1,none⟩ (.int .i64 ((i+1:Nat):Int))) (i+1) := ⟨h.env,h.kept.setCell (Or.inr h.lo) _,h.lo,h.row,h.blk.set_ 1 _,h.small,h.ok,hi⟩
/-- the cells of a token -/
theorem Ps.tok(h:Ps B W0 rb ts a c z w i){k:Nat}{t:Tok}(ht:ts[k]?=some t):∃b off,a=some ⟨b,off,none⟩/\w.cell? ⟨b,off+k*4,none⟩=some (.int .i64 t.kind) /\
  w.cell? ⟨b,off+k*4+1,none⟩=some (.string ⟨t.text.toArray⟩)/\w.cell? ⟨b,off+k*4+2,none⟩=some (.int .i64 t.n)/\w.cell? ⟨b,off+k*4+3,none⟩=some (.int .i64 t.pos):=by
 have e:0 < ts.length:=by
  rcases Nat.eq_zero_or_pos ts.length with d|d
  ·rw[List.eq_nil_of_length_eq_zero d]at ht;simp at ht
  ·exact d
 obtain⟨b,off,l,g⟩:=h.row.at_ e;obtain⟨p,q,o,m⟩:=g k t ht;have h2':p=tokC t:=o;subst h2'
 have f:∀(j:Nat) v,j < 4->(tokC t)[j]?=some v->w.cell? ⟨b,off+(k*4+j),none⟩=some v:=fun j v hj hv=>by
  have:=m j v hj hv;exact(h.kept.cell (World.block_lt_of_cell? W0 _ this) (by simp)).trans this
 exact⟨b,off,l,f 0 _ (by decide) rfl,f 1 _ (by decide) rfl,f 2 _ (by decide) rfl,f 3 _ (by decide) rfl⟩
end
/-- the parser stops with an error -/
def kZ(S:List Nat)(w:World)(c:Int)(e:Ending)(w':World):Prop :=
 (∃p:Int,e=.panicked [{ v:=.iface 127 (.agg #[.int .i64 c,.int .i64 p]),recovered:=false }])/\Kept S w w'
theorem dD{B:Nat}{W0:World}{rb:Nat}{ts:List Tok}{a:Option Addr}{c:Nat}{z:Int}{w:World}{i:Nat}(h:Ps B W0 rb ts a c z w i)(er:Int)(k:Nat)(hk:k<=ts.length)(I:Int)(hI:I=(k:Int)) :
  Calls prog 72 #[.pointer (some ⟨rb,0,none⟩),.int .i64 er,.int .i64 I] w (kZ [] w er):=by
 subst hI;have m:w.cell? ⟨rb,0,none⟩=some (.slice a ts.length c):=h.blk.cell 0;have l:w.cell? ⟨rb,2,none⟩=some (.int .i64 z):=h.blk.cell 2;have g:=h.small
 by_cases hlt:k < ts.length
 ·have d:(k:Int) < (ts.length:Int):=by omega
  obtain⟨t,f⟩:∃t,ts[k]?=some t:=⟨_,List.getElem?_eq_getElem hlt⟩;obtain⟨b,e,rfl,_,_,_,j⟩:=h.tok f
  go_enter func72,ntmps72
  go_wp2_with fail;exact⟨rfl,⟨_,rfl⟩,Kept.refl _ _⟩
 ·have d:¬(k:Int) < (ts.length:Int):=by omega
  go_enter func72,ntmps72
  go_wp2_with fail;exact⟨rfl,⟨_,rfl⟩,Kept.refl _ _⟩
def hU:Option Tok->Value
 |none=>.tuple #[.agg #[.int .i64 0,.string ⟨#[]⟩,.int .i64 0,.int .i64 0],.bool false]
 |some t=>.tuple #[.agg #[.int .i64 t.kind,.string ⟨t.text.toArray⟩,.int .i64 t.n,.int .i64 t.pos],.bool true]
theorem nU{w w2:World}{tmps:Array Value}{v0 v1 v2 v3 n X:Value}{b:Nat}(hb:Blk w2 b 170 #[v0,v1,v2,v3])(h2:tmps[2]?.getD undef=.pointer (some ⟨b,0,none⟩))
  (h3:tmps[3]?.getD undef=n) (hk:Kept [] w w2) (hX:.tuple #[.agg #[v0,v1,v2,v3],n]=X) :
  bodyPost prog Tryz.f116 (fun e w'=>e=.returned X/\Kept [] w w') Exit.ret { tmps:=tmps,defers:=[] } w2:=by
 subst hX;have c0:w2.cell? ⟨b,0,none⟩=some v0:=hb.cell 0;have c1:w2.cell? ⟨b,1,none⟩=some v1:=hb.cell 1;have c2:w2.cell? ⟨b,2,none⟩=some v2:=hb.cell 2;have c3:w2.cell? ⟨b,3,none⟩=some v3:=hb.cell 3;refine bodyPost_ret (v:=.tuple #[.agg #[v0,v1,v2,v3],n]) ?_ rfl ⟨rfl,hk⟩;simp only[results,results116]
 simp[go_sem,h2,h3,c0,c1,c2,c3]
theorem gZ{B:Nat}{W0:World}{rb:Nat}{ts:List Tok}{a:Option Addr}{c:Nat}{z:Int}{w:World}{i:Nat}(h:Ps B W0 rb ts a c z w i) :
  Calls prog 116 #[.pointer (some ⟨rb,0,none⟩)] w fun e w'=>e=.returned (hU ts[i]?)/\Kept [] w w':=by
 obtain⟨W,k⟩:∃W,w.alloc (.cells #[.int .i64 0,.string ⟨#[]⟩,.int .i64 0,.int .i64 0] 170)=W:=⟨_,rfl⟩;have q:Blk W w.heap.size 170 #[.int .i64 0,.string ⟨#[]⟩,.int .i64 0,.int .i64 0]:=k▸Blk.new _ _ _;have f:Kept [] w W:=k▸(Kept.refl _ _).alloc _;have j:=h.step f;have P:W.cell? ⟨rb,0,none⟩=some (.slice a ts.length c):=j.blk.cell 0;have O:W.cell? ⟨rb,1,none⟩=some (.int .i64 i):=j.blk.cell 1;have v:=h.small;have x:=h.le;have d:=hid q;have g:=hid f;have s:=hid k;have n:∀v0 v1 v2 v3,Blk ((((W.setCell ⟨w.heap.size,0,none⟩ v0).setCell ⟨w.heap.size,1,none⟩ v1).setCell ⟨w.heap.size,2,none⟩ v2).setCell ⟨w.heap.size,3,none⟩ v3) w.heap.size 170 #[v0,v1,v2,v3]:=fun v0 v1 v2 v3=>(((d.out.set_ 0 v0).set_ 1 v1).set_ 2 v2).set_ 3 v3
 have o:∀v0 v1 v2 v3,Kept [] w ((((W.setCell ⟨w.heap.size,0,none⟩ v0).setCell ⟨w.heap.size,1,none⟩ v1).setCell ⟨w.heap.size,2,none⟩ v2).setCell ⟨w.heap.size,3,none⟩ v3):=fun v0 v1 v2 v3 =>
  (((g.out.setCell (Or.inr (Nat.le_refl _)) v0).setCell (Or.inr (Nat.le_refl _)) v1).setCell (Or.inr (Nat.le_refl _)) v2).setCell (Or.inr (Nat.le_refl _)) v3
 have r:=hid n;have Q:=hid o;have D:W.cell? ⟨w.heap.size,0,none⟩=some (.int .i64 0):=d.out.cell 0;have C:W.cell? ⟨w.heap.size,1,none⟩=some (.string ⟨#[]⟩):=d.out.cell 1;have A:W.cell? ⟨w.heap.size,2,none⟩=some (.int .i64 0):=d.out.cell 2;have y:W.cell? ⟨w.heap.size,3,none⟩=some (.int .i64 0):=d.out.cell 3;have N:=d.out.frozen 0;have M:=d.out.frozen 1;have L:=d.out.frozen 2;have J:=d.out.frozen 3;clear k q f n o
 by_cases hlt:i < ts.length
 ·have m:¬(ts.length:Int)<=(i:Int):=by omega
  obtain⟨t,l⟩:∃t,ts[i]?=some t:=⟨_,List.getElem?_eq_getElem hlt⟩;obtain⟨b,u,rfl,I,G,F,E⟩:=j.tok l;rw[l];clear j h l
  go_enter func116,ntmps116
  go_upto_region 1 with(fail);have hW':=s.out;rw[hW'];clear hW'
  go_quiet ((fail))
  go_wp2_with fail
  go_region
  go_wp2_with fail;exact nU (r.out _ _ _ _) rfl rfl (((((g.out.drewN _).setCell (Or.inr (Nat.le_refl _)) _).setCell (Or.inr (Nat.le_refl _)) _).setCell (Or.inr (Nat.le_refl _)) _).setCell (Or.inr (Nat.le_refl _)) _) rfl
 ·have m:(ts.length:Int)<=(i:Int):=by omega
  have p:ts[i]?=none:=List.getElem?_eq_none (by omega);rw[p];clear j h p
  go_enter func116,ntmps116
  go_upto_region 1 with(fail);have hW':=s.out;rw[hW'];clear hW'
  go_quiet ((fail))
  go_wp2_with fail;exact nU (r.out _ _ _ _) rfl rfl (((((g.out.drewN _).setCell (Or.inr (Nat.le_refl _)) _).setCell (Or.inr (Nat.le_refl _)) _).setCell (Or.inr (Nat.le_refl _)) _).setCell (Or.inr (Nat.le_refl _)) _) rfl
end Go.Proofs.YtpcmamoomaddoaaGreatDoor
