import Derived.Test.YtcidfldeiklcjaaGreatDoorSane
import Derived.Deep.CutBlock
set_option maxRecDepth 100000
set_option maxHeartbeats 32000000
namespace Go.Proofs.YtcidfldeiklcjaaGreatDoor
open Go.RowKit ShaP
open Go.Proofs.Tryz
open Lib(hid)
def bC(s:Stp)(n:Int):Bool:=decide (0<=n)&&decide (n < s.Q)
theorem dE(v:Value)(s:Stp)(n:Int)(w:World)(h:StpV w v s) :
  Calls prog 86 #[v,n] w fun e w'=>e=.returned (.bool (bC s n))/\Kept [] w w':=by
 obtain⟨⟨a,c,rfl,b⟩,m,l,p,j,o⟩:=h;obtain⟨W,f⟩:=nm (w.alloc (.cells (stpA s (.slice a s.bases.length c)) 26));have g:=bn f;have d:=ka (S:=[]) f;have q:W.cell? ⟨w.heap.size,1,none⟩=some (.int .i64 s.Q):=g.cell 1;have i:=hid f
 unfold bC
 clear g f b j
 by_cases h0:0<=n
 ·rw[decide_eq_true h0,Bool.true_and]
  have k:decide (0<=n)=true:=by simpa using h0
  go_enter func86,ntmps86
  go_upto_region 1 with(fail);rw[i.out];go_wp2_with fail;go_ret;exact⟨rfl,d⟩
 ·rw[decide_eq_false h0,Bool.false_and]
  have k:decide (0<=n)=false:=by simpa using h0
  go_enter func86,ntmps86
  go_upto_region 1 with(fail);rw[i.out];go_wp2_with fail;go_ret;exact⟨rfl,d⟩
theorem gu(v:Value)(s:Stp)(n:Int)(w:World)(h:StpV w v s) :
  Calls prog 155 #[v,n] w fun e w'=>e=.returned (.bool (bC s n))/\Kept [] w w':=by
 obtain⟨⟨a,c,rfl,b⟩,m,l,p,j,o⟩:=h;obtain⟨W,f⟩:=nm (w.alloc (.cells (stpA s (.slice a s.bases.length c)) 26));have g:=bn f;have d:=ka (S:=[]) f;have q:W.cell? ⟨w.heap.size,1,none⟩=some (.int .i64 s.Q):=g.cell 1;have i:=hid f
 unfold bC
 clear g f b j
 by_cases h0:0<=n
 ·rw[decide_eq_true h0,Bool.true_and]
  have k:decide (0<=n)=true:=by simpa using h0
  go_enter func155,ntmps155
  go_upto_region 1 with(fail);rw[i.out];go_wp2_with fail;go_ret;exact⟨rfl,d⟩
 ·rw[decide_eq_false h0,Bool.false_and]
  have k:decide (0<=n)=false:=by simpa using h0
  go_enter func155,ntmps155
  go_upto_region 1 with(fail);rw[i.out];go_wp2_with fail;go_ret;exact⟨rfl,d⟩
theorem fS(x y:Int)(hx:Wire.I64 x)(hy:Wire.I64 y):(Wire.yX [x,y]).length<=100:=by
 have h1:=flat_len [x,y] (by intro z hz;simp only[List.mem_cons,List.not_mem_nil,or_false]at hz;rcases hz with rfl|rfl <;> assumption);have:=Wire.iE (2:Int) ⟨by omega,by omega⟩;simp only[Wire.yX,Wire.listE,List.length_append,List.length_cons,List.length_nil]at h1 this ⊢;simp only[show((0+1+1:Nat):Int)=2 from rfl]at *;omega
def chaE(msg:List UInt8)(pub a:Int):List UInt8:=Wire.kO msg++Wire.yX [pub,a]
theorem gx(v:Value)(s:Stp)(q:Nat)(pub a:Int)(msg:List UInt8)(w:World)(h:StpV w v s)(hq:s.Q=q)(h1:1<=q)(h2:q < 2305843009213693952)
  (hp:Wire.I64 pub) (ha:Wire.I64 a) (hm:msg.length<=50000000) (hE:Env w) :
  Calls prog 87 #[v,pub,a,msg] w fun e w'=>e=.returned (.int .i64 (numN q (chaE msg pub a):Nat))/\Kept [] w w':=by
 obtain⟨⟨n,c,rfl,d⟩,J,I,M,A,L⟩:=h;obtain⟨W,i⟩:=nm (w.alloc (.cells (stpA s (.slice n s.bases.length c)) 26));have m:=bn i;have f:=ka (S:=[]) i;have z:∀w',Kept [] W w'->w'.cell? ⟨w.heap.size,1,none⟩=some (.int .i64 s.Q):=Kept.cellOf (m.cell 1);rw[hq]at z;have g:=hE.kept0 f;have p:=hid i
 have D:∀x∈[pub,a],Wire.I64 x:=by
  intro x k;simp only[List.mem_cons,List.not_mem_nil,or_false]at k
  rcases k with rfl|rfl
  ·exact hp
  ·exact ha
 have y:=fS pub a hp ha;have u:=Wire.iE msg.length ⟨by omega,by omega⟩
 have t:(Wire.kO msg).length<=50000030:=by simp only[Wire.kO,List.length_append,List.length_singleton];omega
 have G:¬9223372036854775807 < (Wire.kO msg).length+(Wire.yX [pub,a]).length:=by omega
 have o:=fun w=>hid (lL q (chaE msg pub a) w h1 h2 (by unfold chaE;rw[List.length_append];omega))
 unfold chaE at o ⊢
 clear y u t m i d A;have l:=bcat
 go_enter func87,ntmps87
 go_upto_region 1 with(fail);have hW':w.alloc (.cells (stpA s (.slice n s.bases.length c)) 26)=W:=p.out;rw[hW'];clear hW' p
 go_region_held3 (fun w'=>Kept [] W w') (first|assumption|exact kr.drew|exact Kept.alloc (by assumption) _)
  (first
   |(go_at_call 85;refine(fm msg _ (by omega) (by exact g.kept0 (by assumption))).mono ?_;rintro e r ⟨rfl,b⟩;have C:Kept [] W r:=Kept.trans (by assumption) b)
   |(go_at_call 84;refine(ai (W:=W) (by assumption) (dN _ [pub,a] _ (by first|exact row2 _ _ _ _|exact(row2 _ _ _ _).drew|exact(row2 _ _ _ _).kept b|exact(row2 _ _ _ _).drew.kept b) (by exact g.kept0 (by assumption)) (by simp) (by exact D))).mono ?_;rintro e F ⟨rfl,B⟩)
   |(go_at_call 56;refine(ai (W:=W) (by assumption) (o _).out).mono ?_;rintro e E ⟨rfl,j⟩))
 all_goals go_wp2_with fail
 all_goals (
  go_ret
  exact⟨rfl,f.trans j⟩)
end Go.Proofs.YtcidfldeiklcjaaGreatDoor
namespace Go.Proofs.YtcidfldeiklcjaaGreatDoor
open Go.RowKit Tm
open Go.Proofs.Tryz
open Lib(hid)
def EntA(w:World)(v:Value)(e:Ent):Prop:=∃u,v=.agg (entC e u).toArray/\Row w 1 u e.nums.length (ints e.nums)
theorem EntA.kept{w w':World}{v:Value}{e:Ent}(h:EntA w v e)(k:Kept [] w w'):EntA w' v e:=by obtain⟨u,h1,h2⟩:=h;exact⟨u,h1,h2.kept k⟩
theorem yW(w:World)(x y z u:Int)(T:TypeId):Row (w.alloc (.cells #[x,y,z,u] T)) 1 (.slice (some ⟨w.heap.size,0,none⟩) 4 4) 4 (ints [x,y,z,u]):=by
 refine⟨rfl,by omega,_,_,rfl,by omega,fun _=>⟨_,_,rfl,fun k v hv=>?_⟩⟩;rw[Nat.zero_add];have:=(Blk.new w T #[x,y,z,u]).cell k;rw[this]
 simpa [ints]using hv
theorem cj(e:Ent)(h:EntI e):(aF e).length<=6000000:=by
 have h4:∀x∈[e.gate,e.no,e.time,e.kind],Wire.I64 x:=by
  intro x hx;simp only[List.mem_cons,List.not_mem_nil,or_false]at hx
  rcases hx with rfl|rfl|rfl|rfl
  ·exact h.h0
  ·exact h.h1
  ·exact h.h2
  ·exact h.h3
 have l0:=flat_len [e.gate,e.no,e.time,e.kind] h4;have l1:=flat_len e.nums h.h4;have t1:=h.l4;have t2:=h.l5;have i0:=Wire.iE ((4:Nat):Int) ⟨by omega,by omega⟩;have i1:=Wire.iE (e.nums.length:Int) ⟨by omega,by omega⟩;have i2:=Wire.iE (e.text.length:Int) ⟨by omega,by omega⟩
 unfold aF Wire.yX Wire.kO Wire.listE
 simp only[List.length_append,List.length_cons,List.length_nil]at *;simp only[show(0+1+1+1+1:Nat)=4 from rfl]at *;omega
theorem mj(v:Value)(e:Ent)(w:World)(h:EntA w v e)(hi:EntI e)(hE:Env w) :
  Calls prog 53 #[v] w fun en w'=>en=.returned (.string ⟨(aF e).toArray⟩)/\Kept [] w w':=by
 obtain⟨g,rfl,a⟩:=h;obtain⟨W,i⟩:=nm (w.alloc (.cells (entC e g).toArray 52));have n:=bn i;have d:=ka (S:=[]) i;have f:=hE.kept0 d;obtain⟨N,M,L,J,I,G⟩:=bk6 n rfl;have b:=a.kept d
 have o:∀x∈[e.gate,e.no,e.time,e.kind],Wire.I64 x:=by
  intro x l;simp only[List.mem_cons,List.not_mem_nil,or_false]at l
  rcases l with rfl|rfl|rfl|rfl
  ·exact hi.h0
  ·exact hi.h1
  ·exact hi.h2
  ·exact hi.h3
 have u:=hi.l4;have t:=hi.l5;have r:=cj e hi
 have y:(aF e).length=(Wire.yX [e.gate,e.no,e.time,e.kind]).length+((Wire.yX e.nums).length+(Wire.kO e.text).length):=by unfold aF;simp only[List.length_append]
 have F:¬9223372036854775807 < (Wire.yX [e.gate,e.no,e.time,e.kind]).length+(Wire.yX e.nums).length:=by omega
 have E:¬9223372036854775807 < (Wire.yX [e.gate,e.no,e.time,e.kind]).length+((Wire.yX e.nums).length+(Wire.kO e.text).length):=by omega
 have D:¬9223372036854775807 < (Wire.yX [e.gate,e.no,e.time,e.kind]).length+(Wire.yX e.nums).length+(Wire.kO e.text).length:=by omega
 have B:=hid o;have A:=hid hi;clear r y o hi hE n a;have m:=bcat;have z:=hid i
 show Calls _ _ #[.agg #[e.gate,e.no,e.time,e.kind,g,e.text,e.c,e.s]] _ _
 go_enter func53,ntmps53
 go_wp2_with fail;have hW':w.alloc (.cells #[e.gate,e.no,e.time,e.kind,g,e.text,e.c,e.s] 52)=W:=z.out;rw[hW'];clear i hW'
 go_region_held3 (fun w'=>Kept [] W w') (first|assumption|exact kr.drew|exact Kept.alloc (by assumption) _)
  (first
   |(go_at_call_of 84 g;refine(ai (W:=W) (by assumption) (dN g e.nums _ (by exact b.kept (by assumption)) (by exact f.kept0 (by assumption)) (by omega) A.out.h4)).mono ?_;rintro p q ⟨rfl,k⟩)
   |(go_at_call 84;refine(ai (W:=W) (by assumption) (dN _ [e.gate,e.no,e.time,e.kind] _ (by exact(yW _ _ _ _ _ _).drew) (by exact f.kept0 (by assumption)) (by simp) (by exact B.out))).mono ?_;rintro p q ⟨rfl,k⟩)
   |(go_at_call 85;refine(ai (W:=W) (by assumption) (fm e.text _ (by omega) (by exact f.kept0 (by assumption)))).mono ?_;rintro p C ⟨rfl,j⟩))
 go_wp2;go_ret;exact⟨by simp[aF],d.trans j⟩
theorem lY(v:Value)(e:Ent)(w:World)(h:EntA w v e)(hi:EntI e)(hE:Env w) :
  Calls prog 77 #[v] w fun en w'=>en=.returned (.string ⟨(encE e).toArray⟩)/\Kept [] w w':=by
 have n:=h;obtain⟨d,rfl,f⟩:=h;obtain⟨W,j⟩:=nm (w.alloc (.cells (entC e d).toArray 52));have p:=bn j;have b:=ka (S:=[]) j;have g:=hE.kept0 b;obtain⟨M,L,J,I,G,F,E,D⟩:=bk8 p rfl;have q:EntA W (.agg #[e.gate,e.no,e.time,e.kind,d,e.text,e.c,e.s]) e:=n.kept b
 have B:Hid (∀w',Kept [] W w'->Calls prog 53 #[.agg #[e.gate,e.no,e.time,e.kind,d,e.text,e.c,e.s]] w' fun en i=>en=.returned (.string ⟨(aF e).toArray⟩)/\Kept [] w' i) :=
  fun w' k=>mj _ e w' (q.kept k) hi (g.kept0 k)
 have r:∀x∈[e.c,e.s],Wire.I64 x:=by
  intro x m;simp only[List.mem_cons,List.not_mem_nil,or_false]at m
  rcases m with rfl|rfl
  ·exact hi.h5
  ·exact hi.h6
 have u:=cj e hi;have t:=fS e.c e.s hi.h5 hi.h6
 have C:¬9223372036854775807 < (aF e).length+(Wire.yX [e.c,e.s]).length:=by omega
 have A:=hid r;clear u t r hi hE p f q n;have o:=bcat;have z:=hid j
 unfold encE
 show Calls _ _ #[.agg #[e.gate,e.no,e.time,e.kind,d,e.text,e.c,e.s]] _ _
 go_enter func77,ntmps77
 go_wp2_with fail;have hW':w.alloc (.cells #[e.gate,e.no,e.time,e.kind,d,e.text,e.c,e.s] 52)=W:=z.out;rw[hW'];clear j hW'
 go_region_held3 (fun w'=>Kept [] W w') (first|assumption|exact kr.drew|exact Kept.alloc (by assumption) _)
  (first
   |(go_at_call 53;with_reducible refine(B.out _ (by assumption)).mono ?_;rintro y i ⟨rfl,a⟩;have hk2':Kept [] W i:=Kept.trans (by assumption) a)
   |(go_at_call 84;refine(ai (W:=W) (by assumption) (dN _ [e.c,e.s] _ (by first|exact row2 _ _ _ _|exact(row2 _ _ _ _).drew|exact(row2 _ _ _ _).kept a|exact(row2 _ _ _ _).drew.kept a) (by exact g.kept0 (by assumption)) (by simp) (by exact A.out))).mono ?_;rintro y i ⟨rfl,l⟩))
 all_goals go_wp2
 all_goals (
  go_ret
  exact⟨rfl,b.trans l⟩)
theorem qF(x y:Int)(w:World):Calls prog 75 #[x,y] w fun e w'=>e=.returned (.int .i64 (cmpI x y))/\w=w' :=
 (Tryz.cmp_Compare_int x y w).mono fun _ _ ⟨h1,h2⟩=>⟨by rw[h1];unfold Lib.compareInt cmpI;split <;> rfl,h2.symm⟩
theorem sD(s:List UInt8)(w:World):Calls prog 119 #[s] w fun e w'=>e=.returned false/\w=w':=by
 go_enter func119,ntmps119
 go_wp2_with fail;go_ret;exact⟨by simp,rfl⟩
theorem xu(a b:List UInt8)(w:World):Calls prog 76 #[a,b] w fun e w'=>e=.returned (.int .i64 (cmpB a b))/\w=w':=by
 have f:=hid (sD a w);have g:=hid (sD b w);have i:=hid (bl_tri a b)
 unfold cmpB
 cases h1:Op.bytesLess a b
 ·cases h2:Op.bytesLess b a
  ·have c:a=b:=by
    rcases i with h|h|h
    ·rw[h1]at h;cases h
    ·exact h
    ·rw[h2]at h;cases h
   subst c
   go_enter func76,ntmps76
   go_wp2_with (go_at_call 119;((with_reducible refine f.out.mono ?_);rintro e d ⟨rfl,rfl⟩));go_ret;exact⟨rfl,rfl⟩
  ·have c:¬a=b:=fun e=>by subst e;rw[cY]at h2;cases h2
   have j:(a==b)=false:=by simpa using c
   clear h2
   go_enter func76,ntmps76
   go_wp2_with (go_at_call 119;first|((with_reducible refine f.out.mono ?_);rintro e d ⟨rfl,rfl⟩)|((with_reducible refine g.out.mono ?_);rintro e d ⟨rfl,rfl⟩));go_ret;exact⟨rfl,rfl⟩
 ·go_enter func76,ntmps76
  go_wp2_with (go_at_call 119;first|((with_reducible refine f.out.mono ?_);rintro e d ⟨rfl,rfl⟩)|((with_reducible refine g.out.mono ?_);rintro e d ⟨rfl,rfl⟩));go_ret;exact⟨rfl,rfl⟩
theorem su{x y:Int}(h:x≠0):orI x y=x:=by unfold orI;rw[if_neg h]
theorem ii{x y:Int}(h:x=0):orI x y=y:=by unfold orI;rw[if_pos h]
theorem zG(x y z:Int)(v:Value)(w:World)(hv:Row w 1 v 3 (ints [x,y,z])):Calls prog 74 #[v] w fun e w'=>e=.returned (.int .i64 (orI x (orI y z)))/\w=w':=by
 obtain⟨a,c,rfl,_,_⟩:=hv.form;obtain⟨b,off,rfl,o⟩:=hv.at_ (by omega)
 have u:w.cell? ⟨b,off,none⟩=some (.int .i64 x):=by have:=o 0 x rfl;simpa using this
 have t:=o 1 y rfl;have s:=o 2 z rfl;obtain⟨R,g⟩:=nm (orI x (orI y z));rw[g];have j:=hid g;clear g hv o
 go_enter func74,ntmps74
 go_wp2_with fail
 go_loop [5,8] (fun _ vi=>∃k:Nat,k<=3/\vi=k/\(1<=k->x=0)/\(2<=k->y=0)/\(3<=k->z=0)) (fun _ vi=>3 - (intOf vi).toNat)
 case atStart=>exact⟨0,by omega,rfl,fun h=>by omega,fun h=>by omega,fun h=>by omega⟩
 case round =>
  obtain⟨k,A,rfl,l,m,p⟩:=hrel
  rcases(by omega:k=0\/k=1\/k=2\/k=3)with rfl|rfl|rfl|rfl
  ·by_cases f:x=0
   ·have d:(x != 0)=false:=by simpa using f
    have n:=hid f;clear f;go_wp2_with fail
    go_round
    case rel=>exact⟨1,by omega,rfl,fun _=>n.out,fun h=>by omega,fun h=>by omega⟩
    case measure=>simp[intOf]
   ·have d:(x != 0)=true:=by simpa using f
    have g:=j.out;rw[su f]at g;subst g;go_wp2_with fail;go_ret;exact⟨rfl,rfl⟩
  ·have f:=l (by omega)
   by_cases i:y=0
   ·have d:(y != 0)=false:=by simpa using i
    have n:=hid f;have q:=hid i;clear f i;go_wp2_with fail
    go_round
    case rel=>exact⟨2,by omega,rfl,fun _=>n.out,fun _=>q.out,fun h=>by omega⟩
    case measure=>simp[intOf]
   ·have d:(y != 0)=true:=by simpa using i
    have g:=j.out;rw[ii f,su i]at g;subst g;clear f l m p j;go_wp2_with fail;go_ret;exact⟨rfl,rfl⟩
  ·have f:=l (by omega);have i:=m (by omega)
   by_cases hz:z=0
   ·have d:(z != 0)=false:=by simpa using hz
    have n:=hid f;have q:=hid i;have r:=hid hz;clear f i hz;go_wp2_with fail
    go_round
    case rel=>exact⟨3,by omega,rfl,fun _=>n.out,fun _=>q.out,fun _=>r.out⟩
    case measure=>simp[intOf]
   ·have d:(z != 0)=true:=by simpa using hz
    have g:=j.out;rw[ii f,ii i]at g;subst g;clear f i l m p j;go_wp2_with fail;go_ret;exact⟨rfl,rfl⟩
  ·have g:=j.out;rw[ii (l (by omega)),ii (m (by omega)),p (by omega)]at g;subst g;clear l m p j;go_wp2_with fail;go_ret;exact⟨rfl,rfl⟩
theorem row3e(w:World)(x y z:Int)(T:TypeId):Row (w.alloc (.cells #[x,y,z] T)) 1 (.slice (some ⟨w.heap.size,0,none⟩) 3 3) 3 (ints [x,y,z]):=by
 refine⟨rfl,by omega,_,_,rfl,by omega,fun _=>⟨_,_,rfl,fun k v hv=>?_⟩⟩;rw[Nat.zero_add];have:=(Blk.new w T #[x,y,z]).cell k;rw[this]
 simpa [ints]using hv
theorem mp(va vb:Value)(a b:Ent)(w:World)(ha:EntA w va a)(hb:EntA w vb b)(ia:EntI a)(ib:EntI b)(hE:Env w) :
  Calls prog 43 #[va,vb] w fun en w'=>en=.returned (.int .i64 (cmpE a b))/\Kept [] w w':=by
 have ha':=ha;have hb':=hb;obtain⟨Y,rfl,o⟩:=ha;obtain⟨X,rfl,n⟩:=hb;obtain⟨y,x,rfl,_,_⟩:=o.form;obtain⟨u,t,rfl,_,_⟩:=n.form;obtain⟨W,p⟩:=nm ((w.alloc (.cells (entC a (.slice y a.nums.length x)).toArray 52)).alloc (.cells (entC b (.slice u b.nums.length t)).toArray 52));have C:=bp p;have B:=bz p;have d:=kb (S:=[]) p
 have G:Hid (∀w',Kept [] W w'->Calls prog 77 #[.agg #[a.gate,a.no,a.time,a.kind,.slice y a.nums.length x,a.text,a.c,a.s]] w' fun en f=>en=.returned (.string ⟨(encE a).toArray⟩)/\Kept [] w' f) :=
  fun w' k=>lY _ a w' (ha'.kept (d.trans k)) ia (hE.kept0 (d.trans k))
 have F:Hid (∀w',Kept [] W w'->Calls prog 77 #[.agg #[b.gate,b.no,b.time,b.kind,.slice u b.nums.length t,b.text,b.c,b.s]] w' fun en f=>en=.returned (.string ⟨(encE b).toArray⟩)/\Kept [] w' f) :=
  fun w' k=>lY _ b w' (hb'.kept (d.trans k)) ib (hE.kept0 (d.trans k))
 have J:Hid (∀w',Calls prog 75 #[a.gate,b.gate] w' fun e f=>e=.returned (.int .i64 (cmpI a.gate b.gate))/\w'=f):=fun w'=>qF _ _ w';have I:Hid (∀w',Calls prog 75 #[a.no,b.no] w' fun e f=>e=.returned (.int .i64 (cmpI a.no b.no))/\w'=f):=fun w'=>qF _ _ w';have r:Hid (∀w',Calls prog 76 #[.string ⟨(encE a).toArray⟩,.string ⟨(encE b).toArray⟩] w' fun e f=>e=.returned (.int .i64 (cmpB (encE a) (encE b)))/\w'=f):=fun w'=>xu _ _ w';have q:Hid (∀w' v,Row w' 1 v 3 (ints [cmpI a.gate b.gate,cmpI a.no b.no,cmpB (encE a) (encE b)])->Calls prog 74 #[v] w' fun e f=>e=.returned (.int .i64 (cmpE a b))/\w'=f):=fun w' v h=>zG _ _ _ v w' h;obtain⟨R,D⟩:=nm (cmpE a b);obtain⟨T,j⟩:=nm (cmpI a.gate b.gate);obtain⟨Q,i⟩:=nm (cmpI a.no b.no);obtain⟨P,g⟩:=nm (cmpB (encE a) (encE b));obtain⟨sa,m⟩:=nm (encE a);obtain⟨Z,l⟩:=nm (encE b);rw[j]at J q;rw[i]at I q;rw[g]at r q;rw[D]at q ⊢;rw[m]at G r;rw[l]at F r;obtain⟨p0,p1,p2,p3,p4,p5,p6,p7⟩:=bk8 C rfl;obtain⟨q0,q1,q2,q3,q4,q5,q6,q7⟩:=bk8 B rfl;have O:=hid p;have z:=hid d;clear p C B d o n ha' hb' ia ib hE D j i g m l
 show Calls _ _ #[.agg #[a.gate,a.no,a.time,a.kind,.slice y a.nums.length x,a.text,a.c,a.s],.agg #[b.gate,b.no,b.time,b.kind,.slice u b.nums.length t,b.text,b.c,b.s]] _ _
 go_enter func43,ntmps43
 go_upto_region 1 with(fail)
 erw[O.out]
 go_region_held3 (fun w'=>Kept [] W w') (first|assumption|exact kr.drew|exact Kept.alloc (by assumption) _)
  (first
   |(go_at_call 75;((with_reducible refine(J.out _).mono ?_);rintro E A ⟨rfl,rfl⟩))
   |(go_at_call 75;((with_reducible refine(I.out _).mono ?_);rintro E A ⟨rfl,rfl⟩))
   |(go_at_call 76;((with_reducible refine(r.out _).mono ?_);rintro E A ⟨rfl,rfl⟩))
   |(go_at_call 77;with_reducible refine(ai (W:=W) (by assumption) (G.out _ (by assumption))).mono ?_;rintro N f ⟨rfl,M⟩)
   |(go_at_call 77;with_reducible refine(ai (W:=W) (by assumption) (F.out _ (by assumption))).mono ?_;rintro N V ⟨rfl,L⟩)
   |(go_at_call 74;refine(q _ _ (by exact row3e _ _ _ _ _)).mono ?_;rintro e4 U ⟨rfl,rfl⟩))
 go_wp2_with fail;go_ret;exact⟨rfl,z.trans (by assumption)⟩
end Go.Proofs.YtcidfldeiklcjaaGreatDoor
namespace Go.Proofs.YtcidfldeiklcjaaGreatDoor.Tape
open Wire (I64)
theorem bO{α:Type}(one:Tp->α × Tp)(n:Nat)(r:Tp)(acc:List α):aC one (n+1) r acc=aC one n (one r).2 (acc++[(one r).1]):=rfl
theorem mH{α:Type}(one:Tp->α × Tp):∀(n:Nat) (r:Tp) (acc:List α),∃l,(aC one n r acc).1=acc++l
 |0,_,acc=>⟨[],by simp[aC]⟩
 |n+1,r,acc=>by
  obtain⟨l,hl⟩:=mH one n (one r).2 (acc++[(one r).1]);exact⟨(one r).1::l,by rw[aC,hl];simp⟩
theorem kh(r:Tp):(list r).2.left.length<=r.left.length:=az.le r
theorem eJ(r:Tp):(list r).1.length<=r.left.length:=by
 unfold list
 have:=bM r;simp only[List.length_take];omega
theorem mF(a b:List (List Lnk)):total (a++b)=total a+total b:=by
 induction a with
 |nil=>simp[total]
 |cons x a ih=>simp only[List.cons_append,total,ih];omega
theorem td{m m':Nat}{r':Tp}{accL:List (List (Lnk × List UInt8))}{acc:List (Lnk × List UInt8)}{fin:List (List Lnk) × Tp}{ts:List (List UInt8)}
  {li:List Lnk × Tp} (hli:aC lnk (m'+1) r' (acc.map Prod.fst)=li) (hf:aC (many lnk) m li.2 (cA accL++[li.1])=fin) (ht:terms accL++acc.map Prod.snd=ts):ts.length < total fin.1:=by
 obtain⟨l,hl⟩:=mH (many lnk) m li.2 (cA accL++[li.1]);rw[hf]at hl
 have h1:li.1.length=acc.length+(m'+1):=by rw[<-hli,mI];simp
 rw[hl,mF,mF,dp,<-ht];simp only[total,List.length_append,List.length_map];omega
theorem kQ(a:List (List (Lnk × List UInt8)))(x:List (Lnk × List UInt8)):cA (a++[x])=cA a++[x.map Prod.fst]:=by simp[cA]
theorem kP(a:List (List (Lnk × List UInt8)))(x:List (Lnk × List UInt8)):terms (a++[x])=terms a++x.map Prod.snd:=by simp[terms]
theorem nP{accL:List (List (Lnk × List UInt8))}{lk:List (List Lnk)}{ts:List (List UInt8)}(h1:cA accL=lk)(h2:terms accL=ts):mq lk ts=accL/\total lk=ts.length:=by
 subst h1 h2;exact⟨iT accL,dp accL⟩
end Go.Proofs.YtcidfldeiklcjaaGreatDoor.Tape
namespace Go.Proofs.YtcidfldeiklcjaaGreatDoor
open Go.RowKit Tape
def Src(w:World)(g:Nat)(a:Option Addr)(c:Nat)(l:List Int):Prop :=
 l.length<=c/\l.length<=9223372036854775807/\(0 < l.length->∃off,a=some ⟨g,off,none⟩/\∀(k:Nat) n,l[k]?=some n->w.cell? ⟨g,off+k,none⟩=some (.int .i64 n))
section
variable {w w':World} {g:Nat} {a:Option Addr} {c:Nat} {l:List Int} {S:List Nat}
theorem Src.keep(h:Src w g a c l)(k:Kept S w w')(hg:g∉S):Src w' g a c l:=by
 refine⟨h.1,h.2.1,fun hp=>?_⟩;obtain⟨off,ha,hc⟩:=h.2.2 hp;refine⟨off,ha,fun i n hn=>?_⟩;have:=hc i n hn;exact(k.cell (World.block_lt_of_cell? w _ this) hg).trans this
theorem Src.row(h:Src w g a c l):Row w 1 (.slice a l.length c) l.length (ints l):=by
 refine⟨by simp[ints],h.2.1,a,c,rfl,h.1,fun hp=>?_⟩;obtain⟨off,ha,hc⟩:=h.2.2 hp;refine⟨g,off,ha,fun i u hu=>?_⟩
 have:∃n,l[i]?=some n/\Value.int .i64 n=u:=by
  simpa [ints]using hu
 obtain⟨n,hn,rfl⟩:=this;exact hc i n hn
theorem Src.of_own{B:Nat}(h:w.ownsRow B 3 1 (.slice a l.length c) l.length (ints l))(hl:l.length<=9223372036854775807):∃g,Src w g a c l/\(g=0\/(B<=g/\g < w.heap.size)):=by
 rcases Nat.eq_zero_or_pos l.length with h0|hp
 ·have:=List.eq_nil_of_length_eq_zero h0;subst this;exact⟨0,⟨Nat.zero_le _,by simp,fun h=>absurd h (by simp)⟩,Or.inl rfl⟩
 ·have hr:=Row.of_own h hl;obtain⟨b,off,ha,hc⟩:=hr.at_ hp;refine⟨b,⟨(hr.form).elim (fun a h=>h.elim fun c h=>by have:=h.1;injection this with _ _ e;omega),hl,fun _=>⟨off,ha,fun k n hn=>hc k _ ?_⟩⟩,Or.inr ?_⟩
  ·simp[ints,hn]
  ·exact ak h b (by subst ha;unfold obl;simp[Value.ownBlock])
theorem Src.empty(w:World)(g:Nat)(a:Option Addr)(c:Nat):Src w g a c []:=⟨Nat.zero_le _,by simp,fun h=>absurd h (by simp)⟩
theorem Src.drop(h:Src w g a c l)(m:Nat)(hm:m<=l.length)(a':Option Addr)(ha:m < l.length->∀off,a=some ⟨g,off,none⟩->a'=some ⟨g,off+m,none⟩):Src w g a' (c - m) (l.drop m):=by
 refine⟨by rw[List.length_drop];have:=h.1;omega,by rw[List.length_drop];have:=h.2.1;omega,fun hp=>?_⟩;rw[List.length_drop]at hp;obtain⟨off,ho,hc⟩:=h.2.2 (by omega);refine⟨off+m,ha (by omega) off ho,fun k n hn=>?_⟩;rw[List.getElem?_drop]at hn;rw[Nat.add_assoc];exact hc _ _ hn
end
structure TpAt (T:TypeId) (w:World) (b g:Nat) (r:Tp):Prop where
 st:∃a c,Blk w b T #[.slice a r.left.length c,.bool r.bad]/\Src w g a c r.left
 ne:b≠g
theorem TpAt.keep{T:TypeId}{w w':World}{b g:Nat}{r:Tp}{S:List Nat}(h:TpAt T w b g r)(k:Kept S w w')(hb:b∉S)(hg:g∉S):TpAt T w' b g r:=by
 obtain⟨a,c,h1,h2⟩:=h.st;exact⟨⟨a,c,h1.kept k hb,h2.keep k hg⟩,h.ne⟩
theorem TpAt.lt{T:TypeId}{w:World}{b g:Nat}{r:Tp}(h:TpAt T w b g r):b < w.heap.size:=by
 obtain⟨a,c,h1,h2⟩:=h.st;exact h1.lt
def ae(X:List Nat)(P:World->Prop)(w:World):Prop:=∀S w',Kept S w w'->(∀z∈S,z < w.heap.size->z∈X)->P w'
section
variable {X X' S:List Nat} {P Q:World->Prop} {w w':World}
theorem ae.get(h:ae X P w):P w:=h [] w kr (by simp)
theorem ae.step(h:ae X P w)(k:Kept S w w')(hS:∀z∈S,z < w.heap.size->z∈X)(hX:∀z∈X',z∈X\/w.heap.size<=z):ae X' P w':=fun S' w'' k' hS' =>
 h (S++S') w'' ((k.mono fun z _ hz=>List.mem_append_left _ hz).then_ k' fun z _ hz=>List.mem_append_right _ hz) fun z hz hlt=>by
  rcases List.mem_append.1 hz with h1|h1
  ·exact hS z h1 hlt
  ·have:=k.size
   rcases hX z (hS' z h1 (by omega))with h2|h2
   ·exact h2
   ·omega
theorem ae.less(h:ae X P w)(hX:∀z∈X',z∈X\/w.heap.size<=z):ae X' P w:=h.step (Kept.refl [] _) (by simp) hX
theorem ae.imp(h:ae X P w)(hPQ:∀w,P w->Q w):ae X Q w:=fun S w' k hS=>hPQ _ (h S w' k hS)
theorem ae.and(h:ae X P w)(k:ae X Q w):ae X (fun w=>P w/\Q w) w:=fun S w' kk hS=>⟨h S w' kk hS,k S w' kk hS⟩
theorem ae.const{p:Prop}(h:p):ae X (fun _=>p) w:=fun _ _ _ _=>h
theorem ae.own{B:Nat}{e:TypeId}{size n:Nat}{v:Value}{xs:List Value}(h:w.ownsRow B e size v n xs)(hX:∀z∈obl v,z∉X):ae X (fun w=>w.ownsRow B e size v n xs) w:=fun _ _ k hS =>
 af h k fun z hz hm=>hX z hz (hS z hm (ak h z hz).2)
theorem ae.row{B:Nat}{e:TypeId}{size n:Nat}{v:Value}{xs:List Value}(h:w.ownsRow B e size v n xs)(hX:∀z∈obl v,z∉X)(hn:n<=9223372036854775807):ae X (fun w=>Row w size v n xs) w :=
 (ae.own h hX).imp fun _ h=>Row.of_own h hn
end
def ep{α:Type}(R:World->List Value->α->Prop)(m:Nat)(vs:List (List Value))(l:List α)(w:World):Prop :=
 vs.length=l.length/\(∀c∈vs,c.length=m)/\∀(k:Nat) a,l[k]?=some a->∃c,vs[k]?=some c/\R w c a
theorem ep.nil_{α:Type}(R:World->List Value->α->Prop)(m:Nat)(w:World):ep R m [] [] w:=⟨rfl,by simp,by simp⟩
theorem ep.snoc{α:Type}{R:World->List Value->α->Prop}{m:Nat}{vs:List (List Value)}{l:List α}{w:World}(h:ep R m vs l w){c:List Value}{a:α}(hc:c.length=m)(hR:R w c a):ep R m (vs++[c]) (l++[a]) w:=by
 obtain⟨e,g,f⟩:=h;refine⟨by simp[e],fun x hx=>?_,fun k b hb=>?_⟩
 ·rcases List.mem_append.1 hx with h|h
  ·exact g x h
  ·obtain rfl:=ms h;exact hc
 ·by_cases hk:k < l.length
  ·rw[List.getElem?_append_left hk]at hb;obtain⟨c',hc',hR'⟩:=f k b hb;exact⟨c',by rw[List.getElem?_append_left (by omega)];exact hc',hR'⟩
  ·rw[List.getElem?_append_right (by omega)]at hb
   have d:k - l.length=0:=by
    rcases Nat.eq_zero_or_pos (k - l.length)with h|h
    ·exact h
    ·rw[List.getElem?_eq_none (by simp;omega)]at hb;cases hb
   rw[d]at hb;simp at hb;subst hb;exact⟨c,by rw[List.getElem?_append_right (by omega),e,d];rfl,hR⟩
def Grow{α:Type}(R:World->List Value->α->Prop)(m:Nat)(e:TypeId)(B:Nat)(X:List Nat)(w:World)(v:Value)(l:List α):Prop :=
 ∃vs,w.ownsRow B e m v l.length vs.flatten/\ae X (ep R m vs l) w
section
variable {α:Type} {R:World->List Value->α->Prop} {m:Nat} {e:TypeId} {B:Nat} {X X' S:List Nat} {w w':World} {v:Value} {l:List α}
theorem Grow.nil_(R:World->List Value->α->Prop)(m:Nat)(e:TypeId)(B:Nat)(X:List Nat)(w:World):Grow R m e B X w () [] := ⟨[],World.ownsRow_nil _ _ _ _,fun _ _ _ _=>ep.nil_ _ _ _⟩
theorem Grow.step(h:Grow R m e B X w v l)(k:Kept S w w')(hv:∀z∈obl v,z∉S)(hS:∀z∈S,z < w.heap.size->z∈X)(hX:∀z∈X',z∈X\/w.heap.size<=z):Grow R m e B X' w' v l:=by
 obtain⟨vs,h1,h2⟩:=h;exact⟨vs,af h1 k hv,h2.step k hS hX⟩
theorem Grow.ge(h:Grow R m e B X w v l):∀z∈obl v,B<=z/\z < w.heap.size:=by
 obtain⟨vs,h1,h2⟩:=h;exact ak h1
theorem eW{w:World}{B:Nat}{e:TypeId}{size n:Nat}{v:Value}{xs:List Value}(h:w.ownsRow B e size v n xs)(hs:0 < size):∃a c,v=.slice a n c:=by
 rcases h.2 with⟨h3,h4⟩|⟨g,cap,cur,hv,_⟩
 ·have h5:=h.1;rw[h4]at h5
  have hn:n=0:=by
   rcases Nat.eq_zero_or_pos n with h|h
   ·exact h
   ·have:=Nat.mul_pos h hs;simp at h5;omega
  subst hn;exact⟨_,_,h3⟩
 ·exact⟨_,_,hv⟩
theorem Grow.form(h:Grow R m e B X w v l)(hm:0 < m):∃a c,v=.slice a l.length c:=by
 obtain⟨vs,h1,h2⟩:=h;exact eW h1 hm
theorem Grow.done(h:Grow R m e B X w v l)(hX:∀z∈X',z∈X\/w.heap.size<=z)(hv:∀z∈obl v,z∉X')(hl:l.length<=9223372036854775807):ae X' (fun w=>ag R m w v l) w:=by
 obtain⟨vs,h1,h2⟩:=h;exact((ae.own h1 hv).and (h2.less hX)).imp fun w' h=>ag.of_own h.1 h.2.1 h.2.2.1 h.2.2.2 hl
theorem Grow.row(h:Grow R m e B X w v l)(hl:l.length<=9223372036854775807):ag R m w v l:=by
 obtain⟨vs,h1,h2⟩:=h;have h3:=h2.get;exact ag.of_own h1 h3.1 h3.2.1 h3.2.2 hl
theorem fk{P:Program}{o:Oper}{a:Act}{K:Act->World->Prop}{Q:Exit->Act->World->Prop}(s x:Operand)(t:TypeId)
  (ho:o.op=.call { callee:=.builtin .append,args:=#[s,x],argTypes:=#[t,t] })
  (i:TypeInfo) (z:Value) (bytes:Nat) (ht:P.underlying t=some (.slice e)) (hi:P.info? e=some i) (hz:i.zero=some z)
  (hsize:i.size=m) (hby:i.bytes=bytes) (hzs:z.cells.size=m) (hsz:0 < m) (hbs:bytes<=128)
  (hs:a.eval s=v) (hg:Grow R m e B X w v l) (u:Value) (c:List Value) (b:α) (hx:a.eval x=u) (hrow:Row w m u 1 c) (hR:ae X (fun w=>R w c b) w) (h1:∀u∈c,u.oneCell'=true)
  (hn:l.length<=1000000000) (hbase:B<=w.heap.size) (hvX:∀z∈obl v,z∈X)
  (h:∀a' c' w',Grow R m e B (X++obl (.slice a' (l.length+1) c')) w' (.slice a' (l.length+1) c') (l++[b])->Kept (obl v) w w'->(∀k∈obl (.slice a' (l.length+1) c'),k∈obl v\/k=w.heap.size)->K (a.put o.dst (.slice a' (l.length+1) c')) w'):o.wp P a w K Q:=by
 obtain⟨d,q,p⟩:=hg;refine bG s x t ho B e i z m bytes ht hi hz hsize hby hzs hsz v l.length d.flatten hs q u 1 c hx hrow h1 (by unfold maxLen;omega) ?_ hbase ?_
 ·have:(l.length+1)*bytes<=1000000001*128:=Nat.mul_le_mul (by omega) hbs;omega
 ·intro a' c' w' f k j
  have g:c.length=m:=by have:=hrow.1;omega
  refine h a' c' w' ⟨d++[c],by simpa using f,?_⟩ k j;have n:ae X (ep R m (d++[c]) (l++[b])) w:=(p.and hR).imp fun _ h=>h.1.snoc g h.2
  exact n.step k (fun z hz _=>hvX z hz) fun z hz=>by
   rcases List.mem_append.1 hz with h|h
   ·exact Or.inl h
   ·rcases j z h with h|h
    ·exact Or.inl (hvX z h)
    ·exact Or.inr (by omega)
theorem aq{P:Program}{ops:Array Oper}{rest:List Oper}{o:Oper}{a:Act}{Q:Exit->Act->World->Prop}(hgd:o.guard=none)(s x:Operand)(t:TypeId)
  (ho:o.op=.call { callee:=.builtin .append,args:=#[s,x],argTypes:=#[t,t] })
  (i:TypeInfo) (z:Value) (bytes:Nat) (ht:P.underlying t=some (.slice e)) (hi:P.info? e=some i) (hz:i.zero=some z)
  (hsize:i.size=m) (hby:i.bytes=bytes) (hzs:z.cells.size=m) (hsz:0 < m) (hbs:bytes<=128)
  (hs:a.eval s=v) (hg:Grow R m e B X w v l) (u:Value) (c:List Value) (b:α) (hx:a.eval x=u) (hrow:Row w m u 1 c) (hR:ae X (fun w=>R w c b) w) (h1:∀u∈c,u.oneCell'=true)
  (hn:l.length<=1000000000) (hbase:B<=w.heap.size) (hvX:∀z∈obl v,z∈X)
  (h:∀a' c' w',Grow R m e B (X++obl (.slice a' (l.length+1) c')) w' (.slice a' (l.length+1) c') (l++[b])->Kept (obl v) w w'->(∀k∈obl (.slice a' (l.length+1) c'),k∈obl v\/k=w.heap.size)->wpList P ops Q rest (a.put o.dst (.slice a' (l.length+1) c')) w') :
  wpList P ops Q (o::rest) a w :=
 wpList_plain hgd fun _ hK=>fk s x t ho i z bytes ht hi hz hsize hby hzs hsz hbs hs hg u c b hx hrow hR h1 hn hbase hvX fun a' c' w' h2 h3 h4=>hK _ _ (h a' c' w' h2 h3 h4)
theorem aO{P:Program}{ops:Array Oper}{o:Oper}{a:Act}{K:Act->World->Prop}{Q:Exit->Act->World->Prop}{E:Prop}(hgd:o.guard=none)(s x:Operand)(t:TypeId)
  (ho:o.op=.call { callee:=.builtin .append,args:=#[s,x],argTypes:=#[t,t] })
  (i:TypeInfo) (z:Value) (bytes:Nat) (ht:P.underlying t=some (.slice e)) (hi:P.info? e=some i) (hz:i.zero=some z)
  (hsize:i.size=m) (hby:i.bytes=bytes) (hzs:z.cells.size=m) (hsz:0 < m) (hbs:bytes<=128)
  (hs:a.eval s=v) (hg:Grow R m e B X w v l) (u:Value) (c:List Value) (b:α) (hx:a.eval x=u) (hrow:Row w m u 1 c) (hR:ae X (fun w=>R w c b) w) (h1:∀u∈c,u.oneCell'=true)
  (hn:l.length<=1000000000) (hbase:B<=w.heap.size) (hvX:∀z∈obl v,z∈X)
  (h:∀a' c' w',Grow R m e B (X++obl (.slice a' (l.length+1) c')) w' (.slice a' (l.length+1) c') (l++[b])->Kept (obl v) w w'->(∀k∈obl (.slice a' (l.length+1) c'),k∈obl v\/k=w.heap.size)->K (a.put o.dst (.slice a' (l.length+1) c')) w') :
  if Region.wanted o (yielded ops a.tmps)=true then Oper.wp P o a w K Q else E:=by
 rw[if_pos (by simp[Region.wanted,hgd])];exact fk s x t ho i z bytes ht hi hz hsize hby hzs hsz hbs hs hg u c b hx hrow hR h1 hn hbase hvX h
end
end Go.Proofs.YtcidfldeiklcjaaGreatDoor
namespace Go.Proofs.YtcidfldeiklcjaaGreatDoor
open Go.RowKit Tm
abbrev EV:=Ent × Value
structure EC (w:World) (rb n:Nat) (f:Nat->EV):Prop where
 cell:∀i,i < n->∀j v,(entC (f i).1 (f i).2)[j]?=some v->w.cell? ⟨rb,i*8+j,none⟩=some v
 fz:∀k,w.frozen? ⟨rb,k,none⟩=false
 lt:rb < w.heap.size
def put8(w:World)(rb o:Nat)(e:Ent)(u:Value):World :=
 (((((((w.setCell ⟨rb,o,none⟩ e.gate).setCell ⟨rb,o+1,none⟩ e.no).setCell ⟨rb,o+2,none⟩ e.time).setCell ⟨rb,o+3,none⟩ e.kind).setCell ⟨rb,o+4,none⟩ u).setCell ⟨rb,o+5,none⟩ e.text).setCell ⟨rb,o+6,none⟩ e.c).setCell ⟨rb,o+7,none⟩ e.s
def updE(f:Nat->EV)(i:Nat)(p:EV):Nat->EV:=fun k=>if k=i then p else f k
section
variable {w w':World} {rb n:Nat} {f:Nat->EV} {S:List Nat}
theorem EC.kept(h:EC w rb n f)(k:Kept S w w')(hS:rb∉S):EC w' rb n f := ⟨fun i hi j v hv=>(k.cell (p:=⟨rb,i*8+j,none⟩) h.lt hS).trans (h.cell i hi j v hv),fun j=>(k.frozen (p:=⟨rb,j,none⟩) h.lt hS).trans (h.fz j),Nat.lt_of_lt_of_le h.lt k.size⟩
theorem EC.congr{g:Nat->EV}(h:EC w rb n f)(e:∀i,i < n->f i=g i):EC w rb n g:=⟨fun i hi j v hv=>h.cell i hi j v (by rw[e i hi];exact hv),h.fz,h.lt⟩
theorem dq{p:Addr}{u v:Value}(h:w.cell? p=some u):(w.setCell p v).cell? p=some v:=World.cell?_setCell_same _ _ _ h
theorem aj{b o k:Nat}{v:Value}(h:k≠o):(w.setCell ⟨b,o,none⟩ v).cell? ⟨b,k,none⟩=w.cell? ⟨b,k,none⟩:=World.cell?_setCell_other _ _ _ _ (by intro e;injection e with _ e2;exact h e2.symm)
theorem vN{o k:Nat}(e:Ent)(u:Value)(h:k < o\/o+8<=k):(put8 w rb o e u).cell? ⟨rb,k,none⟩=w.cell? ⟨rb,k,none⟩:=by
 unfold put8
 rw[aj (by omega),aj (by omega),aj (by omega),aj (by omega),aj (by omega),aj (by omega),aj (by omega),aj (by omega)]
theorem ym{o:Nat}(e:Ent)(u:Value)(h:∀j,j < 8->(w.cell? ⟨rb,o+j,none⟩).isSome=true)(j:Nat)(v:Value)(hv:(entC e u)[j]?=some v):(put8 w rb o e u).cell? ⟨rb,o+j,none⟩=some v:=by
 have b:=fun j (c:j < 8)=>Option.isSome_iff_exists.1 (h j c)
 have c:j < 8:=by have:=(List.getElem?_eq_some_iff.1 hv).1;simpa [entC]using this
 unfold put8
 rcases(by omega:j=0\/j=1\/j=2\/j=3\/j=4\/j=5\/j=6\/j=7)with rfl|rfl|rfl|rfl|rfl|rfl|rfl|rfl
 ·obtain⟨x,a⟩:=b 0 (by omega);simp only[entC,List.getElem?_cons_zero,Option.some.injEq]at hv;subst hv;have hx':w.cell? ⟨rb,o,none⟩=some x:=a
  show World.cell? _ ⟨rb,o,none⟩=_
  rw[aj (by omega),aj (by omega),aj (by omega),aj (by omega),aj (by omega),aj (by omega),aj (by omega),dq hx']
 ·obtain⟨x,a⟩:=b 1 (by omega);simp only[entC,List.getElem?_cons_succ,List.getElem?_cons_zero,Option.some.injEq]at hv;subst hv;rw[aj (by omega),aj (by omega),aj (by omega),aj (by omega),aj (by omega),aj (by omega),dq (by rw[aj (by omega)];exact a)]
 ·obtain⟨x,a⟩:=b 2 (by omega);simp only[entC,List.getElem?_cons_succ,List.getElem?_cons_zero,Option.some.injEq]at hv;subst hv;rw[aj (by omega),aj (by omega),aj (by omega),aj (by omega),aj (by omega),dq (by rw[aj (by omega),aj (by omega)];exact a)]
 ·obtain⟨x,a⟩:=b 3 (by omega);simp only[entC,List.getElem?_cons_succ,List.getElem?_cons_zero,Option.some.injEq]at hv;subst hv;rw[aj (by omega),aj (by omega),aj (by omega),aj (by omega),dq (by rw[aj (by omega),aj (by omega),aj (by omega)];exact a)]
 ·obtain⟨x,a⟩:=b 4 (by omega);simp only[entC,List.getElem?_cons_succ,List.getElem?_cons_zero,Option.some.injEq]at hv;subst hv;rw[aj (by omega),aj (by omega),aj (by omega),dq (by rw[aj (by omega),aj (by omega),aj (by omega),aj (by omega)];exact a)]
 ·obtain⟨x,a⟩:=b 5 (by omega);simp only[entC,List.getElem?_cons_succ,List.getElem?_cons_zero,Option.some.injEq]at hv;subst hv;rw[aj (by omega),aj (by omega),dq (by rw[aj (by omega),aj (by omega),aj (by omega),aj (by omega),aj (by omega)];exact a)]
 ·obtain⟨x,a⟩:=b 6 (by omega);simp only[entC,List.getElem?_cons_succ,List.getElem?_cons_zero,Option.some.injEq]at hv;subst hv;rw[aj (by omega),dq (by rw[aj (by omega),aj (by omega),aj (by omega),aj (by omega),aj (by omega),aj (by omega)];exact a)]
 ·obtain⟨x,a⟩:=b 7 (by omega);simp only[entC,List.getElem?_cons_succ,List.getElem?_cons_zero,Option.some.injEq]at hv;subst hv;rw[dq (by rw[aj (by omega),aj (by omega),aj (by omega),aj (by omega),aj (by omega),aj (by omega),aj (by omega)];exact a)]
theorem jl(o:Nat)(e:Ent)(u:Value):Kept [rb] w (put8 w rb o e u):=by
 unfold put8
 repeat (refine Kept.setCell ?_ (Or.inl (by simp)) _)
 exact kr
theorem tK(o:Nat)(e:Ent)(u:Value):(put8 w rb o e u).heap.size=w.heap.size:=by unfold put8;simp[World.setCell]
theorem EC.some_(h:EC w rb n f){i:Nat}(hi:i < n):∀j,j < 8->(w.cell? ⟨rb,i*8+j,none⟩).isSome=true:=fun j hj=>by
 obtain⟨v,hv⟩:∃v,(entC (f i).1 (f i).2)[j]?=some v:=⟨_,List.getElem?_eq_getElem (by simpa [entC]using hj)⟩;rw[h.cell i hi j v hv];rfl
theorem EC.put(h:EC w rb n f){i:Nat}(hi:i < n)(e:Ent)(u:Value):EC (put8 w rb (i*8) e u) rb n (updE f i (e,u)):=by
 refine⟨fun k hk j v hv=>?_,fun k=>?_,by rw[tK];exact h.lt⟩
 ·unfold updE at hv
  by_cases hki:k=i
  ·subst hki;rw[if_pos rfl]at hv;exact ym e u (h.some_ hi) j v hv
  ·rw[if_neg hki]at hv
   have hj:j < 8:=by have:=(List.getElem?_eq_some_iff.1 hv).1;simpa [entC]using this
   rw[vN e u (by omega)];exact h.cell k hk j v hv
 ·unfold put8
  simp only[World.frozen?_setCell];exact h.fz k
end
def dw(n:Nat)(f:Nat->EV)(w:World):Prop:=∀i,i < n->Row w 1 (f i).2 (f i).1.nums.length (ints (f i).1.nums)
end Go.Proofs.YtcidfldeiklcjaaGreatDoor
