import Derived.Test.YtcidfldeiklcjaaGreatDoorBuild
import Derived.Lib.AppendIntMem
set_option maxRecDepth 100000
set_option maxHeartbeats 32000000
namespace Go.Proofs.YtcidfldeiklcjaaGreatDoor
open Go.RowKit
open Go.Proofs.Tryz
open Lib(hid)
def Row(w:World)(size:Nat)(v:Value)(n:Nat)(l:List Value):Prop :=
 l.length=n*size/\n<=9223372036854775807/\∃a c,v=.slice a n c/\n<=c/\(0 < n->∃b off,a=some ⟨b,off,none⟩/\∀k u,l[k]?=some u->w.cell? ⟨b,off+k,none⟩=some u)
theorem Row.kept{w w':World}{size:Nat}{v:Value}{n:Nat}{l:List Value}(h:Row w size v n l)(k:Kept [] w w'):Row w' size v n l:=by
 obtain⟨h1,h2,a,c,hv,hcc,hc⟩:=h;refine⟨h1,h2,a,c,hv,hcc,fun hn=>?_⟩;obtain⟨b,off,ha,hcell⟩:=hc hn;refine⟨b,off,ha,fun j u hu=>?_⟩;have:=hcell j u hu;exact(k.cell (World.block_lt_of_cell? w _ this) (by simp)).trans this
theorem Row.form{w:World}{size:Nat}{v:Value}{n:Nat}{l:List Value}(h:Row w size v n l):∃a c,v=.slice a n c/\n<=9223372036854775807/\n<=c:=by
 obtain⟨_,h2,a,c,hv,hcc,_⟩:=h;exact⟨a,c,hv,h2,hcc⟩
theorem Row.drew{w:World}{size:Nat}{v:Value}{n:Nat}{l:List Value}(h:Row w size v n l):Row w.drew size v n l:=h.kept kr.drew
theorem Row.drewN{w:World}{size:Nat}{v:Value}{n:Nat}{l:List Value}(h:Row w size v n l)(k:Nat):Row (w.drewN k) size v n l:=h.kept (kr.drewN k)
theorem Row.at_{w:World}{size n m c:Nat}{a:Option Addr}{l:List Value}(h:Row w size (.slice a n c) m l)(hm:0 < m) :
  ∃b off,a=some ⟨b,off,none⟩/\∀k u,l[k]?=some u->w.cell? ⟨b,off+k,none⟩=some u:=by
 obtain⟨_,_,a',c',hv,_,hc⟩:=h;injection hv with e1 e2 e3;subst e1;exact hc hm
theorem cP(b off k:Nat):(⟨b,off,none⟩:Addr).add k=⟨b,off+k,none⟩:=by
 unfold Addr.add;split
 ·next h=>subst h;rfl
 ·rfl
theorem Row.of_own{w:World}{B:Nat}{e:TypeId}{size:Nat}{v:Value}{n:Nat}{xs:List Value}(h:w.ownsRow B e size v n xs)(hn:n<=9223372036854775807):Row w size v n xs:=by
 refine⟨h.1,hn,?_⟩
 rcases h.2 with⟨h1,h2⟩|⟨g,cap,cur,hv,hB,hg,hnc,hcm,hcs,hx⟩
 ·subst h2;exact⟨_,_,h1,by omega,fun hn=>by omega⟩
 ·refine⟨_,_,hv,hnc,fun _=>⟨g,0,rfl,fun k u hu=>?_⟩⟩;rw[<-hx]at hu;simp only[World.cell?,hg,Option.isSome_none,Bool.false_eq_true,if_false,Nat.zero_add];rw[List.getElem?_take]at hu
  split at hu
  ·simpa using hu
  ·cases hu
theorem bcat:∀x y:List UInt8,(⟨x.toArray⟩:ByteArray)++⟨y.toArray⟩=⟨(x++y).toArray⟩:=fun x y=>ByteArray.mk_append_mk x y
theorem oD(n:Int)(w:World)(hn:Wire.I64 n)(hE:Env w) :
  Calls prog 93 #[n] w fun e w'=>e=.returned (.string ⟨(Wire.intE n).toArray⟩)/\Kept [] w w':=by
 have hl:=Wire.iE n hn;have hcat:=bcat
 go_enter func93,ntmps93
 go_wp2_with (go_at_call 139;refine(dQ n _ hn hE).mono ?_;rintro e w1 ⟨rfl,hk⟩);go_ret;exact⟨rfl,hk⟩
theorem uV(s:List UInt8):Lib.itoa s.length++58::(s++[44])=Wire.kO s:=by simp[Wire.kO]
theorem fm(s:List UInt8)(w:World)(hn:s.length<=100000000)(hE:Env w) :
  Calls prog 85 #[s] w fun e w'=>e=.returned (.string ⟨(Wire.kO s).toArray⟩)/\Kept [] w w':=by
 have hl:=Wire.iE s.length ⟨by omega,by omega⟩;have hcat:=bcat
 go_enter func85,ntmps85
 go_wp2_with (go_at_call 139;refine(dQ s.length _ ⟨by omega,by omega⟩ hE).mono ?_;rintro e w1 ⟨rfl,hk⟩);go_ret;exact⟨by rw[<-uV];simp,hk⟩
theorem eL(n:Int)(hn:Wire.I64 n):(Wire.intE n).length<=21:=by
 have:=Wire.iE n hn;simp only[Wire.intE,List.length_append,List.length_singleton];omega
theorem flat_len(l:List Int)(h:∀x∈l,Wire.I64 x):(l.flatMap Wire.intE).length<=21*l.length:=by
 induction l with
 |nil=>simp
 |cons a l ih =>
  have h1:=eL a (h a (by simp));have h2:=ih fun x hx=>h x (by simp[hx]);simp only[List.flatMap_cons,List.length_append,List.length_cons];omega
theorem dF{T e:TypeId}{B b:Nat}{p:Value}{l:List Value}{w w':World}(h:Lib.BuilderAt T e B b p l w)(k:Kept [] w w'):Lib.BuilderAt T e B b p l w':=by
 obtain⟨h1,v,h2,h3,h4⟩:=h;exact⟨h1,v,(k.block b (Array.getElem?_eq_some_iff.1 h2).1 (by simp)).trans h2,bZ h3 k (by simp),h4⟩
theorem mK(s:List UInt8)(h:s.length<=100000000):(Wire.kO s).length<=100000022:=by
 have:=Wire.iE s.length ⟨by omega,by omega⟩;simp only[Wire.kO,List.length_append,List.length_singleton];omega
def zW(w0:World)(b:Nat)(l:List Int)(i:Value)(wr:World):Prop :=
 ∃k:Nat,k<=l.length/\i=k/\Lib.IsBuilder TB 5 w0.heap.size b (Lib.byteCells (Lib.itoa l.length++[91]++(l.take k).flatMap Wire.intE)) wr/\Kept [] w0 wr
theorem qw(v:Value)(l:List Int)(w:World)(hv:Row w 1 v l.length (ints l))(hE:Env w)(hl:l.length<=100000001)(hi:∀x∈l,Wire.I64 x) :
  Calls prog 138 #[v,.func (.func 93) #[] #[]] w fun e w'=>e=.returned (.string ⟨(Wire.yX l).toArray⟩)/\Kept [] w w':=by
 have t:=hv;obtain⟨_,N,a,c,rfl,_,_⟩:=t;have Y:=Wire.iE l.length ⟨by omega,by omega⟩;have O:=bcat
 go_enter func138,ntmps138
 go_wp2_with (first
  |(go_at_call 139;refine(dQ l.length _ ⟨by omega,by omega⟩ (by exact hE.alloc _)).mono ?_;rintro e s ⟨rfl,B⟩))
 have A:Kept [] w s:=((Kept.refl [] w).alloc _).trans B;have u:=B.size;rw[World.size_alloc]at u
 have G:Lib.IsBuilder TB 5 w.heap.size w.heap.size [] s :=
  Or.inl ⟨Nat.le_refl _,(),(B.block _ (by simp) (by simp)).trans (heap_alloc_new w _),World.ownsRow_nil _ _ _ _,by simp[Value.ownBlock]⟩
 have d:=cE w.heap.size w.heap.size [] ⟨(Lib.itoa l.length++[91]).toArray⟩ s G (by simp[ByteArray.size];omega) (by omega);have HW:=hid d;clear d;go_wp2_with (go_at_call 179;refine HW.mono ?_);rintro e U ⟨rfl,E,q⟩;have z:Kept [] w U:=A.then_below q;go_wp2_with fail
 go_loopw [7,15] (fun _ i wr=>zW w w.heap.size l i wr) (fun _ i _=>l.length - (intOf i).toNat)
 case atStart=>exact⟨0,Nat.zero_le _,rfl,Or.inr (by simpa [Lib.strCells_toArray]using E),z⟩
 case round =>
  obtain⟨k,X,rfl,g,b⟩:=hrel;have hE':=hE.kept0 b;have j:=hv.kept b
  by_cases hlt:k < l.length
  ·obtain⟨bb,off,rfl,P⟩:=j.at_ (by omega);have M:=P k (.int .i64 l[k]) (by simp[ints,hlt]);have Q:=hi l[k] (List.getElem_mem hlt);have Z:=eL l[k] Q;have n:=flat_len (l.take k) (fun x M=>hi x (List.mem_of_mem_take M))
   have V:(l.take k).length<=100000001:=by rw[List.length_take];omega
   have L:=hid (List.take_succ_eq_append_getElem hlt);have m:=b.size;clear P
   go_wp2_with (first
    |(go_at_call 93;refine(oD l[k] _ Q hE').mono ?_))
   rintro e r ⟨rfl,f⟩
   have D:Lib.IsBuilder TB 5 w.heap.size w.heap.size (Lib.byteCells (Lib.itoa l.length++[91]++(l.take k).flatMap Wire.intE)) r:=by
    rcases g with g|g
    ·exact Or.inl (dF g f)
    ·exact Or.inr (dF g f)
   have d:=cE w.heap.size w.heap.size _ ⟨(Wire.intE l[k]).toArray⟩ r D
    (by rw[Lib.byteCells_length];simp only[ByteArray.size,List.size_toArray,List.length_append,List.length_singleton];omega) (by have:=f.size;omega)
   have J:=hid d;clear d;go_wp2_with (go_at_call 179;refine J.mono ?_);rintro e T ⟨rfl,C,o⟩;have y:Kept [] w T:=(b.trans f).then_below o;go_wp2
   go_roundw
   case rel =>
    refine⟨k+1,by omega,by go_num,?_,y⟩;refine Or.inr ?_
    have I:Lib.itoa l.length++[91]++(l.take (k+1)).flatMap Wire.intE=(Lib.itoa l.length++[91]++(l.take k).flatMap Wire.intE)++Wire.intE l[k]:=by
     rw[L.out,List.flatMap_append];simp only[List.flatMap_cons,List.flatMap_nil,List.append_nil,List.append_assoc]
    rw[I,Lib.byteCells_append,<-Lib.strCells_toArray (Wire.intE l[k])];exact C
   case measure=>simp[intOf];omega
  ·obtain rfl:k=l.length:=by omega
   rw[List.take_length]at g;have n:=flat_len l hi;have m:=b.size
   generalize R:l.flatMap Wire.intE=F at g n
   have L:=hid R;clear R;have h:=Tryz.Builder_String_any w.heap.size w.heap.size _ wr g m;have HS:=hid h;clear h;go_wp2_with (go_at_call 180;refine HS.mono ?_);rintro e r ⟨rfl,p⟩;go_wp2;go_ret;refine⟨?_,b.then_below p⟩
   have I:Wire.yX l=Lib.itoa l.length++91::(F++[93]):=by
    unfold Wire.yX Wire.listE
    rw[L.out]
    simp
   rw[I]
   simp
theorem dN(v:Value)(l:List Int)(w:World)(hv:Row w 1 v l.length (ints l))(hE:Env w)(hl:l.length<=100000001)(hi:∀x∈l,Wire.I64 x) :
  Calls prog 84 #[v] w fun e w'=>e=.returned (.string ⟨(Wire.yX l).toArray⟩)/\Kept [] w w':=by
 have H:=hid (qw v l w hv hE hl hi)
 go_enter func84,ntmps84
 go_wp2_with (go_at_call 138;refine H.out.mono ?_);rintro e w1 ⟨rfl,hk⟩;go_wp2;go_ret;exact⟨rfl,hk⟩
theorem yj(b:Nat)(r:Wire.Rd)(w:World)(h:RdAt w b r)(hE:Env w)(hs:Fits r) :
  Calls prog 125 #[.pointer (some ⟨b,0,none⟩)] w fun en w' =>
   ∃v,en=.returned v/\w'.ownsRow w.heap.size 3 1 v (Wire.nums r).1.length (ints (Wire.nums r).1)/\RdAt w' b (Wire.nums r).2/\Kept [b] w w':=by
 have H:=hid (ui b r w h hE hs)
 generalize hq:Wire.nums r=q at H ⊢
 clear hq
 go_enter func125,ntmps125
 go_wp2_with (go_at_call 170;refine H.out.mono ?_);rintro e w1 ⟨v,rfl,ho,hr,hk⟩;obtain⟨a,c,rfl⟩:=aG ho;go_wp2;go_ret;exact⟨_,rfl,ho,hr,hk⟩
theorem jw(one:Wire.Rd->Int × Wire.Rd)(h1:∀r,(one r).2.rest.length<=r.rest.length):∀(n:Nat) (r:Wire.Rd) (acc:List Int),(Wire.loop one n r acc).2.rest.length<=r.rest.length
 |0,r,acc=>by simp[Wire.loop]
 |n+1,r,acc=>by
  simp only[Wire.loop]
  split
  ·simp
  ·exact Nat.le_trans (jw one h1 n _ _) (h1 r)
theorem uv{r:Wire.Rd}(hs:Fits r):Fits (Wire.nums r).2:=by
 have h1:=Wire.vZ 91 0 r;have h2:=jw dZ (fun r=>Wire.vZ 59 _ r) (Wire.ar 91 0 r).1.toNat (Wire.ar 91 0 r).2 [];have h3:=Wire.xN [93] (Wire.loop dZ (Wire.ar 91 0 r).1.toNat (Wire.ar 91 0 r).2 []).2;rw[ij]
 unfold Wire.items Fits at *
 split <;> (simp only;omega)
theorem nj(L:Nat):∀(n:Nat) (r:Wire.Rd) (acc:List Int),Pays L r acc.length->(Wire.loop dZ n r acc).1.length<=L+1
 |0,r,acc,h=>by simpa [Wire.loop]using h.2
 |n+1,r,acc,h=>by
  simp only[Wire.loop]
  split
  ·exact h.2
  ·next hb =>
   have hb':r.bad=false:=by simpa using hb
   refine nj L n _ _ ?_;have:=h.step hb' (fw 59 (-9223372036854775808) r);rw[List.length_append,List.length_singleton];exact this
theorem dt(r:Wire.Rd)(hs:Fits r):(Wire.nums r).1.length<=100000001:=by
 have h1:=Wire.vZ 91 0 r;have h2:=nj 100000000 (Wire.ar 91 0 r).1.toNat (Wire.ar 91 0 r).2 [] ⟨fun _=>by unfold Fits at hs;simp only[List.length_nil];omega,by simp⟩;rw[ij]
 unfold Wire.items
 split
 ·simp
 ·exact h2
theorem gS{l:List Int}{r':Wire.Rd}(b:Nat)(r:Wire.Rd)(hq:Wire.nums r=(l,r'))(w:World)(h:RdAt w b r)(hE:Env w)(hs:Fits r) :
  Calls prog 125 #[.pointer (some ⟨b,0,none⟩)] w fun en w' =>
   ∃v,en=.returned v/\w'.ownsRow w.heap.size 3 1 v l.length (ints l)/\RdAt w' b r'/\Kept [b] w w':=by
 have:=yj b r w h hE hs;rw[hq]at this;exact this
theorem ly{l:List UInt8}{r':Wire.Rd}(b:Nat)(r:Wire.Rd)(hq:Wire.text r=(l,r'))(w:World)(h:RdAt w b r)(hE:Env w)(hs:Fits r) :
  Calls prog 126 #[.pointer (some ⟨b,0,none⟩)] w fun en w' =>
   en=.returned l/\RdAt w' b r'/\Kept [b] w w':=by
 have:=so b r w h hE hs;rw[hq]at this;exact this
theorem yl{n:Int}{r':Wire.Rd}(b:Nat)(r:Wire.Rd)(hq:Wire.ar 59 (-9223372036854775808) r=(n,r'))(w:World)(h:RdAt w b r)(hE:Env w)(hs:Fits r) :
  Calls prog 129 #[.pointer (some ⟨b,0,none⟩)] w fun en w' =>
   en=.returned n/\RdAt w' b r'/\Kept [b] w w':=by
 have:=vK b r w h hE hs;rw[hq]at this;exact this
theorem ce{l:List Int}{r r':Wire.Rd}(hq:Wire.nums r=(l,r'))(hs:Fits r):Fits r':=by
 have:=uv hs;rw[hq]at this;exact this
theorem fe{l:List UInt8}{r r':Wire.Rd}(hq:Wire.text r=(l,r'))(hs:Fits r):Fits r':=by
 have:=(eN hs).1;rw[hq]at this;exact this
end Go.Proofs.YtcidfldeiklcjaaGreatDoor
namespace Go.Proofs.YtcidfldeiklcjaaGreatDoor
open Go.RowKit
theorem aL{l:List Int}{k:Nat}(h:k < l.length):(ints l)[k]?=some (.int .i64 l[k]):=by simp[ints,h]
def strs(l:List (List UInt8)):List Value:=l.map fun s=>.string ⟨s.toArray⟩
theorem pi{l:List (List UInt8)}{k:Nat}(h:k < l.length):(strs l)[k]?=some (.string ⟨l[k].toArray⟩):=by simp[strs,h]
open Go.Proofs.Tryz
open Lib(hid)
theorem sG:(prog.info? 9).map (fun i=>(i.zero,i.size,i.bytes))=some (some (.string ⟨#[]⟩),1,16):=by kernel_rfl
theorem text_pays(r:Wire.Rd):(Wire.text r).2.bad=true\/((Wire.text r).2.bad=false/\(Wire.text r).2.rest.length+1<=r.rest.length):=by
 cases h:(Wire.text r).2.bad
 ·right
  obtain⟨_,h2,_⟩:=Wire.uU r h;refine⟨rfl,?_⟩
  conv=>rhs;rw[h2]
  simp only[Wire.kO,List.length_append,List.length_cons,List.length_nil];omega
 ·exact Or.inl rfl
def uI(w0:World)(b:Nat)(fin:List (List UInt8) × Wire.Rd)(L:Nat)(v i:Value)(wr:World):Prop :=
 ∃(n:Nat) (r:Wire.Rd) (acc:List (List UInt8)),n<=9223372036854775807/\i=n/\Wire.loop Wire.text n r acc=fin/\wr.ownsRow w0.heap.size 9 1 v acc.length (strs acc) /\
  RdAt wr b r/\Kept [b] w0 wr/\Fits r/\Pays L r acc.length
theorem oC(b:Nat)(r:Wire.Rd)(w:World)(h:RdAt w b r)(hE:Env w)(hs:Fits r) :
  Calls prog 174 #[.pointer (some ⟨b,0,none⟩),.func (.func 126) #[.pointer (some ⟨b,0,none⟩)] #[]] w fun en w' =>
   ∃v,en=.returned v/\w'.ownsRow w.heap.size 9 1 v (Wire.texts r).1.length (strs (Wire.texts r).1)/\RdAt w' b (Wire.texts r).2/\Kept [b] w w':=by
 obtain⟨n,r1,J⟩:∃n r1,Wire.ar 91 0 r=(n,r1):=⟨_,_,rfl⟩
 have A:0<=n:=by have:=Wire.yt 91 0 (by omega) r;rw[J]at this;exact this
 have a2:n<=9223372036854775807:=by have:=Wire.xM 91 0 r;rw[J]at this;exact this.2
 obtain⟨m,rfl⟩:=Int.eq_ofNat_of_zero_le A;have z:=aP J hs;obtain⟨G,g⟩:=nm (Wire.loop Wire.text m r1 []);have H:=hid J;have HF:=hid g;have E:=h.2.lt;obtain⟨i0,hi,U,T,R⟩:=info_parts sG;clear J g
 go_enter func174,ntmps174
 go_wp2_with (go_at_call 171;refine(cW b r 91 0 H.out _ h hE hs).mono ?_);rintro e w1 ⟨rfl,h1,Y⟩;go_wp2_with fail
 go_loopw [5,6] (fun v i wr=>uI w b G 100000000 v i wr) (fun _ i _=>(intOf i).toNat)
 case atStart =>
  exact⟨m,r1,[],by omega,rfl,HF.out,by simpa [strs]using World.ownsRow_nil _ _ _ _,h1,Y,z,fun _=>by unfold Fits at z;simpa using z,by simp⟩
 case round =>
  obtain⟨n,r',l,hn,rfl,hl,f,O,t,hf,hp⟩:=hrel;have hE':=hE.kept t (by intro x hx;obtain rfl:=ms hx;exact h.1);have a1:=t.size;have M:=O.c1;have HL:=hid hl;clear hl
  by_cases hgo:0 < n/\r'.bad=false
  ·obtain⟨A,j⟩:=hgo;obtain⟨n,rfl⟩:∃k,n=k+1:=⟨n - 1,by omega⟩;obtain⟨y,r2,N⟩:∃y r2,Wire.text r'=(y,r2):=⟨_,_,rfl⟩;have s:=so b r' wr O hE' hf;have d:=hp.step j (text_pays r')
   have Z:Fits r2:=by have:=(eN hf).1;rw[N]at this;exact this
   have L:Wire.loop Wire.text n r2 (l++[y])=G:=by
    have:=HL.out;simp only[Wire.loop,j,Bool.false_eq_true,if_false,N]at this;exact this
   rw[N]at s d
   simp only at s d
   have HR:=hid s;have a0:=hid L;rw[j]at M;clear N s L j
   go_wp2_with (first
    |(go_at_call 126;refine HR.mono ?_;rintro e Q ⟨rfl,q,a⟩;have c:=bZ f a (by simpa using E))
    |(at_builtin;refine wpList_append_own _ rfl _ _ 121 rfl w.heap.size 9 i0 (.string ⟨#[]⟩) 1 16 underlying121 hi U T R rfl (by decide) _ _ _ rfl (c.alloc _) ⟨Q.heap.size,0,none⟩ 1 1 [y] rfl rfl ?M ?c2 ?c3 ?c4 ?c5 ?_))
   case M=>exact cell_one_new _ _ _
   case c2=>intro u hu;obtain rfl:=ms hu;rfl
   case c3=>have:=d.2;unfold maxLen;omega
   case c4=>have:=d.2;omega
   case c5=>have:=a.size;simp;omega
   intro v' w3 o B _;have X:Kept [b] w w3:=((t.trans a).alloc _).grown B (fun k t=>Or.inr (c.lt k t).1);have V:RdAt w3 b r2:=⟨q.1,(B.block b (Nat.lt_of_lt_of_le q.2.lt (by simp)) (fun e=>by have:=(c.lt b e.symm).1;omega)).trans (q.2.alloc _)⟩
   have e3:strs l++[.string ⟨y.toArray⟩]=strs (l++[y]):=by simp[strs]
   rw[e3]at o;clear e3 B c f q a t O M;go_wp2
   go_roundw
   case rel=>exact⟨n,r2,l++[y],by omega,by go_num,a0.out,by simpa using o,V,X,Z,by simpa using d⟩
   case measure=>simp[intOf]
  ·have g:G=(l,r'):=by
    rw[<-HL.out]
    cases n with
    |zero=>rfl
    |succ n =>
     have F:r'.bad=true:=by
      cases F:r'.bad
      ·exact absurd ⟨by omega,F⟩ hgo
      ·rfl
     simp[Wire.loop,F]
   have p:Wire.texts r=(if(Wire.close [93] r').bad then[]else l,Wire.close [93] r'):=by
    unfold Wire.texts Wire.items
    rw[H.out];simp only[Int.toNat_natCast];rw[HF.out,g]
    simp only
    split <;> rfl
   obtain⟨rc,I⟩:=nm (Wire.close [93] r');have D:=lF b r' [93] wr O;rw[I]at D p;have HC:=hid D;have HO:=hid p;obtain⟨va,vc,rfl⟩:=aG f
   have C:(n=0)\/(0 < n/\r'.bad=true):=by
    rcases Nat.eq_zero_or_pos n with P|P
    ·exact Or.inl P
    ·right
     refine⟨P,?_⟩
     cases F:r'.bad
     ·exact absurd ⟨P,F⟩ hgo
     ·rfl
   clear D I g p HL hgo
   rcases C with rfl|⟨A,F⟩
   ·cases hbc:rc.bad
    all_goals
     go_wp2_with (go_at_call 173;refine HC.out.mono ?_;rintro e Q ⟨rfl,q,a⟩;have d1:=q.c1;rw[hbc]at d1);go_ret;rw[HO.out];simp only[hbc,if_true,Bool.false_eq_true,if_false];refine⟨_,rfl,?_,q,t.trans a⟩
    ·exact bZ f a (by simpa using E)
    ·exact by simpa [strs]using World.ownsRow_nil _ _ _ _
   ·rw[F]at M
    cases hbc:rc.bad
    all_goals
     go_wp2_with (go_at_call 173;refine HC.out.mono ?_;rintro e Q ⟨rfl,q,a⟩;have d1:=q.c1;rw[hbc]at d1);go_ret;rw[HO.out];simp only[hbc,if_true,Bool.false_eq_true,if_false];refine⟨_,rfl,?_,q,t.trans a⟩
    ·exact bZ f a (by simpa using E)
    ·exact by simpa [strs]using World.ownsRow_nil _ _ _ _
theorem vJ(b:Nat)(r:Wire.Rd)(w:World)(h:RdAt w b r)(hE:Env w)(hs:Fits r) :
  Calls prog 130 #[.pointer (some ⟨b,0,none⟩)] w fun en w' =>
   ∃v,en=.returned v/\w'.ownsRow w.heap.size 9 1 v (Wire.texts r).1.length (strs (Wire.texts r).1)/\RdAt w' b (Wire.texts r).2/\Kept [b] w w':=by
 have H:=hid (oC b r w h hE hs)
 generalize hq:Wire.texts r=q at H ⊢
 clear hq
 go_enter func130,ntmps130
 go_wp2_with (go_at_call 174;refine H.out.mono ?_);rintro e w1 ⟨v,rfl,ho,hr,hk⟩;obtain⟨a,c,rfl⟩:=aG ho;go_wp2;go_ret;exact⟨_,rfl,ho,hr,hk⟩
theorem gF:∀(n:Nat) (r:Wire.Rd) (acc:List (List UInt8)),(Wire.loop Wire.text n r acc).2.rest.length<=r.rest.length
 |0,r,acc=>by simp[Wire.loop]
 |n+1,r,acc=>by
  simp only[Wire.loop]
  split
  ·simp
  ·refine Nat.le_trans (gF n _ _) ?_
   rcases text_pays r with h|⟨_,h⟩
   ·unfold Wire.text
    have h1:=Wire.vZ 58 0 r
    split
    ·simp[Wire.be]
    ·have h2:=Wire.xN [44] ⟨(Wire.ar 58 0 r).2.rest.drop (Wire.ar 58 0 r).1.toNat,(Wire.ar 58 0 r).2.bad⟩;simp only[List.length_drop]at h2
     split <;> (simp only;omega)
   ·omega
theorem rL{r:Wire.Rd}(hs:Fits r):Fits (Wire.texts r).2:=by
 have h1:=Wire.vZ 91 0 r;have h2:=gF (Wire.ar 91 0 r).1.toNat (Wire.ar 91 0 r).2 [];have h3:=Wire.xN [93] (Wire.loop Wire.text (Wire.ar 91 0 r).1.toNat (Wire.ar 91 0 r).2 []).2
 unfold Wire.texts Wire.items Fits at *
 split <;> (simp only;omega)
theorem mR{l:List (List UInt8)}{r':Wire.Rd}(b:Nat)(r:Wire.Rd)(hq:Wire.texts r=(l,r'))(w:World)(h:RdAt w b r)(hE:Env w)(hs:Fits r) :
  Calls prog 130 #[.pointer (some ⟨b,0,none⟩)] w fun en w' =>
   ∃v,en=.returned v/\w'.ownsRow w.heap.size 9 1 v l.length (strs l)/\RdAt w' b r'/\Kept [b] w w':=by
 have:=vJ b r w h hE hs;rw[hq]at this;exact this
theorem eo{l:List (List UInt8)}{r r':Wire.Rd}(hq:Wire.texts r=(l,r'))(hs:Fits r):Fits r':=by
 have:=rL hs;rw[hq]at this;exact this
end Go.Proofs.YtcidfldeiklcjaaGreatDoor
namespace Go.Proofs.YtcidfldeiklcjaaGreatDoor.Tape
structure Tp where
 left:List Int
 bad:Bool
def next(r:Tp):Int × Tp :=
 match r.left with
 | []=>(0,⟨[],true⟩)
 |n::t=>(n,⟨t,r.bad⟩)
def count(r:Tp):Nat × Tp :=
 if(next r).1 < 0\/((next r).2.left.length:Int) < (next r).1 then(0,⟨(next r).2.left,true⟩)else((next r).1.toNat,(next r).2)
def list(r:Tp):List Int × Tp :=
 ((count r).2.left.take (count r).1,⟨(count r).2.left.drop (count r).1,(count r).2.bad⟩)
theorem yu(n:Int)(t:List Int)(b:Bool):next ⟨n::t,b⟩=(n,⟨t,b⟩):=rfl
theorem lM(r:Tp)(h:(next r).2.bad=false):r.bad=false/\r.left=(next r).1::(next r).2.left:=by
 obtain⟨l,b⟩:=r
 rcases l with _|⟨n,t⟩
 ·cases h
 ·exact⟨h,rfl⟩
theorem fV(r:Tp):(next r).2.left.length<=r.left.length:=by
 obtain⟨l,b⟩:=r
 rcases l with _|⟨n,t⟩
 ·exact Nat.le_refl _
 ·exact Nat.le_succ _
theorem bM(r:Tp):(count r).1<=(count r).2.left.length/\(count r).2.left.length<=r.left.length:=by
 unfold count
 have:=fV r
 split
 ·exact⟨Nat.zero_le _,this⟩
 ·next h=>exact⟨by simp only;omega,this⟩
theorem qB(n:Nat)(t:List Int)(b:Bool)(h:n<=t.length):count ⟨(n:Int)::t,b⟩=(n,⟨t,b⟩):=by
 unfold count
 rw[yu]
 simp only
 rw[if_neg (by omega)]
 simp
theorem nI(r:Tp)(h:(count r).2.bad=false):r.bad=false/\r.left=((count r).1:Int)::(count r).2.left/\(count r).1<=(count r).2.left.length:=by
 have hc:=(bM r).1
 unfold count at h hc ⊢
 split at h
 ·cases h
 ·next hn =>
  rw[if_neg hn]at hc ⊢
  simp only at h hc ⊢
  rw[show(((next r).1.toNat:Nat):Int)=(next r).1 by omega];exact⟨(lM r h).1,(lM r h).2,hc⟩
def listE(l:List Int):List Int:=(l.length:Int)::l
structure Codec {α:Type} (enc:α->List Int) (one:Tp->α × Tp):Prop where
 fwd:∀x t b,one ⟨enc x++t,b⟩=(x,⟨t,b⟩)
 inv:∀r,(one r).2.bad=false->r.bad=false/\r.left=enc (one r).1++(one r).2.left
 le:∀r,(one r).2.left.length<=r.left.length
 pos:∀x,1<=(enc x).length
theorem az:Codec listE list where
 fwd x t b:=by
  unfold list listE
  rw[List.cons_append,qB _ _ _ (by simp)]
  simp
 inv r h:=by
  unfold list at h ⊢
  simp only at h ⊢
  obtain⟨h1,h2,h3⟩:=nI r h;refine⟨h1,?_⟩
  conv=>lhs;rw[h2]
  unfold listE
  rw[List.length_take,Nat.min_eq_left h3,List.cons_append,List.take_append_drop]
 le r:=by
  unfold list
  have:=bM r;simp only[List.length_drop];omega
 pos x:=by simp[listE]
theorem aB:Codec (fun n:Int=>[n]) next where
 fwd x t b:=rfl
 inv r h:=lM r h
 le r:=fV r
 pos x:=by simp
def both{α β:Type}(f:Tp->α × Tp)(g:Tp->β × Tp)(r:Tp):(α × β) × Tp:=(((f r).1,(g (f r).2).1),(g (f r).2).2)
theorem au{α β:Type}{ea:α->List Int}{eb:β->List Int}{f:Tp->α × Tp}{g:Tp->β × Tp}(a:Codec ea f)(b:Codec eb g) :
  Codec (fun x:α × β=>ea x.1++eb x.2) (both f g) where
 fwd x t bd:=by
  unfold both
  rw[List.append_assoc,a.fwd]
  simp only
  rw[b.fwd]
 inv r h:=by
  unfold both at h ⊢
  simp only at h ⊢
  obtain⟨h1,h2⟩:=b.inv _ h;obtain⟨h3,h4⟩:=a.inv _ h1;exact⟨h3,by rw[List.append_assoc,<-h2,<-h4]⟩
 le r:=Nat.le_trans (b.le _) (a.le _)
 pos x:=by rw[List.length_append];have:=a.pos x.1;omega
def aC{α:Type}(one:Tp->α × Tp):Nat->Tp->List α->List α × Tp
 |0,r,acc=>(acc,r)
 |n+1,r,acc=>aC one n (one r).2 (acc++[(one r).1])
def many{α:Type}(one:Tp->α × Tp)(r:Tp):List α × Tp:=aC one (count r).1 (count r).2 []
def qb{α:Type}(enc:α->List Int)(l:List α):List Int:=(l.length:Int)::l.flatMap enc
theorem pd{α:Type}{enc:α->List Int}{one:Tp->α × Tp}(c:Codec enc one) :
  ∀(l acc:List α) (t:List Int) (b:Bool),aC one l.length ⟨l.flatMap enc++t,b⟩ acc=(acc++l,⟨t,b⟩)
 | [],acc,t,b=>by simp[aC]
 |x::l,acc,t,b=>by
  simp only[List.length_cons,aC];rw[List.flatMap_cons,List.append_assoc,c.fwd]
  simp only
  rw[pd c l (acc++[x]) t b]
  simp
theorem je{α:Type}{enc:α->List Int}{one:Tp->α × Tp}(c:Codec enc one) :
  ∀(n:Nat) (r:Tp) (acc:List α),(aC one n r acc).2.bad=false ->
   ∃l,(aC one n r acc).1=acc++l/\l.length=n/\r.bad=false/\r.left=l.flatMap enc++(aC one n r acc).2.left
 |0,r,acc,h=>⟨[],by simp[aC],rfl,by simpa [aC]using h,by simp[aC]⟩
 |n+1,r,acc,h=>by
  simp only[aC]at h ⊢;obtain⟨l,h1,h2,h3,h4⟩:=je c n _ _ h;obtain⟨g1,g2⟩:=c.inv r h3;exact⟨(one r).1::l,by rw[h1];simp,by simp[h2],g1,by rw[List.flatMap_cons,List.append_assoc,<-h4,<-g2]⟩
theorem pe{α:Type}{enc:α->List Int}{one:Tp->α × Tp}(c:Codec enc one) :
  ∀(n:Nat) (r:Tp) (acc:List α),(aC one n r acc).2.left.length<=r.left.length
 |0,_,_=>Nat.le_refl _
 |n+1,r,_=>Nat.le_trans (pe c n _ _) (c.le r)
theorem mI{α:Type}(one:Tp->α × Tp):∀(n:Nat) (r:Tp) (acc:List α),(aC one n r acc).1.length=acc.length+n
 |0,_,_=>rfl
 |n+1,r,acc=>by rw[aC,mI one n];simp;omega
theorem flat_len{α:Type}{enc:α->List Int}(h:∀x,1<=(enc x).length):∀l:List α,l.length<=(l.flatMap enc).length
 | []=>Nat.le_refl _
 |x::l=>by have:=flat_len h l;have:=h x;rw[List.flatMap_cons,List.length_append,List.length_cons];omega
theorem aW{α:Type}{enc:α->List Int}{one:Tp->α × Tp}(c:Codec enc one):Codec (qb enc) (many one) where
 fwd x t b:=by
  unfold many qb
  rw[List.cons_append,qB _ _ _ (by rw[List.length_append];have:=flat_len c.pos x;omega)]
  simp only
  rw[pd c x [] t b]
  simp
 inv r h:=by
  unfold many at h ⊢
  obtain⟨l,h1,h2,h3,h4⟩:=je c _ _ _ h;obtain⟨g1,g2,_⟩:=nI r h3;refine⟨g1,?_⟩;rw[h1]
  unfold qb
  simp only[List.nil_append];rw[h2,List.cons_append,<-h4,<-g2]
 le r:=Nat.le_trans (pe c _ _ _) (bM r).2
 pos x:=by simp[qb]
open Wire (I64)
abbrev Tick:=Int × Int × Int × Int × Int × Int
abbrev Spnd:=Int × List Int
abbrev Lnk:=Tick × Spnd
structure Pf where
 dares:List (List Int)
 answers:List (List (List Int))
structure Rec where
 tickets:List Tick
 spends:List Spnd
 links:List (List (Lnk × List UInt8))
 commits:List Int
 chain:List Int
 bits:List (List Int)
 escrow:List Int
 proof:Pf
def yV(t:Tick):List Int:=[t.1]++([t.2.1]++([t.2.2.1]++([t.2.2.2.1]++([t.2.2.2.2.1]++[t.2.2.2.2.2]))))
def vf(x:Spnd):List Int:=[x.1]++listE x.2
def lnkE(x:Lnk):List Int:=yV x.1++vf x.2
def tick:Tp->Tick × Tp:=both next (both next (both next (both next (both next next))))
def spnd:Tp->Spnd × Tp:=both next list
def lnk:Tp->Lnk × Tp:=both tick spnd
theorem dJ:Codec yV tick:=au aB (au aB (au aB (au aB (au aB aB))))
theorem bH:Codec vf spnd:=au aB az
theorem dI:Codec lnkE lnk:=au dJ bH
def yN:List (Int × List Int)->List Int:=qb vf
def aX:Tp->List (Int × List Int) × Tp:=many spnd
theorem iK:Codec yN aX:=aW bH
def done(r:Wire.Rd):Bool:=!r.bad&&r.rest.isEmpty
def ended(r:Tp):Bool:=!r.bad&&r.left.isEmpty
def cG(s:List UInt8):Pf × Bool :=
 if done (Wire.nums ⟨s,false⟩).2&&ended (many aX ⟨(Wire.nums ⟨s,false⟩).1,false⟩).2 then
  (⟨(many aX ⟨(Wire.nums ⟨s,false⟩).1,false⟩).1.map (List.map Prod.fst),(many aX ⟨(Wire.nums ⟨s,false⟩).1,false⟩).1.map (List.map Prod.snd)⟩,true)
 else(⟨[],[]⟩,false)
theorem oX{α β:Type}:∀l:List (α × β),(l.map Prod.fst).zip (l.map Prod.snd)=l
 | []=>rfl
 |a::l=>by simp only[List.map_cons,List.zip_cons_cons,oX l]
def AllI(l:List Int):Prop:=∀x∈l,I64 x
theorem gd{r:Tp}:ended r=true↔r.bad=false/\r.left=[]:=by
 unfold ended
 rw[Bool.and_eq_true,Bool.not_eq_true',List.isEmpty_iff]
def terms(l:List (List (Lnk × List UInt8))):List (List UInt8):=l.flatMap (List.map Prod.snd)
def cA(l:List (List (Lnk × List UInt8))):List (List Lnk):=l.map (List.map Prod.fst)
def mq:List (List Lnk)->List (List UInt8)->List (List (Lnk × List UInt8))
 | [],_=>[]
 |l::ls,ts=>l.zip (ts.take l.length)::mq ls (ts.drop l.length)
def total:List (List Lnk)->Nat
 | []=>0
 |l::ls=>l.length+total ls
theorem iT:∀l:List (List (Lnk × List UInt8)),mq (cA l) (terms l)=l
 | []=>rfl
 |a::l=>by
  have e1:(terms (a::l)).take a.length=a.map Prod.snd:=by
   unfold terms
   rw[List.flatMap_cons];rw[List.take_append_of_le_length (by simp)];rw[List.take_of_length_le (by simp)]
  have e2:(terms (a::l)).drop a.length=terms l:=by
   unfold terms
   rw[List.flatMap_cons,List.drop_append]
   simp
  show(a.map Prod.fst).zip ((terms (a::l)).take (a.map Prod.fst).length)::mq (cA l) ((terms (a::l)).drop (a.map Prod.fst).length)=_
  rw[List.length_map,e1,e2,oX,iT l]
theorem dp:∀l:List (List (Lnk × List UInt8)),total (cA l)=(terms l).length
 | []=>rfl
 |a::l=>by
  show(a.map Prod.fst).length+total (cA l)=_
  rw[dp l]
  unfold terms
  rw[List.flatMap_cons]
  simp
abbrev zi:=List Tick × List Spnd × List (List Lnk) × List Int × List Int × List (List Int) × List Int
def eG:Tp->zi × Tp:=both (many tick) (both (many spnd) (both (many (many lnk)) (both list (both list (both (many list) list)))))
def gL:Rec:=⟨[],[],[],[],[],[],[],⟨[],[]⟩⟩
def mkR(x:zi)(ts:List (List UInt8))(p:Pf):Rec:=⟨x.1,x.2.1,mq x.2.2.1 ts,x.2.2.2.1,x.2.2.2.2.1,x.2.2.2.2.2.1,x.2.2.2.2.2.2,p⟩
def jK(ts:List (List UInt8))(ns:List Int)(rd:Wire.Rd)(p:Pf × Bool):Rec × Bool :=
 if done rd&&p.2&&ended (eG ⟨ns,false⟩).2&&decide (total (eG ⟨ns,false⟩).1.2.2.1=ts.length)then(mkR (eG ⟨ns,false⟩).1 ts p.1,true)else(gL,false)
def cS(s:List UInt8):Rec × Bool :=
 jK (Wire.texts ⟨s,false⟩).1 (Wire.nums (Wire.texts ⟨s,false⟩).2).1 (Wire.text (Wire.nums (Wire.texts ⟨s,false⟩).2).2).2
  (cG (Wire.text (Wire.nums (Wire.texts ⟨s,false⟩).2).2).1)
structure Pss where
 name:List UInt8
 pub:Int
 attrs:List (List UInt8)
 guests:List Int
structure Tsk where
 version:Int
 question:List UInt8
 passes:List Pss
 most:Int
 revoked:List Int
 dare:Int
 quorum:Int
 jurors:Int
def sK(t:Tsk):List Int:=[t.version,t.most,t.dare,t.quorum,t.jurors]
end Go.Proofs.YtcidfldeiklcjaaGreatDoor.Tape
namespace Go.Proofs.YtcidfldeiklcjaaGreatDoor
open Go.RowKit
def ag{α:Type}(R:World->List Value->α->Prop)(m:Nat)(w:World)(u:Value)(l:List α):Prop :=
 ∃vs:List (List Value),vs.length=l.length/\(∀c∈vs,c.length=m)/\(∀(k:Nat) a,l[k]?=some a->∃c,vs[k]?=some c/\R w c a)/\Row w m u l.length vs.flatten
theorem cM{α:Type}:∀(vs:List (List α)) (m k j:Nat) (c:List α),(∀c∈vs,c.length=m)->vs[k]?=some c->j < m->vs.flatten[k*m+j]?=c[j]?
 | [],_,_,_,_,_,h,_=>by simp at h
 |a::vs,m,0,j,c,hm,h,hj=>by
  simp at h;subst h;have:=hm a (by simp);rw[Nat.zero_mul,Nat.zero_add,List.flatten_cons,List.getElem?_append_left (by omega)]
 |a::vs,m,k+1,j,c,hm,h,hj=>by
  have h1:=hm a (by simp)
  have h2:vs[k]?=some c:=by simpa using h
  rw[List.flatten_cons,List.getElem?_append_right (by rw[h1,Nat.add_mul];omega),h1,show(k+1)*m+j - m=k*m+j by rw[Nat.add_mul];omega];exact cM vs m k j c (fun c hc=>hm c (by simp[hc])) h2 hj
theorem ei{α:Type}:∀(vs:List (List α)) (m:Nat),(∀c∈vs,c.length=m)->vs.flatten.length=vs.length*m
 | [],m,_=>by simp
 |a::vs,m,hm=>by
  rw[List.flatten_cons,List.length_append,hm a (by simp),ei vs m (fun c hc=>hm c (by simp[hc])),List.length_cons,Nat.add_mul];omega
section
variable {α:Type} {R:World->List Value->α->Prop} {m:Nat} {w w':World} {u:Value} {l:List α}
theorem ag.kept(h:ag R m w u l)(hR:∀c a,R w c a->R w' c a)(k:Kept [] w w'):ag R m w' u l:=by
 obtain⟨vs,h1,h2,h3,h4⟩:=h;exact⟨vs,h1,h2,fun i a ha=>by obtain⟨c,h5,h6⟩:=h3 i a ha;exact⟨c,h5,hR c a h6⟩,h4.kept k⟩
theorem ag.form(h:ag R m w u l):∃a c,u=.slice a l.length c/\l.length<=9223372036854775807/\l.length<=c:=by
 obtain⟨vs,_,_,_,h4⟩:=h;exact h4.form
theorem ag.at_{a:Option Addr}{n c:Nat}(h:ag R m w (.slice a n c) l)(hp:0 < l.length) :
  ∃b off,a=some ⟨b,off,none⟩/\∀(k:Nat) x,l[k]?=some x->∃cs:List Value,cs.length=m/\R w cs x/\∀(j:Nat) v,j < m->cs[j]?=some v->w.cell? ⟨b,off+(k*m+j),none⟩=some v:=by
 obtain⟨vs,h1,h2,h3,h4⟩:=h;obtain⟨b,off,ha,hc⟩:=h4.at_ hp;refine⟨b,off,ha,fun k x hx=>?_⟩;obtain⟨cs,h5,h6⟩:=h3 k x hx;refine⟨cs,h2 cs (List.mem_of_getElem? h5),h6,fun j v hj hv=>?_⟩;exact hc (k*m+j) v ((cM vs m k j cs h2 h5 hj).trans hv)
theorem ag.nil_(R:World->List Value->α->Prop)(m:Nat)(w:World):ag R m w () [] := ⟨[],rfl,by simp,by simp,⟨by simp,by simp,_,_,rfl,by simp,fun h=>absurd h (by simp)⟩⟩
theorem ag.of_own{B:Nat}{e:TypeId}{vs:List (List Value)}(h:w.ownsRow B e m u l.length vs.flatten)(h1:vs.length=l.length)(h2:∀c∈vs,c.length=m)
  (h3:∀(k:Nat) a,l[k]?=some a->∃c,vs[k]?=some c/\R w c a) (hn:l.length<=9223372036854775807):ag R m w u l := ⟨vs,h1,h2,h3,Row.of_own h hn⟩
end
theorem aH{w:World}{b:Nat}{T:TypeId}{size n:Nat}{cs:List Value}(h:Blk w b T cs.toArray)(hl:cs.length=n*size)(hn:n<=9223372036854775807) :
  Row w size (.slice (some ⟨b,0,none⟩) n n) n cs:=by
 refine⟨hl,hn,_,_,rfl,Nat.le_refl _,fun _=>⟨_,_,rfl,fun k u hu=>?_⟩⟩;rw[Nat.zero_add,h.cell k]
 simpa using hu
open Tape (Tick Spnd Lnk Pf Rec Pss Tsk)
def aM(w:World)(c:List Value)(l:List Int):Prop:=∃v,c=[v]/\Row w 1 v l.length (ints l)
def uR(t:Tick):List Value:=[t.1,t.2.1,t.2.2.1,t.2.2.2.1,t.2.2.2.2.1,t.2.2.2.2.2]
def fG(_:World)(c:List Value)(t:Tick):Prop:=c=uR t
def eQ(w:World)(c:List Value)(x:Spnd):Prop:=∃v,c=[.int .i64 x.1,v]/\Row w 1 v x.2.length (ints x.2)
def LnkR(w:World)(c:List Value)(x:Lnk × List UInt8):Prop:=∃v,c=uR x.1.1++[.int .i64 x.1.2.1,v,.string ⟨x.2.toArray⟩]/\Row w 1 v x.1.2.2.length (ints x.1.2.2)
def cr(w:World)(c:List Value)(l:List (Lnk × List UInt8)):Prop:=∃v,c=[v]/\ag LnkR 9 w v l
def bJ(w:World)(c:List Value)(l:List (List Int)):Prop:=∃v,c=[v]/\ag aM 1 w v l
def PssR(w:World)(c:List Value)(p:Pss):Prop:=∃v u,c=[.string ⟨p.name.toArray⟩,.int .i64 p.pub,v,u]/\Row w 1 v p.attrs.length (strs p.attrs)/\Row w 1 u p.guests.length (ints p.guests)
section
variable {w w':World} {c:List Value}
theorem PssR.kept{p:Pss}(h:PssR w c p)(k:Kept [] w w'):PssR w' c p:=by obtain⟨v,u,h1,h2,h3⟩:=h;exact⟨v,u,h1,h2.kept k,h3.kept k⟩
end
structure RecS (w:World) (tk sp lk cm ch bt es da an:Value) (r:Rec):Prop where
 tk:ag fG 6 w tk r.tickets
 sp:ag eQ 2 w sp r.spends
 lk:ag cr 1 w lk r.links
 cm:Row w 1 cm r.commits.length (ints r.commits)
 ch:Row w 1 ch r.chain.length (ints r.chain)
 bt:ag aM 1 w bt r.bits
 es:Row w 1 es r.escrow.length (ints r.escrow)
 da:ag aM 1 w da r.proof.dares
 an:ag bJ 1 w an r.proof.answers
def RecV(w:World)(v:Value)(r:Rec):Prop:=∃tk sp lk cm ch bt es da an,v=.agg #[tk,sp,lk,cm,ch,bt,es,da,an]/\RecS w tk sp lk cm ch bt es da an r
end Go.Proofs.YtcidfldeiklcjaaGreatDoor
