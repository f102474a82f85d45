import Derived.Test.YtcidfldeiklcjaaGreatDoorSgd
set_option maxRecDepth 100000
set_option maxHeartbeats 32000000
namespace Go.Proofs.YtcidfldeiklcjaaGreatDoor
open Go.RowKit Tm Tape
open Go.Proofs.Tryz
open Lib(hid)
def aN(s:Stp)(keys:List Int)(e:Ent):Bool:=aS s e&&(decide (e.gate < keys.length)&&sigB s (nth keys e.gate.toNat) (aF e) e.c e.s)
theorem qm(vs vk ve:Value)(s:Stp)(keys:List Int)(e:Ent)(w:World)(hs:StpV w vs s)(hk:Row w 1 vk keys.length (ints keys))(he:EntA w ve e)(hi:EntI e)(hki:∀x∈keys,Wire.I64 x)(hE:Env2 w) :
  Calls prog 40 #[vs,vk,ve] w fun en w'=>en=.returned (.bool (aN s keys e))/\Kept [] w w':=by
 have hs':=hs;have he':=he;obtain⟨⟨m,l,rfl,t⟩,ip,iq,ig,Y,il⟩:=hs';obtain⟨u,rfl,v⟩:=he';obtain⟨k,j,rfl,_,_⟩:=v.form;obtain⟨ka,kc,rfl,_,_⟩:=hk.form;obtain⟨W,y⟩:=nm ((w.alloc (.cells (stpA s (.slice m s.bases.length l)) 26)).alloc (.cells (entC e (.slice k e.nums.length j)).toArray 52));have O:Blk W w.heap.size 26 (stpA s (.slice m s.bases.length l)):=y▸(Blk.new _ _ _).alloc _
 have N:Blk W (w.heap.size+1) 52 (entC e (.slice k e.nums.length j)).toArray:=by
  have:=Blk.new (w.alloc (.cells (stpA s (.slice m s.bases.length l)) 26)) 52 (entC e (.slice k e.nums.length j)).toArray;rw[y,World.size_alloc]at this;exact this
 have a:Kept [] w W:=y▸(kr.alloc _).alloc _
 have B:Hid (∀x:KW W,Calls prog 52 #[.agg #[s.P,s.Q,s.G,.slice m s.bases.length l,s.blind],.agg #[e.gate,e.no,e.time,e.kind,.slice k e.nums.length j,e.text,e.c,e.s]] x.val fun en w2=>en=.returned (.bool (aS s e))/\Kept [] x.val w2):=fun x =>
  lV _ _ s e x.val (hs.kept (a.trans x.property)) (he.kept (a.trans x.property)) hi (hE.kept0 (a.trans x.property))
 have V:Hid (∀x:KW W,Calls prog 53 #[.agg #[e.gate,e.no,e.time,e.kind,.slice k e.nums.length j,e.text,e.c,e.s]] x.val fun en w2=>en=.returned (.string ⟨(aF e).toArray⟩)/\Kept [] x.val w2):=fun x =>
  mj _ e x.val (he.kept (a.trans x.property)) hi (hE.kept0 (a.trans x.property)).toEnv
 have U:Hid (∀pub,Wire.I64 pub->∀x:KW W,Calls prog 71 #[.agg #[s.P,s.Q,s.G,.slice m s.bases.length l,s.blind],pub,.string ⟨(aF e).toArray⟩,.agg #[e.c,e.s]] x.val fun en w2=>en=.returned (.bool (sigB s pub (aF e) e.c e.s))/\Kept [] x.val w2):=fun pub hp x=>by
  have:=cj e hi;exact qS _ s pub e.c e.s (aF e) x.val (hs.kept (a.trans x.property)) hp hi.h5 hi.h6 (by omega) (hE.kept0 (a.trans x.property))
 obtain⟨s0,s1,s2,s3,s4⟩:=bx5 O rfl;obtain⟨T,c1,c2,c3,c4,c5,c6,c7⟩:=bx8 N rfl;have J:=hid (hk.kept a);have I:=hid y;have r:=hid a;have L:=hid hki;have i:Hid (aN s keys e=(aS s e&&(decide (e.gate < keys.length)&&sigB s (nth keys e.gate.toNat) (aF e) e.c e.s))):=rfl;have z:Hid (aS s e=true->0<=e.gate):=fun h=>(dS h).2.2.1.1
 generalize b:aN s keys e=R at i ⊢
 generalize E:aS s e=b1 at B i z
 clear y O N t b E a hs he v hk hi hki hE Y
 show Calls _ _ #[.agg #[s.P,s.Q,s.G,.slice m s.bases.length l,s.blind],_,.agg #[e.gate,e.no,e.time,e.kind,.slice k e.nums.length j,e.text,e.c,e.s]] _ _
 cases b1
 ·have b:=i.out;simp only[Bool.false_and]at b;subst b
  go_enter func40,ntmps40
  go_upto_region 1 with(fail);have hW':(w.alloc (.cells #[s.P,s.Q,s.G,.slice m s.bases.length l,s.blind] 26)).alloc (.cells #[e.gate,e.no,e.time,e.kind,.slice k e.nums.length j,e.text,e.c,e.s] 52)=W:=I.out;rw[hW'];clear hW';refine ax W kr (by kernel_rfl) (by kernel_rfl) ?_
  repeat (go_big_quiet_step (first|(go_at_call 52;exact aA (B _))))
  refine wpQuiet_nil ?_;rintro M ⟨⟨_,d⟩,rfl⟩;go_wp2_with fail;go_ret;exact⟨rfl,r.trans d⟩
 by_cases hg:e.gate < keys.length
 rotate_left
 ·have b:=i.out;rw[decide_eq_false hg]at b;simp only[Bool.false_and,Bool.and_false]at b;subst b;have dg:decide (e.gate < (keys.length:Int))=false:=decide_eq_false hg;clear hg
  go_enter func40,ntmps40
  go_upto_region 1 with(fail);have hW':(w.alloc (.cells #[s.P,s.Q,s.G,.slice m s.bases.length l,s.blind] 26)).alloc (.cells #[e.gate,e.no,e.time,e.kind,.slice k e.nums.length j,e.text,e.c,e.s] 52)=W:=I.out;rw[hW'];clear hW';refine ax W kr (by kernel_rfl) (by kernel_rfl) ?_
  repeat (go_big_quiet_step (first|(go_at_call 52;exact aA (B _))))
  refine wpQuiet_nil ?_;rintro M ⟨⟨_,d⟩,rfl⟩;go_wp2_with fail;go_ret;exact⟨rfl,r.trans d⟩
 have b:=i.out;rw[decide_eq_true hg]at b;simp only[Bool.true_and]at b;obtain⟨g,n⟩:=Int.eq_ofNat_of_zero_le (z (by trivial))
 have o:g < keys.length:=by omega
 obtain⟨kb,X,rfl,f⟩:=J.out.at_ (by omega);have y0:∀x:KW W,x.val.cell? ⟨kb,X+g,none⟩=some (.int .i64 keys[g]):=fun x=>x.cell (f g _ (aL o));rw[n,Int.toNat_natCast,show nth keys g=keys[g]by unfold nth;rw[List.getD_eq_getElem?_getD,List.getElem?_eq_getElem o];rfl]at b;have q:=U keys[g] (L _ (List.getElem_mem o));rw[<-b]at q;have F:=hid q;have dg:decide ((g:Int) < (keys.length:Int))=true:=decide_eq_true (by omega);have C:Hid (e.gate=(g:Int)):=n
 have cg:∀x:KW W,x.val.cell? ⟨w.heap.size+1,0,none⟩=some (.int .i64 (g:Int)):=fun x=>by rw[<-C.out];exact T x
 clear b q f hg U;obtain⟨Z,p⟩:=nm e.gate;have A:Hid ((w.alloc (.cells #[s.P,s.Q,s.G,.slice m s.bases.length l,s.blind] 26)).alloc (.cells #[e.gate,e.no,e.time,e.kind,.slice k e.nums.length j,e.text,e.c,e.s] 52)=W):=I.out;rw[p]at B V A T ⊢;have D:Z=(g:Int):=p.symm.trans n;subst D;clear p n cg
 go_enter func40,ntmps40
 go_upto_region 1 with(fail);have hW':(w.alloc (.cells #[s.P,s.Q,s.G,.slice m s.bases.length l,s.blind] 26)).alloc (.cells #[.int .i64 (g:Int),e.no,e.time,e.kind,.slice k e.nums.length j,e.text,e.c,e.s] 52)=W:=A.out;rw[hW'];clear hW';refine ax W kr (by kernel_rfl) (by kernel_rfl) ?_
 repeat (go_big_quiet_step (first|(go_at_call 52;exact aA (B _))|(go_at_call 53;exact aA (V _))|(go_at_call 71;exact aA (F _))))
 refine wpQuiet_nil ?_;rintro M ⟨⟨_,d⟩,rfl⟩;go_wp2_with fail;go_ret;exact⟨rfl,r.trans d⟩
end Go.Proofs.YtcidfldeiklcjaaGreatDoor
namespace Go.Proofs.YtcidfldeiklcjaaGreatDoor
open Go.RowKit Tm
open Go.Proofs.Tryz
def fI:Ent:=⟨0,0,0,0,[],[],0,0⟩
theorem uu(m:Nat)(f:Nat->EV)(k:Nat)(u:Value)(h:((List.range m).map fun i=>entC (f i).1 (f i).2).flatten[k]?=some u):k / 8 < m/\(entC (f (k / 8)).1 (f (k / 8)).2)[k % 8]?=some u:=by
 have hl:∀c∈(List.range m).map fun i=>entC (f i).1 (f i).2,c.length=8:=fun c hc=>by
  obtain⟨i,_,rfl⟩:=List.mem_map.1 hc
  rfl
 have h1:=(List.getElem?_eq_some_iff.1 h).1;rw[ei _ 8 hl,List.length_map,List.length_range]at h1
 have h2:k / 8 < m:=by omega
 refine⟨h2,?_⟩;have h3:=cM ((List.range m).map fun i=>entC (f i).1 (f i).2) 8 (k / 8) (k % 8) (entC (f (k / 8)).1 (f (k / 8)).2) hl (by simp[h2]) (Nat.mod_lt _ (by omega));rw[show k / 8*8+k % 8=k by omega,h]at h3;exact h3.symm
theorem EC.list{w:World}{rb m cap:Nat}{f:Nat->EV}(h:EC w rb m f)(hn:dw m f w)(hm:m<=1000000)(hc:m<=cap):aU w (.slice (some ⟨rb,0,none⟩) m cap) ((List.range m).map fun i=>(f i).1):=by
 refine⟨(List.range m).map fun i=>entC (f i).1 (f i).2,by simp,fun c hc=>?_,fun k a hk=>?_,?_⟩
 ·obtain⟨i,_,rfl⟩:=List.mem_map.1 hc
  rfl
 ·have b:k < m:=by have:=(List.getElem?_eq_some_iff.1 hk).1;simpa using this
  rw[List.getElem?_map,List.getElem?_range b]at hk;simp only[Option.map_some,Option.some.injEq]at hk;subst hk;refine⟨entC (f k).1 (f k).2,by simp[b],(f k).2,rfl,hn k b⟩
 ·rw[List.length_map,List.length_range];refine⟨?_,by omega,_,_,rfl,hc,fun _=>⟨_,_,rfl,fun k u hu=>?_⟩⟩
  ·rw[ei _ 8 (fun c hc=>by obtain⟨i,_,rfl⟩:=List.mem_map.1 hc;rfl),List.length_map,List.length_range]
  ·obtain⟨g,e⟩:=uu m f k u hu;have d:=h.cell (k / 8) g (k % 8) u e;rw[show k / 8*8+k % 8=k by omega]at d;rw[Nat.zero_add];exact d
theorem Grow.ents{B:Nat}{X:List Nat}{w:World}{v:Value}{l:List Ent}(h:Grow EntR 8 52 B X w v l)(hvX:∀z∈obl v,z∈X)(hl:0 < l.length) :
  ∃(g cap:Nat) (f:Nat->EV),v=.slice (some ⟨g,0,none⟩) l.length cap/\l.length<=cap/\B<=g/\EC w g l.length f/\ae [g] (dw l.length f) w/\(∀i (hi:i < l.length),(f i).1=l[i]):=by
 obtain⟨a,I,x⟩:=h
 rcases I.2 with⟨_,C⟩|⟨g,cap,d,s,F,o,m,_,E,e⟩
 ·omega
 have n:g∈X:=hvX g (by rw[s];exact fv rfl);have r:=x.get;have y:=r.1
 have b:∀w',ep EntR 8 a l w'->∀i (hi:i < l.length),a[i]?=some (entC l[i] ((a.getD i []).getD 4 default))/\Row w' 1 ((a.getD i []).getD 4 default) l[i].nums.length (ints l[i].nums):=fun w' he i hi=>by
  obtain⟨c,t,v,rfl,A⟩:=he.2.2 i _ (List.getElem?_eq_getElem hi)
  have hd:(a.getD i []).getD 4 default=v:=by
   have:a.getD i []=entC l[i] v:=by rw[List.getD_eq_getElem?_getD,t];rfl
   rw[this];rfl
  rw[hd];exact⟨t,A⟩
 refine⟨g,cap,fun i=>(l.getD i fI,(a.getD i []).getD 4 default),s,m,F,⟨fun i hi j u hu=>?_,fun k=>?_,(Array.getElem?_eq_some_iff.1 o).1⟩,fun S w' k hS=>?_,fun i hi=>?_⟩
 ·simp only[List.getD_eq_getElem?_getD (l:=l),List.getElem?_eq_getElem hi,Option.getD_some]at hu
  have D:j < 8:=by have:=(List.getElem?_eq_some_iff.1 hu).1;simpa [entC]using this
  have q:=cM a 8 i j _ r.2.1 (b w r i hi).1 D;rw[hu,<-e,List.getElem?_take]at q;have p:Blk w g 52 d:=o;rw[p.cell];rw[if_pos (by omega)]at q
  simpa using q
 ·have p:Blk w g 52 d:=o;exact p.frozen k
 ·have G:=x S w' k (fun z hz hlt=>by have:=hS z hz hlt;rw[List.mem_singleton]at this;rw[this];exact n);intro i hi;simp only[List.getD_eq_getElem?_getD (l:=l),List.getElem?_eq_getElem hi,Option.getD_some];exact(b w' G i hi).2
 ·simp only[List.getD_eq_getElem?_getD (l:=l),List.getElem?_eq_getElem hi,Option.getD_some]
theorem up_of{m:Nat}{f:Nat->EV}(h:cQ m f):Up ((List.range m).map fun i=>(f i).1):=by
 rw[Up,List.pairwise_iff_getElem];intro i j hi hj hij;simp only[List.length_map,List.length_range]at hi hj;simp only[List.getElem_map,List.getElem_range];exact h i j hij hj
theorem mem_range(m:Nat)(f:Nat->EV)(z:Ent):z∈(List.range m).map (fun i=>(f i).1)↔∃i,i < m/\(f i).1=z:=by
 rw[List.mem_map]
 constructor
 ·rintro⟨i,hi,h⟩;exact⟨i,List.mem_range.1 hi,h⟩
 ·rintro⟨i,hi,h⟩;exact⟨i,List.mem_range.2 hi,h⟩
theorem yz{n m:Nat}{f0 f f2:Nat->EV}{l acc:List Ent}{sg:Ent->Bool}(ha:acc=l.filter sg)(hn:n=acc.length)(h0:∀i (hi:i < acc.length),(f0 i).1=acc[i])(h1:Mem n f0 f)(h2:MemE m n f2 f)(h3:cQ m f2) :
  bA sg l ((List.range m).map fun i=>(f2 i).1):=by
 refine⟨up_of h3,fun z=>?_⟩;rw[mem_range,h2 z,<-List.mem_filter,<-ha]
 constructor
 ·rintro⟨i,hi,rfl⟩;obtain⟨j,hj,e⟩:=(h1 (f i)).1 ⟨i,hi,rfl⟩;rw[<-e,h0 j (by omega)];exact List.getElem_mem _
 ·intro hz;obtain⟨j,hj,e⟩:=List.mem_iff_getElem.1 hz;obtain⟨i,hi,e2⟩:=(h1 (f0 j)).2 ⟨j,by omega,rfl⟩;exact⟨i,hi,by rw[e2,h0 j hj,e]⟩
theorem wJ(v:Value)(w:World):Calls prog 108 #[(),.int .i64 0,.int .i64 0,v] w fun e w'=>e=.returned (.tuple #[])/\w=w':=by
 go_enter func108,ntmps108
 go_wp2_with fail;refine wp_loop_rounds 1 ?_;rw[rounds_succ];go_wp2_with fail
 go_end0
 exact⟨rfl,rfl⟩
theorem vO(v:Value)(lim:Int)(w:World):Calls prog 72 #[(),.int .i64 0,.int .i64 0,lim,v] w fun e w'=>e=.returned (.tuple #[])/\w=w':=by
 have IN:=Lib.hid (fun w=>wJ v w)
 go_enter func72,ntmps72
 go_wp2_with fail;refine wp_loop_rounds 1 ?_;rw[rounds_succ];go_wp2_with (go_at_call 108;((with_reducible refine(IN.out _).mono ?_);rintro e w1 ⟨rfl,rfl⟩));refine bodyPost_ret (results_none rfl _ _ _) rfl ?_;exact⟨rfl,rfl⟩
theorem tv(v:Value)(w:World):Calls prog 42 #[(),v] w fun e w'=>e=.returned (.tuple #[])/\w=w':=by
 have PQ:=Lib.hid (fun lim w=>vO v lim w);have BL:=Lib.hid (Tryz.bits_Len 0 w (by omega) (by omega))
 go_enter func42,ntmps42
 go_wp2_with (go_at_call 73;refine BL.mono ?_);rintro e w1 ⟨rfl,rfl⟩;go_wp2_with fail;refine(PQ _ _).mono ?_;rintro e w2 ⟨rfl,rfl⟩;go_wp2_with fail
 go_end0
 exact⟨rfl,rfl⟩
theorem oR(v:Value)(w:World):Calls prog 44 #[(),v] w fun e w'=>e=.returned ()/\w=w':=by
 go_enter func44,ntmps44
 go_wp2_with fail;go_ret;exact⟨rfl,rfl⟩
open Lib(hid)
def ClnE(l:List Int)(w:World)(e:Ending)(w':World):Prop:=∃a c,e=.returned (.slice a l.length c)/\w'.ownsRow w.heap.size 3 1 (.slice a l.length c) l.length (ints l)/\Kept [] w w'
theorem mg(l:List Int)(a:Option Addr)(c:Nat)(w:World)(h:Row w 1 (.slice a l.length c) l.length (ints l))(hl:l.length<=1000000) :
  Calls prog 54 #[.slice a l.length c] w (ClnE l w):=by
 cases a with
 |none =>
  have g:l.length=0:=by
   rcases Nat.eq_zero_or_pos l.length with g|i
   ·exact g
   ·obtain⟨b,off,f,_⟩:=h.at_ i
    cases f
  have d:l=[]:=List.eq_nil_of_length_eq_zero g;subst d;refine(Tryz.slices_Clone_int_nil 0 c w).mono fun e w' ⟨he,hw⟩=>?_;subst hw;exact⟨none,0,he,World.ownsRow_nil _ _ _ _,kr⟩
 |some ad =>
  rcases Nat.eq_zero_or_pos l.length with g|i
  ·have d:l=[]:=List.eq_nil_of_length_eq_zero g;subst d;refine(Tryz.slices_Clone_int_zero ad c w).mono fun e w' ⟨v',he,ho,_,hb⟩=>?_;obtain⟨a',c',rfl⟩:=aG ho;exact⟨a',c',he,ho,Kept.of_below hb⟩
  ·obtain⟨b,off,f,k⟩:=h.at_ i;injection f with f;subst f;refine(Tryz.slices_Clone_int b off l.length c l w (Nat.le_refl _) (by omega) (fun j hj=>?_)).mono fun e w' ⟨v',he,ho,_,hb⟩=>?_
   ·rw[k j _ (aL hj),List.getD_eq_getElem?_getD,List.getElem?_eq_getElem hj]
    rfl
   ·rw[List.take_length]at ho;obtain⟨a',c',rfl⟩:=aG ho;exact⟨a',c',he,ho,Kept.of_below hb⟩
def FreE(x:Ent)(w:World)(e:Ending)(w':World):Prop:=∃a c,e=.returned (.agg #[x.gate,x.no,x.time,x.kind,.slice a x.nums.length c,x.text,x.c,x.s]) /\
 (∀X:List Nat,(∀z∈X,z < w.heap.size)->ae X (fun w=>Row w 1 (.slice a x.nums.length c) x.nums.length (ints x.nums)) w')/\Kept [] w w'
theorem us(x:Ent)(a:Option Addr)(c:Nat)(w:World)(h:Row w 1 (.slice a x.nums.length c) x.nums.length (ints x.nums))(hl:x.nums.length<=1000000) :
  Calls prog 41 #[.agg #[x.gate,x.no,x.time,x.kind,.slice a x.nums.length c,x.text,x.c,x.s]] w (FreE x w):=by
 obtain⟨W,m⟩:=nm ((w.alloc (.cells (entC x (.slice a x.nums.length c)).toArray 52)).alloc (.cells (entC fI ()).toArray 52));have A:Blk W w.heap.size 52 (entC x (.slice a x.nums.length c)).toArray:=m▸(Blk.new _ _ _).alloc _
 have l:Blk W (w.heap.size+1) 52 (entC fI ()).toArray:=by
  have:=Blk.new (w.alloc (.cells (entC x (.slice a x.nums.length c)).toArray 52)) 52 (entC fI ()).toArray;rw[m,World.size_alloc]at this;exact this
 have g:Kept [] w W:=m▸(kr.alloc _).alloc _
 have q:W.heap.size=w.heap.size+2:=by rw[<-m];simp
 have Y:=hid (mg x.nums a c W (h.kept g) hl);have R:W.cell? ⟨w.heap.size,4,none⟩=some (.slice a x.nums.length c):=A.cell 4;have U:=hid A;have T:=hid l;have V:=hid m;have C:=hid g;have r:=hid q;clear m A l g h q
 go_enter func41,ntmps41
 go_upto_region 1 with(fail);have hW':(w.alloc (.cells #[x.gate,x.no,x.time,x.kind,.slice a x.nums.length c,x.text,x.c,x.s] 52)).alloc (.cells #[.int .i64 0,.int .i64 0,.int .i64 0,.int .i64 0,(),.string ⟨#[]⟩,.int .i64 0,.int .i64 0] 52)=W:=V.out;rw[hW'];clear hW';go_wp2_with (go_at_call 54;with_reducible refine Y.out.mono ?_);rintro e d ⟨y,u,rfl,n,t⟩;have f:=U.out.kept t (by simp);have b:=T.out.kept t (by simp);have i:=hid n;have D:=hid t;have p0:d.cell? ⟨w.heap.size,0,none⟩=some (.int .i64 x.gate):=f.cell 0;have N:d.cell? ⟨w.heap.size+1,0,none⟩=some (.int .i64 0):=b.cell 0;have y0:d.frozen? ⟨w.heap.size+1,0,none⟩=false:=b.frozen 0;have p1:d.cell? ⟨w.heap.size,1,none⟩=some (.int .i64 x.no):=f.cell 1;have M:d.cell? ⟨w.heap.size+1,1,none⟩=some (.int .i64 0):=b.cell 1;have y1:d.frozen? ⟨w.heap.size+1,1,none⟩=false:=b.frozen 1;have p2:d.cell? ⟨w.heap.size,2,none⟩=some (.int .i64 x.time):=f.cell 2;have L:d.cell? ⟨w.heap.size+1,2,none⟩=some (.int .i64 0):=b.cell 2;have y2:d.frozen? ⟨w.heap.size+1,2,none⟩=false:=b.frozen 2;have p3:d.cell? ⟨w.heap.size,3,none⟩=some (.int .i64 x.kind):=f.cell 3;have J:d.cell? ⟨w.heap.size+1,3,none⟩=some (.int .i64 0):=b.cell 3;have y3:d.frozen? ⟨w.heap.size+1,3,none⟩=false:=b.frozen 3;have p4:d.cell? ⟨w.heap.size,4,none⟩=some (.slice a x.nums.length c):=f.cell 4;have I:d.cell? ⟨w.heap.size+1,4,none⟩=some ():=b.cell 4;have y4:d.frozen? ⟨w.heap.size+1,4,none⟩=false:=b.frozen 4
 have p5:d.cell? ⟨w.heap.size,5,none⟩=some (.string ⟨x.text.toArray⟩):=f.cell 5;have G:d.cell? ⟨w.heap.size+1,5,none⟩=some (.string ⟨#[]⟩):=b.cell 5;have y5:d.frozen? ⟨w.heap.size+1,5,none⟩=false:=b.frozen 5;have p6:d.cell? ⟨w.heap.size,6,none⟩=some (.int .i64 x.c):=f.cell 6;have F:d.cell? ⟨w.heap.size+1,6,none⟩=some (.int .i64 0):=b.cell 6;have y6:d.frozen? ⟨w.heap.size+1,6,none⟩=false:=b.frozen 6;have p7:d.cell? ⟨w.heap.size,7,none⟩=some (.int .i64 x.s):=f.cell 7;have E:d.cell? ⟨w.heap.size+1,7,none⟩=some (.int .i64 0):=b.cell 7;have Z:d.frozen? ⟨w.heap.size+1,7,none⟩=false:=b.frozen 7;have f4:d.frozen? ⟨w.heap.size,4,none⟩=false:=f.frozen 4;clear R n t f b;go_wp2_with fail;refine bodyPost_ret (v:=.agg #[x.gate,x.no,x.time,x.kind,.slice y x.nums.length u,x.text,x.c,x.s]) (by simp[results,results41,go_sem,N,M,L,J,I,G,F,E]) rfl ?_;have B:∀j,Kept [w.heap.size,w.heap.size+1] d j->Kept [] w j:=fun j k=>(C.out.trans D.out).fresh k (by simp);obtain⟨j,p⟩:=nm ((((((((((d.setCell ⟨w.heap.size,4,none⟩ (.slice y x.nums.length u)).setCell ⟨w.heap.size+1,0,none⟩ x.gate).setCell ⟨w.heap.size+1,1,none⟩ x.no).setCell ⟨w.heap.size+1,2,none⟩ x.time).setCell ⟨w.heap.size+1,3,none⟩ x.kind).setCell ⟨w.heap.size+1,4,none⟩ (.slice y x.nums.length u)).setCell ⟨w.heap.size+1,5,none⟩ x.text).setCell ⟨w.heap.size+1,6,none⟩ x.c).setCell ⟨w.heap.size+1,7,none⟩ x.s));rw[p]
 have o:Kept [w.heap.size,w.heap.size+1] d j:=by
  rw[<-p]
  repeat (refine Kept.setCell ?_ (Or.inl (by simp)) _)
  exact kr
 refine⟨y,u,rfl,fun X hX=>?_,B j o⟩
 have O:=af i o (fun z l hm=>by
  have Q:=ak i z l;have P:=r.out;simp only[List.mem_cons,List.not_mem_nil,or_false]at hm
  rcases hm with rfl|rfl <;> omega)
 exact ae.row O (fun z l hm=>by have Q:=ak i.out z l;have P:=r.out;have:=hX z hm;omega) (by omega)
structure Jo (w wr:World) (sg:Ent->Bool) (l:List Ent) (k:Nat) (acc:List Ent) (X:List Nat) (v:Value):Prop where
 hacc:acc=(l.take k).filter sg
 gr:Grow EntR 8 52 w.heap.size X wr v acc
 vX:∀z∈obl v,z∈X
 hX:∀z∈X,z < wr.heap.size
 kb:Kept [] w wr
 nil_:acc=[]->v=.slice none 0 0
theorem Jo.keep{w wr wr':World}{sg:Ent->Bool}{l acc:List Ent}{k:Nat}{X:List Nat}{v:Value}(h:Jo w wr sg l k acc X v)(kk:Kept [] wr wr'):Jo w wr' sg l k acc X v := ⟨h.hacc,h.gr.step kk (by simp) (by simp) (fun z hz=>Or.inl hz),h.vX,fun z hz=>Nat.lt_of_lt_of_le (h.hX z hz) kk.size,h.kb.trans kk,h.nil_⟩
theorem Jo.skip{w wr:World}{sg:Ent->Bool}{l acc:List Ent}{k:Nat}{X:List Nat}{v:Value}(h:Jo w wr sg l k acc X v)(hk:k < l.length)(hs:sg l[k]=false):Jo w wr sg l (k+1) acc X v := ⟨by rw[h.hacc,List.take_succ_eq_append_getElem hk,List.filter_append];simp[hs],h.gr,h.vX,h.hX,h.kb,h.nil_⟩
theorem Jo.push{w wr wu:World}{sg:Ent->Bool}{l acc:List Ent}{k:Nat}{X:List Nat}{v:Value}{p:Option Addr}{q:Nat}(h:Jo w wr sg l k acc X v)(hk:k < l.length)(hs:sg l[k]=true)(k1:Kept (obl v) wr wu)
  (G:Grow EntR 8 52 w.heap.size (X++obl (.slice p (acc.length+1) q)) wu (.slice p (acc.length+1) q) (acc++[l[k]])) (hb:∀z∈obl (.slice p (acc.length+1) q),z < wu.heap.size) :
  Jo w wu sg l (k+1) (acc++[l[k]]) (X++obl (.slice p (acc.length+1) q)) (.slice p (acc.length+1) q) := ⟨by rw[h.hacc,List.take_succ_eq_append_getElem hk,List.filter_append];simp[hs],G,fun z hz=>List.mem_append_right _ hz,fun z hz=>by
  rcases List.mem_append.1 hz with e|e
  ·exact Nat.lt_of_lt_of_le (h.hX z e) k1.size
  ·exact hb z e,h.kb.fresh k1 (fun z hz=>(h.gr.ge z hz).1),fun e=>by simp at e⟩
def jQ(s:Stp)(keys:List Int)(l:List Ent)(w:World)(e:Ending)(w':World):Prop:=∃v o,e=.returned v/\aU w' v o/\bA (aN s keys) l o/\o.length<=12/\Kept [] w w'
theorem wH(vs vk va:Value)(s:Stp)(keys:List Int)(l:List Ent)(w:World)(hs:StpV w vs s)(hk:Row w 1 vk keys.length (ints keys))(ha:aU w va l)(hl:l.length<=12)(hI:∀e∈l,EntI e)(hki:∀x∈keys,Wire.I64 x)(hE:Env2 w) :
  Calls prog 17 #[vs,vk,va,()] w (jQ s keys l w):=by
 have hs':=hs;obtain⟨⟨V,U,rfl,ab⟩,ip,iq,ig,ib,il⟩:=hs';obtain⟨aa,ca,rfl,_,_⟩:=ag.form ha;obtain⟨ka,kc,rfl,_,_⟩:=hk.form;obtain⟨W,hW⟩:=nm (w.alloc (.cells (stpA s (.slice V s.bases.length U)) 26));have hb:Blk W w.heap.size 26 (stpA s (.slice V s.bases.length U)):=hW▸Blk.new _ _ _;have d:Kept [] w W:=hW▸kr.alloc _
 have an:W.heap.size=w.heap.size+1:=by rw[<-hW];simp
 have ao:NG<=w.heap.size:=hE.toEnv.size
 have SG:Hid (∀(k:Nat) (hk:k < l.length) (ve:Value) (w':World),Kept [] W w'->EntA w' ve l[k]->Calls prog 40 #[.agg #[s.P,s.Q,s.G,.slice V s.bases.length U,s.blind],.slice ka keys.length kc,ve] w' fun en w2=>en=.returned (.bool (aN s keys l[k]))/\Kept [] w' w2):=fun k hk' ve w' hkk hev =>
  qm _ _ ve s keys l[k] w' (hs.kept (d.trans hkk)) (hk.kept (d.trans hkk)) hev (hI _ (List.getElem_mem _)) hki (hE.kept0 (d.trans hkk))
 obtain⟨s0,s1,s2,s3,s4⟩:=bk5 hb rfl;have S0:=hid s0;have S1:=hid s1;have S2:=hid s2;have S3:=hid s3;have S4:=hid s4;have HA:=hid (ha.kept d);have HI:=hid hI;have HE:=hid (hE.kept0 d).toEnv;have HW:=hid hW;have a3:=hid d;have cu:=hid an;have bt:=hid ao;obtain⟨B,a7⟩:=nm (aN s keys)
 unfold jQ
 rw[a7]at SG ⊢
 have CC:Hid (∀w',Kept [] W w'->Calls prog 39 #[.slice (some ⟨w'.heap.size,0,none⟩) 2 2] (w'.alloc (.cells #[.slice aa l.length ca,()] 27)) (CteE l (w'.alloc (.cells #[.slice aa l.length ca,()] 27)))):=fun w' k =>
  qD l _ _ _ (by omega) (aH (cs:=[.slice aa l.length ca,()]) (Blk.new _ _ _) rfl (by decide)) (HA.out.kept (k.alloc _))
 clear hW hb ab d hs ha hk hki hE ib hI a7 s0 s1 s2 s3 s4 an ao;obtain⟨i0,hi,bd,bc,bb⟩:=info_parts fc
 show Calls _ _ #[.agg #[s.P,s.Q,s.G,.slice V s.bases.length U,s.blind],_,_,_] _ _
 go_enter func17,ntmps17
 go_upto_region 1 with(fail);have hW':w.alloc (.cells #[s.P,s.Q,s.G,.slice V s.bases.length U,s.blind] 26)=W:=HW.out;rw[hW'];clear hW';go_wp2_with (go_at_call 39;refine(CC _ kr).mono ?_);rintro e w1 ⟨vc,rfl,T,k1⟩;obtain⟨xa,xc,rfl,_,_⟩:=ag.form T;have b9:=hid T;have K1:=hid (((Kept.refl [] W).alloc _).trans k1);have JS:Hid (Jo w1 w1 B l 0 [] [] ()):=⟨by simp,Grow.nil_ _ _ _ _ _ _,(fun z hz=>by have:=cZ hz;cases this),by simp,kr,fun _=>rfl⟩;clear T k1 CC HA;go_wp2_with fail
 go_loopw [9,11,17] (fun vj _ vi wr=>∃(k:Nat) (a:List Ent) (X:List Nat),k<=l.length/\vi=k/\Hid (Jo w1 wr B l k a X vj)) (fun _ _ vi _=>l.length - (intOf vi).toNat)
 case atStart=>exact⟨0,[],[],by omega,rfl,JS⟩
 case round =>
  obtain⟨k,a,X,cq,rfl,A⟩:=hrel;have y:=hid A.kb;obtain⟨ja,jc,rfl⟩:=A.out.gr.form (by decide)
  by_cases hkn:k < l.length
  ·obtain⟨xb,xo,xc',O,_,a6⟩:=b9.out.at_ (by omega);injection O with O _ hx3;subst O hx3;obtain⟨u,hu,D⟩:=a6 k hkn;have D:=D.kept y;have hu:=hu.kept y;obtain⟨ga,gc,rfl,_,_⟩:=hu.form;have F:=HI _ (List.getElem_mem hkn);have a1:=hid (A.skip hkn);have a2:Hid (∀wr2,Kept [] wr wr2->B l[k]=true->∀(wu:World) (p:Option Addr) (q:Nat),Kept (obl (.slice ja a.length jc)) wr2 wu->Grow EntR 8 52 w1.heap.size (X++obl (.slice p (a.length+1) q)) wu (.slice p (a.length+1) q) (a++[l[k]])->(∀z∈obl (.slice p (a.length+1) q),z < wu.heap.size)->Jo w1 wu B l (k+1) (a++[l[k]]) (X++obl (.slice p (a.length+1) q)) (.slice p (a.length+1) q)):=fun wr2 kk h wu p q k1 G hb=>(A.keep kk).push hkn h k1 G hb;have Y:=hid (SG k hkn)
   generalize hx:l[k]=x at Y a1 a2 F hu D
   obtain⟨c0,c1,c2,c3,c4,c5,c6,c7⟩:=D;have cv:=hid F;have HU:=hid hu;have co:=F.l4;clear hx a6 F hu b9;go_upto_region 5 with(fail);obtain⟨I,E⟩:=nm (wr.alloc (.cells (entC x (.slice ga x.nums.length gc)).toArray 52));have n:Blk I wr.heap.size 52 (entC x (.slice ga x.nums.length gc)).toArray:=E▸Blk.new _ _ _;have C:Kept [] wr I:=E▸kr.alloc _;have hW2':wr.alloc (.cells #[x.gate,x.no,x.time,x.kind,.slice ga x.nums.length gc,x.text,x.c,x.s] 52)=I:=E;rw[hW2'];have b:=K1.trans (y.trans C);have s0:∀w',Kept [] I w'->w'.cell? ⟨w.heap.size,0,none⟩=some (.int .i64 s.P):=fun w' k=>S0.out _ (b.trans k);have s1:∀w',Kept [] I w'->w'.cell? ⟨w.heap.size,1,none⟩=some (.int .i64 s.Q):=fun w' k=>S1.out _ (b.trans k);have s2:∀w',Kept [] I w'->w'.cell? ⟨w.heap.size,2,none⟩=some (.int .i64 s.G):=fun w' k=>S2.out _ (b.trans k);have s3:∀w',Kept [] I w'->w'.cell? ⟨w.heap.size,3,none⟩=some (.slice V s.bases.length U):=fun w' k=>S3.out _ (b.trans k);have s4:∀w',Kept [] I w'->w'.cell? ⟨w.heap.size,4,none⟩=some (.int .i64 s.blind):=fun w' k=>S4.out _ (b.trans k);obtain⟨x0,x1,x2,x3,x4,x5,x6,x7⟩:=bk8 n rfl;have ba:=hid n;have b6:=hid C;have b5:=hid b;have b2:Hid (∀w',Kept [] I w'->Calls prog 40 #[.agg #[s.P,s.Q,s.G,.slice V s.bases.length U,s.blind],.slice ka keys.length kc,.agg #[x.gate,x.no,x.time,x.kind,.slice ga x.nums.length gc,x.text,x.c,x.s]] w' fun en w2=>en=.returned (.bool (B x))/\Kept [] w' w2):=fun w' k=>Y (.agg (entC x (.slice ga x.nums.length gc)).toArray) w' (b.trans k) ⟨_,rfl,HU.kept (C.trans k)⟩
   clear hW2' E n C b c0 c1 c2 c3 c4 c5 c6 c7 Y
   generalize bh:B x=sb at b2 a1 a2
   clear bh;replace s0:=s0 _ kr;replace s1:=s1 _ kr;replace s2:=s2 _ kr;replace s3:=s3 _ kr;replace s4:=s4 _ kr;replace x0:=x0 _ kr;replace x1:=x1 _ kr;replace x2:=x2 _ kr;replace x3:=x3 _ kr;replace x4:=x4 _ kr;replace x5:=x5 _ kr;replace x6:=x6 _ kr;replace x7:=x7 _ kr;go_wp2_with (go_at_call 40;with_reducible refine(b2.out _ kr).mono ?_);rintro e w3 rfl k3;clear s0 s1 s2 s3 s4 x0 x1 x2 x3 x4 x5 x6 x7
   cases sb
   ·go_wp2_with fail
    go_roundw
    case rel=>exact⟨k+1,a,X,by omega,by go_num,hid ((a1.out (by trivial)).keep (b6.out.trans k3))⟩
    case measure=>simp[intOf];omega
   ·have n:=ba.out.kept k3 (by simp);obtain⟨x0,x1,x2,x3,x4,x5,x6,x7⟩:=bc8 n rfl;have a0:=hid (b6.trans k3);have FR:=hid (us x ga gc w3 (HU.out.kept a0.out) (by omega));clear n ba k3 b5;go_upto_region 6 with(fail);go_wp2_with (go_at_call 41;with_reducible refine FR.out.mono ?_);rintro e w4 ⟨ra,rc,rfl,r,k4⟩;have b3:=a0.trans k4;have ka:Kept [] w4 (w4.alloc (.cells #[x.gate,x.no,x.time,x.kind,.slice ra x.nums.length rc,x.text,x.c,x.s] 52)):=kr.alloc _;have Z:=b3.trans ka;have L:Hid (ae X (fun w=>EntR w (entC x (.slice ra x.nums.length rc)) x) (w4.alloc (.cells #[x.gate,x.no,x.time,x.kind,.slice ra x.nums.length rc,x.text,x.c,x.s] 52))):=(((r X (fun z hz=>Nat.lt_of_lt_of_le (A.out.hX z hz) a0.out.size)).step ka (by simp) (fun z hz=>Or.inl hz)).imp fun _ h=>⟨_,rfl,h⟩);have a5:=hid (A.keep Z);have b4:=hid (a2 _ Z (by trivial))
    have am:a.length<=12:=by
     rw[A.out.hacc];exact Nat.le_trans (List.length_filter_le _ _) (by simp;omega)
    have bl:=hid (show w1.heap.size<=_ from a5.out.kb.size);clear x0 x1 x2 x3 x4 x5 x6 x7 r k4 b3 ka Z;go_wp2_with (at_builtin;refine aq rfl _ _ 27 rfl i0 bN 88 underlying27 hi bd bc bb rfl (by decide) (by decide) rfl a5.out.gr _ (entC x (.slice ra x.nums.length rc)) x rfl (rowS rfl _ _ _ rfl) L.out (by simp[entC,Value.oneCell']) (by omega) bl.out a5.out.vX ?_);intro p9 q9 y9 G9 k9 t9;have bs:=hid (b4 y9 p9 q9 k9 G9 (fun z hz=>(G9.ge z hz).2));clear G9 k9 t9 b4 L;go_wp2_with fail
    go_roundw
    case rel=>exact⟨k+1,a++[x],_,by omega,by go_num,bs⟩
    case measure=>simp[intOf];omega
  ·obtain rfl:k=l.length:=by omega
   have t:a=l.filter B:=by have:=A.hacc;rwa [List.take_length]at this
   have am:a.length<=12:=by rw[t];exact Nat.le_trans (List.length_filter_le _ _) hl
   have KW:=a3.trans (K1.trans y)
   rcases Nat.eq_zero_or_pos a.length with h0|hp
   ·obtain rfl:a=[]:=List.eq_nil_of_length_eq_zero h0;have bm:=A.nil_ rfl;injection bm with h1 _ h3;subst h1 h3;have a4:=hid KW;have cb:Hid (bA B l []):=⟨List.Pairwise.nil,fun z=>by rw[<-List.mem_filter,<-t]⟩;have SN:=hid (fun v w=>tv v w);have CN:=hid (fun v w=>oR v w);clear KW;rw[List.length_nil];go_wp2_with (go_at_call 42;with_reducible refine(SN.out _ _).mono ?_);rintro e w6 ⟨rfl,rfl⟩;go_wp2_with (go_at_call 44;with_reducible refine(CN.out _ _).mono ?_);rintro e w7 ⟨rfl,rfl⟩;go_wp2_with fail;go_ret;exact⟨_,[],rfl,ag.nil_ _ _ _,cb.out,by simp,a4.out⟩
   ·obtain⟨g,ct,f,hv,hc,hB,b1,r,hf⟩:=A.gr.ents A.vX hp;injection hv with h1 _ h3;subst h1 h3;have b0:=HE.kept0 (K1.trans y)
    have av:∀k,k < a.length->EntI (f k).1:=fun k hk=>by
     rw[hf k hk];have hm:a[k]∈l.filter B:=t▸List.getElem_mem hk;exact HI _ (List.mem_filter.1 hm).1
    have R:NG<=g:=by
     have h1:=bt.out;have h2:=a3.size;have h3:=K1.size;omega
    have cm:=hid t;have HF:=hid hf;clear hf;have bo:=hid (vh g a.length jc f wr b1 r av R b0 am);have cg:=hid b0;have a4:=hid KW;clear b1 KW t;go_wp2_with (go_at_call 42;with_reducible refine bo.out.mono ?_);rintro e w6 ⟨rfl,f2,a9,M⟩;have o:ae [g] (dw a.length f2) w6:=(r.step M.kept (by simp) (fun z hz=>Or.inl hz)).imp fun w' h k hk=>Mem.all (P:=fun p=>Row w' 1 p.2 p.1.nums.length (ints p.1.nums)) M.mem h k hk;have ap:∀k,k < a.length->EntI (f2 k).1:=fun k hk=>Mem.all (P:=fun p=>EntI p.1) M.mem (fun j hj=>av j hj) k hk;have cl:=hid (qE g a.length jc f2 w6 M.ec o a9 ap R (cg.out.kept M.kept (by simpa using R)) (by omega) hc);have bv:=hid M.mem;have bq:=hid o;have bx:=hid M.kept;clear a9 M o;go_wp2_with (go_at_call 44;with_reducible refine cl.out.mono ?_);rintro e w7 ⟨m,f3,rfl,cp,bk,J,ah,al,N,k7⟩
    have ac:dw m f3 w7:=fun i hi=>by
     obtain⟨j,hj,e⟩:=al i hi;rw[e];exact bq [g] w7 k7 (fun z hz _=>hz) j hj
    have b7:=hid (EC.list N ac (by omega) (by omega:m<=jc));have cd:=hid (yz cm rfl HF bv ah J)
    have c9:Hid (Kept [] w w7):=a4.fresh (bx.trans k7) (fun z hz=>by
     rw[List.mem_singleton]at hz;have h2:=a3.size;have h3:=K1.size
     omega)
    clear ac al ah J N k7 bk;go_wp2_with fail;go_ret;exact⟨_,_,rfl,b7.out,cd.out,by simp;omega,c9.out⟩
end Go.Proofs.YtcidfldeiklcjaaGreatDoor
