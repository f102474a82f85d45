import Derived.Test.YtcidfldeiklcjaaGreatDoorSld
set_option maxRecDepth 100000
set_option maxHeartbeats 32000000
namespace Go.Proofs.YtcidfldeiklcjaaGreatDoor
open Go.RowKit Tm
open Go.Proofs.Tryz
open Lib(hid)
def StE8(w:World)(e:Ending)(w':World):Prop:=∃ad cc,e=.returned (.agg #[.int .i64 23,.int .i64 11,.int .i64 4,.slice ad 3 cc,.int .i64 3])/\Row w' 1 (.slice ad 3 cc) 3 (ints [4,16,18])/\Kept [] w w'
theorem stp8{w:World}{ad:Option Addr}{cc:Nat}(h:Row w 1 (.slice ad 3 cc) 3 (ints [4,16,18])):StpV w (.agg #[.int .i64 23,.int .i64 11,.int .i64 4,.slice ad 3 cc,.int .i64 3]) st8 := ⟨⟨ad,cc,rfl,h⟩,⟨by decide,by decide⟩,⟨by decide,by decide⟩,⟨by decide,by decide⟩,fun x hx=>by
  have hx':x∈[(4:Int),16,18]:=hx;simp only[List.mem_cons,List.not_mem_nil,or_false]at hx'
  rcases hx' with rfl|rfl|rfl <;> exact⟨by decide,by decide⟩,⟨by decide,by decide⟩⟩
theorem kZ(w:World):Calls prog 19 #[] w (StE8 w):=by
 obtain⟨W,d⟩:=nm (w.alloc (.cells #[.int .i64 0,.int .i64 0,.int .i64 0,(),.int .i64 0] 26));have a:Blk W w.heap.size 26 #[.int .i64 0,.int .i64 0,.int .i64 0,(),.int .i64 0]:=d▸Blk.new _ _ _;have c:Kept [] w W:=d▸kr.alloc _;have b:=a.lt;have m:(W.alloc (.cells #[.int .i64 4,.int .i64 16,.int .i64 18] 3)).cell? ⟨w.heap.size,0,none⟩=some (.int .i64 0):=(a.alloc _).cell 0;have t:(W.alloc (.cells #[.int .i64 4,.int .i64 16,.int .i64 18] 3)).frozen? ⟨w.heap.size,0,none⟩=false:=(a.alloc _).frozen 0;have l:(W.alloc (.cells #[.int .i64 4,.int .i64 16,.int .i64 18] 3)).cell? ⟨w.heap.size,1,none⟩=some (.int .i64 0):=(a.alloc _).cell 1;have s:(W.alloc (.cells #[.int .i64 4,.int .i64 16,.int .i64 18] 3)).frozen? ⟨w.heap.size,1,none⟩=false:=(a.alloc _).frozen 1;have k:(W.alloc (.cells #[.int .i64 4,.int .i64 16,.int .i64 18] 3)).cell? ⟨w.heap.size,2,none⟩=some (.int .i64 0):=(a.alloc _).cell 2;have r:(W.alloc (.cells #[.int .i64 4,.int .i64 16,.int .i64 18] 3)).frozen? ⟨w.heap.size,2,none⟩=false:=(a.alloc _).frozen 2;have j:(W.alloc (.cells #[.int .i64 4,.int .i64 16,.int .i64 18] 3)).cell? ⟨w.heap.size,3,none⟩=some ():=(a.alloc _).cell 3;have q:(W.alloc (.cells #[.int .i64 4,.int .i64 16,.int .i64 18] 3)).frozen? ⟨w.heap.size,3,none⟩=false:=(a.alloc _).frozen 3;have i:(W.alloc (.cells #[.int .i64 4,.int .i64 16,.int .i64 18] 3)).cell? ⟨w.heap.size,4,none⟩=some (.int .i64 0):=(a.alloc _).cell 4;have p:(W.alloc (.cells #[.int .i64 4,.int .i64 16,.int .i64 18] 3)).frozen? ⟨w.heap.size,4,none⟩=false:=(a.alloc _).frozen 4
 have o:=hid d;have f:=hid c;have e:=hid b;clear d a c b
 go_enter func19,ntmps19
 go_upto_region 1 with(fail);have hW':w.alloc (.cells #[.int .i64 0,.int .i64 0,.int .i64 0,(),.int .i64 0] 26)=W:=o.out;rw[hW'];clear hW';go_wp2_with fail;refine bodyPost_ret (v:=.agg #[.int .i64 23,.int .i64 11,.int .i64 4,.slice (some ⟨W.heap.size,0,none⟩) 3 3,.int .i64 3]) (by simp[results,results19,go_sem,m,l,k,j,i]) rfl ?_;obtain⟨F,h⟩:=nm ((((((W.alloc (.cells #[.int .i64 4,.int .i64 16,.int .i64 18] 3)).setCell ⟨w.heap.size,0,none⟩ (.int .i64 23)).setCell ⟨w.heap.size,1,none⟩ (.int .i64 11)).setCell ⟨w.heap.size,2,none⟩ (.int .i64 4)).setCell ⟨w.heap.size,3,none⟩ (.slice (some ⟨W.heap.size,0,none⟩) 3 3)).setCell ⟨w.heap.size,4,none⟩ (.int .i64 3));rw[h]
 have g:Kept [w.heap.size] (W.alloc (.cells #[.int .i64 4,.int .i64 16,.int .i64 18] 3)) F:=by
  rw[<-h]
  repeat (refine Kept.setCell ?_ (Or.inl (by simp)) _)
  exact kr
 have n:Blk F W.heap.size 3 #[.int .i64 4,.int .i64 16,.int .i64 18]:=(Blk.new W 3 #[.int .i64 4,.int .i64 16,.int .i64 18]).kept g (by rw[List.mem_singleton];have:=e.out;omega);exact⟨_,_,rfl,aH (cs:=ints [4,16,18]) n rfl (by decide),(f.out.alloc _).fresh g (by simp)⟩
theorem qu{w:World}{b:Nat}(l:List (Ent × Value))(h:Blk w b 52 (l.map fun p=>entC p.1 p.2).flatten.toArray)(hr:∀p∈l,Row w 1 p.2 p.1.nums.length (ints p.1.nums))(hl:l.length<=1000) :
  aU w (.slice (some ⟨b,0,none⟩) l.length l.length) (l.map (·.1)):=by
 have a:∀(l:List (Ent × Value)),(l.map fun p=>entC p.1 p.2).flatten.length=l.length*8:=by
  intro l
  induction l with
  |nil=>rfl
  |cons p l ih=>rw[List.map_cons,List.flatten_cons,List.length_append,ih];simp[entC];omega
 refine⟨l.map fun p=>entC p.1 p.2,by simp,fun c hc=>?_,fun k x hx=>?_,?_⟩
 ·obtain⟨p,_,rfl⟩:=List.mem_map.1 hc
  rfl
 ·rw[List.getElem?_map]at hx;obtain⟨p,d,rfl⟩:=Option.map_eq_some_iff.1 hx;exact⟨entC p.1 p.2,by rw[List.getElem?_map,d];rfl,p.2,rfl,hr p (List.mem_of_getElem? d)⟩
 ·have:=aH (n:=l.length) (size:=8) h (a l) (by omega)
  simpa using this
def ClkE(most:Int)(w:World)(e:Ending)(w':World):Prop:=∃vk vl,e=.returned (.tuple #[vk,vl])/\Row w' 1 vk 2 (ints keys8)/\aU w' vl (l8 most)/\Kept [] w w'
theorem mi(most:Int)(hm:most=1100\/most=2147483648)(w:World)(hE:Env2 w):Calls prog 20 #[most] w (ClkE most w):=by
 have two:∀(p q:Int),Wire.I64 p->Wire.I64 q->∀x∈[p,q],Wire.I64 x:=fun p q hp hq x hx=>by
  simp only[List.mem_cons,List.not_mem_nil,or_false]at hx
  rcases hx with rfl|rfl
  ·exact hp
  ·exact hq
 have bo:EntI ea8:=⟨⟨by decide,by decide⟩,⟨by decide,by decide⟩,⟨by decide,by decide⟩,⟨by decide,by decide⟩,two 1000 1010 ⟨by decide,by decide⟩ ⟨by decide,by decide⟩,⟨by decide,by decide⟩,⟨by decide,by decide⟩,by decide,by decide⟩
 have bm:EntI (eb8 most):=by
  rcases hm with rfl|rfl <;> exact⟨⟨by decide,by decide⟩,⟨by decide,by decide⟩,⟨by decide,by decide⟩,⟨by decide,by decide⟩,two 0 _ ⟨by decide,by decide⟩ ⟨by decide,by decide⟩,⟨by decide,by decide⟩,⟨by decide,by decide⟩,by decide,by decide⟩
 have bl:EntI ec8:=⟨⟨by decide,by decide⟩,⟨by decide,by decide⟩,⟨by decide,by decide⟩,⟨by decide,by decide⟩,two 0 1 ⟨by decide,by decide⟩ ⟨by decide,by decide⟩,⟨by decide,by decide⟩,⟨by decide,by decide⟩,by decide,by decide⟩;have SU:=hid (kZ w)
 go_enter func20,ntmps20
 go_wp2_with (go_at_call 19;with_reducible refine SU.out.mono ?_);rintro e R ⟨G,F,rfl,r,u⟩
 have SA:Hid (∀w',Kept [] R w'->Calls prog 24 #[.agg #[.int .i64 23,.int .i64 11,.int .i64 4,.slice G 3 F,.int .i64 3],.int .i64 3,.agg #[.int .i64 0,.int .i64 0,.int .i64 100,.int .i64 1,.slice (some ⟨w'.heap.size,0,none⟩) 2 2,.string ⟨#[]⟩,.int .i64 0,.int .i64 0]] (w'.alloc (.cells #[.int .i64 1000,.int .i64 1010] 3)) (SeaF a8 true (w'.alloc (.cells #[.int .i64 1000,.int .i64 1010] 3)))):=fun w' kk=>by
  have h:=fM (gO (.agg #[.int .i64 23,.int .i64 11,.int .i64 4,.slice G 3 F,.int .i64 3]) (.agg (entC ea8 (.slice (some ⟨w'.heap.size,0,none⟩) 2 2)).toArray) st8 3 ea8 (w'.alloc (.cells #[.int .i64 1000,.int .i64 1010] 3)) (stp8 (r.kept (kk.alloc _))) ⟨_,rfl,aH (cs:=ints [1000,1010]) (Blk.new w' 3 (ints [1000,1010]).toArray) rfl (by decide)⟩ bo ⟨by decide,by decide⟩ (hE.kept0 (u.trans (kk.alloc _))))
  have hz:cB st8 3 ea8=(a8,true):=by unfold cB;rw[ok_a];rfl
  rw[hz]at h;exact h
 have SB:Hid (∀w',Kept [] R w'->Calls prog 24 #[.agg #[.int .i64 23,.int .i64 11,.int .i64 4,.slice G 3 F,.int .i64 3],.int .i64 3,.agg #[.int .i64 0,.int .i64 1,.int .i64 300,.int .i64 1,.slice (some ⟨w'.heap.size,0,none⟩) 2 2,.string ⟨#[]⟩,.int .i64 0,.int .i64 0]] (w'.alloc (.cells #[.int .i64 0,most] 3)) (SeaF (b8 most) true (w'.alloc (.cells #[.int .i64 0,most] 3)))):=fun w' kk=>by
  have h:=fM (gO (.agg #[.int .i64 23,.int .i64 11,.int .i64 4,.slice G 3 F,.int .i64 3]) (.agg (entC (eb8 most) (.slice (some ⟨w'.heap.size,0,none⟩) 2 2)).toArray) st8 3 (eb8 most) (w'.alloc (.cells #[.int .i64 0,most] 3)) (stp8 (r.kept (kk.alloc _))) ⟨_,rfl,aH (cs:=ints [0,most]) (Blk.new w' 3 (ints [0,most]).toArray) rfl (by decide)⟩ bm ⟨by decide,by decide⟩ (hE.kept0 (u.trans (kk.alloc _))))
  have hz:cB st8 3 (eb8 most)=((b8 most),true):=by unfold cB;rw[ok_b most hm];rfl
  rw[hz]at h;exact h
 have SC:Hid (∀w',Kept [] R w'->Calls prog 24 #[.agg #[.int .i64 23,.int .i64 11,.int .i64 4,.slice G 3 F,.int .i64 3],.int .i64 5,.agg #[.int .i64 1,.int .i64 0,.int .i64 50,.int .i64 2,.slice (some ⟨w'.heap.size,0,none⟩) 2 2,.string ⟨#[]⟩,.int .i64 0,.int .i64 0]] (w'.alloc (.cells #[.int .i64 0,.int .i64 1] 3)) (SeaF c8 true (w'.alloc (.cells #[.int .i64 0,.int .i64 1] 3)))):=fun w' kk=>by
  have h:=fM (gO (.agg #[.int .i64 23,.int .i64 11,.int .i64 4,.slice G 3 F,.int .i64 3]) (.agg (entC ec8 (.slice (some ⟨w'.heap.size,0,none⟩) 2 2)).toArray) st8 5 ec8 (w'.alloc (.cells #[.int .i64 0,.int .i64 1] 3)) (stp8 (r.kept (kk.alloc _))) ⟨_,rfl,aH (cs:=ints [0,1]) (Blk.new w' 3 (ints [0,1]).toArray) rfl (by decide)⟩ bl ⟨by decide,by decide⟩ (hE.kept0 (u.trans (kk.alloc _))))
  have hz:cB st8 5 ec8=(c8,true):=by unfold cB;rw[ok_c];rfl
  rw[hz]at h;exact h
 obtain⟨a,ha⟩:∃a,a8=a:=⟨_,rfl⟩;obtain⟨b,hb⟩:=nm (b8 most);obtain⟨c,hc⟩:∃c,c8=c:=⟨_,rfl⟩
 have bq:Hid (l8 most=[c,b,a]):=by show _=_;unfold l8;rw[ha,hb,hc]
 rw[ha]at SA;rw[hb]at SB;rw[hc]at SC;have cb:=hid u;clear SU ha hb hc u r hE bo bm bl;go_upto_region 2 with(fail);obtain⟨I,z⟩:=nm (R.alloc (.cells #[.int .i64 23,.int .i64 11,.int .i64 4,.slice G 3 F,.int .i64 3] 26));have al:Blk I R.heap.size 26 #[.int .i64 23,.int .i64 11,.int .i64 4,.slice G 3 F,.int .i64 3]:=z▸Blk.new _ _ _;have k1:Kept [] R I:=z▸kr.alloc _;rw[z];have Q:=hid al;have K1:=hid k1;clear z al k1;have ah:=Q.out.kept (show Kept [] I I from kr) (by simp);obtain⟨s0,s1,s2,s3,s4⟩:=bc5 ah rfl;have b9:=hid (SA I K1);clear ah SA;go_wp2_with (go_at_call 24;with_reducible refine b9.out.mono ?_);rintro e Z ⟨m,l,rfl,n,E⟩;have c9:Hid (∀w',Kept [] Z w'->Row w' 1 (.slice m a.nums.length l) a.nums.length (ints a.nums)):=fun w' kk=>n [] (by simp) [] w' kk (by simp);have bb:=hid (show Kept [] I Z from(kr.alloc _).trans E);clear s0 s1 s2 s3 s4 n E b9;go_upto_region 3 with(fail);obtain⟨U,C⟩:=nm (Z.alloc (.cells #[a.gate,a.no,a.time,a.kind,.slice m a.nums.length l,a.text,a.c,a.s] 52));have ao:Blk U Z.heap.size 52 #[a.gate,a.no,a.time,a.kind,.slice m a.nums.length l,a.text,a.c,a.s]:=C▸Blk.new _ _ _;have o:Kept [] Z U:=C▸kr.alloc _;rw[C];have cl:=hid ao;have bt:=hid o;have L:=hid ((bb.out.trans o));have bh:=hid (K1.trans (bb.out.trans o));clear C ao o;have ab:=Q.out.kept (show Kept [] I U from L.out) (by simp);obtain⟨s0,s1,s2,s3,s4⟩:=bc5 ab rfl
 have av:=hid (SB U bh);clear ab SB;go_wp2_with (go_at_call 24;with_reducible refine av.out.mono ?_);rintro e X ⟨k,j,rfl,n,E⟩;have bx:Hid (∀w',Kept [] X w'->Row w' 1 (.slice k b.nums.length j) b.nums.length (ints b.nums)):=fun w' kk=>n [] (by simp) [] w' kk (by simp);have O:=hid (show Kept [] U X from(kr.alloc _).trans E);clear s0 s1 s2 s3 s4 n E av;go_upto_region 4 with(fail);obtain⟨T,B⟩:=nm (X.alloc (.cells #[b.gate,b.no,b.time,b.kind,.slice k b.nums.length j,b.text,b.c,b.s] 52));have an:Blk T X.heap.size 52 #[b.gate,b.no,b.time,b.kind,.slice k b.nums.length j,b.text,b.c,b.s]:=B▸Blk.new _ _ _;have o:Kept [] X T:=B▸kr.alloc _;rw[B];have cg:=hid an;have bk:=hid o;have J:=hid ((L.trans (O.out.trans o)));have bd:=hid (bh.trans (O.out.trans o));clear B an o;have a9:=Q.out.kept (show Kept [] I T from J.out) (by simp);obtain⟨s0,s1,s2,s3,s4⟩:=bc5 a9 rfl;have ap:=hid (SC T bd);clear a9 SC;go_wp2_with (go_at_call 24;with_reducible refine ap.out.mono ?_);rintro e V ⟨i,g,rfl,n,E⟩;have bv:Hid (∀w',Kept [] V w'->Row w' 1 (.slice i c.nums.length g) c.nums.length (ints c.nums)):=fun w' kk=>n [] (by simp) [] w' kk (by simp);have D:=hid (show Kept [] T V from(kr.alloc _).trans E);clear s0 s1 s2 s3 s4 n E ap;go_upto_region 5 with(fail);obtain⟨f,A⟩:=nm (V.alloc (.cells #[c.gate,c.no,c.time,c.kind,.slice i c.nums.length g,c.text,c.c,c.s] 52));have am:Blk f V.heap.size 52 #[c.gate,c.no,c.time,c.kind,.slice i c.nums.length g,c.text,c.c,c.s]:=A▸Blk.new _ _ _
 have o:Kept [] V f:=A▸kr.alloc _;rw[A];have cd:=hid am;have P:=hid o;have cm:=hid ((J.trans (D.out.trans o)));have bs:=hid (bd.trans (D.out.trans o));clear A am o;have N:Kept [] U f:=(O.out.trans bk).trans (D.out.trans P);have M:Kept [] T f:=D.out.trans P;obtain⟨a0,a1,a2,a3,a4,a5,a6,a7⟩:=bk8 ((cl.out.kept N (by simp))) rfl;obtain⟨b0,b1,b2,b3,b4,b5,b6,b7⟩:=bk8 ((cg.out.kept M (by simp))) rfl;obtain⟨c0,c1,c2,c3,c4,c5,c6,c7⟩:=bk8 ((cd.out.kept (Kept.refl [] f) (by simp))) rfl;have RA:Hid (∀w',Kept [] f w'->Row w' 1 (.slice m a.nums.length l) a.nums.length (ints a.nums)):=fun w' kk=>c9 w' (bt.trans (N.trans kk));have RB:Hid (∀w',Kept [] f w'->Row w' 1 (.slice k b.nums.length j) b.nums.length (ints b.nums)):=fun w' kk=>bx w' (bk.trans (M.trans kk));have RC:Hid (∀w',Kept [] f w'->Row w' 1 (.slice i c.nums.length g) c.nums.length (ints c.nums)):=fun w' kk=>bv w' (P.trans kk);have KE:=hid (cb.trans bs);clear N M
 go_region_held3 (fun w'=>Kept [] f w') (repeat (first|(with_reducible assumption)|(with_reducible exact kr)|(with_reducible refine Kept.drew ?_)|(with_reducible refine Kept.alloc ?_ _)))
  (fail)
 ·rename_i d;have t:Blk (((f.alloc (.cells #[.int .i64 18,.int .i64 12] 3)).alloc (.cells #[c.gate,c.no,c.time,c.kind,.slice i c.nums.length g,c.text,c.c,c.s,b.gate,b.no,b.time,b.kind,.slice k b.nums.length j,b.text,b.c,b.s,a.gate,a.no,a.time,a.kind,.slice m a.nums.length l,a.text,a.c,a.s] 52)).drew) (f.heap.size) 3 #[.int .i64 18,.int .i64 12]:=(Blk.new f _ _).alloc _
  have v:Blk (((f.alloc (.cells #[.int .i64 18,.int .i64 12] 3)).alloc (.cells #[c.gate,c.no,c.time,c.kind,.slice i c.nums.length g,c.text,c.c,c.s,b.gate,b.no,b.time,b.kind,.slice k b.nums.length j,b.text,b.c,b.s,a.gate,a.no,a.time,a.kind,.slice m a.nums.length l,a.text,a.c,a.s] 52)).drew) (f.heap.size+1) 52 #[c.gate,c.no,c.time,c.kind,.slice i c.nums.length g,c.text,c.c,c.s,b.gate,b.no,b.time,b.kind,.slice k b.nums.length j,b.text,b.c,b.s,a.gate,a.no,a.time,a.kind,.slice m a.nums.length l,a.text,a.c,a.s]:=by
   have:=Blk.new (f.alloc (.cells #[.int .i64 18,.int .i64 12] 3)) 52 #[c.gate,c.no,c.time,c.kind,.slice i c.nums.length g,c.text,c.c,c.s,b.gate,b.no,b.time,b.kind,.slice k b.nums.length j,b.text,b.c,b.s,a.gate,a.no,a.time,a.kind,.slice m a.nums.length l,a.text,a.c,a.s];rw[World.size_alloc]at this;exact this
  have y:=hid (KE.trans d);have HR:Hid (Row (((f.alloc (.cells #[.int .i64 18,.int .i64 12] 3)).alloc (.cells #[c.gate,c.no,c.time,c.kind,.slice i c.nums.length g,c.text,c.c,c.s,b.gate,b.no,b.time,b.kind,.slice k b.nums.length j,b.text,b.c,b.s,a.gate,a.no,a.time,a.kind,.slice m a.nums.length l,a.text,a.c,a.s] 52)).drew) 1 (.slice (some ⟨f.heap.size,0,none⟩) 2 2) 2 (ints keys8)):=aH (cs:=ints keys8) t rfl (by decide)
  have HE:Hid (aU (((f.alloc (.cells #[.int .i64 18,.int .i64 12] 3)).alloc (.cells #[c.gate,c.no,c.time,c.kind,.slice i c.nums.length g,c.text,c.c,c.s,b.gate,b.no,b.time,b.kind,.slice k b.nums.length j,b.text,b.c,b.s,a.gate,a.no,a.time,a.kind,.slice m a.nums.length l,a.text,a.c,a.s] 52)).drew) (.slice (some ⟨f.heap.size+1,0,none⟩) 3 3) (l8 most)):=by
   rw[bq.out]
   exact qu [(c,.slice i c.nums.length g),(b,.slice k b.nums.length j),(a,.slice m a.nums.length l)] v (fun p hp=>by
    simp only[List.mem_cons,List.not_mem_nil,or_false]at hp
    rcases hp with rfl|rfl|rfl
    ·exact RC _ d
    ·exact RB _ d
    ·exact RA.out _ d) (by simp)
  generalize hY:((f.alloc (.cells #[.int .i64 18,.int .i64 12] 3)).alloc (.cells #[c.gate,c.no,c.time,c.kind,.slice i c.nums.length g,c.text,c.c,c.s,b.gate,b.no,b.time,b.kind,.slice k b.nums.length j,b.text,b.c,b.s,a.gate,a.no,a.time,a.kind,.slice m a.nums.length l,a.text,a.c,a.s] 52)).drew=Y at y HR HE ⊢
  clear d t v hY a0 b0 c0 a1 b1 c1 a2 b2 c2 a3 b3 c3 a4 b4 c4 a5 b5 c5 a6 b6 c6 a7 b7 c7;go_wp2_with fail
  go_ret2
  exact⟨_,_,rfl,HR,HE,y⟩
 ·rename_i d
  have t:Blk (((f.alloc (.cells #[c.gate,c.no,c.time,c.kind,.slice i c.nums.length g,c.text,c.c,c.s,b.gate,b.no,b.time,b.kind,.slice k b.nums.length j,b.text,b.c,b.s,a.gate,a.no,a.time,a.kind,.slice m a.nums.length l,a.text,a.c,a.s] 52)).alloc (.cells #[.int .i64 18,.int .i64 12] 3)).drew) (f.heap.size+1) 3 #[.int .i64 18,.int .i64 12]:=by
   have:=Blk.new (f.alloc (.cells #[c.gate,c.no,c.time,c.kind,.slice i c.nums.length g,c.text,c.c,c.s,b.gate,b.no,b.time,b.kind,.slice k b.nums.length j,b.text,b.c,b.s,a.gate,a.no,a.time,a.kind,.slice m a.nums.length l,a.text,a.c,a.s] 52)) 3 #[.int .i64 18,.int .i64 12];rw[World.size_alloc]at this;exact this
  have v:Blk (((f.alloc (.cells #[c.gate,c.no,c.time,c.kind,.slice i c.nums.length g,c.text,c.c,c.s,b.gate,b.no,b.time,b.kind,.slice k b.nums.length j,b.text,b.c,b.s,a.gate,a.no,a.time,a.kind,.slice m a.nums.length l,a.text,a.c,a.s] 52)).alloc (.cells #[.int .i64 18,.int .i64 12] 3)).drew) (f.heap.size) 52 #[c.gate,c.no,c.time,c.kind,.slice i c.nums.length g,c.text,c.c,c.s,b.gate,b.no,b.time,b.kind,.slice k b.nums.length j,b.text,b.c,b.s,a.gate,a.no,a.time,a.kind,.slice m a.nums.length l,a.text,a.c,a.s]:=(Blk.new f _ _).alloc _;have y:=hid (KE.trans d);have HR:Hid (Row (((f.alloc (.cells #[c.gate,c.no,c.time,c.kind,.slice i c.nums.length g,c.text,c.c,c.s,b.gate,b.no,b.time,b.kind,.slice k b.nums.length j,b.text,b.c,b.s,a.gate,a.no,a.time,a.kind,.slice m a.nums.length l,a.text,a.c,a.s] 52)).alloc (.cells #[.int .i64 18,.int .i64 12] 3)).drew) 1 (.slice (some ⟨f.heap.size+1,0,none⟩) 2 2) 2 (ints keys8)):=aH (cs:=ints keys8) t rfl (by decide)
  have HE:Hid (aU (((f.alloc (.cells #[c.gate,c.no,c.time,c.kind,.slice i c.nums.length g,c.text,c.c,c.s,b.gate,b.no,b.time,b.kind,.slice k b.nums.length j,b.text,b.c,b.s,a.gate,a.no,a.time,a.kind,.slice m a.nums.length l,a.text,a.c,a.s] 52)).alloc (.cells #[.int .i64 18,.int .i64 12] 3)).drew) (.slice (some ⟨f.heap.size,0,none⟩) 3 3) (l8 most)):=by
   rw[bq.out]
   exact qu [(c,.slice i c.nums.length g),(b,.slice k b.nums.length j),(a,.slice m a.nums.length l)] v (fun p hp=>by
    simp only[List.mem_cons,List.not_mem_nil,or_false]at hp
    rcases hp with rfl|rfl|rfl
    ·exact RC _ d
    ·exact RB _ d
    ·exact RA.out _ d) (by simp)
  generalize hY:((f.alloc (.cells #[c.gate,c.no,c.time,c.kind,.slice i c.nums.length g,c.text,c.c,c.s,b.gate,b.no,b.time,b.kind,.slice k b.nums.length j,b.text,b.c,b.s,a.gate,a.no,a.time,a.kind,.slice m a.nums.length l,a.text,a.c,a.s] 52)).alloc (.cells #[.int .i64 18,.int .i64 12] 3)).drew=Y at y HR HE ⊢
  clear d t v hY a0 b0 c0 a1 b1 c1 a2 b2 c2 a3 b3 c3 a4 b4 c4 a5 b5 c5 a6 b6 c6 a7 b7 c7;go_wp2_with fail
  go_ret2
  exact⟨_,_,rfl,HR,HE,y⟩
end Go.Proofs.YtcidfldeiklcjaaGreatDoor
namespace Go.Proofs.YtcidfldeiklcjaaGreatDoor
open Go.RowKit Tm
theorem gm(va vb:Value)(l:List (Int × Int))(w:World)(ha:ag BndR 2 w va l)(hb:ag BndR 2 w vb l) :
  Calls Tryz.prog 14 #[va,vb] w fun e w'=>e=.returned true/\Kept [] w w':=by
 obtain⟨O,J,rfl,y,_⟩:=ag.form ha;obtain⟨N,I,rfl,v,_⟩:=ag.form hb;have D:=Lib.hid ha;have C:=Lib.hid hb
 have u:((l.length:Int) != (l.length:Int))=false:=by simp
 clear ha hb
 go_enter Tryz.func14,Tryz.ntmps14
 go_wp2_with fail
 go_loopw [5] (fun i wr=>∃k:Nat,k<=l.length/\i=k/\Kept [] w wr) (fun i _=>l.length - (intOf i).toNat)
 case atStart=>exact⟨0,Nat.zero_le _,rfl,kr⟩
 case round =>
  obtain⟨k,G,rfl,a⟩:=hrel
  by_cases hlt:k < l.length
  ·obtain⟨M,F,rfl,h⟩:=D.out.at_ (by omega);obtain⟨L,E,rfl,g⟩:=C.out.at_ (by omega);obtain⟨A,m,f,c⟩:=h k _ (List.getElem?_eq_getElem hlt);obtain⟨z,j,d,b⟩:=g k _ (List.getElem?_eq_getElem hlt);obtain⟨x,p⟩:=nm (l[k]);obtain⟨o,n⟩:=x;rw[p]at f d
   unfold BndR at f d
   subst f d;have t:=Kept.cellOf (c 0 o (by omega) rfl) _ a;have s:=Kept.cellOf (c 1 n (by omega) rfl) _ a;have r:=Kept.cellOf (b 0 o (by omega) rfl) _ a;have q:=Kept.cellOf (b 1 n (by omega) rfl) _ a;rw[Nat.add_zero]at t r;rw[<-Nat.add_assoc]at s q;have B:=Lib.hid a;clear h g c b p a m j;go_wp2_with fail
   go_quiet (fail)
   go_wp2_with fail
   go_roundw
   case rel=>exact⟨k+1,by omega,by go_num,B.out.drewN _⟩
   case measure=>simp[intOf];omega
  ·obtain rfl:k=l.length:=by omega
   go_wp2_with fail;go_ret;exact⟨rfl,a⟩
end Go.Proofs.YtcidfldeiklcjaaGreatDoor
namespace Go.Proofs.YtcidfldeiklcjaaGreatDoor
open Go.RowKit
open Go.Proofs.Tryz
open Lib(hid)
def numB(s:Stp)(lo x:Int):Bool:=decide (lo<=x)&&decide (x < s.Q)
theorem ry{p:Int->Bool}{l:List Int}{k:Nat}(h:k < l.length)(hp:p l[k]=false):l.all p=false:=by
 rw[List.all_eq_false];exact⟨l[k],List.getElem_mem h,by simp[hp]⟩
theorem yM(s:Stp)(x lo:Int)(g b:Nat)(v:Value)(w:World)(hb:Blk w b 93 (stpA s v))(hg:Blk w g 3 #[lo]) :
  Calls prog 79 #[x,.pointer (some ⟨g,0,none⟩),.pointer (some ⟨b,0,none⟩)] w fun e w'=>e=.returned (.bool (!numB s lo x))/\Kept [] w w':=by
 have d:w.cell? ⟨b,1,none⟩=some (.int .i64 s.Q):=hb.cell 1;have i:w.cell? ⟨g,0,none⟩=some (.int .i64 lo):=hg.cell 0
 unfold numB
 generalize c:s.Q=Q at d ⊢
 clear hb c hg
 by_cases h0:x < lo
 ·have f:decide (x < lo)=true:=decide_eq_true h0;rw[decide_eq_false (show ¬lo<=x by omega)]
  go_enter func79,ntmps79
  go_wp2_with fail;go_ret;exact⟨rfl,kr⟩
 ·have f:decide (x < lo)=false:=decide_eq_false h0;rw[decide_eq_true (show lo<=x by omega),Bool.true_and]
  have a:(!decide (x < Q))=decide (Q<=x):=by
   by_cases h:x < Q
   ·rw[decide_eq_true h,decide_eq_false (by omega)];rfl
   ·rw[decide_eq_false h,decide_eq_true (by omega)];rfl
  rw[a];clear a
  go_enter func79,ntmps79
  go_wp2_with fail;go_ret;exact⟨rfl,kr⟩
theorem ul(s:Stp)(v v0:Value)(l:List Int)(lo:Int)(g b:Nat)(w:World)(hv:Row w 1 v l.length (ints l))(hb:Blk w b 93 (stpA s v0))(hg:Blk w g 3 #[lo]) :
  Calls prog 120 #[v,.func (.func 79) #[] #[.pointer (some ⟨g,0,none⟩),.pointer (some ⟨b,0,none⟩)]] w fun e w'=>(∃r:Int,e=.returned r/\decide (0<=r)=!l.all (numB s lo))/\Kept [] w w':=by
 obtain⟨F,D,rfl,u,_⟩:=hv.form;have x:=hid hv;have z:=hid hb;have y:=hid hg;clear hv hb hg
 go_enter func120,ntmps120
 go_wp2_with fail
 go_loopw [5,8] (fun _ i wr=>∃k:Nat,k<=l.length/\i=k/\(∀j (hj:j < l.length),j < k->(numB s lo) l[j]=true)/\Kept [] w wr) (fun _ i _=>l.length - (intOf i).toNat)
 case atStart=>exact⟨0,Nat.zero_le _,rfl,fun j _ hj=>by omega,kr⟩
 case round =>
  obtain⟨k,C,rfl,n,a⟩:=hrel;have p:=hid n;clear n
  by_cases hlt:k < l.length
  ·obtain⟨E,B,rfl,d⟩:=(x.out.kept a).at_ (by omega);have A:=d k _ (aL hlt);have f:=hid (yM s l[k] lo g b v0 wr (z.out.kept a (by simp)) (y.out.kept a (by simp)))
   generalize m:(numB s lo) l[k]=t at f
   have o:=hid m;clear d m
   cases t
   ·go_wp2_with (go_at_call 79;refine f.mono ?_;rintro e q ⟨rfl,c⟩);go_ret;refine⟨⟨_,rfl,?_⟩,a.trans c⟩;rw[ry hlt o.out]
    simp
   ·go_wp2_with (go_at_call 79;refine f.mono ?_;rintro e q ⟨rfl,c⟩)
    go_roundw
    case rel=>exact⟨k+1,by omega,by go_num,fun j hj hjk=>by
     rcases Nat.lt_or_ge j k with h|h
     ·exact p j hj h
     ·obtain rfl:j=k:=by omega
      exact o,a.trans c⟩
    case measure=>simp[intOf];omega
  ·obtain rfl:k=l.length:=by omega
   go_wp2_with fail;go_ret;refine⟨⟨-1,rfl,?_⟩,a⟩;rw[oT (fun j hj=>p.out j hj hj)]
   rfl
theorem oQ(s:Stp)(v v0:Value)(l:List Int)(lo:Int)(g b:Nat)(w:World)(hv:Row w 1 v l.length (ints l))(hb:Blk w b 93 (stpA s v0))(hg:Blk w g 3 #[lo]) :
  Calls prog 78 #[v,.func (.func 79) #[] #[.pointer (some ⟨g,0,none⟩),.pointer (some ⟨b,0,none⟩)]] w fun e w'=>e=.returned (.bool (!l.all (numB s lo)))/\Kept [] w w':=by
 have HC:=hid (ul s v v0 l lo g b w hv hb hg);obtain⟨aa,ca,rfl,hla,_⟩:=hv.form;clear hv hb hg
 go_enter func78,ntmps78
 go_wp2_with (go_at_call 120;refine HC.mono ?_);rintro e w1 ⟨⟨r,rfl,hr⟩,hk⟩;have HR:=hid hr;clear hr;go_wp2_with fail;go_ret;exact⟨by rw[<-HR.out];rfl,hk⟩
theorem tP(s:Stp)(vs:Value)(ad:Option Addr)(cc:Nat)(l:List Int)(lo:Int)(w:World)(hv:Row w 1 vs l.length (ints l)) :
  Calls prog 50 #[.agg #[s.P,s.Q,s.G,.slice ad s.bases.length cc,s.blind],lo,vs] w fun e w'=>e=.returned (.bool (l.all (numB s lo)))/\Kept [] w w':=by
 obtain⟨o,n,rfl,j,_⟩:=hv.form;obtain⟨W,b⟩:=nm ((w.alloc (.cells (stpA s (.slice ad s.bases.length cc)) 93)).alloc (.cells #[lo] 3));have g:=bp b;have f:=bz b;have a:=kb (S:=[]) b;have h:=hid (oQ s _ _ l lo (w.heap.size+1) w.heap.size W (hv.kept a) g f);have m:=hid b;have c:=hid a
 generalize k:l.all (numB s lo)=R at h ⊢
 clear b g f a hv k
 go_enter func50,ntmps50
 go_upto_region 1 with(fail)
 erw[m.out]
 go_wp2_with (go_at_call 78;with_reducible refine h.out.mono ?_)
 first|(rintro e i rfl d)|(rintro e i ⟨rfl,d⟩)
 go_wp2_with fail;go_ret;exact⟨by simp,c.out.trans d⟩
theorem rp(s:Stp)(q:Nat)(ad:Option Addr)(cc:Nat)(x k:Int)(w:World)(hok:GrpOk s.P s.Q s.G q)(hx:Wire.I64 x)(hk:Wire.I64 k) :
  Calls prog 80 #[.agg #[s.P,s.Q,s.G,.slice ad s.bases.length cc,s.blind],x,k] w fun e w'=>e=.returned (.int .i64 ((pwrN q x k:Nat):Int))/\Kept [] w w':=by
 obtain⟨W,b⟩:=nm (w.alloc (.cells (stpA s (.slice ad s.bases.length cc)) 93));have f:=bn b;have a:=ka (S:=[]) b;have g:=hid (eF s.P s.Q s.G x k q W hok hx hk);obtain⟨l,j,i⟩:=bc3 f rfl;have n:=hid b;have c:=hid a
 generalize m:pwrN q x k=R at g ⊢
 clear b f a m hok
 go_enter func80,ntmps80
 go_upto_region 1 with(fail)
 erw[n.out]
 go_wp2_with (go_at_call 88;with_reducible refine g.out.mono ?_)
 first|(rintro e h rfl d)|(rintro e h ⟨rfl,d⟩)
 clear l j i;go_wp2_with fail;go_ret;exact⟨rfl,c.trans d⟩
theorem mC(s:Stp)(q:Nat)(ad:Option Addr)(cc:Nat)(k:Int)(w:World)(hok:GrpOk s.P s.Q s.G q)(hx:Wire.I64 s.G)(hk:Wire.I64 k) :
  Calls prog 51 #[.agg #[s.P,s.Q,s.G,.slice ad s.bases.length cc,s.blind],k] w fun e w'=>e=.returned (.int .i64 ((pwrN q s.G k:Nat):Int))/\Kept [] w w':=by
 obtain⟨W,b⟩:=nm (w.alloc (.cells (stpA s (.slice ad s.bases.length cc)) 93));have f:=bn b;have a:=ka (S:=[]) b;have g:=hid (rp s q ad cc s.G k W hok hx hk);obtain⟨n,m,l,j,i⟩:=bc5 f rfl;have p:=hid b;have c:=hid a
 generalize o:pwrN q s.G k=R at g ⊢
 clear b f a o hok
 go_enter func51,ntmps51
 go_upto_region 1 with(fail)
 erw[p.out]
 go_wp2_with (go_at_call 80;with_reducible refine g.out.mono ?_)
 first|(rintro e h rfl d)|(rintro e h ⟨rfl,d⟩)
 clear n m l j i;go_wp2_with fail;go_ret;exact⟨rfl,c.trans d⟩
theorem vT(vs:Value)(s:Stp)(w:World)(hs:StpV w vs s)(hE:Env2 w) :
  Calls prog 49 #[vs] w fun e w'=>e=.returned (.tuple #[vs,.bool (aw s)])/\Kept [] w w':=by
 have hs':=hs;obtain⟨⟨i,h,rfl,f⟩,T,O,V,C,U⟩:=hs';obtain⟨W,g⟩:=nm ((w.alloc (.cells (stpA s (.slice i s.bases.length h)) 26)).alloc (.cells #[.int .i64 0,.int .i64 0,.int .i64 0,(),.int .i64 0] 93));have m:=bp g;have l:=bz g;have b:=kb (S:=[]) g
 have n:Hid (∀w',Kept [] W w'->Calls prog 58 #[.agg #[s.P,s.Q,s.G,.slice i s.bases.length h,s.blind]] w' fun e w2=>e=.returned (.bool (aw s))/\Kept [] w' w2):=fun w' k =>
  bY _ s w' (hs.kept (b.trans k)) (hE.kept0 (b.trans k))
 obtain⟨A,z,y,x,u⟩:=bk5 m rfl;have E:=hid l;have F:=hid g;have j:=hid b
 generalize D:aw s=R at n ⊢
 clear g m f D b hs hE C l
 show Calls _ _ #[.agg #[s.P,s.Q,s.G,.slice i s.bases.length h,s.blind]] _ _
 go_enter func49,ntmps49
 go_upto_region 1 with(fail)
 erw[F.out]
 refine aJ [4,5] (fun w'=>Kept [] W w') (by kernel_rfl) kr.drew (fun hH=>?_);refine tk [1,4,5] 0 rfl hH ?_;simp only[Act.put,sA,s0_,s1_];refine tk [4,5] 1 rfl hH ?_;simp only[Act.put,sA,s0_,s1_];refine tk [3,4,5] 2 rfl hH ?_;simp only[Act.put,sA,s0_,s1_];refine r1 3 rfl fun K hK=>?_;go_simp;refine(n _ (Kept.refl [] W).drew).mono ?_;rintro e c ⟨rfl,B⟩;have d:Kept [] W c:=(Kept.refl [] W).drew.trans B;have a:=E.out.kept d (by simp);refine hK.out _ _ d (fun hH=>?_);clear hK K
 (try simp only[Act.put,sA,s0_,s1_])
 clear A z y x u;have t:c.cell? ⟨w.heap.size+1,0,none⟩=some (.int .i64 0):=a.cell 0;have N:=a.frozen 0;have r:c.cell? ⟨w.heap.size+1,1,none⟩=some (.int .i64 0):=a.cell 1;have M:=a.frozen 1;have q:c.cell? ⟨w.heap.size+1,2,none⟩=some (.int .i64 0):=a.cell 2;have L:=a.frozen 2;have p:c.cell? ⟨w.heap.size+1,3,none⟩=some ():=a.cell 3;have J:=a.frozen 3;have o:c.cell? ⟨w.heap.size+1,4,none⟩=some (.int .i64 0):=a.cell 4;have I:=a.frozen 4;refine r2 4 rfl fun K hK=>?_;go_simp;refine hK.out _ _ ?_;clear hK K
 (try simp only[Act.put,sA,s0_,s1_])
 refine r2 5 rfl fun K hK=>?_;go_simp;refine hK.out _ _ ?_;clear hK K
 (try simp only[Act.put,sA,s0_,s1_])
 refine aD (by kernel_rfl) ?_ _;go_wp2_with fail;refine bodyPost_ret (v:=.tuple #[.agg #[s.P,s.Q,s.G,.slice i s.bases.length h,s.blind],.bool R]) (by simp[results,results49,go_sem,t,r,q,p,o]) rfl ?_;refine⟨rfl,?_⟩;refine(j.out.trans d).fresh (show Kept [w.heap.size+1] c _ from ?_) (by simp)
 repeat (refine Kept.setCell ?_ (Or.inl (by simp)) _)
 exact kr
def pubN(s:Stp)(x:Int):Int:=if(aw s&&numB s 1 x)=true then((pwrN s.Q.toNat s.G x:Nat):Int)else 0
theorem rm(vs:Value)(s:Stp)(x:Int)(w:World)(hs:StpV w vs s)(hx:Wire.I64 x)(hE:Env2 w) :
  Calls prog 23 #[vs,x] w fun e w'=>e=.returned (.int .i64 (pubN s x))/\Kept [] w w':=by
 have hs':=hs;obtain⟨⟨g,f,rfl,r⟩,ip,iq,V,X,il⟩:=hs';obtain⟨W,u⟩:=nm (w.alloc (.cells (stpA s (.slice g s.bases.length f)) 26));have I:=bn u;have b:=ka (S:=[]) u
 have L:Hid (Calls prog 49 #[.agg #[s.P,s.Q,s.G,.slice g s.bases.length f,s.blind]] W fun e w2=>e=.returned (.tuple #[.agg #[s.P,s.Q,s.G,.slice g s.bases.length f,s.blind],.bool (aw s)])/\Kept [] W w2) :=
  vT _ s W (hs.kept b) (hE.kept0 b)
 have M:Hid (∀w':World,Calls prog 50 #[.agg #[s.P,s.Q,s.G,.slice g s.bases.length f,s.blind],.int .i64 1,.slice (some ⟨w'.heap.size,0,none⟩) 1 1] (w'.alloc (.cells #[x] 3)) fun e w2=>e=.returned (.bool (numB s 1 x))/\Kept [] (w'.alloc (.cells #[x] 3)) w2):=fun w'=>by
  have:=tP s (.slice (some ⟨w'.heap.size,0,none⟩) 1 1) g f [x] 1 (w'.alloc (.cells #[x] 3)) (aH (cs:=ints [x]) (Blk.new _ _ _) rfl (by decide))
  simpa using this
 have B:Hid (aw s=true->∀w':World,Calls prog 51 #[.agg #[s.P,s.Q,s.G,.slice g s.bases.length f,s.blind],x] w' fun e w2=>e=.returned (.int .i64 ((pwrN s.Q.toNat s.G x:Nat):Int))/\Kept [] w' w2):=fun h w'=>by
  unfold aw at h
  simp only[Bool.and_eq_true]at h;obtain⟨q,t,_⟩:=fY h.1
  have Y:s.Q.toNat=q:=by rw[t.hQ];rfl
  rw[Y];exact mC s q g f x w' t V hx
 obtain⟨p,o,n,m,l⟩:=bc5 I rfl;have HW:=hid u;have A:=hid b;have v:Hid (pubN s x=if(aw s&&numB s 1 x)=true then((pwrN s.Q.toNat s.G x:Nat):Int)else 0):=rfl;obtain⟨R,d⟩:=nm (pubN s x);obtain⟨b1,k⟩:=nm (aw s);obtain⟨Z,j⟩:=nm (numB s 1 x);obtain⟨U,i⟩:=nm (pwrN s.Q.toNat s.G x);rw[d,k,j,i]at v;rw[k]at L B;rw[j]at M;rw[i]at B;rw[d];clear u I r d b hs hE X k j i
 show Calls _ _ #[.agg #[s.P,s.Q,s.G,.slice g s.bases.length f,s.blind],_] _ _
 go_enter func23,ntmps23
 go_upto_region 1 with(fail)
 erw[HW.out]
 go_wp2_with (go_at_call 49;with_reducible refine L.out.mono ?_)
 first|(rintro e D rfl z)|(rintro e D ⟨rfl,z⟩)
 clear p o n m l;have O:=hid (A.trans z);clear z
 cases b1
 ·have d:R=0:=v.out;subst d;go_wp2_with fail;go_ret;exact⟨rfl,O.alloc _⟩
 go_upto_region 2 with(fail);obtain⟨J,c⟩:=nm (D.alloc (.cells #[s.P,s.Q,s.G,.slice g s.bases.length f,s.blind] 93));have hd:=bn c;have F:=ka (S:=[]) c;rw[c];obtain⟨p,o,n,m,l⟩:=bc5 hd rfl;have N:=hid (O.trans F);have HD:=hid hd;clear c F hd;go_wp2_with (go_at_call 50;refine(M _).mono ?_)
 first|(rintro e C rfl y)|(rintro e C ⟨rfl,y⟩)
 clear p o n m l;have a:Kept [] J C:=((Kept.refl [] J).alloc _).trans y
 cases Z
 ·have d:R=0:=v.out;subst d;go_wp2_with fail;go_ret;exact⟨rfl,N.trans a⟩
 have d:R=(U:Int):=v.out;subst d;have hd:=HD.out.kept a (by simp);obtain⟨p,o,n,m,l⟩:=bc5 hd rfl;have K5:=hid (N.trans a);clear hd y a;go_wp2_with (go_at_call 51;with_reducible refine(B.out (by trivial) _).mono ?_)
 first|(rintro e T rfl E)|(rintro e T ⟨rfl,E⟩)
 clear p o n m l;go_wp2_with fail;go_ret;exact⟨rfl,K5.trans E⟩
end Go.Proofs.YtcidfldeiklcjaaGreatDoor
