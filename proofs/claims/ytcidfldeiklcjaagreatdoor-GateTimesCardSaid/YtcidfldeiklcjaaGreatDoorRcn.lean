import Derived.Test.YtcidfldeiklcjaaGreatDoorRbn
set_option maxRecDepth 100000
set_option maxHeartbeats 32000000
namespace Go.Proofs.YtcidfldeiklcjaaGreatDoor
open Go.RowKit Bf Tm
open Go.Proofs.Tryz
open Lib(hid)
def tabL(t n:Nat)(N:Gf):List Int:=(List.range t).map fun j=>N (j / n) (j % n)
theorem ti{a b n:Nat}(hb:b < n)(N:Gf)(x:Int):tabL (a*n+b) n N++[x]=tabL (a*n+b+1) n (fun i j=>if i=a/\j=b then x else N i j):=by
 unfold tabL
 rw[List.range_succ,List.map_append]
 congr 1
 ·refine List.map_congr_left fun j hj=>?_;rw[List.mem_range]at hj
  show _=if j / n=a/\j % n=b then x else N (j / n) (j % n)
  rw[if_neg];rintro⟨h1,h2⟩;have:=Nat.div_add_mod' j n;rw[h1,h2]at this;omega
 ·simp only[List.map_cons,List.map_nil];rw[(km hb).1,(km hb).2]
  simp
theorem uX(t n:Nat):tabL t n (fun _ _=>1152921504606846976)=List.replicate t 1152921504606846976:=by
 apply List.ext_getElem
 ·simp[tabL]
 ·intro i h1 h2
  simp[tabL]
structure WkO (G:Gf) (w0:World) (ob oc n q k:Nat) (rb cp:Nat->Nat) (Ms:Nat->Gf) (wr:World):Prop where
 own:wr.ownsRow w0.heap.size 24 1 (.slice (some ⟨ob,0,none⟩) k oc) k ((List.range k).map fun j=>.slice (some ⟨rb j,0,none⟩) q (cp j))
 tab:∀j,j < k->Flt wr (rb j) n (cp j) (Ms j)
 ne:∀j,j < k->rb j≠ob
 ge:∀j,j < k->w0.heap.size<=rb j
 bk:∀j,j < k->Back G n j (Ms j)
 bd:∀j,j < k->∀a b,a < n->b < n->Ms j a b=far\/(-(8589934592*(j:Int))<=Ms j a b/\Ms j a b<=8589934592*(j:Int))
 kept:Kept [] w0 wr
section
variable {G:Gf} {w0 wr w':World} {ob oc n q k:Nat} {rb cp:Nat->Nat} {Ms:Nat->Gf}
theorem WkO.keep(h:WkO G w0 ob oc n q k rb cp Ms wr)(kk:Kept [] wr w'):WkO G w0 ob oc n q k rb cp Ms w' := ⟨af h.own kk (by simp),fun j hj=>(h.tab j hj).kept kk,h.ne,h.ge,h.bk,h.bd,h.kept.trans kk⟩
theorem WkO.cell(h:WkO G w0 ob oc n q k rb cp Ms wr){j:Nat}(hj:j < k):wr.cell? ⟨ob,j,none⟩=some (.slice (some ⟨rb j,0,none⟩) q (cp j)):=by
 rw[h.own.cellAt j (by omega)]
 simp[hj]
theorem Flt.keptS{S:List Nat}{db c:Nat}{D:Gf}(h:Flt wr db n c D)(k:Kept S wr w')(hb:db∉S):Flt w' db n c D := ⟨fun a b ha hb'=>by rw[World.cell?_of_block (k.block db h.lt hb)];exact h.cell a b ha hb',fun j=>by rw[World.frozen?_of_block (k.block db h.lt hb)];exact h.fz j,Nat.lt_of_lt_of_le h.lt k.size,h.cc⟩
theorem WkO.next{ob' oc' db c:Nat}{M:Gf}{W:World}(h:WkO G w0 ob oc n q k rb cp Ms wr)(kW:Kept [] wr W)(hM:Flt wr db n c M)(hge:w0.heap.size<=db)(hne:db≠ob)
  (hbk:Back G n k M) (hbd:∀a b,a < n->b < n->M a b=far\/(-(8589934592*(k:Int))<=M a b/\M a b<=8589934592*(k:Int)))
  (ho:w'.ownsRow w0.heap.size 24 1 (.slice (some ⟨ob',0,none⟩) (k+1) oc') (k+1) (((List.range k).map fun j=>.slice (some ⟨rb j,0,none⟩) q (cp j))++[.slice (some ⟨db,0,none⟩) q c]))
  (kk:Kept (obl (.slice (some ⟨ob,0,none⟩) k oc)) W w') (hob:ob'=ob\/ob'=W.heap.size) (hq:obl (.slice (some ⟨ob,0,none⟩) k oc)=[ob]) :
  WkO G w0 ob' oc' n q (k+1) (fun j=>if j=k then db else rb j) (fun j=>if j=k then c else cp j) (fun j=>if j=k then M else Ms j) w':=by
 rw[hq]at kk;have f:=fun j (hj:j < k)=>Nat.lt_of_lt_of_le (h.tab j hj).lt kW.size;have g:db < W.heap.size:=Nat.lt_of_lt_of_le hM.lt kW.size;refine⟨?_,fun j hj=>?_,fun j hj=>?_,fun j hj=>?_,fun j hj=>?_,fun j hj=>?_,?_⟩
 ·rw[List.range_succ,List.map_append]
  have e:((List.range k).map fun j=>Value.slice (some ⟨if j=k then db else rb j,0,none⟩) q (if j=k then c else cp j))=(List.range k).map fun j=>.slice (some ⟨rb j,0,none⟩) q (cp j):=by
   refine List.map_congr_left fun j hj=>?_;rw[List.mem_range]at hj;rw[if_neg (by omega),if_neg (by omega)]
  rw[e]
  simpa using ho
 ·by_cases e:j=k
  ·simp only[if_pos e];exact(hM.kept kW).keptS kk (by simpa using hne)
  ·simp only[if_neg e];exact((h.tab j (by omega)).kept kW).keptS kk (by simpa using h.ne j (by omega))
 ·by_cases e:j=k
  ·simp only[if_pos e];rcases hob with r|r <;> omega
  ·simp only[if_neg e];have:=f j (by omega);have:=h.ne j (by omega);rcases hob with r|r <;> omega
 ·by_cases e:j=k
  ·simp only[if_pos e];exact hge
  ·simp only[if_neg e];exact h.ge j (by omega)
 ·by_cases e:j=k
  ·simp only[if_pos e];rw[e];exact hbk
  ·simp only[if_neg e];exact h.bk j (by omega)
 ·by_cases e:j=k
  ·simp only[if_pos e];rw[e];exact hbd
  ·simp only[if_neg e];exact h.bd j (by omega)
 ·exact(h.kept.trans kW).fresh kk (by intro z d;obtain rfl:=ms d;exact(h.own.lt z rfl).1)
end
theorem pF(w:World)(B:Nat)(T:TypeId)(v:Value)(hB:B<=w.heap.size):(w.alloc (.cells #[v] T)).ownsRow B T 1 (.slice (some ⟨w.heap.size,0,none⟩) 1 1) 1 [v] := ⟨rfl,.inr ⟨w.heap.size,1,#[v],rfl,hB,heap_alloc_new w _,Nat.le_refl _,by simp[maxLen],rfl,rfl⟩⟩
theorem WkO.start{G:Gf}{w0 wr:World}{nb c0 n q:Nat}{M:Gf}(h:Flt wr nb n c0 M)(hk:Kept [] w0 wr)(hg:w0.heap.size<=nb)(hM:∀a b,a < n->b < n->M a b=if a=b then 0 else far) :
  WkO G w0 wr.heap.size 1 n q 1 (fun _=>nb) (fun _=>c0) (fun _=>M) (wr.alloc (.cells #[.slice (some ⟨nb,0,none⟩) q c0] 24)):=by
 have hb:Back G n 0 M:=fun a b ha hb=>by rw[hM a b ha hb];exact nN a b ha hb
 refine⟨pF _ _ _ _ hk.size,fun j hj=>h.kept (kr.alloc _),fun j hj=>by have:=h.lt;omega,fun j hj=>hg,fun j hj=>?_,fun j hj a b ha hb'=>?_,hk.alloc _⟩
 ·rw[show j=0 by omega];exact hb
 ·rw[hM a b ha hb']
  by_cases e:a=b
  ·rw[if_pos e];right;omega
  ·rw[if_neg e];exact Or.inl rfl
def Ent1(G:Gf)(n j:Nat)(M:Gf)(a b:Nat)(x:Int):Prop:=jP G n M a b n x/\(x=far\/(-(8589934592*((j:Int)+1))<=x/\x<=8589934592*((j:Int)+1)))
theorem yi:(prog.info? 24).map (fun i=>(i.zero,i.size,i.bytes))=some (some (.slice none 0 0),1,24):=by kernel_rfl
theorem gz{w:World}{ops:Array Oper}{rest:List Oper}{o:Oper}{a:Act}{Q:Exit->Act->World->Prop}(hgd:o.guard=none)(s x:Operand)
  (ho:o.op=.call { callee:=.builtin .append,args:=#[s,x],argTypes:=#[55,55] })
  (base:Nat) (v:Value) (n:Nat) (xs:List Value) (hs:a.eval s=v) (hown:w.ownsRow base 24 1 v n xs)
  (u:Value) (m:Nat) (news:List Value) (hx:a.eval x=u) (hrow:Row w 1 u m news) (h1:∀u∈news,u.oneCell'=true) (hsm:n+m<=1000000000) (hbase:base<=w.heap.size)
  (h:∀a' c' w',w'.ownsRow base 24 1 (.slice a' (n+m) c') (n+m) (xs++news)->Kept (obl v) w w'->(∀k∈obl (.slice a' (n+m) c'),k∈obl v\/k=w.heap.size)->wpList prog ops Q rest (a.put o.dst (.slice a' (n+m) c')) w') :
  wpList prog ops Q (o::rest) a w:=by
 obtain⟨e,f,d,c,b⟩:=info_parts yi;exact wpList_plain hgd fun _ hK=>bG s x 55 ho base 24 e () 1 24 underlying55 f d c b rfl (by decide) v n xs hs hown u m news hx hrow h1 (by unfold maxLen;omega) (by omega) hbase fun a' c' w' h2 h3 h4=>hK _ _ (h a' c' w' h2 h3 h4)
def zR(G:Gf)(n:Nat)(w:World)(e:Ending)(w':World):Prop :=
 ∃ob oc rb cp Ms,e=.returned (.slice (some ⟨ob,0,none⟩) (n+1) oc)/\WkO G w ob oc n (n*n) (n+1) rb cp Ms w'
theorem sX(gp wb n c:Nat)(G:Gf)(w:World)(h:FlW w gp wb n c G)(hg:GBd n G)(hn0:0 < n)(hn:n<=16) :
  Calls prog 35 #[.pointer (some ⟨gp,0,none⟩)] w (zR G n w):=by
 have HF:=hid h;have HG:=hid hg;have n0:=h.n0;obtain⟨q,hq⟩:=nm (n*n)
 have bl:q<=256:=by rw[<-hq];exact Nat.mul_le_mul hn hn
 have a3:0 < q:=by rw[<-hq];exact Nat.mul_pos hn0 hn0
 have bm:(n:Int)*(n:Int)=(q:Int):=by rw[<-hq];simp
 have wq:IntKind.i64.wrap (q:Int)=(q:Int):=by rw[IntKind.wrap_i64];omega
 have J:=hid hq;clear h hg hq
 go_enter func35,ntmps35
 go_wp2_with fail;have O0:=eT w 3
 go_loopw [4,5] (fun v i wr=>∃k:Nat,k<=q/\i=k/\wr.ownsRow w.heap.size 3 1 v k (ints (List.replicate k 1152921504606846976))/\Kept [] w wr) (fun _ i _=>q - (intOf i).toNat)
 case atStart=>exact⟨0,Nat.zero_le _,rfl,O0,kr.alloc _⟩
 case round =>
  clear O0;obtain⟨k,hk,rfl,l,d⟩:=hrel;have o:=hid l;clear l
  by_cases hkq:k < q
  ·have hkq':decide ((k:Int) < (q:Int))=true:=by simpa using hkq
   go_wp2_with (at_builtin;refine aE rfl _ _ rfl w.heap.size _ k (List.replicate k 1152921504606846976) rfl (af o.out ((Kept.refl [] _).alloc _) (by simp)) (.slice (some ⟨wr.heap.size,0,none⟩) 1 1) 1 [1152921504606846976] rfl (by exact Row.lit wr [1152921504606846976] (by simp)) (by omega) (by have:=d.size;simp only[World.size_alloc];omega) ?_);intro a' c' w' s hk' _;have V:=(d.alloc (.cells #[.int .i64 1152921504606846976] 3)).fresh hk' (fun z hz=>(ak o z hz).1);rw[<-List.replicate_succ']at s;have B:=hid s;clear s hk';go_wp2_with fail
   go_roundw
   case rel=>exact⟨k+1,by omega,by go_num,B.out,V⟩
   case measure=>simp[intOf];omega
  ·have hkq':decide ((k:Int) < (q:Int))=false:=by simpa using hkq
   have a6:q=k:=by omega
   subst a6;have l:=o.out;obtain⟨nb,c0,rfl,a5,bo⟩:=l.form a3;rw[<-uX q n,<-J.out]at l;have al:=hid (oK (n:=n) (G:=fun _ _=>1152921504606846976) l);clear l o;go_wp2_with fail
   go_loopw [6] (fun i wr2=>∃k:Nat,k<=n/\i=k/\Flt wr2 nb n c0 (fun a b=>if a=b/\a < k then 0 else 1152921504606846976)/\Kept [] w wr2) (fun i _=>n - (intOf i).toNat)
   case atStart=>exact⟨0,Nat.zero_le _,rfl,al.out.congr fun a b _ _=>by simp,d⟩
   case round =>
    clear al d;obtain⟨k,hk,rfl,hS,d⟩:=hrel;have HS:=hid hS;clear hS
    by_cases hkn:k < n
    ·have hkn':decide ((k:Int) < (n:Int))=true:=by simpa using hkn
     obtain⟨am,f⟩:=nm (k*n);obtain⟨f1,f2,f3,f4,f5,f6,f7⟩:=ixf f J hkn hkn hn;have xc:=HS.cell k k hkn hkn;have xf:=HS.fz (am+k);rw[f,if_neg (by omega)]at xc;have b7:=hid f;clear f;go_wp2_with fail
     go_roundw
     case rel =>
      refine⟨k+1,by omega,by go_num,?_,d.setCell (Or.inr a5) _⟩;have A:=HS.set_ hkn hkn 0;rw[b7.out]at A;refine A.congr fun a b ha hb=>?_
      by_cases e:a=k/\b=k
      ·rw[if_pos e,e.1,e.2,if_pos ⟨rfl,by omega⟩]
      ·rw[if_neg e]
       by_cases e2:a=b/\a < k
       ·rw[if_pos e2,if_pos ⟨e2.1,by omega⟩]
       ·rw[if_neg e2,if_neg (by omega)]
     case measure=>simp[intOf];omega
    ·have hkn':decide ((k:Int) < (n:Int))=false:=by simpa using hkn
     have a7:n=k:=by omega
     subst a7
     have HZ:=hid (HS.congr (H:=fun a b=>if a=b then 0 else far) fun a b ha hb=>by
      by_cases e:a=b
      ·rw[if_pos ⟨e,by omega⟩,if_pos e]
      ·rw[if_neg (fun h=>e h.1),if_neg e];rfl)
     clear HS;go_wp2_with fail;have S0:=hid (WkO.start (G:=G) (q:=q) HZ d a5 fun a b _ _=>rfl)
     go_loopw [7,8] (fun v i wr3=>∃(k L oc:Nat) (rb cp:Nat->Nat) (Ms:Nat->Gf),1<=k/\k<=n+1/\v=.slice (some ⟨L,0,none⟩) k oc/\i=k/\WkO G w L oc n q k rb cp Ms wr3) (fun _ i _=>n+1 - (intOf i).toNat)
     case atStart=>exact⟨1,_,_,_,_,_,Nat.le_refl _,by omega,rfl,rfl,S0.out⟩
     case round =>
      clear S0 HZ d;obtain⟨k,L,oc,rb,cp,Ms,bs,bq,rfl,rfl,hW⟩:=hrel;obtain⟨w3,rfl⟩:∃x,x=wr:=⟨_,rfl⟩;have F:=hid hW;clear hW
      by_cases hkn3:k<=n
      ·have hkn':decide ((k:Int)<=(n:Int))=true:=by simpa using hkn3
       obtain⟨j,hj⟩:∃j,k=j+1:=⟨k - 1,by omega⟩
       have bv:(k:Int) - 1=(j:Int):=by omega
       have E:j < k:=by omega
       have xj:=F.cell E;have HJ:=hid hj;clear hj;go_wp2_with fail;have O1:=hid (eT w3 3);obtain⟨M,hM⟩:=nm (Ms j);have HM:=hid hM;have HT:=hid (hM▸F.out.tab j E);have b4:=hid (hM▸F.out.bk j E);have b5:=hid (hM▸F.out.bd j E)
       have bt:j < n:=by have:=HJ.out;omega
       clear hM xj
       generalize a2:w3.heap.size=sz at O1 ⊢
       have I:=hid a2;clear a2
       go_loopw [10,11] (fun v i wr4=>∃(a:Nat) (N:Gf),a<=n/\i=a/\wr4.ownsRow sz 3 1 v (a*n) (ints (tabL (a*n) n N))/\(∀x y,x < a->y < n->Ent1 G n j M x y (N x y))/\Kept [] w3 wr4) (fun _ i _=>n - (intOf i).toNat)
       case atStart=>exact⟨0,fun _ _=>0,Nat.zero_le _,rfl,by rw[Nat.zero_mul];exact O1.out,fun x y hx=>by omega,kr.alloc _⟩
       case round =>
        clear O1;obtain⟨a,N,ha,rfl,l,hN,D⟩:=hrel;have o:=hid l;have B:=hid hN;clear l hN
        by_cases han:a < n
        ·have han':decide ((a:Int) < (n:Int))=true:=by simpa using han
         go_wp2_with fail
         go_loopw [10,12] (fun v i wr5=>∃(b:Nat) (N:Gf),b<=n/\i=b/\wr5.ownsRow sz 3 1 v (a*n+b) (ints (tabL (a*n+b) n N))/\(∀x y,(x < a\/(x=a/\y < b))->y < n->Ent1 G n j M x y (N x y))/\Kept [] w3 wr5) (fun _ i _=>n - (intOf i).toNat)
         case atStart=>exact⟨0,N,Nat.zero_le _,rfl,o.out,fun x y hx hy=>B.out x y (by omega) hy,D⟩
         case round =>
          clear o B D;obtain⟨b,N1,hb,rfl,l,hN,C⟩:=hrel;obtain⟨t,rfl⟩:∃x,x=wr:=⟨_,rfl⟩;have o:=hid l;have B:=hid hN;clear l hN
          by_cases hbn:b < n
          ·have hbn':decide ((b:Int) < (n:Int))=true:=by simpa using hbn
           go_wp2_with fail
           go_loopw [13,14] (fun v i wr6=>∃(m:Nat) (x:Int),m<=n/\v=x/\i=m/\jP G n M a b m x/\(x=far\/(-(8589934592*((j:Int)+1))<=x/\x<=8589934592*((j:Int)+1)))/\(∃R,wr6=t.drewN R)) (fun _ i _=>n - (intOf i).toNat)
           case atStart=>exact⟨0,_,Nat.zero_le _,rfl,rfl,rF M a b,Or.inl rfl,0,rfl⟩
           case round =>
            obtain⟨m,x,hm,rfl,rfl,hL,hB,R,rfl⟩:=hrel;have HL:=hid hL;have HB:=hid hB;clear hL
            by_cases hmn:m < n
            ·have hmn':decide ((m:Int) < (n:Int))=true:=by simpa using hmn
             obtain⟨am,f⟩:=nm (a*n);obtain⟨mm,U⟩:=nm (m*n);obtain⟨f1,f2,f3,f4,f5,f6,f7⟩:=ixf f J han hmn hn;obtain⟨g1,g2,g3,g4,g5,g6,g7⟩:=ixf U J hmn hbn hn;have kk:=C.trans ((Kept.refl [] t).drewN R);have x1:=(HT.kept kk).cell a m han hmn;have Z:=HF.kept (F.kept.trans kk);have x2:=Z.cell m b hmn hbn;have x3:=Z.w0;have s1:=b5 a m han hmn;have s2:=HG m b hmn hbn;rw[J.out]at x3;rw[f]at x1;rw[U]at x2;obtain⟨p,hp⟩:=nm (M a m);obtain⟨r,hr⟩:=nm (G m b);rw[hp]at x1 s1;rw[hr]at x2 s2;have HP:=hid hp;have HR:=hid hr;have S1:=hid s1;have S2:=hid s2;clear hp hr f U s1 s2 kk Z hB
             by_cases c1:p < 1152921504606846976
             ·have c1':decide (p < 1152921504606846976)=true:=by simpa using c1
              by_cases c2:r < 1152921504606846976
              ·have c2':decide (r < 1152921504606846976)=true:=by simpa using c2
               have t1:-(8589934592*(j:Int))<=p/\p<=8589934592*(j:Int):=by rcases S1.out with e|e;unfold far at e;omega;exact e
               have t2:-8589934592<=r/\r<=8589934592:=by rcases S2.out with e|e;unfold far at e;omega;exact e
               have hw:IntKind.i64.wrap (p+r)=p+r:=by rw[IntKind.wrap_i64];omega
               have a1:Hid (p+r < far/\-(8589934592*((j:Int)+1))<=p+r/\p+r<=8589934592*((j:Int)+1)):=hid (by unfold far;omega);clear t1 t2;go_upto_region 28 with(fail);have y1:t.cell? ⟨rb j,am+m,none⟩=some (.int .i64 p):=x1;have y2:t.cell? ⟨wb,mm+b,none⟩=some (.int .i64 r):=x2;have y3:t.cell? ⟨gp,1,none⟩=some (.slice (some ⟨wb,0,none⟩) q c):=x3;clear x1 x2 x3
               go_quiet (fail)
               go_wp2_with fail
               go_roundw
               case rel =>
                refine⟨m+1,min x (p+r),by omega,rfl,by go_num,?_,?_,(by first|exact⟨_,rfl⟩|exact⟨R+nq,by simp[World.drewN,Nat.add_assoc]⟩)⟩
                ·have:=ud HL.out hmn (by rw[HP.out];exact c1) (by rw[HR.out];exact c2) (by rw[HP.out,HR.out];exact a1.out.1);rw[HP.out,HR.out]at this;exact this
                ·have h2:=a1.2
                 rcases HB with h|h
                 ·have h3:=a1.1
                  right;rw[h,Int.min_eq_right (by omega)];exact h2
                 ·right;omega
               case measure=>simp[intOf];omega
              ·have c2':decide (r < 1152921504606846976)=false:=by simpa using c2
               go_wp2_with fail
               go_roundw
               case rel=>exact⟨m+1,x,by omega,rfl,by go_num,np HL.out (by rw[HP.out,HR.out];exact fun h=>c2 h.2),HB.out,_,rfl⟩
               case measure=>simp[intOf];omega
             ·have c1':decide (p < 1152921504606846976)=false:=by simpa using c1
              go_wp2_with fail
              go_roundw
              case rel=>exact⟨m+1,x,by omega,rfl,by go_num,np HL.out (by rw[HP.out];exact fun h=>c1 h.1),HB.out,_,rfl⟩
              case measure=>simp[intOf];omega
            ·have hmn':decide ((m:Int) < (n:Int))=false:=by simpa using hmn
             have O:m=n:=by omega
             have Y:=HL.out;rw[O]at Y;have HE:Hid (Ent1 G n j M a b x):=hid ⟨Y,HB⟩;have a9:Kept [] w3 (t.drewN R):=C.drewN R;have ac:=af o.out ((Kept.refl [] t).drewN R) (by simp);have ah:=hid ac
             have an:sz<=t.heap.size:=by rw[<-I.out];exact C.size
             have bx:a*n+b < q:=by have:=ju han hbn;rw[J.out]at this;exact this
             clear Y O HL HB hB ac;go_wp2_with (at_builtin;refine aE rfl _ _ rfl sz _ (a*n+b) (tabL (a*n+b) n N1) rfl (af ah.out ((Kept.refl [] _).alloc _) (by simp)) (.slice (some ⟨t.heap.size,0,none⟩) 1 1) 1 [x] rfl (by exact Row.lit (t.drewN R) [x] (by simp)) (by omega) (by simp only[World.size_alloc];simp;omega) ?_);intro a' c' w' s hk' _;have V:Kept [] w3 w':=(a9.alloc (.cells #[x] 3)).fresh hk' (fun z hz=>by have:=(ak ah.out z hz).1;rw[I.out];exact this);rw[ti hbn]at s;have b0:=hid s;clear s hk' a9;go_wp2_with fail
             go_roundw
             case rel =>
              refine⟨b+1,_,by omega,by go_num,b0.out,fun u y huy hy=>?_,V⟩
              by_cases e:u=a/\y=b
              ·rw[if_pos e,e.1,e.2];exact HE.out
              ·rw[if_neg e];exact B.out u y (by omega) hy
             case measure=>simp[intOf];omega
          ·have hbn':decide ((b:Int) < (n:Int))=false:=by simpa using hbn
           have g:=o.out
           have P:a*n+b=(a+1)*n:=by rw[Nat.succ_mul];omega
           rw[P]at g;have ap:=hid g;clear g P;go_wp2_with fail
           go_roundw
           case rel=>exact⟨a+1,N1,by omega,by go_num,ap.out,fun x y hx hy=>B.out x y (by omega) hy,C⟩
           case measure=>simp[intOf];omega
        ·have han':decide ((a:Int) < (n:Int))=false:=by simpa using han
         have Q:a=n:=by omega
         have g:=o.out;rw[Q,J.out]at g;obtain⟨T,cc,rfl,bc,bb⟩:=g.form a3;have hF:Flt wr T n cc N:=oK (show wr.ownsRow sz 3 1 (.slice (some ⟨T,0,none⟩) (n*n) cc) (n*n) (ints (tabL (n*n) n N))by rw[J.out];exact g);have b2:=hid hF;have ad:=hid (F.keep D);have bh:=F.kept.size;have ba:=(F.own.lt L rfl).2
         have ab:w.heap.size<=T:=by have:=I.out;omega
         have aa:T≠L:=by have:=I.out;omega
         have b9:w.heap.size<=wr.heap.size:=by have:=D.size;omega
         have b3:Hid (Back G n k N):=by
          have A:=ue b4.out (fun x y hx hy=>(B.out x y (by omega) hy).1);rw[<-HJ.out]at A;exact hid A
         have b6:Hid (∀x y,x < n->y < n->N x y=far\/(-(8589934592*(k:Int))<=N x y/\N x y<=8589934592*(k:Int))):=hid fun x y hx hy=>by
          have A:=(B.out x y (by omega) hy).2;have h2:=HJ.out
          rcases A with A|A
          ·exact Or.inl A
          ·right;rw[h2];omega
         clear g o B hF Q;go_wp2_with (at_builtin;refine gz rfl _ _ rfl w.heap.size (.slice (some ⟨L,0,none⟩) k oc) k _ rfl (af ad.out.own ((Kept.refl [] _).alloc (.cells #[.slice (some ⟨T,0,none⟩) q cc] 24)) (by simp)) (.slice (some ⟨wr.heap.size,0,none⟩) 1 1) 1 [.slice (some ⟨T,0,none⟩) q cc] rfl (by exact aH (cs:=[.slice (some ⟨T,0,none⟩) q cc]) (Blk.new wr _ _) rfl (by decide)) (by intro u hu;obtain rfl:=ms hu;rfl) (by omega) (by simp only[World.size_alloc];omega) ?_);intro a' c' w' s hk' hb';obtain⟨ob',oc',hv',_,_⟩:=s.form (by omega);injection hv' with hv1 _ hv3;subst hv1;subst hv3
         have a4:ob'=L\/ob'=(wr.alloc (.cells #[.slice (some ⟨T,0,none⟩) q cc] 24)).heap.size:=by
          rcases hb' ob' (fv rfl)with h|h
          ·have:=cZ h;injection this with this;exact Or.inl this.symm
          ·exact Or.inr (by rw[h,World.size_alloc])
         have av:=hid (ad.next ((Kept.refl [] _).alloc _) b2 ab aa b3 b6 s hk' a4 rfl);clear s hk' hb' a4;go_wp2_with fail
         go_roundw
         case rel=>exact⟨k+1,ob',_,_,_,_,by omega,by omega,rfl,by go_num,av.out⟩
         case measure=>simp[intOf];omega
      ·have hkn':decide ((k:Int)<=(n:Int))=false:=by simpa using hkn3
       have X:k=n+1:=by omega
       have a0:=F.out;rw[X,<-J.out]at a0;have ao:=hid a0;have b1:=hid X;clear a0 X;go_wp2_with fail;go_ret;exact⟨L,oc,rb,cp,Ms,by rw[b1.out];rfl,ao.out⟩
end Go.Proofs.YtcidfldeiklcjaaGreatDoor
namespace Go.Proofs.YtcidfldeiklcjaaGreatDoor
open Go.RowKit Bf Tm
open Lib(hid)
theorem tY(gp wb n c ob oc kk first K0:Nat)(rb cp:Nat->Nat)(Ms:Nat->Gf)(G:Gf)(w0 w:World)(h:FlW w gp wb n c G)(hW:WkO G w0 ob oc n (n*n) K0 rb cp Ms w)(hK0:kk < K0)(hk20:K0<=20)(hg:GBd n G)(hn:n<=16)
  (hkk:1<=kk) (hf:first < n) (hneg:Neg G n kk first) (hmin:∀x,x < first->¬Neg G n kk x) :
  Calls Tryz.prog 36 #[.pointer (some ⟨gp,0,none⟩),.slice (some ⟨ob,0,none⟩) K0 oc,kk,first] w (CycE G n kk first w):=by
 have HF:=hid h;have HW:=hid hW;have V:=hid hg;have ap:=hid (lI hkk hf hneg hmin);obtain⟨q,hq⟩:=nm (n*n);have HQ:=hid hq;rw[hq]at HW
 unfold CycE
 clear h hW hg hneg hmin hq
 go_enter Tryz.func36,Tryz.ntmps36
 go_wp2_with fail;have b0:Hid ((w.alloc (.cells #[first] 3)).ownsRow w.heap.size 3 1 (.slice (some ⟨w.heap.size,0,none⟩) 1 1) 1 (ints (natI [first]))):=hid (pF w _ _ _ (Nat.le_refl _));have b3:Hid (Kept [] w (w.alloc (.cells #[first] 3))):=kr.alloc _
 go_loopw [9,10,11,12] (fun vo vsum vat vl wr=>∃(o:List Nat) (at_:Nat) (d:Int) (e:Nat) (a:Option Addr) (c:Nat),vo=.slice a o.length c/\vat=at_/\vsum=d/\vl=e/\e+1<=kk/\Hid (Path G n kk first o at_ d e)/\Hid (wr.ownsRow w.heap.size 3 1 (.slice a o.length c) o.length (ints (natI o)))/\Hid (Kept [] w wr)) (fun _ _ _ vl _=>(intOf vl).toNat)
 case atStart=>exact⟨[first],first,0,kk - 1,_,_,rfl,rfl,rfl,by congr 1;omega,by omega,ap,b0,b3⟩
 case round =>
  obtain⟨o,at_,d,L,a,v,rfl,rfl,rfl,rfl,ba,B,HO,HK⟩:=hrel;obtain⟨w3,rfl⟩:∃x,x=wr:=⟨_,rfl⟩
  by_cases hL0:0 < L
  ·have ad:decide ((L:Int) > 0)=true:=by simp;omega
   obtain⟨e,i⟩:∃p,L=p+1:=⟨L - 1,by omega⟩
   have N:L < K0:=by omega
   have F:at_ < n:=by
    obtain⟨l,h1,_,_⟩:=B.goes;exact h1.lt _ (List.mem_of_mem_head? h1.head)
   have a5:Hid (Path G n kk first o at_ d (e+1)):=by rw[<-i];exact B
   have A:Hid (Back G n (e+1) (Ms L)):=by rw[<-i];exact hid (HW.out.bk L N)
   have aa:=hid (mY a5 A hf);have X:=fi V o B.walk.lt B.walk.steps;rw[B.out.wt]at X;have ab:=B.len
   have b7:-171798691840<=d/\d<=171798691840:=by omega
   have T:=hid i;clear X i;obtain⟨M,J⟩:=nm (Ms L);have HT:=hid (J▸HW.out.tab L N);rw[J]at A aa;have b2:=hid (HW.cell N);clear J;go_wp2_with fail
   go_loopw [9,10,11,13] (fun vo vsum vat vb wr2=>∃b:Nat,b<=n/\vo=.slice a o.length v/\vsum=d/\vat=at_/\vb=b/\Hid (∀x,x < b->¬Cond G M first at_ d x)/\Hid (Kept [] w3 wr2)) (fun _ _ _ vb _=>n - (intOf vb).toNat)
   case atStart=>exact⟨0,by omega,rfl,rfl,rfl,rfl,hid (fun x hx=>by omega),hid kr⟩
   case round =>
    obtain⟨b,hbn',rfl,rfl,rfl,rfl,R,a7⟩:=hrel
    have j:b < n:=by
     rcases Nat.lt_or_ge b n with h|h
     ·exact h
     ·obtain⟨x,hx,t⟩:=aa.out;exact absurd t (R.out x (by omega))
    have b6:decide ((b:Int) < (n:Int))=true:=by simpa using j
    have U:=hid (HK.trans a7);obtain⟨am,I⟩:=nm (at_*n);obtain⟨bm,E⟩:=nm (b*n);obtain⟨f1,f2,f3,f4,f5,f6,f7⟩:=ixf I HQ F j hn;obtain⟨g1,g2,g3,g4,g5,g6,g7⟩:=ixf E HQ j hf hn;have y:=HF.kept U;have x0:=y.n0;have x1:=y.w0;have x2:=y.cell at_ b F j;have x3:=Kept.cellOf b2 _ U
    have x4:=(HT.kept U).cell b first j hf
    have O:=V.out at_ b F j;have C:=gJ V.out A.out (by have:=T.out;omega) j hf;have m:Hid (Cond G M first at_ d b->Path G n kk first (o++[b]) b (d+G at_ b) e):=fun t=>mX a5 A hf j t R
    have k:Hid (¬Cond G M first at_ d b->∀x,x < b+1->¬Cond G M first at_ d x):=fun t x hx=>by
     rcases Nat.lt_or_ge x b with h|h
     ·exact R x h
     ·obtain rfl:x=b:=by omega
      exact t
    have f:Hid (Cond G M first at_ d b↔(G at_ b < 1152921504606846976/\M b first < 1152921504606846976/\d+G at_ b+M b first < 0)):=Iff.rfl
    generalize ah:Cond G M first at_ d b=CN at m k f
    rw[HQ.out]at x1;rw[I]at x2;rw[E]at x4;obtain⟨g,a0⟩:=nm (G at_ b);obtain⟨p,Y⟩:=nm (M b first);rw[a0]at x2 O m f;rw[Y]at x4 C f;have a3:g=1152921504606846976\/(-8589934592<=g/\g<=8589934592):=O;have b4:=hid a3;have al:=hid C;clear y I E a0 Y O C a3 ah;go_wp2_with fail
    go_quiet (fail)
    obtain⟨q1,rfl⟩:∃q1,q1=nq:=⟨_,rfl⟩;go_upto_region 11 with(fail)
    go_quiet (fail)
    obtain⟨w6,D⟩:=nm ((wr.drewN q1).drewN nq);rw[D];have K6:Hid (Kept [] w3 w6):=D▸(a7.out.drewN q1).drewN nq;clear x0 x1 x2 x3 x4 D
    by_cases c1:g < 1152921504606846976
    ·have d1:decide (g < 1152921504606846976)=true:=by simpa using c1
     by_cases c2:p < 1152921504606846976
     ·have d2:decide (p < 1152921504606846976)=true:=by simpa using c2
      have bb:-8589934592<=g/\g<=8589934592:=by have:=b4.out;omega
      have b9:-274877906944<=p/\p<=274877906944:=by have:=al.out;omega
      have w1:IntKind.i64.wrap (d+g)=d+g:=by rw[IntKind.wrap_i64];omega
      have w2:IntKind.i64.wrap (d+g+p)=d+g+p:=by rw[IntKind.wrap_i64];omega
      by_cases c3:d+g+p < 0
      ·have d3:decide (d+g+p < 0)=true:=by simpa using c3
       have an:=hid (m (f.2 ⟨c1,c2,c3⟩));have Q:=hid (af HO.out K6.out (by simp));have a4:=hid (HK.trans K6);have a1:∀z∈obl (.slice a o.length v),w.heap.size<=z:=fun z hz=>(ak HO z hz).1;have a9:=hid a1;have a6:=hid (nh o b);have Z:=eH o;obtain⟨ol,r⟩:=nm o.length;have av:=hid r;rw[r]at Q a9 Z ab;rw[r]
       generalize ac:natI o=no at Q a6 Z
       have b5:w.heap.size<=w6.heap.size:=a4.size;clear a1 r ac m k f;go_wp2_with (at_builtin;refine aE rfl _ _ rfl w.heap.size _ ol no rfl (af Q.out ((Kept.refl [] _).alloc (.cells #[b] 3)) (by simp)) (.slice (some ⟨w6.heap.size,0,none⟩) 1 1) 1 [(b:Int)] rfl (by exact Row.lit w6 [(b:Int)] (by simp)) (by omega) (by simp only[World.size_alloc];omega) ?_);intro a' c' w7 ho hk' _
       have s:(o++[b]).length=ol+1:=by rw[List.length_append,av.out];rfl
       have OE:Hid (w7.ownsRow w.heap.size 3 1 (.slice a' (o++[b]).length c') (o++[b]).length (ints (natI (o++[b])))):=by
        rw[a6.out,s];exact ho
       have KN:Hid (Kept [] w w7):=(a4.alloc _).fresh hk' (fun z hz=>a9 z hz);have b1:=hid s;clear ho hk' s;go_wp2_with fail
       go_roundw
       case rel=>exact⟨o++[b],b,d+g,e,a',c',by rw[b1.out],rfl,rfl,by have:=T.out;first|rfl|go_num|(congr 1;omega),by have:=T.out;omega,an,OE,KN⟩
       case measure=>simp[intOf];omega
      ·have d3:decide (d+g+p < 0)=false:=by simpa using c3
       have u:=hid (k fun t=>c3 (f.1 t).2.2);clear m k f;go_wp2_with fail
       go_roundw
       case rel=>exact⟨b+1,by omega,rfl,rfl,rfl,by go_num,u,K6⟩
       case measure=>simp[intOf];omega
     ·have d2:decide (p < 1152921504606846976)=false:=by simpa using c2
      have u:=hid (k fun t=>c2 (f.1 t).2.1);clear m k f;go_wp2_with fail
      go_roundw
      case rel=>exact⟨b+1,by omega,rfl,rfl,rfl,by go_num,u,K6⟩
      case measure=>simp[intOf];omega
    ·have d1:decide (g < 1152921504606846976)=false:=by simpa using c1
     have u:=hid (k fun t=>c1 (f.1 t).1);clear m k f;go_wp2_with fail
     go_roundw
     case rel=>exact⟨b+1,by omega,rfl,rfl,rfl,by go_num,u,K6⟩
     case measure=>simp[intOf];omega
  ·have ad:decide ((L:Int) > 0)=false:=by simp;omega
   have a2:L=0:=by omega
   have P:=B.out;rw[a2]at P;have ao:=hid P;have HR:Hid (Row w3 1 (.slice a o.length v) o.length (ints (natI o))):=Row.of_own HO.out (by have:=B.out.len;omega);clear P a2;go_wp2_with fail;go_ret;exact⟨o,at_,d,a,v,rfl,HR,ao,HK⟩
open Go.Proofs.Tryz
theorem rS{G:Gf}{n k first at_:Nat}{o:List Nat}{sum:Int}(hno:∀j x,1<=j->j < k->¬Neg G n j x)(hp:Path G n k first o at_ sum 0):dV G n o:=by
 obtain⟨h1,h2,h3,h4⟩:=pT hp fun j x hj hlt=>hno j x hj hlt;exact Or.inr ⟨h2,h3,fun j x hj hlt=>hno j x hj (by omega),fun d hd he=>h4 d hd (by omega)⟩
theorem uC{G:Gf}{n:Nat}(hno:∀j x,1<=j->j < n+1->¬Neg G n j x):dV G n [] :=
 Or.inl ⟨rfl,fun j x hj hn=>by
  obtain⟨i,y,h1,h2,h3⟩:=nf hj hn
  exact hno i y h1 (by omega) h3⟩
theorem my(vs vk va:Value)(s:Stp)(keys:List Int)(l:List Ent)(dr:Int)(w:World)(hs:StpV w vs s)(hk:Row w 1 vk keys.length (ints keys))(ha:aU w va l)(hl:l.length<=12)(hI:∀e∈l,EntI e)(hki:∀x∈keys,Wire.I64 x)(hE:Env2 w) :
  Calls prog 13 #[vs,vk,va,dr] w (ConE s keys l dr w):=by
 have hs':=hs;obtain⟨⟨Z,Y,rfl,a1⟩,ip,iq,ig,ib,il⟩:=hs';obtain⟨aa,ca,rfl,_,_⟩:=ag.form ha;obtain⟨ka,kc,rfl,_,_⟩:=hk.form;obtain⟨W,hW⟩:=nm (w.alloc (.cells (stpA s (.slice Z s.bases.length Y)) 26));have hb:Blk W w.heap.size 26 (stpA s (.slice Z s.bases.length Y)):=hW▸Blk.new _ _ _;have d:Kept [] w W:=hW▸kr.alloc _
 have VS:Hid (∀w',Kept [] W w'->Calls prog 28 #[.agg #[s.P,s.Q,s.G,.slice Z s.bases.length Y,s.blind]] w' fun e w2=>e=.returned (.bool (aw s))/\Kept [] w' w2):=fun w' k =>
  bR _ s w' (hs.kept (d.trans k))
 have WI:Hid (∀w',Kept [] W w'->Calls prog 29 #[dr,.int .i64 0,.int .i64 1000] w' fun e w2=>e=.returned (.bool (inB dr 0 1000))/\Kept [] w' w2):=fun w' _ =>
  (bF dr 0 1000 w').mono fun e w' ⟨X,h2⟩=>⟨X,h2▸kr⟩
 have JN:Hid (∀w',Kept [] W w'->Calls prog 31 #[.agg #[s.P,s.Q,s.G,.slice Z s.bases.length Y,s.blind],.slice ka keys.length kc,.slice aa l.length ca,()] w' (jQ s keys l w')):=fun w' k =>
  jj _ _ _ s keys l w' (hs.kept (d.trans k)) (hk.kept (d.trans k)) (ha.kept (d.trans k)) hl hI hki (hE.kept0 (d.trans k))
 obtain⟨S0,S1,S2,S3,S4⟩:=bH5 hb rfl;have HW:=hid hW;have L:=hid d
 have an:Hid (inB dr 0 1000=true->0<=dr/\dr<=1000):=fun h=>by unfold inB at h;simpa using h
 unfold ConE
 obtain⟨b1,a7⟩:=nm (aw s);obtain⟨b2,a6⟩:=nm (inB dr 0 1000);rw[a7]at VS ⊢;rw[a6]at WI an ⊢;clear hW hb a1 a7 a6 d hs hk ha hki hE ib hI
 show Calls _ _ #[.agg #[s.P,s.Q,s.G,.slice Z s.bases.length Y,s.blind],_,_,_] _ _
 go_enter func13,ntmps13
 go_upto_region 1 with(fail);have hW':w.alloc (.cells #[s.P,s.Q,s.G,.slice Z s.bases.length Y,s.blind] 26)=W:=HW.out;rw[hW'];clear hW';have s0:=S0.out _ kr;have s1:=S1.out _ kr;have s2:=S2.out _ kr;have s3:=S3.out _ kr;have s4:=S4.out _ kr;go_wp2_with (go_at_call 28;with_reducible refine(VS.out _ kr).mono ?_);rintro e w5 ⟨rfl,k5⟩;have a:Kept [] W w5:=k5;clear k5
 cases b1
 ·go_wp2_with fail;go_ret;exact⟨L.trans a,Or.inl ⟨rfl,rfl⟩⟩
 have a9:=hid (WI w5 a);go_wp2_with (go_at_call 29;with_reducible refine a9.out.mono ?_);rintro e w6 ⟨rfl,V⟩;replace a:=a.trans V;clear V a9
 cases b2
 ·go_wp2_with fail;go_ret;exact⟨L.trans a,Or.inl ⟨rfl,rfl⟩⟩
 have hd:=an (by trivial);have y:=hid hd;have K5:Hid (Kept [] W _):=a;clear s0 s1 s2 s3 s4 hd;have s0:=S0.out _ a;have s1:=S1.out _ a;have s2:=S2.out _ a;have s3:=S3.out _ a;have s4:=S4.out _ a;have ac:=hid (JN _ a);clear a;go_wp2_with (go_at_call 31;with_reducible refine ac.out.mono ?_);rintro e w6 ⟨vj,o,rfl,D,B,A,V⟩;obtain⟨ja,jc,rfl,_,_⟩:=ag.form D;have ah:=hid B;have v:Hid (∀x∈o,WF x):=hid (iy B);have GO:=hid (fC _ o dr w6 D v.out y.out.1 y.out.2 (by omega));have K6:=hid (L.trans (K5.trans V));have ab:=hid (K5.trans V);clear s0 s1 s2 s3 s4 D B V JN ac VS WI;go_wp2_with (go_at_call 30;with_reducible refine GO.out.mono ?_);rintro e w7 ⟨gp,wb,gc,rfl,a5,k7,b4,av⟩;have b:FlW w7 gp wb (o.length+1) gc (Gl o dr):=a5;have K7:=hid (K6.trans k7);have c5:=hid (ab.trans k7);have p:=hid (nz o dr y.1 y.2 v);have O:=hid (oF o dr);have R:=hid (sL o dr);obtain⟨G,hG⟩:=nm (Gl o dr);have al:=hid hG;rw[hG]at b p O R;obtain⟨m,hm⟩:=nm o.length;have HM:=hid hm;rw[hm]at b p O R A;obtain⟨N,hN⟩:=nm (m+1);have HN:=hid hN;rw[hN]at b p O R
 have c0:1<=N:=by omega
 have bh:N<=13:=by omega
 have bq:m < N:=by omega
 have bs:(N:Int) - 1=(m:Int):=by omega
 have wm:IntKind.i64.wrap (m:Int)=(m:Int):=by rw[IntKind.wrap_i64];omega
 have am:=hid b;clear a5 b hG hm hN b4 av k7 GO ab S0 S1 S2 S3 S4;have WK:=hid (sX gp wb N gc G w7 am.out p.out (by omega) (by omega));go_wp2_with (go_at_call 35;with_reducible refine WK.out.mono ?_);rintro e w8 ⟨ob,oc,rb,cp,Ms,rfl,f⟩;have c4:=hid f.kept;have u:=hid f;have U:=hid (am.kept f.kept);have K8:=hid (K7.trans f.kept)
 have bo:N+1<=oc:=by
  rcases f.own.2 with⟨X,_⟩|⟨g,c3,c2,hv,_,_,hc,_⟩
  ·cases X
  ·injection hv with _ _ h3;omega
 obtain⟨q,hq⟩:=nm (N*N);have HQ:=hid hq;clear f hq WK
 have b6:Hid (∀j x,1<=j->j < 1->¬Neg G N j x):=fun j x X h2=>by omega
 go_wp2_with fail
 go_loopw [11] (fun vk wr=>∃k:Nat,1<=k/\k<=N+1/\vk=k/\Hid (∀j x,1<=j->j < k->¬Neg G N j x)/\Hid (Kept [] w8 wr)) (fun vk _=>N+1 - (intOf vk).toNat)
 case atStart=>exact⟨1,Nat.le_refl _,by omega,rfl,b6,kr⟩
 case round =>
  obtain⟨k,b0,bv,rfl,F,HK⟩:=hrel;have n0:=Kept.cellOf U.n0 _ HK;obtain⟨w3,rfl⟩:∃x,x=wr:=⟨_,rfl⟩
  by_cases hkn:k<=N
  ·have dk:decide ((k:Int)<=(N:Int))=true:=decide_eq_true (by omega)
   have r:k < N+1:=by omega
   have ao:=hid (u.bk k r);have E:=hid (u.tab k r);have bd:=hid (u.cell r)
   generalize hM:Ms k=M at ao E
   clear hM;go_wp2_with fail;clear n0
   go_loopw [12] (fun vi wr2=>∃i:Nat,i<=N/\vi=i/\Hid (∀x,x < i->¬Neg G N k x)/\Hid (Kept [] w8 wr2)) (fun vi _=>N - (intOf vi).toNat)
   case atStart=>exact⟨0,Nat.zero_le _,rfl,fun x hx=>by omega,HK⟩
   case round =>
    obtain⟨i,hin',rfl,I,c⟩:=hrel;have n0:=Kept.cellOf U.n0 _ c
    by_cases hin:i < N
    ·have di:decide ((i:Int) < (N:Int))=true:=decide_eq_true (by omega);obtain⟨im,C⟩:=nm (i*N);obtain⟨f1,f2,f3,f4,f5,f6,f7⟩:=ixf C HQ.out hin hin (by omega);have x1:=Kept.cellOf bd _ c;have x2:=(E.kept c).cell i i hin hin;rw[HQ.out]at x1;rw[C]at x2;have b5:=E.cc;rw[HQ.out]at b5;have T:Hid (M i i < 0↔Neg G N k i):=iM ao hin
     generalize ht:M i i=t at x2 T
     clear C ht
     have bx:(0:Int)<=(k:Int):=by omega
     have bt:(k:Int) < (N:Int)+1:=by omega
     by_cases c1:t < 0
     ·have d1:decide (t < 0)=true:=by simpa using c1
      have LE:Hid (∀w',Kept [] wr w'->Calls prog 36 #[.pointer (some ⟨gp,0,none⟩),.slice (some ⟨ob,0,none⟩) (N+1) oc,k,i] w' (CycE G N k i w')):=fun w' kk =>
       tY gp wb N gc ob oc k i (N+1) rb cp Ms G w7 w' (U.out.kept (c.out.trans kk)) (u.out.keep (c.out.trans kk)) r (by omega) p.out (by omega) b0 hin (T.out.1 c1) I.out
      go_wp2_with fail
      go_quiet (fail)
      obtain⟨w9,z⟩:=nm (wr.drewN nq);rw[z];have K9:Hid (Kept [] wr w9):=z▸kr.drewN nq;have b7:=hid (LE w9 K9);clear n0 x1 x2 z LE;go_wp2_with (go_at_call 36;with_reducible refine b7.out.mono ?_);rintro e bl ⟨oo,at_,bm,oa,ap,rfl,a3,n,a0⟩;have bb:=hid a3;have ba:=hid (rS F n);have KE:=hid (K8.trans (c.trans (K9.trans a0)));clear a3 n a0;go_wp2_with fail;go_ret;exact⟨KE.out,Or.inr ⟨by trivial,o,ah.out,by rw[HM.out];exact A,v.out,y.out.1,y.out.2,oo,oa,ap,rfl,bb.out,by rw[HM.out,HN.out,al.out];exact ba.out⟩⟩
     ·have d1:decide (t < 0)=false:=by simpa using c1
      have J:Hid (∀x,x < i+1->¬Neg G N k x):=fun x hx hn=>by
       rcases Nat.lt_or_ge x i with h|h
       ·exact I x h hn
       ·obtain rfl:x=i:=by omega
        exact c1 (T.2 hn)
      go_wp2_with fail
      go_quiet (fail)
      go_wp2_with fail
      go_roundw
      case rel=>exact⟨i+1,by omega,by go_num,J,c.out.drewN _⟩
      case measure=>simp[intOf];omega
    ·have b3:i=N:=by omega
     have di:decide ((i:Int) < (N:Int))=false:=decide_eq_false (by omega)
     have J:Hid (∀j x,1<=j->j < k+1->¬Neg G N j x):=fun j x X h2 hn=>by
      rcases Nat.lt_or_ge j k with h|h
      ·exact F j x X h hn
      ·obtain rfl:j=k:=by omega
       have hx:x < N:=by
        obtain⟨l,hw,_,_⟩:=hn;exact hw.lt _ (List.mem_of_mem_head? hw.head)
       exact I.out x (by omega) hn
     clear b3;go_wp2_with fail
     go_roundw
     case rel=>exact⟨k+1,by omega,by omega,by go_num,J,c⟩
     case measure=>simp[intOf];omega
  ·have dk:decide ((k:Int)<=(N:Int))=false:=decide_eq_false (by omega)
   have a4:k=N+1:=by omega
   have bc:Hid (dV G N []):=uC (by rw[<-a4];exact F.out);have KE:=hid (K8.trans HK);have a2:Row w3 1 () ([]:List Nat).length (ints (natI [])):=⟨by simp[natI,ints],by simp,_,_,rfl,by simp,fun h=>absurd h (by simp)⟩;have b9:=hid a2;clear a4 a2;go_wp2_with fail;go_ret;exact⟨KE.out,Or.inr ⟨by trivial,o,ah.out,by rw[HM.out];exact A,v.out,y.out.1,y.out.2,[],none,0,rfl,b9.out,by rw[HM.out,HN.out,al.out];exact bc.out⟩⟩
end Go.Proofs.YtcidfldeiklcjaaGreatDoor
