import Derived.Test.YtpcmamoomaddoaaGreatDoorMcs
import Derived.Test.YtpcmamoomaddoaaGreatDoorInv
import Derived.Carry
set_option maxRecDepth 100000
set_option maxHeartbeats 32000000
namespace Go.Proofs.YtpcmamoomaddoaaGreatDoor
open Go.RowKit Go.Maps
open Go.Proofs.Tryz
open Lib(hid)
theorem yu:(prog.info? 95).map (fun i=>(i.zero,i.size,i.bytes))=some (some (.map none),1,8):=by kernel_rfl
theorem vd:(prog.info? 4).map (fun i=>(i.zero,i.size,i.bytes))=some (some (.bool false),1,1):=by kernel_rfl
theorem xF(z:Value)(n:Nat):madeCells #[z] (n*1)=(List.replicate n z).toArray:=by
 have h1:∀j,(#[z]:Array Value)[j % (#[z]:Array Value).size]! = z:=fun j=>by
  have:j % 1=0:=Nat.mod_one j
  simp[this]
 unfold madeCells
 apply Array.ext
 ·simp
 ·intro j h2 h3;rw[Array.getElem_map,h1]
  simp
theorem sN(w:World) :
  (Instr.makeSlice 272 (.int .i64 16) (.int .i64 16)).run prog w=.ok (.slice (some ⟨w.heap.size,0,none⟩) 16 16) (w.alloc (.cells (List.replicate 16 (.map none)).toArray 95)):=by
 obtain⟨i0,hi,hz0,hz1,hz2⟩:=info_parts yu;have:=run_makeSlice (P:=prog) w 272 95 i0 (.map none) underlying272 hi hz0 .i64 .i64 16 16 (by omega) (by omega) (by rw[hz1];decide) (by rw[hz2];omega) (by omega);rw[hz1]at this;simp only[Value.cells]at this;rw[this];have:=xF (.map none) 16;exact congrArg (fun x=>Result.ok (Value.slice (some ⟨w.heap.size,0,none⟩) 16 16) (w.alloc (.cells x 95))) this
theorem gN(n:Nat)(w:World)(h:n<=100000) :
  (Instr.makeSlice 200 (.int .i64 (n:Int)) (.int .i64 (n:Int))).run prog w=.ok (.slice (some ⟨w.heap.size,0,none⟩) n n) (w.alloc (.cells (aB (List.replicate n false)).toArray 4)):=by
 obtain⟨i0,hi,hz0,hz1,hz2⟩:=info_parts vd;have:=run_makeSlice (P:=prog) w 200 4 i0 (.bool false) underlying200 hi hz0 .i64 .i64 (n:Int) (n:Int) (by omega) (by omega) (by rw[hz1];simp;omega) (by rw[hz2];omega) (by omega);rw[hz1]at this;simp only[Int.toNat_natCast,Value.cells]at this;rw[this,xF]
 simp[aB]
theorem lP{w2:World}{tmps:Array Value}{a s:Value}{b:Nat}{R:Ending->World->Prop}(h2:tmps[2]?.getD undef=.pointer (some ⟨b,0,none⟩))(hc:w2.cell? ⟨b,0,none⟩=some a)(h3:tmps[3]?.getD undef=s)(hR:R (.returned (.tuple #[a,s])) w2) :
  bodyPost prog Tryz.f191 R Exit.ret { tmps:=tmps,defers:=[] } w2:=by
 subst h3;refine bodyPost_ret (v:=.tuple #[a,tmps[3]?.getD undef]) ?_ rfl hR;simp only[results,results191]
 simp[go_sem,h2,hc]
/-- the answer of match -/
def MchE(w:World)(M:Mt)(nu:Nat)(e:Ending)(w':World):Prop:=Kept [] w w'/\∃(a:Value) (s:Option Addr) (n c:Nat),e=.returned (.tuple #[a,.slice s n c])/\((s=none/\n=0/\c=0/\Feas M nu)\/(s.isSome=true/\¬Feas M nu))
def fC(mp:Nat->Nat)(k:Nat):List Value:=(List.range k).map (fun i=>Value.map (some (mp i)))++List.replicate (16 - k) (.map none)
theorem iP{mp:Nat->Nat}{k i:Nat}(hk:k<=16):(fC mp k)[i]?=if i < k then some (.map (some (mp i)))else if i < 16 then some (.map none)else none:=by
 unfold fC
 by_cases h1:i < k
 ·rw[if_pos h1,List.getElem?_append_left (by simpa using h1)]
  simp[h1]
 ·rw[if_neg h1,List.getElem?_append_right (by simpa using h1),List.length_map,List.length_range,List.getElem?_replicate]
  by_cases h2:i < 16
  ·rw[if_pos h2,if_pos (by omega)]
  ·rw[if_neg h2,if_neg (by omega)]
theorem sM{mp:Nat->Nat}{k b:Nat}(hk:k < 16):(fC mp k).toArray.setIfInBounds k (.map (some b))=(fC (updV mp k b) (k+1)).toArray:=by
 have h0:(fC mp k).set k (.map (some b))=fC (updV mp k b) (k+1):=by
  have hl:(fC mp k).length=16:=by simp[fC];omega
  apply List.ext_getElem?
  intro i;rw[iP (by omega)]
  by_cases h1:i=k
  ·subst h1;rw[if_pos (by omega),aE,List.getElem?_set_self (by omega)]
  ·rw[List.getElem?_set_ne (Ne.symm h1),iP (by omega),aY h1]
   by_cases h2:i < k
   ·rw[if_pos h2,if_pos (show i < k+1 by omega)]
   ·rw[if_neg h2,if_neg (show ¬i < k+1 by omega)]
 rw[List.setIfInBounds_toArray,h0]
theorem sL{W0:World}{kb:Nat}{c:Crw}{can:List (List Bool)}(hr:Rck W0 kb c can) :
  Calls prog 191 #[.pointer (some ⟨kb,0,none⟩)] W0 (MchE W0 (mtOf c can hr.lens) c.us.length):=by
 obtain⟨M,hM⟩:∃M,mtOf c can hr.lens=M:=⟨_,rfl⟩;have bs:M.nm=c.ms.length:=hM▸rfl;have bc:M.cap=capB c:=hM▸rfl;have f9:=hid hM;rw[hM];obtain⟨vq,vm,vu,vh,vc,a8,bt,cu,d4,_⟩:=hr.rows;obtain⟨ma,mc,rfl,_,_⟩:=aj.form bt;obtain⟨ua,uc,rfl,_,_⟩:=aj.form cu;obtain⟨ca,cc,rfl,_,d5⟩:=aj.form d4;obtain⟨o,hnm'⟩:∃n,c.ms.length=n:=⟨_,rfl⟩;obtain⟨B,br⟩:∃n,c.us.length=n:=⟨_,rfl⟩;have hb:=hr.us.1;have bv:=hr.ms.1
 have b4:can.length=B:=by have:=hr.len;omega
 rw[hnm']at bs bv a8;rw[br]at hb a8 ⊢;rw[b4]at a8 d5
 -- region 0
 obtain⟨Z,Q⟩:∃y,(W0.alloc (.cells #[.pointer (some ⟨kb,0,none⟩)] 159)).alloc (.cells #[.slice none 0 0] 23)=y:=⟨_,rfl⟩;have k2:Kept [] W0 Z:=Q▸((Kept.refl _ _).alloc _).alloc _;have bk:Blk Z W0.heap.size 159 #[.pointer (some ⟨kb,0,none⟩)]:=Q▸(Blk.new _ _ _).alloc _;have ba:Blk Z (W0.heap.size+1) 23 #[.slice none 0 0]:=Q▸Blk.new1 _ _ _ _
 have z2:Z.heap.size=W0.heap.size+2:=by rw[<-Q];simp
 have ci:=hid a8;have dq:=hid Q;have K2:=hid k2;have BK:=hid bk;have BA:=hid ba;have Z2:=hid z2;have HR:=hid hr;have b7:=hid bs;have HNM':=hid hnm';have f7:=hid br;have e8:=hid bc;have g7:=hid bt;clear a8 Q k2 bk ba z2 bs hnm' br bc bt cu d4 hM
 go_enter func191,ntmps191
 go_upto_region 1 with(fail);have hw2':=dq.out;rw[hw2'];clear hw2' dq
 -- region 1: what has been assigned
 have k3:Kept [] Z (Z.alloc (.cells #[.int .i64 (-1)] 3)):=(Kept.refl _ _).alloc _;have bd:=hid (wj (w:=Z.alloc (.cells #[.int .i64 (-1)] 3)) (xb:=Z.heap.size) (n:=B) (v:=-1) (Blk.new _ _ _) (by omega));have c0:(Z.alloc (.cells #[.int .i64 (-1)] 3)).cell? ⟨W0.heap.size,0,none⟩=some (.pointer (some ⟨kb,0,none⟩)):=(BK.out.kept k3 (by simp)).cell 0;have c1:(Z.alloc (.cells #[.int .i64 (-1)] 3)).cell? ⟨kb,4,none⟩=some (.slice ca B cc):=Kept.cellOf (ci.out.cell 4) _ (K2.out.trans k3);have K3:=hid k3;clear k3;go_wp2_with (go_at_call 224;with_reducible refine bd.out.mono ?_);rintro e w4 ⟨k4,V,rfl,d8,dc⟩;have K4:=hid (K3.out.trans k4);have bb:=hid (BA.out.kept K4.out (by simp));have el:=hid dc;have ao:=hid (show Z.heap.size<=V by have:=K3.out.size;omega);clear c0 c1 bd k4 dc d8;have a0:w4.cell? ⟨W0.heap.size+1,0,none⟩=some (.slice none 0 0):=bb.out.cell 0;have f0:=bb.out.frozen 0;go_upto_region 2 with(fail);obtain⟨x,b0⟩:∃y,w4.setCell ⟨W0.heap.size+1,0,none⟩ (.slice (some ⟨V,0,none⟩) B B)=y:=⟨_,rfl⟩;rw[b0];have eq:=hid (show Blk x (W0.heap.size+1) 23 #[.slice (some ⟨V,0,none⟩) B B]from b0▸bb.out.set_ 0 _);have aq:Kept [W0.heap.size+1] w4 x:=b0▸(Kept.refl _ _).setCell (Or.inl (by simp)) _;have ap:=hid (el.out.kept aq (by have:=ao.out;have:=Z2.out;simp;omega));have K5:=hid ((K2.out.trans K4.out).fresh aq (by simp));have eh:=hid ((BK.out.kept K4.out (by simp)).kept aq (by simp));have Z5:Hid (V < x.heap.size):=hid ap.out.lt
 clear a0 f0 bb el BA b0 aq BK
 -- region 2: the maps of the windows
 have a7:=sN x;obtain⟨a1,a6⟩:∃a:Array Value,(List.replicate 16 (.map none)).toArray=a:=⟨_,rfl⟩;rw[a6]at a7;have e3:=hid a6;clear a6;go_upto_region 3 with(fail);have b6:Blk ((x.alloc (.cells a1 95)).alloc (.cells #[.slice (some ⟨x.heap.size,0,none⟩) 16 16] 272)) (x.heap.size+1) 272 #[.slice (some ⟨x.heap.size,0,none⟩) 16 16]:=Blk.new1 _ _ _ _;have F:Blk ((x.alloc (.cells a1 95)).alloc (.cells #[.slice (some ⟨x.heap.size,0,none⟩) 16 16] 272)) x.heap.size 95 a1:=(Blk.new _ _ _).alloc _;have be:Kept [] x ((x.alloc (.cells a1 95)).alloc (.cells #[.slice (some ⟨x.heap.size,0,none⟩) 16 16] 272)):=((Kept.refl [] x).alloc _).alloc _;obtain⟨X,cq⟩:∃y,(x.alloc (.cells a1 95)).alloc (.cells #[.slice (some ⟨x.heap.size,0,none⟩) 16 16] 272)=y:=⟨_,rfl⟩;obtain⟨l,bx⟩:∃y,x.heap.size=y:=⟨_,rfl⟩;rw[cq]at b6 F be ⊢;rw[bx]at b6 F ⊢;rw[<-e3.out]at F;have b9:=hid b6;have ek:Hid (Blk X l 95 (fC (fun _=>0) 0).toArray):=F;have ad:=hid be;have e7:=hid bx;clear b6 F be bx cq a7;have c0:X.cell? ⟨l+1,0,none⟩=some (.slice (some ⟨l,0,none⟩) 16 16):=b9.out.cell 0;go_wp2_with fail;clear c0
 go_loopw [20] (fun u wi=>∃(k:Nat) (J:Nat->Nat),u=.int .i64 (k:Int)/\k<=16/\Kept [l] X wi/\Blk wi l 95 (fC J k).toArray/\(∀i,i < k->am aM wi (J i) 0 (fun _=>none)/\X.heap.size<=J i)/\∀i j,i < k->j < k->J i=J j->i=j) (fun u _=>16 - (intOf u).toNat)
 case atStart=>exact⟨0,fun _=>0,rfl,by omega,Kept.refl _ _,ek.out,fun i hi=>absurd hi (by omega),fun i j hi=>absurd hi (by omega)⟩
 case round =>
  obtain⟨k,J,rfl,d2,s,ab,b3,b2⟩:=hrel
  by_cases hlt:k < 16
  ·have hlt':(k:Int) < 16:=by omega
   have d7:Blk wr (l+1) 272 #[.slice (some ⟨l,0,none⟩) 16 16]:=b9.out.kept s (by simp);obtain⟨wm,bo⟩:∃y,wr.alloc (.map #[] 0)=y:=⟨_,rfl⟩;have es:=@run_makeMap prog 95 wr;rw[bo]at es;have d1:am aM wm wr.heap.size 0 (fun _=>none):=bo▸am.made wr;have km:Kept [] wr wm:=bo▸(Kept.refl _ _).alloc _;have b5:=ab.kept km (by simp);have c0:wr.cell? ⟨l+1,0,none⟩=some (.slice (some ⟨l,0,none⟩) 16 16):=d7.cell 0
   have c1:wm.cell? ⟨l,k,none⟩=some (.map none):=by rw[b5.cell k,List.getElem?_toArray,iP d2,if_neg (by omega),if_pos hlt]
   have f1:=b5.frozen k;have eg:=hid b5;have e4:=hid d1;have KM:=hid km;have e6:=hid s;have I:=hid b3;have b8:=hid b2;have g0:=hid ab;clear ab d7 b5 d1 km s b3 b2;go_wp2_with fail
   go_roundw
   case rel =>
    have g6:wr.heap.size<=wm.heap.size:=KM.out.size;have k1:Kept [l] wm (wm.setCell ⟨l,k,none⟩ (.map (some wr.heap.size))):=(Kept.refl _ _).setCell (Or.inl (by simp)) _;refine⟨k+1,updV J k wr.heap.size,by go_num,by omega,(e6.out.trans (KM.out.mono (by simp))).trans k1,?_,fun i hi=>?_,fun i j hi hj he=>?_⟩
    ·have:=eg.out.set_ k (.map (some wr.heap.size))
     rwa [sM hlt]at this
    ·by_cases e:i=k
     ·subst e;rw[aE];exact⟨e4.out.kept k1 (by simpa using e4.out.ne_blk eg.out),e6.out.size⟩
     ·rw[aY e];obtain⟨h1,h2⟩:=I.out i (by omega);exact⟨(h1.kept KM.out (by simp)).kept k1 (by simpa using h1.ne_blk g0.out),h2⟩
    ·by_cases e1:i=k
     ·by_cases e2:j=k
      ·rw[e1,e2]
      ·rw[e1,aE,aY e2]at he;have:=(I.out j (by omega)).1.lt;omega
     ·by_cases e2:j=k
      ·rw[e2,aE,aY e1]at he;have:=(I.out i (by omega)).1.lt;omega
      ·rw[aY e1,aY e2]at he;exact b8.out i j (by omega) (by omega) he
   case measure=>simp[intOf];omega
  ·obtain rfl:k=16:=by omega
   rw[show(((16:Nat):Nat):Int)=(16:Int)from rfl]
   have g4:W0.heap.size+2<=l:=by have h1:=K5.out.size;have h2:=e7.out;have h3:=K4.out.size;have h4:=Z2.out;have h5:=ao.out;have h6:=Z5.out;omega
   have dm:Hid (Kept [] W0 wr):=hid ((K5.out.trans ad.out).fresh s (by simp;omega));have co:=hid ((eh.out.kept ad.out (by simp)).kept s (by simp;omega));have en:=hid ((eq.out.kept ad.out (by simp)).kept s (by simp;omega));have cm:=hid ((ap.out.kept ad.out (by simp)).kept s (by have:=Z5.out;have:=e7.out;simp;omega));have cp:Hid (Blk wr (l+1) 272 #[.slice (some ⟨l,0,none⟩) 16 16]):=hid (b9.out.kept s (by simp));have e5:Hid (Blk wr l 95 ((List.range 16).map fun i=>Value.map (some (J i))).toArray):=hid (by simpa [fC]using ab);have I:=hid b3;have b8:=hid b2;have a7:=gN o wr (by omega);have c0:wr.cell? ⟨W0.heap.size,0,none⟩=some (.pointer (some ⟨kb,0,none⟩)):=co.out.cell 0;have c1:wr.cell? ⟨kb,1,none⟩=some (.slice ma o mc):=Kept.cellOf (ci.out.cell 1) _ dm.out;have ey:Hid (W0.heap.size<=X.heap.size):=hid (K5.out.trans ad.out).size;clear s ab b3 b2 eh eq ap b9 ek;obtain⟨da,aa⟩:∃a:Array Value,(aB (List.replicate o false)).toArray=a:=⟨_,rfl⟩;rw[aa]at a7;have e9:=hid aa;clear aa;go_upto_region 11 with(fail);obtain⟨f,D⟩:∃n,wr.heap.size=n:=⟨_,rfl⟩;rw[D];obtain⟨x1,a4⟩:∃y,wr.alloc (.cells da 4)=y:=⟨_,rfl⟩
   have t1:Blk x1 f 4 da:=by rw[<-D,<-a4];exact Blk.new _ _ _
   have l1:x1.heap.size=f+1:=by rw[<-a4,World.size_alloc,D]
   have k1:Kept [] wr x1:=a4▸(Kept.refl _ _).alloc _;rw[a4];obtain⟨x2,a3⟩:∃y,x1.alloc (.cells #[.slice (some ⟨f,0,none⟩) o o] 200)=y:=⟨_,rfl⟩
   have t2:Blk x2 (f+1) 200 #[.slice (some ⟨f,0,none⟩) o o]:=by rw[<-l1,<-a3];exact Blk.new _ _ _
   have l2:x2.heap.size=f+1+1:=by rw[<-a3,World.size_alloc,l1]
   have k2:Kept [] x1 x2:=a3▸(Kept.refl _ _).alloc _;rw[a3];obtain⟨x3,a2⟩:∃y,x2.alloc (.cells #[.slice none 0 0] 23)=y:=⟨_,rfl⟩
   have t3:Blk x3 (f+1+1) 23 #[.slice none 0 0]:=by rw[<-l2,<-a2];exact Blk.new _ _ _
   have l3:x3.heap.size=f+1+1+1:=by rw[<-a2,World.size_alloc,l2]
   have k3:Kept [] x2 x3:=a2▸(Kept.refl _ _).alloc _;rw[a2];obtain⟨x4,au⟩:∃y,x3.alloc (.cells #[.nilFunc] 155)=y:=⟨_,rfl⟩
   have t4:Blk x4 (f+1+1+1) 155 #[.nilFunc]:=by rw[<-l3,<-au];exact Blk.new _ _ _
   have k4:Kept [] x3 x4:=au▸(Kept.refl _ _).alloc _;rw[au];have c4:x4.cell? ⟨f+1+1+1,0,none⟩=some .nilFunc:=t4.cell 0;have f4:=t4.frozen 0;have bl:Kept [] x1 x4:=(k2.trans k3).trans k4;have T1:=hid (t1.kept bl (by simp));have T2:=hid (t2.kept (k3.trans k4) (by simp));have T3:=hid (t3.kept k4 (by simp));have T4:=hid t4;have KX:=hid (k1.trans bl);have cb:=hid D;clear a4 a3 a2 au t1 t2 t3 t4 k1 k2 k3 k4 bl l1 l2 l3 a7 c0 c1 D;go_upto_region 12 with(fail);obtain⟨w9,av⟩:∃y,x4.setCell ⟨f+1+1+1,0,none⟩ (.func (.func 225) #[] #[.pointer (some ⟨f+1+1,0,none⟩),.pointer (some ⟨W0.heap.size,0,none⟩),.pointer (some ⟨f+1,0,none⟩),.pointer (some ⟨l+1,0,none⟩),.pointer (some ⟨W0.heap.size+1,0,none⟩),.pointer (some ⟨f+1+1+1,0,none⟩)])=y:=⟨_,rfl⟩;rw[av];have L:Kept [f+1+1+1] x4 w9:=av▸(Kept.refl _ _).setCell (Or.inl (by simp)) _
   have d3:l+1 < f:=by have:=cp.out.lt;have:=cb.out;omega
   have c7:V < f:=by have:=cm.out.lt;have:=cb.out;omega
   have dn:Hid (Kept [] W0 w9):=hid ((dm.out.trans KX.out).fresh L (by simp;omega));have up:∀ {b t cs},Blk wr b t cs->b < f->Blk w9 b t cs:=fun h hb=>(h.kept KX.out (by simp)).kept L (by simp;omega)
   have o1:W0.heap.size < f:=by omega
   have o2:l < f:=by omega
   have o3:W0.heap.size+1 < f:=by omega
   have c8:Pst W0 w9 ⟨f+1+1+1,W0.heap.size,kb,f+1+1,f+1,f,l+1,l,W0.heap.size+1,J⟩ 0 (rv00 V B) [] (List.replicate B (-1)) (List.replicate o false) (fun _ _=>[]):=by
    refine Pst.init dn.out (av▸T4.out.set_ 0 _) (up co.out o1) (T3.out.kept L (by simp)) (T2.out.kept L (by simp)) ?_ (up cp.out d3) (up e5.out o2) (up en.out o3) (up cm.out c7) (fun i hi=>((I.out i hi).1.kept KX.out (by simp)).kept L (by have:=(I.out i hi).1.lt;have:=cb.out;simp;omega)) ⟨?_,?_,fun i hi=>?_⟩ ?_ b8.out ?_ hb
    ·rw[e9.out];exact T1.out.kept L (by simp;omega)
    ·show W0.heap.size<=f+1+1;omega
    ·show W0.heap.size<=f;omega
    ·exact Nat.le_trans ey.out (I.out i hi).2
    ·show f+1+1≠W0.heap.size+1;omega
    ·have:=ao.out;have:=Z2.out;omega
   have f6:=hid c8
   have f5:Hid (mz W0 (⟨f+1+1+1,W0.heap.size,kb,f+1+1,f+1,f,l+1,l,W0.heap.size+1,J⟩:PC) M B (o+1)):=by
    have:=lH (C:=(⟨f+1+1+1,W0.heap.size,kb,f+1+1,f+1,f,l+1,l,W0.heap.size+1,J⟩:PC)) HR.out (fun d=>pU HR.out) (o+1);rw[f7.out,f9.out]at this;exact this
   have d9:GoodG M (fun _ _=>[]):=⟨fun _ _ _ h=>(by cases h),fun _ _=>Nat.zero_le _⟩
   have d6:∀y,cntG M (fun _ _=>[]) y=if y < 0 then 1 else 0:=fun y=>by
    rw[if_neg (by omega)]
    unfold cntG
    simp[fS]
   have fr:=hid d9;have fv:=hid d6;have c0:w9.cell? ⟨W0.heap.size,0,none⟩=some (.pointer (some ⟨kb,0,none⟩)):=c8.cl.hk.cell 0;have c1:w9.cell? ⟨kb,4,none⟩=some (.slice ca B cc):=Kept.cellOf (ci.out.cell 4) _ dn.out;clear c8 av L up T1 T2 T3 T4 co cp e5 en cm I b8 KX d9 d6;go_wp2_with fail;clear c0 c1
   go_loopw [41] (fun v wi=>∃(u N:Nat) (rv:Nat->Nat->Value) (R:List Nat) (A:List Int) (T:List Bool) (G:Gv),v=.int .i64 (u:Int)/\u<=B/\Pst W0 wi (⟨f+1+1+1,W0.heap.size,kb,f+1+1,f+1,f,l+1,l,W0.heap.size+1,J⟩:PC) N rv R A T G/\N<=u/\A.length=B/\T.length=o/\GoodG M G/\∀y,cntG M G y=if y < u then 1 else 0) (fun v _=>B - (intOf v).toNat)
   case atStart=>exact⟨0,0,_,_,_,_,_,rfl,by omega,f6.out,by omega,by simp,by simp,fr.out,fv.out⟩
   case round =>
    obtain⟨u,N,rv,R,A,T,G,rfl,g5,Y,hN,hA,hT,hG,c5⟩:=hrel;have HP:=hid Y;have HG:=hid hG;have an:=hid c5;have HA:=hid hA;have HT:=hid hT
    by_cases hlt:u < B
    ·have hlt':(u:Int) < (B:Int):=by omega
     obtain⟨cz,c3⟩:∃y,wr.setCells f 0 (List.replicate o (.bool false))=y:=⟨_,rfl⟩;have O:=Y.clear;rw[hT]at O;have O:Pst W0 cz (⟨f+1+1+1,W0.heap.size,kb,f+1+1,f+1,f,l+1,l,W0.heap.size+1,J⟩:PC) N rv R A (List.replicate o false) G:=c3▸O;have a5:=Y.cl.htr
     have b4:(Builtin.clear_ #[200] 0 #[.slice (some ⟨f,0,none⟩) o o]).run prog wr=.ok (.tuple #[]) cz:=by
      rw[<-c3]
      rcases Nat.eq_zero_or_pos o with h0|h0
      ·rw[h0]
       simp[Builtin.clear_,run_underlying underlying200,World.setCells]
      ·refine Lib.run_clear_slice wr 200 4 0 (.bool false) underlying200 (fun w=>by kernel_rfl) rfl rfl f 0 o o h0 (fun j hj=>?_) fun j _=>a5.frozen _;have:=a5.cell (0+j);rw[show(⟨f,0+j,none⟩:Addr)=⟨f,0+j,none⟩from rfl]at this;have h2:wr.cell? ⟨f,0+j,none⟩=(aB T).toArray[0+j]?:=this;rw[h2]
       simp[aB,hT,hj]
     obtain⟨ra,rc,r,_⟩:=cT (Y.rws.own 16 0);rw[gY,bJ]at r
     have c0:wr.cell? ⟨f+1,0,none⟩=some (.slice (some ⟨f,0,none⟩) o o):=by have:=Y.cl.ht.cell 0;rw[hT]at this;exact this
     have d0:cz.cell? ⟨f+1+1,0,none⟩=some (.slice ra R.length rc):=by have:=O.cl.hr.cell 0;rw[r]at this;exact this
     have f0:cz.frozen? ⟨f+1+1,0,none⟩=false:=O.cl.hr.frozen 0;have du:=hid O.drop;clear Y O c3 a5 r hA hT hG c5;go_upto_region 17 with(first|(simp only[b4])|go_in);obtain⟨w3,bp⟩:∃y,cz.setCell ⟨f+1+1,0,none⟩ (.slice none 0 0)=y:=⟨_,rfl⟩;have c9:Pst W0 w3 (⟨f+1+1+1,W0.heap.size,kb,f+1+1,f+1,f,l+1,l,W0.heap.size+1,J⟩:PC) N (upd2 rv 16 0 (.slice none 0 0)) [] A (List.replicate o false) G:=bp▸du.out;rw[bp];have p0:w3.cell? ⟨f+1+1+1,0,none⟩=some (.func (.func 225) #[] #[.pointer (some ⟨f+1+1,0,none⟩),.pointer (some ⟨W0.heap.size,0,none⟩),.pointer (some ⟨f+1,0,none⟩),.pointer (some ⟨l+1,0,none⟩),.pointer (some ⟨W0.heap.size+1,0,none⟩),.pointer (some ⟨f+1+1+1,0,none⟩)]):=c9.cl.hp.cell 0
     have a9:∀m,m < M.nm->M.cap m (M.win u)<=4096:=fun m hm=>by
      rw[e8.out];obtain⟨_,_,_,_,h⟩:=HR.out.mem (m:=m) (by rw[HNM'.out,<-b7.out];exact hm) (M.win u);exact h
     have bn:=wt_le (w:=M.win u) (T:=tf (List.replicate o false)) HG.out a9
     have bq:Hid (Calls prog 225 #[.int .i64 (u:Int),.pointer (some ⟨f+1+1,0,none⟩),.pointer (some ⟨W0.heap.size,0,none⟩),.pointer (some ⟨f+1,0,none⟩),.pointer (some ⟨l+1,0,none⟩),.pointer (some ⟨W0.heap.size+1,0,none⟩),.pointer (some ⟨f+1+1+1,0,none⟩)] w3 (PlE W0 (⟨f+1+1+1,W0.heap.size,kb,f+1+1,f+1,f,l+1,l,W0.heap.size+1,J⟩:PC) M u N (upd2 rv 16 0 (.slice none 0 0)) [] A (List.replicate o false) G)):=by
      refine f5.out w3 N _ [] A _ G u ?_ c9 HG.out hlt (by rw[List.length_replicate,b7.out]) HA.out ?_ (by omega)
      ·simp[untr]
      ·have:=b7.out;rw[this]at bn;have:o*4096<=64*4096:=Nat.mul_le_mul_right _ bv;simp only[List.length_nil];omega
     have f3:Hid (wt M G (M.win u) (tf (List.replicate o false))<=262144):=hid (by
      have:=b7.out;rw[this]at bn;have:o*4096<=64*4096:=Nat.mul_le_mul_right _ bv
      omega)
     clear c9 bp b4 c0 d0 f0 du bn a9;go_wp2_with (go_at_call 225;with_reducible refine bq.out.mono ?_);rintro e w6 ⟨rv',R',A',T',G',N',b,rfl,hP',hN',hA',hT',_,_,p⟩;clear p0
     cases b with
     |true =>
      rw[if_pos rfl]at p;have HP':=hid hP';have e0:=hid p;have HA':=hid hA';have HT':=hid hT';have HN':=hid hN';clear hP' p hA' hT' hN' bq;go_wp2_with fail
      go_roundw
      case rel=>exact⟨u+1,N',rv',R',A',T',G',by go_num,by omega,HP'.out,by have:=HN'.out;omega,HA'.out.trans HA.out,by rw[HT'.out,List.length_replicate],e0.out.good,fun y=>by
       rw[e0.out.cnt,an.out]
       by_cases h1:y=u
       ·subst h1;rw[if_neg (by omega),if_pos rfl,if_pos (by omega)]
       ·rw[if_neg h1]
        by_cases h2:y < u
        ·rw[if_pos h2,if_pos (by omega)]
        ·rw[if_neg h2,if_neg (by omega)]⟩
      case measure=>simp[intOf];omega
     |false =>
      rw[if_neg (by decide)]at p;obtain⟨hG',_,b1,cx⟩:=p;subst hG'
      have cy:¬Feas M B:=ww HG.out (by
       have h1:tf (List.replicate o false)=fun _=>false:=funext fun m=>by
        unfold tf
        by_cases hm:m < o <;> simp[hm]
       rw[h1]at b1
       exact b1) (by rw[an.out,if_neg (by omega)]) (fun y=>by rw[an.out];split <;> omega) (fun y hy=>by
       rw[an.out]at hy
       by_cases h2:y < u
       ·omega
       ·rw[if_neg h2]at hy;cases hy) hlt
      have P:=hP'.rws.own 16 0;rw[gY]at P;have ex:0 < R'.length:=List.length_pos_of_mem b1.me;obtain⟨g,rc',r,_⟩:=qd P (j:=0) (by rw[bJ];exact ex);rw[bJ]at r;have af:=hid (nJ P (by have:=f3.out;rw[bJ];simp only[List.length_nil]at cx;omega));rw[r]at af
      have q0:w6.cell? ⟨f+1+1,0,none⟩=some (.slice (some ⟨g,0,none⟩) R'.length rc'):=by have:=hP'.cl.hr.cell 0;rw[r]at this;exact this
      have HP':=hid hP';have f8:=hid cy;have ds:=hid r;clear hP' b1 cx P r cy bq;go_upto_region 18 with(fail);go_wp2_with (go_at_call 85;with_reducible refine af.out.mono ?_)
      first|(rintro e X rfl ⟨cv,k7⟩)|(rintro e X ⟨rfl,cv,k7⟩)
      have q:=HP'.out.cl.ints k7 (fun z hz _=>HP'.out.obl_int (i:=16) (m:=0) (by rw[ds.out];exact hz));have K7:Hid (Kept [] W0 X):=hid q.k0;have g3:=hid q.ha
      have q1:X.cell? ⟨f+1+1,0,none⟩=some (.slice (some ⟨g,0,none⟩) R'.length rc'):=by have:=q.hr.cell 0;rw[ds.out]at this;exact this
      obtain⟨ag,ac,E,_⟩:=cT (HP'.out.rws.own 17 0)
      have q2:X.cell? ⟨W0.heap.size+1,0,none⟩=some (.slice ag (rlOf R' A' G' 17 0).length ac):=by have:=q.ha.cell 0;rw[E]at this;exact this
      have f2:X.frozen? ⟨W0.heap.size+1,0,none⟩=false:=q.ha.frozen 0
      have er:¬W0.heap.size+1=f+1+1:=by omega
      clear q cv k7 q0 af;go_upto_region 19 with(fail);refine ar [2] (fun w'=>w'.cell? ⟨f+1+1,0,none⟩=some (.slice (some ⟨g,0,none⟩) R'.length rc')) (by kernel_rfl) (by first|exact q1|simpa using q1) (fun hH=>?_);obtain⟨y,hy⟩:∃y,X.drew=y:=⟨_,rfl⟩;have U:=g3.out.drew;rw[hy]at U hH ⊢;have KY:Hid (Kept [] W0 y):=hid (hy▸K7.out.drew);rw[E]at U;have c2:y.cell? ⟨W0.heap.size+1,0,none⟩=some (.slice ag (rlOf R' A' G' 17 0).length ac):=U.cell 0;have g2:y.frozen? ⟨W0.heap.size+1,0,none⟩=false:=U.frozen 0;have fz:=hid U;have HQ:=hid hH;clear hy U q1 q2 f2 E;refine ah [2] (i:=0) (v:=?tv0) rfl (by kernel_rfl) (by kernel_rfl) (by kernel_rfl) (by kernel_rfl) (fun _ _ _ h=>h) (Or.inl ⟨by rfl,?ty0⟩) hH ?tr0
      case ty0=>intro w' ev;(try dsimp only at ev);go_simp;first|done|with_reducible rfl
      (try simp only[Act.put,List.setIfInBounds_toArray,List.set_cons_zero,List.set_cons_succ])
      refine ai (rs:=[1]) (by kernel_rfl) (by simp) ?_;refine ae.cons rfl (fun K hK=>?_) ae.nil;go_simp;refine hK.out _ _ ((World.cell?_setCell_far _ _ _ _ er).trans HQ.out) (fun hH=>?_);clear hK K
      (try simp only[Act.put,List.setIfInBounds_toArray,List.set_cons_zero,List.set_cons_succ])
      refine ai (rs:=[2]) (by kernel_rfl) (by simp) ?_;refine ae.last rfl (by kernel_rfl) (fun K hK=>?_);go_simp;refine hK.out _ _ ?_;clear hK K
      (try simp only[Act.put,List.setIfInBounds_toArray,List.set_cons_zero,List.set_cons_succ])
      refine ak (by kernel_rfl) ?_ _;go_wp2_with fail;refine lP rfl ((fz.out.set_ 0 (.slice none 0 0)).cell 0) rfl ⟨KY.out.setCell (Or.inr (Nat.le_succ _)) _,_,some ⟨g,0,none⟩,R'.length,rc',rfl,Or.inr ⟨rfl,f8.out⟩⟩
    ·obtain rfl:u=B:=by omega
     obtain⟨ag,ac,E,_⟩:=cT (Y.rws.own 17 0);rw[pO,hA]at E
     have c0:wr.cell? ⟨W0.heap.size+1,0,none⟩=some (.slice ag u ac):=by have:=Y.cl.ha.cell 0;rw[E]at this;exact this
     have f0:wr.frozen? ⟨W0.heap.size+1,0,none⟩=false:=Y.cl.ha.frozen 0;have c6:=Y.cl.ha;rw[E]at c6;have g1:=hid c6;have fn:=hid Y.cl.k0;have fs:Hid (Feas M u):=hid (xd HG.out fun y hy=>by rw[an.out,if_pos hy]);clear Y c6 E hA hT hG c5;go_wp2_with fail;refine lP rfl ((g1.out.set_ 0 _).cell 0) rfl ⟨fn.out.setCell (Or.inr (Nat.le_succ _)) _,_,none,0,0,rfl,Or.inl ⟨rfl,rfl,rfl,fs.out⟩⟩
theorem mY{W0:World}{kb:Nat}{c:Crw}{can:List (List Bool)}(hr:Rck W0 kb c can) :
  Calls prog 146 #[.pointer (some ⟨kb,0,none⟩)] W0 fun e w'=>Kept [] W0 w'/\∃b,e=.returned (.bool b)/\(b=true↔Feas (mtOf c can hr.lens) c.us.length):=by
 have m:=hid (sL hr);have g:∀(w:World) (a:Option Addr) (n c n' c':Nat),(binOp .eql 23 (.slice a n c) (.slice none n' c')).run prog w=.ok (.bool a.isNone) w:=fun w a n c n' c'=>Lib.run_eql_slice_nil w _ _ a n c n' c' underlying23
 go_enter func146,ntmps146
 go_wp2_with (go_at_call 191;with_reducible refine m.out.mono ?_);rintro e o ⟨d,a,s,n,p,rfl,f⟩;have k:=hid d;have l:=hid f;clear d f;go_wp2_with fail;go_ret;refine⟨k.out,s.isNone,rfl,?_⟩
 rcases l.out with⟨rfl,_,_,h⟩|⟨j,i⟩
 ·exact⟨fun _=>h,fun _=>rfl⟩
 ·cases s with
  |none=>cases j
  |some s=>exact⟨fun h=>(by cases h),fun h=>absurd h i⟩
theorem qz:(prog.info? 200).map (fun i=>(i.zero,i.size,i.bytes))=some (some (.slice none 0 0),1,24):=by kernel_rfl
theorem gT{w:World}{ops:Array Oper}{rest:List Oper}{o:Oper}{a:Act}{Q:Exit->Act->World->Prop}(hgd:o.guard=none)(s x:Operand)
  (ho:o.op=.call { callee:=.builtin .append,args:=#[s,x],argTypes:=#[197,197] })
  (base:Nat) (v:Value) (hs:a.eval s=v) (hown:w.ownsRow base 200 1 v 0 [])
  (u:Value) (m:Nat) (l:List Value) (hx:a.eval x=u) (hrow:Row w 1 u m l) (h1:∀u∈l,u.oneCell'=true) (hsm:m<=1000000000) (hbase:base<=w.heap.size)
  (h:∀a' c' w',w'.ownsRow base 200 1 (.slice a' m c') m l->Kept (obl v) w w'->wpList prog ops Q rest (a.put o.dst (.slice a' m c')) w') :
  wpList prog ops Q (o::rest) a w:=by
 obtain⟨f,g,d,c,b⟩:=info_parts qz;refine wpList_plain hgd fun _ hK=>bL s x 197 ho base 200 f (.slice none 0 0) 1 24 underlying197 g d c b rfl (by decide) v 0 [] hs hown u m l hx hrow h1 (by unfold maxLen;omega) (by omega) hbase ?_;intro a' c' w' e i _;rw[Nat.zero_add,List.nil_append]at e;rw[Nat.zero_add];exact hK _ _ (h a' c' w' e i)
theorem ml(v:Value)(n:Nat)(l:List Value)(w:World)(h:Row w 1 v n l)(h1:∀u∈l,u.oneCell'=true)(hn:n<=1000000000) :
  Calls prog 190 #[v] w fun e w'=>∃a c,e=.returned (.slice a n c)/\w'.ownsRow w.heap.size 200 1 (.slice a n c) n l/\Kept [] w w':=by
 obtain⟨a,c,rfl,_,_⟩:=h.form;have o:=hid h;have z:=hid h1
 have y:Hid (l.length=n):=by show _=_;simpa using h.1
 have p:∀(w:World) (a:Option Addr) (n c n' c':Nat),(binOp .eql 197 (.slice a n c) (.slice none n' c')).run prog w=.ok (.bool a.isNone) w:=fun w a n c n' c'=>Lib.run_eql_slice_nil w _ _ a n c n' c' underlying197;clear h h1
 cases a with
 |none =>
  have i:Hid (n=0):=by
   show n=0
   rcases Nat.eq_zero_or_pos n with i|r
   ·exact i
   ·obtain⟨b,q,x,_⟩:=o.out.at_ r
    cases x
  go_enter func190,ntmps190
  go_wp2_with fail;go_ret;have s:l=[]:=List.eq_nil_of_length_eq_zero (by rw[y.out,i.out]);rw[i.out,s];exact⟨none,0,rfl,⟨rfl,Or.inl ⟨rfl,rfl⟩⟩,Kept.refl _ _⟩
 |some ad =>
  go_enter func190,ntmps190
  have d:(w.alloc (.cells #[] 200)).ownsRow w.heap.size 200 1 (.slice (some ⟨w.heap.size,0,none⟩) 0 0) 0 []:=World.ownsRow_made w #[] 0 (Nat.le_refl _) (Nat.zero_le _) rfl;have m:=hid d;have f:=o.out.kept ((Kept.refl [] w).alloc (.cells #[] 200))
  have t:w.heap.size<=(w.alloc (.cells #[] 200)).heap.size:=by simp
  go_upto_region 3 with(fail);go_wp2_with (refine gT rfl _ _ rfl w.heap.size (.slice (some ⟨w.heap.size,0,none⟩) 0 0) rfl d (.slice (some ad) n c) n l rfl f z.out hn t ?_);intro a' c' A g j;go_wp2;go_ret;exact⟨a',c',rfl,g,((Kept.refl [] w).alloc _).fresh j fun k j=>(aA m.out k j).1⟩
end Go.Proofs.YtpcmamoomaddoaaGreatDoor
