/- One number and a list joined: slices.Grow, slices.Concat. -/
import Derived.Test.YtpcdfepndmconaaGreatDoorIvu
import Derived.Lib.AppendZerosOnto
namespace Go.Proofs.YtpcdfepndmconaaGreatDoor
open Go.RowKit
theorem wpList_append_make {P:Program} {ops:Array Oper} {rest:List Oper} {o:Oper} {a:Act} {Q:Exit→Act→World→Prop} {w w':World} (hg:o.guard=none) (s x:Operand) (t k:TypeId)
  (ho:o.op=.call { callee:=.builtin .append,args:=#[s,x],argTypes:=#[t,k] }) (u y v:Value) (hs:a.eval s=u) (hx:a.eval x=y)
  (hrun:(Builtin.append_ #[t,k] o.type #[u,y]).run P w=.ok v w') (hK:wpList P ops Q rest (a.put o.dst v) w'):wpList P ops Q (o::rest) a w:=by
 refine wpList_plain hg fun K' hK'=>?_
 unfold Oper.wp
 simp [execOp,ho,resolve,invoke,builtin,hs,hx,hrun,Result.andThen]
 exact hK' _ _ hK
set_option maxRecDepth 100000 in
set_option maxHeartbeats 1000000 in
theorem grow_any (N:Nat) (w:World) (h1:1≤N) (hN:N≤1000):Calls Tryz.prog 163 #[.slice none 0 0,.int .i64 N] w fun e w'=>∃ g c,e=.returned (.slice (some ⟨g,0,none⟩) 0 c)∧w'.ownsRow w.heap.size 3 1 (.slice (some ⟨g,0,none⟩) 0 c) 0 []∧Kept [] w w':=by
 obtain ⟨i0,hi,hz0,hz1,hz2⟩:=info_parts infoInt;have hG:=grownCap_ge w N 0 3;have hL:=grownCap_le_maxLen w N 0 3 (by unfold maxLen;omega)
 have hrun:=Lib.run_append_grow_zeros w 24 3 24 3 i0 (.int .i64 0) .i64 .i64 Tryz.underlying24 Tryz.underlying3 hi hz0 none 0 0 [] (run_firstCells_none (w:=w.drew) i0.size 0 0 0) N (by omega) (by omega) (by omega) (by omega)
  (by rw [hz2];omega) (growslice_fits (by omega) (by rw [hz2];omega))
 simp only [Nat.zero_add] at hrun;obtain ⟨G,hGq⟩:∃ G,grownCap w N 0 3=G:=⟨_,rfl⟩;rw [hGq] at hrun hG hL
 unfold maxLen at hL
 obtain ⟨cs,hcs⟩:∃ cs,(#[]++Builtin.zeroCells (Value.int .i64 0).cells N++Builtin.zeroCells (Value.int .i64 0).cells (G - N):Array Value)=cs:=⟨_,rfl⟩
 have hsz:cs.size=G*1:=by
  rw [←hcs]
  simp [Builtin.zeroCells,Value.cells]
  omega
 have hrun':∀ ty,(Builtin.append_ #[24,3] ty #[.slice none 0 0,.int .i64 N]).run Tryz.prog w=.ok (.slice (some ⟨w.heap.size,0,none⟩) N G) (w.drew.alloc (.cells cs 3)):=by
  intro ty;rw [←hcs];exact hrun
 have hown:(w.drew.alloc (.cells cs 3)).ownsRow w.heap.size 3 1 (.slice (some ⟨w.heap.size,0,none⟩) 0 G) 0 [] :=
  ⟨rfl,Or.inr ⟨w.heap.size,G,cs,rfl,Nat.le_refl _,heap_alloc_new w.drew _,by omega,by unfold maxLen;omega,hsz,by simp⟩⟩
 have hk:Kept [] w (w.drew.alloc (.cells cs 3)):=(Kept.refl _ _).drew.alloc _
 have hG':(Question.appendCap N 0 3).cut (w.tape w.drawn (Question.appendCap N 0 3))=G:=by rw [←hGq];rfl
 have hcs':Builtin.zeroCells #[.int .i64 0] N++Builtin.zeroCells #[.int .i64 0] (G - N)=cs:=by rw [←hcs];simp [Value.cells]
 have w1:¬ (N:Int) < 0:=by omega
 have w2:0 < (N:Int):=by omega
 have w3:IntKind.i64.wrap (N:Int)=N:=by rw [IntKind.wrap_i64];omega
 clear hrun hcs hsz hG' hcs' hGq
 go_enter Tryz.func163,Tryz.ntmps163
 have HRUN:=Lib.hid hrun';clear hrun';go_wp2_with (at_builtin;refine wpList_append_make rfl _ _ 24 3 rfl _ _ _ rfl rfl (HRUN.out _) ?_);go_ret;exact ⟨_,_,rfl,hown,hk⟩
def GrowQ (w:World) (e:Ending) (w':World):Prop:=∃ g c,e=.returned (.slice (some ⟨g,0,none⟩) 0 c)∧w'.ownsRow w.heap.size 3 1 (.slice (some ⟨g,0,none⟩) 0 c) 0 []∧Kept [] w w'
theorem grow_any' (N:Nat) (w:World) (h1:1≤N) (hN:N≤1000):Calls Tryz.prog 163 #[.slice none 0 0,.int .i64 N] w (GrowQ w):=grow_any N w h1 hN
/-- how Concat ends -/
def CatQ (x:Int) (l:List Int) (w:World) (e:Ending) (w':World):Prop:=∃ v,e=.returned v∧Row w' 1 v (x::l).length (ints (x::l))∧Kept [] w w'
set_option maxRecDepth 100000 in
set_option maxHeartbeats 1000000 in
theorem concat_any (x:Int) (l:List Int) (va vb vl:Value) (w:World) (hn:l.length≤100) (hl:Row w 1 vl 2 [va,vb]) (ha:Row w 1 va 1 (ints [x])) (hb:Row w 1 vb l.length (ints l)) :
  Calls Tryz.prog 87 #[vl] w (CatQ x l w):=by
 have HA:=Lib.hid ha;have HB:=Lib.hid hb;obtain ⟨al,cl,rfl,_,_⟩:=hl.form;obtain ⟨aa,ca,rfl,_,hca⟩:=ha.form;obtain ⟨ab,cb,rfl,hlb,hcb⟩:=hb.form;obtain ⟨bl,ol,rfl,hcl⟩:=hl.at_ (by omega);have L0:Hid (∀ w',Kept [] w w'→w'.cell? ⟨bl,ol,none⟩=some (.slice aa 1 ca)):=Kept.cellOf (hcl 0 _ rfl);have L1:Hid (∀ w',Kept [] w w'→w'.cell? ⟨bl,ol+1,none⟩=some (.slice ab l.length cb)):=Kept.cellOf (hcl 1 _ rfl)
 have w3:IntKind.i64.wrap (1+(l.length:Int))=((l.length+1:Nat):Int):=by rw [IntKind.wrap_i64];omega
 clear hl ha hb hcl
 go_enter Tryz.func87,Tryz.ntmps87
 go_wp2_with fail
 go_loop [3,5,11] (fun vs _ vi=>∃ k m:Nat,k≤2∧vi=.int .i64 k∧vs=.int .i64 m∧m=(if k=0 then 0 else if k=1 then 1 else l.length+1)) (fun _ _ vi=>2 - (intOf vi).toNat)
 case atStart=>exact ⟨0,0,by omega,rfl,rfl,rfl⟩
 case round =>
  obtain ⟨k,m,hk,rfl,rfl,hm⟩:=hrel
  rcases (by omega:k=0∨k=1∨k=2) with rfl|rfl|rfl
  ·obtain rfl:m=0:=hm;have l0:=L0.out w (Kept.refl _ _);go_wp2_with fail
   go_round
   case rel=>exact ⟨1,1,by omega,rfl,rfl,rfl⟩
   case measure=>simp [intOf]
  ·obtain rfl:m=1:=hm;have l1:=L1.out w (Kept.refl _ _)
   have hs0:¬ ((l.length+1:Nat):Int) < 0:=by omega
   go_wp2_with fail
   go_round
   case rel=>exact ⟨2,l.length+1,by omega,rfl,rfl,rfl⟩
   case measure=>simp [intOf]
  ·obtain rfl:m=l.length+1:=hm;go_wp2_with (go_at_call 163;refine (grow_any' (l.length+1) _ (by omega) (by omega)).mono ?_);rintro e w1 ⟨g,c,rfl,hown,hk1⟩;go_wp2_with fail
   go_loopw [6,8,27] (fun vd _ vi wr=>∃ k m:Nat,k≤2∧vi=.int .i64 k∧m=(if k=0 then 0 else if k=1 then 1 else l.length+1)∧Hid (wr.ownsRow w.heap.size 3 1 vd m (ints ((x::l).take m)))∧Kept [] w wr) (fun _ _ vi _=>2 - (intOf vi).toNat)
   case atStart=>exact ⟨0,0,by omega,rfl,rfl,(by show World.ownsRow _ _ _ _ _ _ _;simpa [ints] using hown),hk1⟩
   case round =>
    obtain ⟨k,m,hk,rfl,hm,HO,hkr⟩:=hrel;have hsz:=hkr.size
    rcases (by omega:k=0∨k=1∨k=2) with rfl|rfl|rfl
    ·obtain rfl:m=0:=hm;have l0:=L0.out wr hkr;have hown:wr.ownsRow w.heap.size 3 1 _ 0 (ints []):=HO.out;go_wp2_with (at_builtin;refine wpList_append_ints rfl _ _ rfl w.heap.size _ 0 [] rfl hown (.slice aa 1 ca) 1 [x] rfl (HA.out.kept hkr) (by omega) (by omega) ?_);intro a3 c3 w3' hown3 hg3 hl3;have hk3:Kept [] w w3':=hkr.fresh hg3 (fun z hz=>(own_ge hown z hz).1);clear hg3 l0 hown;go_wp2_with fail
     go_roundw
     case rel=>exact ⟨1,1,by omega,rfl,rfl,hown3,hk3⟩
     case measure=>simp [intOf]
    ·obtain rfl:m=1:=hm;have l1:=L1.out wr hkr;have hown:wr.ownsRow w.heap.size 3 1 _ 1 (ints [x]):=HO.out;go_wp2_with (at_builtin;refine wpList_append_ints rfl _ _ rfl w.heap.size _ 1 [x] rfl hown (.slice ab l.length cb) l.length l rfl (HB.out.kept hkr) (by omega) (by omega) ?_);intro a3 c3 w3' hown3 hg3 hl3;have hk3:Kept [] w w3':=hkr.fresh hg3 (fun z hz=>(own_ge hown z hz).1);clear hg3 l1 hown;go_wp2_with fail
     go_roundw
     case rel=>exact ⟨2,1+l.length,by omega,rfl,by simp;omega,(by show World.ownsRow _ _ _ _ _ _ _;rw [show (x::l).take (1+l.length)=[x]++l by rw [Nat.add_comm];simp];exact hown3),hk3⟩
     case measure=>simp [intOf]
    ·obtain rfl:m=l.length+1:=hm;have hown:=HO.out;rw [show (x::l).take (l.length+1)=x::l by simp] at hown;have hrow:=Row.of_own hown (by omega);obtain ⟨a,c,rfl⟩:=own_form hown;clear hown;go_wp2_with fail;go_ret;exact ⟨_,rfl,hrow,hkr⟩
end Go.Proofs.YtpcdfepndmconaaGreatDoor
