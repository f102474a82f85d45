import Derived.Test.YtpcmamoomaddoaaGreatDoorCit
import Derived.WideKeyEntry
set_option maxRecDepth 100000
set_option maxHeartbeats 32000000
namespace Go.Proofs.YtpcmamoomaddoaaGreatDoor
open Go.Maps Go.RowKit Go.ChangeMaps
theorem oK{P:Program}{t k e:TypeId}(hu:P.underlying t=some (.map k e))(d:Nat)(mo:Option Nat)(w:World):(Op.equalIn (d+1) t (.map mo) (.map none)).run P w=.ok mo.isNone w:=by
 unfold Op.equalIn
 rw[Sem.run_bind,run_underlying hu];simp only[Result.andThen_ok]
 cases mo <;> rfl
theorem xe{P:Program}{t k e:TypeId}(hu:P.underlying t=some (.map k e))(mo:Option Nat)(w:World):(binOp .eql t (.map mo) (.map none)).run P w=.ok (.bool mo.isNone) w:=by
 show(Op.equal t (.map mo) (.map none) >>= fun r=>pure (Value.bool r)).run P w=_
 rw[Sem.run_bind,show Op.equal t (.map mo) (.map none)=Op.equalIn (9999+1) t (.map mo) (.map none)from rfl,oK hu]
 rfl
section
variable {P:Program} {kt:TypeId} {α:Type} {E:KeyEnc P kt α} {w:World} {b n:Nat} {f:α->Option Value}
theorem am.of_heap(h:am E w b n f){w':World}(hb:w'.heap[b]?=w.heap[b]?):am E w' b n f:=by
 obtain⟨D,⟨es,clock,h1,h2,h3,h4⟩,h5⟩:=h;exact⟨D,⟨es,clock,hb.trans h1,h2,h3,h4⟩,h5⟩
theorem bN{w:World}{b:Nat}{o:Obj}{es:Array MapEntry}{c:Nat}(h:w.heap[b]?=some (.map es c)):(setBlock w b o).heap[b]?=some o:=heap_setBlock_same h o
theorem am.entry[DecidableEq α](h:am E w b n f){x:α}(hx:E.ok x){t e:TypeId}(ht:P.underlying t=some (.map kt e)){z:Value}(hz:∀u:World,(zeroValue e).run P u=.ok z u)(hn:n < maxLen) :
  ∃(v0:Value) (st:Nat) (w1:World),(Instr.mapEntry t (.map (some b)) (E.val x)).run P w=.ok (.tuple #[v0,goInt st]) w1/\w.grownBy w1 (some b)/\w1.heap.size=w.heap.size /\
   ∀(w2:World) (u:Value),w2.heap[b]?=w1.heap[b]?->∃w3,(Instr.entryStore t (.map (some b)) (goInt st) u).run P w2=.ok () w3/\am E w3 b (n+1) (fun y=>if y=x then some u else f y)/\w2.grownBy w3 (some b)/\w3.heap.size=w2.heap.size:=by
 obtain⟨D,G,O⟩:=h;have K:=E.keyed;have k:=E.of hx
 have B:∀u:Value,∃w',(Instr.mapUpdate t (.map (some b)) (E.val x) u).run P w=.ok () w'/\am E w' b (n+1) (fun y=>if y=x then some u else f y):=fun u=>by
  obtain⟨w',i,M,Q⟩:=G.store K ht hn (val:=u) (d:=.held u) (ps:=[]) k rfl;exact⟨w',i,_,M,am.put_ hx G.isMap O⟩
 obtain⟨m,g,o,F,R,T⟩:=G;obtain⟨L,I,_⟩:=F.stamped
 have l:∀(w:World) (m es':Array MapEntry) (c c':Nat),w.heap[b]?=some (.map m c)->w.grownBy (setBlock w b (.map es' c')) (some b)/\(setBlock w b (.map es' c')).heap.size=w.heap.size:=fun w m es' c c' o=>by
  refine⟨World.mapTurned.grown ⟨m,c,es',c',o,rfl⟩,by simp[setBlock]⟩
 rcases K.find w k m.toList F.keys with⟨A,v⟩|⟨j,e0,A,v,C⟩
 ·refine⟨z,g,setBlock w b (.map (m.push ⟨E.val x,z,g⟩) (g+1)),?_,(l w m _ g _ o).1,(l w m _ g _ o).2,fun w2 u hw2=>?_⟩
  ·simp[Instr.mapEntry,run_underlying ht,MapKept.run_getObj_map o,K.check w false k,A,hz,MapKept.run_setObj_map _ o,Result.andThen,setBlock]
  ·rw[bN o]at hw2;obtain⟨w',i,s⟩:=B u
   have hrun':(Instr.mapUpdate t (.map (some b)) (E.val x) u).run P w=.ok () (setBlock w b (.map (m.push ⟨E.val x,u,g⟩) (g+1))):=by
    simp[Instr.mapUpdate,run_underlying ht,MapKept.run_getObj_map o,K.check w false k,A,MapKept.run_setObj_map _ o,Result.andThen,setBlock]
   rw[hrun']at i;injection i with _ i;subst i
   have q:(m.push ⟨E.val x,z,g⟩).findIdx? (fun e=>((e.born:Nat):Int)==((g:Nat):Int))=some m.size:=by
    rw[WideElems.findIdx_arr];refine WideElems.findIdx_born (e0:=⟨E.val x,z,g⟩) ?_ (by simp);rw[Array.toList_push,List.map_append];refine List.nodup_append.2 ⟨I,by simp,fun a ha c hc e1=>?_⟩;obtain⟨y,N,rfl⟩:=List.mem_map.1 ha;have:=L y N;simp at hc;omega
   have p:(m.push ⟨E.val x,z,g⟩).modify m.size (fun e=>{ e with val:=u })=m.push ⟨E.val x,u,g⟩:=by
    apply Array.ext'
    rw[Array.toList_modify,Array.toList_push,Array.toList_push,<-Array.length_toList,WideElems.modify_last]
   refine⟨setBlock w2 b (.map (m.push ⟨E.val x,u,g⟩) (g+1)),?_,s.of_heap ((bN hw2).trans (bN o).symm),(l w2 _ _ _ _ hw2).1,(l w2 _ _ _ _ hw2).2⟩
   simp[Instr.entryStore,MapKept.run_getObj_map hw2,asInt,asIntOf,goInt,q,p,MapKept.run_setObj_map _ hw2,Result.andThen,setBlock]
 ·have J:m[j]?=some e0:=by simpa using v
  have r:m.modify j (fun e=>{ e with key:=E.val x })=m:=by
   apply Array.ext'
   rw[Array.toList_modify,modify_eq_set _ _ _ _ v,show({ e0 with key:=E.val x }:MapEntry)=e0 by rw[<-C]];exact WideElems.set_self _ _ _ v
  refine⟨e0.val,e0.born,setBlock w b (.map m g),?_,(l w m _ g _ o).1,(l w m _ g _ o).2,fun w2 u hw2=>?_⟩
  ·simp[Instr.mapEntry,run_underlying ht,MapKept.run_getObj_map o,K.check w false k,A,J,C,K.stays w k,r,MapKept.run_setObj_map _ o,Result.andThen,setBlock]
  ·rw[bN o]at hw2;obtain⟨w',i,s⟩:=B u
   have hrun':(Instr.mapUpdate t (.map (some b)) (E.val x) u).run P w=.ok () (setBlock w b (.map (m.modify j (fun e'=>{ e' with key:=E.val x,val:=u })) g)):=by
    simp[Instr.mapUpdate,run_underlying ht,MapKept.run_getObj_map o,K.check w false k,A,J,C,K.stays w k,MapKept.run_setObj_map _ o,Result.andThen,setBlock]
   rw[hrun']at i;injection i with _ i;subst i
   have q:m.findIdx? (fun e=>((e.born:Nat):Int)==((e0.born:Nat):Int))=some j:=by
    rw[WideElems.findIdx_arr];exact WideElems.findIdx_born I v
   have p:m.modify j (fun e=>{ e with val:=u })=m.modify j (fun e'=>{ e' with key:=E.val x,val:=u }):=by
    apply Array.ext'
    rw[Array.toList_modify,Array.toList_modify,modify_eq_set _ _ _ _ v,modify_eq_set _ _ _ _ v,<-C]
   refine⟨setBlock w2 b (.map (m.modify j (fun e'=>{ e' with key:=E.val x,val:=u })) g),?_,s.of_heap ((bN hw2).trans (bN o).symm),(l w2 _ _ _ _ hw2).1,(l w2 _ _ _ _ hw2).2⟩
   simp[Instr.entryStore,MapKept.run_getObj_map hw2,asInt,asIntOf,goInt,q,p,MapKept.run_setObj_map _ hw2,Result.andThen,setBlock]
theorem am.run_look(h:am E w b n f){x:α}(hx:E.ok x){t e:TypeId}(ht:P.underlying t=some (.map kt e))(z:Value)(hz:∀w,(zeroValue e).run P w=.ok z w):(Instr.lookup t (.map (some b)) (E.val x) false).run P w=.ok ((f x).getD z) w:=by
 obtain⟨D,h1,h2⟩:=h;obtain⟨v,ps,hrun,hv⟩:=h1.lookup E.keyed ht (hz w) (zd:=.held z) (zp:=[]) rfl (E.of hx)
 have e1:v=(f x).getD z:=by
  have:=h2 x hx
  unfold rawV at hv
  injection hv with hv;injection hv with hv _
  cases hf:f x with
  |none=>rw[hf]at this;rw[atKey_of_not_has this]at hv;injection hv
  |some u=>rw[hf]at this;rw[this]at hv;injection hv
 rw[hrun,e1]
theorem am.run_len(h:am E w b n f){L:List α}(hn:L.Nodup)(hok:∀x∈L,E.ok x)(hL:∀x,E.ok x->((f x).isSome=true↔x∈L)){t e:TypeId}(ht:P.underlying t=some (.map kt e))(ty:TypeId):(Builtin.len_ #[t] ty #[.map (some b)]).run P w=.ok (.int .i64 (L.length:Int)) w:=by
 obtain⟨D,h1,h2⟩:=h.size_eq hn hok hL;rw[h1.len ht,h2]
theorem aK.left_kept{w':World}{r:Nat}{got:List α}{S:List Nat}(h:aK E w b r n f got)(k:Kept S w w')(hb:b∉S)(hr:r∉S):w'.rangeLeft b r=w.rangeLeft b r:=by
 obtain⟨D,left,cnt,h1,h2⟩:=h;have h3:=h1.owns.lt;have h4:=h1.lt;have e:=h1.left_eq;obtain⟨es,clock,since,seen,c0,hb',F,hs,hD,hr',rest⟩:=h1;have h5:w'.ranges P kt rawV b r n D left cnt:=⟨es,clock,since,seen,c0,(k.block b h3 hb).trans hb',F,hs,hD,(k.block r h4 hr).trans hr',rest⟩;rw[h5.left_eq,e]
theorem df{w w1:World}{ops:Array Oper}{o:Oper}{a:Act}{Q:Exit->Act->World->Prop}{X:Prop}{K:Act->World->Prop}(hgd:o.guard=none)(d:Tmp)(hd:o.dst=some d)(m k:Operand)(t:TypeId)(hop:o.op=Op.mapEntry t m k){v mv kv:Value}(hm:a.eval m=mv)(hk:a.eval k=kv)
  (hrun:(Instr.mapEntry t mv kv).run P w=.ok v w1) (hK:K (a.put (some d) v) w1):if Region.wanted o (yielded ops a.tmps)=true then Oper.wp P o a w K Q else X:=by
 rw[if_pos (by simp[Region.wanted,hgd])]
 unfold Oper.wp
 simp[execOp,hop,hm,hk,hrun,Result.andThen]
 show K (a.put o.dst v) w1
 rw[hd];exact hK
theorem de{w w1:World}{ops:Array Oper}{o:Oper}{a:Act}{Q:Exit->Act->World->Prop}{X:Prop}{K:Act->World->Prop}(hgd:o.guard=none)(hd:o.dst=none)(m s x:Operand)(t:TypeId)(hop:o.op=Op.entryStore t m s x){mv sv xv:Value}(hm:a.eval m=mv)(hs:a.eval s=sv)(hx:a.eval x=xv)
  (hrun:(Instr.entryStore t mv sv xv).run P w=.ok () w1) (hK:K a w1):if Region.wanted o (yielded ops a.tmps)=true then Oper.wp P o a w K Q else X:=by
 rw[if_pos (by simp[Region.wanted,hgd])]
 unfold Oper.wp
 simp[execOp,hop,hm,hs,hx,hrun,Result.andThen]
 show K (a.put o.dst undef) w1
 rw[hd];exact hK
end
end Go.Proofs.YtpcmamoomaddoaaGreatDoor
