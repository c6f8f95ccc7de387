/- Lemmas of one proof. -/
import Derived.Test.YthfkmcbblnbfaaaGreatDoorM0W
import Derived.RangeFuncNested
import Derived.RangeFuncBound
import Derived.RangeFuncCalls
import Derived.RangeFuncLeaves
import Derived.Shelf.Abstract
import Derived.Shelf.RegionOpen
import Derived.OwnWalkIn
import Derived.TacticsInMore
import Derived.LoopNIn
import Derived.LoopIn
import Derived.Test.YthfkmcbblnbfaaaGreatDoorM5W

namespace Go.Proofs.YthfkmcbblnbfaaaGreatDoor
set_option maxRecDepth 100000
set_option maxHeartbeats 16000000
section
open Go.RowKit Go.Shelf
attribute [local go_sem] Oper.semAt_some

def lx (W:World) (bs:Nat) (r:List UInt8):Prop:=W.heap[bs]? =some (.cells #[.string ⟨r.toArray⟩] 9 (0,0))
theorem lx.cell {W:World} {bs:Nat} {r:List UInt8} (h:lx W bs r):W.cell? ⟨bs,0,none⟩=some (.string ⟨r.toArray⟩):=by unfold lx at h;simp[World.cell?,h]
theorem lx.frozen {W:World} {bs:Nat} {r:List UInt8} (h:lx W bs r):W.frozen? ⟨bs,0,none⟩=false:=by unfold lx at h;simp[World.frozen?,h]
theorem lx.lt {a:World} {bs:Nat} {r:List UInt8} (h:lx a bs r):bs<a.heap.size:=(dE.1 h).1
theorem BV {a b:World} {e:Option Nat} (h:Below a.heap.size a b):a.grownBy b e:=⟨h.os,h.tape,h.output,h.size,fun d c _=>h.block d c⟩
theorem lx.below {a b:World} {bs:Nat} {r:List UInt8} (h:lx a bs r) (c:Below a.heap.size a b):lx b bs r:=(c.block bs h.lt).trans h
theorem lx.alloc {W:World} {bs:Nat} {r:List UInt8} (h:lx W bs r) (o:Obj):lx (W.alloc o) bs r:=(Below.heap_alloc W o bs h.lt).trans h
theorem Di (a:World) (bs:Nat) (v:Value):a.grownBy (a.setCell ⟨bs,0,none⟩ v) (some bs):=
 ⟨rfl,rfl,rfl,by simp[World.setCell],fun d _ c=>Below.heap_setCell _ _ _ _ (fun b=>c (by rw[b]))⟩
theorem lx.set {a:World} {bs:Nat} {r:List UInt8} (h:lx a bs r) (b:List UInt8):lx (a.setCell ⟨bs,0,none⟩ (.string ⟨b.toArray⟩)) bs b:=by
 unfold lx at h⊢;simp[World.setCell,Array.getElem?_modify,h]
theorem qz (b:UInt8) (r:List UInt8):(bW b r).2.1.length<=r.length:=by
 unfold bW;split;· simp
 split;· simp
 simp only[gJ];split <;> simp
theorem Qg (n l bs:Nat) (hn:1 <= n) (J:List UInt8 -> World -> Prop) (Jx:World -> Prop)
  (hJ:∀r W W',J r W -> W.grownBy W' (some bs) -> J r W')
  (hY:∀b r W,J (b::r) W -> lx W bs (b::r) -> r.length <= 140737488355320 -> YieldAt Fence.wide (n - 1) Tryz.prog l #[.agg #[.int .i64 (bW b r).1.c,.int .i64 (bW b r).1.a],.bool (bW b r).2.2] W fun e W'=>
   (e= .returned (.bool true) /\ (bW b r).2.2=true /\ J (bW b r).2.1 W' /\ W'.heap[bs]? =W.heap[bs]?) \/ (e= .returned (.bool false) /\ Jx W'))
  (r0:List UInt8) (W:World) (h0:J r0 W) (hc0:lx W bs r0) (hl0:r0.length <= 140737488355320) :
  CallsIn Fence.wide n Tryz.prog 156 #[.func (.yield l) #[] #[],.pointer (some ⟨bs,0,none⟩)] W fun e W'=>(∃v,e= .returned v) /\ (J [] W' \/ Jx W'):=by
 refine callsIn_of_wp Tryz.func156 rfl trivial ?_ rfl
 simp only[Tryz.ntmps156,kC,bC,aE,Nat.reduceAdd,Nat.reduceSub,Array.replicate_succ,Array.replicate_zero,List.push_toArray,List.append_toArray,cB,eQ]
 have hcell:=hc0.cell
 gi_wp2
 clear hcell
 gi_loopw [] (fun wr=> ∃r,J r wr /\ lx wr bs r /\ r.length <= 140737488355320) (fun wr=>match wr.cell? ⟨bs,0,none⟩ with | some (.string s)=>s.size | _=>0)
 case atStart=>exact⟨r0,h0,hc0,hl0⟩
 case round=>
  obtain⟨r,hj,hcap,hl⟩:=hrel
  have hcell:=hcap.cell
  have hfr:=hcap.frozen
  cases r with
  | nil=>
   gi_wp2
   go_end0
   exact⟨⟨_,rfl⟩,.inl hj⟩
  | cons b r=>
   gi_wp2_with (refine⟨trivial,?_⟩;gi_at_call 157;refine(callsIn_wide.2 (LW b r _ (by simp at hl;omega))).mono ?_;rintro e w' ⟨rfl,hb⟩)
   have hl':r.length <= 140737488355320:=by simp at hl;omega
   have hcap':=(hcap.below hb).alloc (.cells #[.int .i64 (bW b r).1.c,.int .i64 (bW b r).1.a] 86)
   have hj':J (b::r) (w'.alloc (.cells #[.int .i64 (bW b r).1.c,.int .i64 (bW b r).1.a] 86)):=hJ _ _ _ (hJ _ _ _ hj (BV hb)) (World.grownBy_alloc _ _ _)
   obtain⟨fn,tmps,assign,body,hy,hR⟩:=hY b r _ hj' hcap' hl'
   clear hcell hfr
   gi_wp2
   rw[hy]
   refine⟨fun _=>hn,hR.mono ?_⟩
   rintro e W3 (⟨rfl,hok,hJ3,hk3⟩ | ⟨rfl,hJx3⟩)
   ·have hc3:lx W3 bs (b::r):=hk3.trans hcap'
    have hcell3:=hc3.cell
    have hfr3:=hc3.frozen
    gi_wp2
    have hcs:=hc3.set (bW b r).2.1
    go_roundw
    case rel=>exact⟨_,hJ _ _ _ hJ3 (Di _ _ _),hcs,by have:=qz b r;omega⟩
    case measure=>
     have h1:=hcs.cell
     have h2:=hcap.cell
     have:=qz b r
     rw[h1,h2]
     simp[ByteArray.size]
     omega
   ·gi_wp2
    refine bodyPost_ret (results_none rfl _ _ _) rfl ?_
    exact⟨⟨_,rfl⟩,.inr hJx3⟩
end
