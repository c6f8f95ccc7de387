/- Lemmas of one proof. -/
import Derived.Test.YthfkmcbblnbfaaaGreatDoorM90W
import Derived.Test.YthfkmcbblnbfaaaGreatDoorM0W
import Derived.RangeFuncBox
import Derived.Maps.AppendAt
import Derived.Test.YthfkmcbblnbfaaaGreatDoorM22W

namespace Go.Proofs.YthfkmcbblnbfaaaGreatDoor
set_option maxRecDepth 100000
set_option maxHeartbeats 16000000
open Go.RowKit
section
open Go.RowKit Go.Shelf
attribute [local go_sem] Oper.semAt_some

theorem Qf (l:List UInt8) (w:World):Calls Tryz.prog 103 #[.string ⟨l.toArray⟩] w fun e w'=>e= .returned (.func (.func 156) #[] #[.pointer (some ⟨w.heap.size,0,none⟩)]) /\ w'=w.alloc (.cells #[.string ⟨l.toArray⟩] 9):=by
 go_enter Tryz.func103,Tryz.ntmps103
 go_wp2
 go_ret
 exact⟨rfl,rfl⟩

theorem yt:(Tryz.prog.info? 86).map (fun i=>(i.zero,i.size,i.bytes))=some (some (.agg #[.int .i64 0,.int .i64 0]),2,16):=by kernel_rfl
def eJ (o:bG):List Value:= [.int .i64 o.c,.int .i64 o.a]
structure xt (w:World) (l r:List UInt8) (W:World):Prop where
 ex:∃out v,Boxed W (w.heap.size+2) 77 v/\W.ownsRow (w.heap.size+4) 86 2 v out.length (out.flatMap eJ)/\dg r.length r out=bP l/\out.length<=40
 b0:Boxed W w.heap.size 77 (.slice none 0 0)
 b1:Boxed W (w.heap.size+1) 29 (.int .i64 0)
 below:Below w.heap.size w W
structure J6 (w:World) (l:List UInt8) (W:World):Prop where
 ex:∃e,bP l=([],e)/\Boxed W (w.heap.size+1) 29 (.int .i64 e)
 b0:Boxed W w.heap.size 77 (.slice none 0 0)
 below:Below w.heap.size w W
theorem vL {b:World} {base a size n:Nat} {e:TypeId} {v:Value} {xs:List Value} {o:Obj} (h:b.ownsRow base e size v n xs) (c:b.heap[a]? =some o) (g:o.isCells=false):v.ownBlock≠some a:=by
 rcases h.2 with ⟨rfl,_⟩ | ⟨f,j,k,rfl,_,i,_⟩
 ·simp[Value.ownBlock]
 intro d;obtain rfl:f=a:=by simpa [Value.ownBlock] using d
 rw[i] at c;cases c;cases g
theorem nV {b:World} {base a size n:Nat} {e:TypeId} {v:Value} {xs:List Value} (h:b.ownsRow base e size v n xs) (d:a<base):v.ownBlock≠some a:=by
 intro c;have:=(h.lt _ c).1;omega
theorem kX {a:World} {B c:Nat} {t:TypeId} {v:Value} {o:Obj} (h:Boxed a B t v) (b:a.heap[c]? =some o) (d:o.isCells=false):B≠c:=by
 rintro rfl;rw[show a.heap[B]? =_ from h] at b;cases b;cases d
def xO (w W:World) (row:Nat):Prop:=w.heap.size+3=row\/(w.heap.size<=row/\∃o,W.heap[row]? =some o/\o.isCells=false)
theorem xO.le {w b:World} {a:Nat} (h:xO w b a):w.heap.size<=a:=by rcases h with h | h <;> omega
theorem xO.box {w a:World} {b B:Nat} {t:TypeId} {v:Value} (h:xO w a b) (c:Boxed a B t v) (f:B≠w.heap.size+3):some B≠some b:=by
 rcases h with h | ⟨_,g,e,d⟩
 ·simp;omega
 simpa using kX c e d
theorem xt.kept {w W W':World} {l r:List UInt8} {row:Nat} (h:xt w l r W) (hg:W.grownBy W' (some row)) (hr:xO w W row):xt w l r W':=by
 obtain⟨⟨out,v,h2,ho,hd,h40⟩,h0,h1,hb⟩:=h
 refine⟨⟨out,v,h2.kept hg (hr.box h2 (by omega)),ho.kept hg (.inr ?_),hd,h40⟩,h0.kept hg (hr.box h0 (by omega)),h1.kept hg (hr.box h1 (by omega)),hb.grown hg hb.size (fun k e=>by cases e;exact hr.le)⟩
 rcases hr with h | ⟨_,o,ho',hc⟩
 ·exact nV ho (by omega)
 exact vL ho ho' hc
theorem xt.alloc {w W:World} {l r:List UInt8} (h:xt w l r W) (o:Obj):xt w l r (W.alloc o):=by
 obtain⟨⟨out,v,h2,ho,hd,h40⟩,h0,h1,hb⟩:=h
 exact⟨⟨out,v,h2.alloc _,ho.alloc _,hd,h40⟩,h0.alloc _,h1.alloc _,hb.alloc hb.size _⟩
theorem J6.kept {w W W':World} {l:List UInt8} {row:Nat} (h:J6 w l W) (hg:W.grownBy W' (some row)) (hr:xO w W row):J6 w l W':=by
 obtain⟨⟨e,hd,h1⟩,h0,hb⟩:=h
 exact⟨⟨e,hd,h1.kept hg (hr.box h1 (by omega))⟩,h0.kept hg (hr.box h0 (by omega)),hb.grown hg hb.size (fun k e=>by cases e;exact hr.le)⟩
theorem BZ (k:Nat):∀(m:Nat) (r:List UInt8) (a:List bG),r.length<=k->r.length<=m->dg k r a=dg m r a:=by
 induction k with
 | zero=>intro m r a b _;cases r <;> cases m <;> simp_all [dg]
 | succ k e=>
  intro m r a b d
  cases r with
  | nil=>cases m <;> simp[dg]
  | cons c r=>
   have:=qz c r;simp at b d
   cases m with
   | zero=>omega
   | succ m=>
    simp only[dg]
    split;· rfl
    split;· rfl
    exact e _ _ _ ω ω
theorem qU {b:UInt8} {r:List UInt8} {a:List bG} (c:(bW b r).2.2=true) (h:(a.length == 40)=false) :
  dg (b::r).length (b::r) a=dg (bW b r).2.1.length (bW b r).2.1 (a++ [(bW b r).1]):=by
 simp only[bC,dg,c,h];exact BZ _ _ _ _ (qz b r) (aH _)
def Uu (I:List UInt8->World->Prop) (Ix:World->Prop) (bs:Nat) (b:UInt8) (r:List UInt8) (W:World):Exit->Act->World->Prop
 | .normal,_,W'=>KeepsOthers W W'/\(bW b r).2.2=true/\I (bW b r).2.1 W'/\lx W' bs (b::r)
 | .ret,_,W'=>KeepsOthers W W'/\Ix W'
 | _,_,_=>False
theorem KY {g:Operand} {ps:Array Tmp} {assign body:Code} {Q:Exit -> Act -> World -> Prop} {a:Act} {w:World} (bs:Nat) (hg:a.eval g= .func (.func 156) #[] #[.pointer (some ⟨bs,0,none⟩)]) (hps:ps.size=2)
  (I:List UInt8 -> World -> Prop) (Ix:World -> Prop) (hbs:bs<w.heap.size)
  (hI:∀r W W' row,I r W -> W.grownBy W' (some row) -> (bs=row \/ (w.heap.size <= row /\ ∃o,W.heap[row]? =some o /\ o.isCells=false)) -> I r W')
  (hIa:∀r W o,I r W -> I r (W.alloc o))
  (hIx:∀W W' row,Ix W -> W.grownBy W' (some row) -> (bs=row \/ (w.heap.size <= row /\ ∃o,W.heap[row]? =some o /\ o.isCells=false)) -> Ix W')
  (r0:List UInt8) (hc0:lx w bs r0) (hl0:r0.length <= 140737488355320) (h0:I r0 w)
  (hround:∀(L:Nat) (b:UInt8) (r:List UInt8) (W:World),I (b::r) W -> lx W bs (b::r) -> w.heap.size <= W.heap.size ->
   assign.wpIn (Fence.wide.inRound L) 1 Tryz.prog (Exit.then (fun a₁ W₁=>KeepsOthers W W₁ /\
    (∀W₂,W₁.grownBy W₂ (some L) -> w.heap.size <= L -> (∃o,W₁.heap[L]? =some o /\ o.isCells=false) -> body.wpIn (Fence.wide.inRound L) 1 Tryz.prog (Uu I Ix bs b r W₂) a₁ W₂)) (fun _ _ _=>False))
    {tmps:=(ps.zip #[.agg #[.int .i64 (bW b r).1.c,.int .i64 (bW b r).1.a],.bool (bW b r).2.2]).foldl (fun t (p,v)=>t.setIfInBounds p v) a.tmps,defers:= []} W)
  (hdone:∀(D:Nat) (W:World),w.heap.size <= D -> I [] W -> W.heap[D]? =some (.deferred (some [])) -> Q .normal {a with defers:= {target:= .collected D,args:= #[]} ::a.defers} W)
  (hstop:∀(D:Nat) (W:World),w.heap.size <= D -> Ix W -> W.heap[D]? =some (.deferred (some [])) -> Code.ret.wpIn Fence.wide 3 Tryz.prog Q {a with defers:= {target:= .collected D,args:= #[]} ::a.defers} W) :
  (Code.rangeFunc g ps assign body).wpIn Fence.wide 3 Tryz.prog Q a w:=by
 refine wpIn_rangeFunc ?_
 intro fn hfn
 obtain⟨rec,hrec⟩:∃rec:LoopState -> Option Code -> Loop,rec=fun st pe=> {state:=st,pending:=pe,fn,tmps:=a.tmps,params:=ps,assign,body,defers:=w.heap.size} :=⟨_,rfl⟩
 have hrs:∀st pe,(rec st pe).state=st /\ (rec st pe).pending=pe:=by intro st pe;rw[hrec];exact⟨rfl,rfl⟩
 obtain⟨W1,hW1⟩:∃W1,(w.alloc (.deferred (some []))).alloc (.loop (rec .ready none))=W1:=⟨_,rfl⟩
 have hL1:W1.heap[w.heap.size+1]? =some (.loop (rec .ready none)):=by
  rw[←hW1];have:=World.alloc_heap_new (w.alloc (.deferred (some []))) (.loop (rec .ready none));rwa [World.size_alloc] at this
 have hK1:W1.heap[w.heap.size]? =some (.deferred (some [])):=by
  rw[←hW1];exact(Below.heap_alloc _ _ _ (by simp)).trans (World.alloc_heap_new w _)
 have hI1:I r0 W1:=by rw[←hW1];exact hIa _ _ _ (hIa _ _ _ h0)
 have hc1:lx W1 bs r0:=by rw[←hW1];exact(hc0.alloc _).alloc _
 have hs1:w.heap.size <= W1.heap.size:=by rw[←hW1];simp;omega
 have eg:=enters_of Tryz.func156 (by kernel_rfl) rfl
 refine⟨w.heap.size+1,[{target:= .collected w.heap.size,args:= #[]}],W1,{target:= .fn (.func 156) #[.pointer (some ⟨bs,0,none⟩)],args:= #[.func (.yield (w.heap.size+1)) #[] #[]]},W1,156,
  #[.func (.yield (w.heap.size+1)) #[] #[]]++ #[.pointer (some ⟨bs,0,none⟩)],W1,?_,?_,fun _ _=>trivial,?_,fun _=>by omega,?_⟩
 ·rw[←hW1,hrec];exact run_enterLoop_outer _ _ _ _ _
 ·simp only[resolve,hg]
  simp[go_sem]
 ·simp[invoke,go_sem]
 ·refine(Qg (3 - 1) (w.heap.size+1) bs (by omega)
   (fun r W=>I r W /\ w.heap.size <= W.heap.size /\ W.heap[w.heap.size+1]? =some (.loop (rec .ready none)) /\ W.heap[w.heap.size]? =some (.deferred (some [])))
   (fun W=>Ix W /\ W.heap[w.heap.size+1]? =some (.loop (rec .done (some .ret))) /\ W.heap[w.heap.size]? =some (.deferred (some [])))
   (fun r W W' h hg'=>⟨hI _ _ _ _ h.1 hg' (.inl rfl),dW h.2.1 hg'.size,(hg'.block _ (dE.1 h.2.2.1).1 (by simp;omega)).trans h.2.2.1,(hg'.block _ (dE.1 h.2.2.2).1 (by simp;omega)).trans h.2.2.2⟩)
   ?_ r0 W1 ⟨hI1,hs1,hL1,hK1⟩ hc1 hl0).mono ?_
  ·rintro b r W ⟨hi,hsW,hl,hk⟩ hcap hrl
   have hy:=run_yield (P:=Tryz.prog) (args:= #[.agg #[.int .i64 (bW b r).1.c,.int .i64 (bW b r).1.a],.bool (bW b r).2.2]) hl (by rw[hrec];exact hps.symm)
   rw[hrec] at hy
   refine⟨fn,_,assign,body,hy,roundIn_of_wpIn hfn (wpIn_mono (hround _ b r W hi hcap hsW) ?_)⟩
   rintro e a₁ W₁ hq
   cases e with
   | normal=>
    obtain⟨hko,hbody⟩:=hq
    have hl':=hko.same _ _ hl rfl
    have hk':=hko.same _ _ hk rfl
    refine⟨_,run_beginRound hl' (hrs _ _).1,wpIn_mono (hbody _ (grownBy_putObj' _ _ _) (by omega) ⟨_,hl',rfl⟩) ?_⟩
    have hlt:w.heap.size+1<W₁.heap.size:=(dE.1 hl').1
    have hl2:(W₁.putObj (w.heap.size+1) (.loop {rec .ready none with state:= .busy})).heap[w.heap.size+1]? =some (.loop {rec .ready none with state:= .busy}):=World.putObj_heap_same hlt
    have hk2:(W₁.putObj (w.heap.size+1) (.loop {rec .ready none with state:= .busy})).heap[w.heap.size]? =some (.deferred (some [])):=(World.putObj_heap_other (by omega)).trans hk'
    rintro e a3 W3 hp
    cases e with
    | normal=>
     obtain⟨hk3,hok,hi3,hc3⟩:=hp
     have hl3:=hk3.same _ _ hl2 rfl
     have hend:=run_endRound (P:=Tryz.prog) none hl3
     have hsz3:w.heap.size <= W3.heap.size:=by have:=(dE.1 hl3).1;omega
     refine⟨_,_,hend,.inl ⟨rfl,hok,⟨hI _ _ _ _ hi3 (grownBy_putObj' _ _ _) (.inr ⟨by omega,_,hl3,rfl⟩),by simpa using hsz3,?_,(World.putObj_heap_other (by omega)).trans (hk3.same _ _ hk2 rfl)⟩,?_⟩⟩
     ·have:=World.putObj_heap_same (w:=W3) (o:= .loop {({rec .ready none with state:= .busy} :Loop) with state:= .ready,pending:=none}) (dE.1 hl3).1
      rw[hrec] at this⊢
      exact this
     ·have h1:(W3.putObj (w.heap.size+1) (.loop {({rec .ready none with state:= .busy} :Loop) with state:= .ready,pending:=none})).heap[bs]? =W3.heap[bs]? :=World.putObj_heap_other (by omega)
      exact h1.trans ((show W3.heap[bs]? =_ from hc3).trans (show W.heap[bs]? =_ from hcap).symm)
    | ret=>
     obtain⟨hk3,hi3⟩:=hp
     have hl3:=hk3.same _ _ hl2 rfl
     have hend:=run_endRound (P:=Tryz.prog) (some .ret) hl3
     refine⟨_,_,hend,.inr ⟨rfl,hIx _ _ _ hi3 (grownBy_putObj' _ _ _) (.inr ⟨by omega,_,hl3,rfl⟩),?_,(World.putObj_heap_other (by omega)).trans (hk3.same _ _ hk2 rfl)⟩⟩
     have:=World.putObj_heap_same (w:=W3) (o:= .loop {({rec .ready none with state:= .busy} :Loop) with state:= .done,pending:=some .ret}) (dE.1 hl3).1
     rw[hrec] at this⊢
     exact this
    | exit id=>exact hp.elim
    | goto t=>exact hp.elim
    | panic ch=>exact hp.elim
    | outgrown=>exact hp.elim
   | exit id=>exact hq.elim
   | goto t=>exact hq.elim
   | ret=>exact hq.elim
   | panic ch=>exact hq.elim
   | outgrown=>exact hq.elim
  ·rintro e W2 ⟨⟨v,rfl⟩,(⟨hi,_,hl,hk⟩ | ⟨hi,hl,hk⟩)⟩
   ·obtain⟨o,hend⟩:∃o,(Instr.endLoop (w.heap.size+1)).run Tryz.prog W2= .ok none (W2.putObj (w.heap.size+1) o):=by
     have:=run_endLoop (P:=Tryz.prog) hl (by rw[(hrs _ _).1];simp)
     rw[(hrs _ _).2] at this
     exact⟨_,this⟩
    exact⟨none,_,hend,hdone _ _ (aH _) (hI _ _ _ _ hi (grownBy_putObj' _ _ _) (.inr ⟨by omega,_,hl,rfl⟩)) ((World.putObj_heap_other (by omega)).trans hk)⟩
   ·obtain⟨o,hend⟩:∃o,(Instr.endLoop (w.heap.size+1)).run Tryz.prog W2= .ok (some .ret) (W2.putObj (w.heap.size+1) o):=by
     have:=run_endLoop (P:=Tryz.prog) hl (by rw[(hrs _ _).1];simp)
     rw[(hrs _ _).2] at this
     exact⟨_,this⟩
    exact⟨some .ret,_,hend,hstop _ _ (aH _) (hIx _ _ _ hi (grownBy_putObj' _ _ _) (.inr ⟨by omega,_,hl,rfl⟩)) ((World.putObj_heap_other (by omega)).trans hk)⟩

end
section
open Go.RowKit Go.Shelf
attribute [local go_sem] Oper.semAt_some

theorem kY {a:World} {B:Nat} {t:TypeId} {v:Value} (h:Boxed a B t v) {p:Addr} (b:B≠p.block) (u:Value):Boxed (a.setCell p u) B t v:=(Below.heap_setCell _ _ _ _ b).trans h
theorem Ma (l : List UInt8) (w : World) (hl : l.length <= 140737488355320) : CallsIn Fence.wide 3 Tryz.prog 41 #[.string ⟨l.toArray⟩] w fun e W =>
    ∃ v, e = .returned (.tuple #[v, .int .i64 (bP l).2]) /\ Below w.heap.size w W /\ W.ownsRow (w.heap.size + 4) 86 2 v (bP l).1.length ((bP l).1.flatMap eJ) := by
  refine callsIn_of_wp_marks Tryz.func41 rfl trivial ?_
  simp only [Tryz.ntmps41, kC, bC, aE, Nat.reduceAdd, Nat.reduceSub, Array.replicate_succ, Array.replicate_zero, List.push_toArray, List.append_toArray, cB, eQ]
  gi_wp2_with (refine ⟨trivial, ?_⟩; gi_at_call 103; refine (callsIn_wide.2 (Qf l _)).mono ?_; rintro e w' ⟨rfl, rfl⟩)
  obtain ⟨w1, hw1⟩ : ∃ w1, (((w.alloc (.cells #[.slice none 0 0] 77)).alloc (.cells #[.int .i64 0] 29)).alloc (.cells #[.slice none 0 0] 77)).alloc (.cells #[.string ⟨l.toArray⟩] 9) = w1 := ⟨_, rfl⟩
  rw [hw1]
  have hsz : w1.heap.size = w.heap.size + 4 := by rw [← hw1]; simp
  have hB : Below w.heap.size w w1 := by
    rw [← hw1]; exact aT (aT (aT (aT (Below.refl _ _) _) _) _) _
  have hbx0 : Boxed w1 w.heap.size 77 (.slice none 0 0) := by rw [← hw1]; exact (((Boxed.new w _ _).alloc _).alloc _).alloc _
  have hbx1 : Boxed w1 (w.heap.size + 1) 29 (.int .i64 0) := by
    rw [← hw1]; have := ((Boxed.new (w.alloc (.cells #[.slice none 0 0] 77)) 29 (.int .i64 0)).alloc (.cells #[.slice none 0 0] 77)).alloc (.cells #[.string ⟨l.toArray⟩] 9); rwa [World.size_alloc] at this
  have hbx2 : Boxed w1 (w.heap.size + 2) 77 (.slice none 0 0) := by
    rw [← hw1]; have := (Boxed.new ((w.alloc (.cells #[.slice none 0 0] 77)).alloc (.cells #[.int .i64 0] 29)) 77 (.slice none 0 0)).alloc (.cells #[.string ⟨l.toArray⟩] 9); rwa [World.size_alloc, World.size_alloc] at this
  have hcap : lx w1 (w.heap.size + 3) l := by
    rw [← hw1]; have := Boxed.new (((w.alloc (.cells #[.slice none 0 0] 77)).alloc (.cells #[.int .i64 0] 29)).alloc (.cells #[.slice none 0 0] 77)) 9 (.string ⟨l.toArray⟩); rwa [World.size_alloc, World.size_alloc, World.size_alloc] at this
  clear hw1
  refine KY (w.heap.size + 3) rfl rfl (xt w l) (J6 w l) (by omega)
    (fun r W W' row h hg hr => h.kept hg (hr.imp id (fun ⟨h1, h2⟩ => ⟨by omega, h2⟩)))
    (fun r W o h => h.alloc o)
    (fun W W' row h hg hr => h.kept hg (hr.imp id (fun ⟨h1, h2⟩ => ⟨by omega, h2⟩)))
    l hcap hl ⟨⟨[], .slice none 0 0, hbx2, by simpa using World.ownsRow_nil _ _ _ _, rfl, by simp⟩, hbx0, hbx1, hB⟩ ?round ?done ?stop
  case round =>
    intro L b r W hi hc hs
    gi_wp2
    refine ⟨KeepsOthers.alloc _ _, fun W₂ hg hL ho => ?_⟩
    have hLne : W.heap.size ≠ L := by
      obtain ⟨o, h1, h2⟩ := ho
      rintro rfl
      rw [World.alloc_heap_new] at h1; cases h1; cases h2
    have hi2 : xt w l (b :: r) W₂ := (hi.alloc _).kept hg (.inr ⟨by omega, ho⟩)
    have hc2 : lx W₂ (w.heap.size + 3) (b :: r) := (hg.block _ (hc.alloc _).lt (by simp; omega)).trans (hc.alloc _)
    have hbox : W₂.heap[W.heap.size]? = some (.cells #[.int .i64 (bW b r).1.c, .int .i64 (bW b r).1.a] 86 (0, 0)) := (hg.block _ (by simp) (by simpa using hLne)).trans (World.alloc_heap_new _ _)
    have hx0 : W₂.cell? ⟨W.heap.size, 0, none⟩ = some (.int .i64 (bW b r).1.c) := by simp [World.cell?, hbox]
    have hx1 : W₂.cell? ⟨W.heap.size, 1, none⟩ = some (.int .i64 (bW b r).1.a) := by simp [World.cell?, hbox]
    clear hbox hg hi hc
    obtain ⟨⟨out, v, h2, hown, hd, h40⟩, h0, h1, hb⟩ := hi2
    obtain ⟨A, cap, rfl⟩ : ∃ A cap, v = .slice A out.length cap := yU hown
    have Hd := Lib.hid hd; clear hd
    have c0 := h0.cell
    have c1 := h1.cell
    have c2 := h2.cell
    have f0 := h0.frozen
    have f1 := h1.frozen
    have f2 := h2.frozen
    have hcs := hc2.lt
    obtain ⟨i0, hi, hz0, hz1, hz2⟩ := info_parts yt
    cases hok : (bW b r).2.2 with
    | false =>
      gi_wp2
      refine ⟨(KeepsOthers.setCell _ _ _).trans (KeepsOthers.setCell _ _ _), ⟨1, ?_, (kY h1 (by simp) _).set _⟩, kY (h0.set _) (by simp) _, (hb.setCell (by simp) _).setCell (by simp) _⟩
      rw [← Hd.out]; simp [dg, hok]
    | true =>
      by_cases h41 : out.length = 40
      · have ht : ((out.length : Int) == 40) = true := by simp; omega
        have ht2 : decide ((out.length : Int) = 40) = true := by simp; omega
        have Hl := Lib.hid h41; clear h41
        gi_wp2
        refine ⟨(KeepsOthers.setCell _ _ _).trans (KeepsOthers.setCell _ _ _), ⟨2, ?_, (kY h1 (by simp) _).set _⟩, kY (h0.set _) (by simp) _, (hb.setCell (by simp) _).setCell (by simp) _⟩
        rw [← Hd.out]; simp [dg, hok, Hl.out]
      · have ht : ((out.length : Int) == 40) = false := by simp; omega
        have ht2 : decide ((out.length : Int) = 40) = false := by simp; omega
        have hcell2 := cell_two_new W₂ (.int .i64 (bW b r).1.c) (.int .i64 (bW b r).1.a) 86
        gi_wp2_with (gi_at_builtin; refine pu ?_)
        unfold uo
        refine wpListIn_append_own _ rfl _ _ 77 rfl (w.heap.size + 4) 86 i0 (.agg #[.int .i64 0, .int .i64 0]) 2 16 eH hi hz0 hz1 hz2 rfl (by decide) _ _ _ rfl (hown.alloc _) ⟨W₂.heap.size, 0, none⟩ 1 1 (eJ (bW b r).1) rfl rfl hcell2
          (by simp [eJ, Value.oneCell']) (by unfold maxLen; omega) (by omega) (by simp; omega) ?_
        intro v' w2 hown' hgrow _
        obtain ⟨g', cap', rfl⟩ := ownsRow_succ hown'
        obtain ⟨hv1, hv2, _, hk2, hb2⟩ := h2.appended (n₀ := w.heap.size) (by decide) (yT hown (by omega)) hb.size (by omega) (yT hown' (by omega)) hgrow
        have hr2 := hown'.kept (grownBy_setCell' w2 (w.heap.size + 2) (.slice (some ⟨g', 0, none⟩) (out.length + 1) cap')) (.inr (nV hown' (by omega)))
        have hv1c := hv1.cell
        have hv1f := hv1.frozen
        have hg2 : ∀ B t u, Boxed W₂ B t u -> B < w.heap.size + 4 -> Boxed w2 B t u := fun B t u h hlt => (h.alloc _).kept hgrow (Ne.symm (nV hown (by omega)))
        gi_wp2
        refine ⟨hk2, hok, ⟨⟨out ++ [(bW b r).1], _, hv2, ?_, ?_, ?_⟩, kY (hg2 _ _ _ h0 (by omega)) (by simp <;> omega) _, kY (hg2 _ _ _ h1 (by omega)) (by simp <;> omega) _, hb.trans hb2⟩, kY (hg2 _ _ _ hc2 (by omega)) (by simp <;> omega) _⟩
        · rw [ar, oK]; simpa using hr2
        · rw [← Hd.out, qU hok (by simpa using h41)]
        · simp; omega
  case done =>
    intro D W hD hi hdef
    obtain ⟨⟨out, v, h2, hown, hd, h40⟩, h0, h1, hb⟩ := hi
    obtain ⟨A, cap, rfl⟩ : ∃ A cap, v = .slice A out.length cap := yU hown
    have Hd := Lib.hid hd; clear hd
    have c0 := h0.cell
    have c1 := h1.cell
    have c2 := h2.cell
    have f0 := h0.frozen
    have f1 := h1.frozen
    gi_wp2
    obtain ⟨W', hW'⟩ : ∃ W', (W.setCell ⟨w.heap.size, 0, none⟩ (.slice A out.length cap)).setCell ⟨w.heap.size + 1, 0, none⟩ (.int .i64 0) = W' := ⟨_, rfl⟩
    have b0 : Boxed W' w.heap.size 77 (.slice A out.length cap) := by rw [← hW']; exact kY (h0.set _) (by simp) _
    have b1 : Boxed W' (w.heap.size + 1) 29 (.int .i64 0) := by rw [← hW']; exact (kY h1 (by simp) _).set _
    have hB' : Below w.heap.size w W' := by rw [← hW']; exact (hb.setCell (by simp) _).setCell (by simp) _
    have hown' : W'.ownsRow (w.heap.size + 4) 86 2 (.slice A out.length cap) out.length (out.flatMap eJ) := by
      rw [← hW']; exact (hown.kept (grownBy_setCell' _ _ _) (.inr (nV hown (by omega)))).kept (grownBy_setCell' _ _ _) (.inr (nV hown (by omega)))
    have hdef' : W'.heap[D]? = some (.deferred (some [])) := by rw [← hW']; exact ((KeepsOthers.setCell _ _ _).trans (KeepsOthers.setCell _ _ _)).same D _ hdef rfl
    rw [hW']
    refine ⟨by simp, .inl ⟨_, _, rfl, run_takeDeferred hdef', ?_⟩⟩
    have r0 := (b0.kept (grownBy_putObj' W' D (.deferred none)) (by simpa using kX b0 hdef' rfl)).cell
    have r1 := (b1.kept (grownBy_putObj' W' D (.deferred none)) (by simpa using kX b1 hdef' rfl)).cell
    have e1 : bP l = (out, 0) := by rw [← Hd.out]; rfl
    refine ⟨.tuple #[.slice A out.length cap, .int .i64 0], by unfold results; rw [Tryz.results41]; go_simp, _, by rw [e1], hB'.grown (grownBy_putObj' _ _ _) hB'.size (fun k e => by cases e; omega), ?_⟩
    rw [e1]
    exact hown'.kept (grownBy_putObj' _ _ _) (.inr (vL hown' hdef' rfl))
  case stop =>
    intro D W hD hi hdef
    obtain ⟨⟨e, hd, h1⟩, h0, hb⟩ := hi
    gi_wp2
    refine ⟨by simp, .inl ⟨_, _, rfl, run_takeDeferred hdef, ?_⟩⟩
    have r0 := (h0.kept (grownBy_putObj' W D (.deferred none)) (by simpa using kX h0 hdef rfl)).cell
    have r1 := (h1.kept (grownBy_putObj' W D (.deferred none)) (by simpa using kX h1 hdef rfl)).cell
    have Hd := Lib.hid hd; clear hd
    refine ⟨.tuple #[.slice none 0 0, .int .i64 e], by unfold results; rw [Tryz.results41]; go_simp, _, by rw [Hd.out], hb.grown (grownBy_putObj' _ _ _) hb.size (fun k e => by cases e; omega), ?_⟩
    rw [Hd.out]
    exact World.ownsRow_nil _ _ _ _

end
section
theorem pm (n a b:Int) (w:World):Calls Tryz.prog 80 #[.int .i64 n,.int .i64 a,.int .i64 b] w fun e w'=>e= .returned (.bool (decide (a <= n) && decide (n <= b))) /\ w=w':=by
 go_enter Tryz.func80,Tryz.ntmps80
 go_wp2
 all_goals (go_ret;exact⟨aY (by simp[*];try omega),rfl⟩)
theorem nA (n:Int) (w:World):Calls Tryz.prog 81 #[.int .i64 n] w fun e w'=>e= .returned (.bool (bT n)) /\ w=w':=by
 go_enter Tryz.func81,Tryz.ntmps81
 go_wp2_with (go_at_call 80;refine(pm _ _ _ _).mono ?_;rintro e w' ⟨rfl,rfl⟩)
 all_goals (go_ret;exact⟨aY (by simp[bT]),rfl⟩)
theorem Ct (n : Int) (w : World) : Calls Tryz.prog 200 #[.int .i64 n] w fun e w' => e = .returned (.bool (jH n)) /\ w = w' := by
  go_enter Tryz.func200, Tryz.ntmps200
  go_wp2
  all_goals (go_ret; exact ⟨aY (by rw [Bool.eq_iff_iff]; simp [jH, *]; try omega), rfl⟩)
theorem EA (o:bG) (w:World):Calls Tryz.prog 246 #[.agg #[.int .i64 o.c,.int .i64 o.a]] w fun e w'=>e= .returned (.int .i64 (fM o)) /\ Below w.heap.size w w':=by
 go_enter Tryz.func246,Tryz.ntmps246
 go_wp2_with (first
  | (go_at_call 80;refine(pm _ _ _ _).mono ?_;rintro e w' ⟨rfl,rfl⟩)
  | (go_at_call 81;refine(nA _ _).mono ?_;rintro e w' ⟨rfl,rfl⟩)
  | (go_at_call 200;refine(Ct _ _).mono ?_;rintro e w' ⟨rfl,rfl⟩))
 all_goals (go_ret;exact⟨eW (by simp_all [fM,kV]),(by repeat (first | exact Below.refl _ _ | assumption | refine Below.drew ?_ | refine Below.drewN_ ?_ _ | refine aT ?_ _ | refine bK (by assumption) ?_ | refine bZ ?_ (by simp <;> omega) _))⟩)

theorem Co (n:Int) (w:World) (a:aI n):Calls Tryz.prog 110 #[.int .i64 n] w fun e w'=>e= .returned (.int .i64 (jV n)) /\ w=w':=by
 have c:=a.lo
 have d:=a.hi
 by_cases b:0 <= n
 ·go_enter Tryz.func110,Tryz.ntmps110
  go_wp2
  all_goals (go_ret;exact⟨eW (by unfold jV;omega),rfl⟩)
 ·have h:n.tmod 4294967296= -((-n) % 4294967296):=by
   rw[←Int.tmod_eq_emod_of_nonneg (by omega),Int.neg_tmod,Int.neg_neg]
  have f: -4294967296< -((-n) % 4294967296):=by omega
  have g: -((-n) % 4294967296) <= 0:=by omega
  go_enter Tryz.func110,Tryz.ntmps110
  go_wp2
  all_goals (go_ret;exact⟨eW (by unfold jV;omega),rfl⟩)

end
section
end
section
theorem BK (v:Value) (l:List bG) (w:World) (hs:Sl w v l) :
  Calls Tryz.prog 194 #[v] w fun e w'=>e= .returned (.int .i64 (eL l)) /\ Below w.heap.size w w':=by
 obtain⟨A,c,rfl,hlc,hc,hl⟩:=hs.form
 go_enter Tryz.func194,Tryz.ntmps194
 go_wp2
 ·go_ret
  exact⟨eW (by simp[eL];omega),(by repeat (first | exact Below.refl _ _ | assumption | refine Below.drew ?_ | refine Below.drewN_ ?_ _ | refine aT ?_ _ | refine bK (by assumption) ?_ | refine bZ ?_ (by simp <;> omega) _))⟩
 go_loopw [3] (fun t wr=> ∃k:Nat,k <= l.length /\ t= .int .i64 k /\ Below w.heap.size w wr /\ fB (l.take k)=0) (fun t _=>l.length - (intOf t).toNat)
 case atStart=>exact⟨0,by omega,rfl,(by repeat (first | exact Below.refl _ _ | assumption | refine Below.drew ?_ | refine Below.drewN_ ?_ _ | refine aT ?_ _ | refine bK (by assumption) ?_ | refine bZ ?_ (by simp <;> omega) _)),by simp[fB]⟩
 case round=>
  obtain⟨k,hk,rfl,hbl,hck⟩:=hrel
  have Hck:=Lib.hid hck;clear hck
  have hs':=hs.via hbl
  by_cases hlt:k<l.length
  ·obtain⟨b,off,o,rfl,hb,ho,hc0,hc1,hi0,hi1⟩:=hs'.op_at hlt
   have Ho:=Lib.hid ho;clear ho
   have hsz:=hbl.size
   go_wp2_with (go_at_call 246;refine(EA o _).mono ?_;rintro e w' ⟨rfl,hb⟩)
   ·go_ret
    exact⟨eW (Bb (by omega) Ho.out Hck.out (by assumption)),(by repeat (first | exact Below.refl _ _ | assumption | refine Below.drew ?_ | refine Below.drewN_ ?_ _ | refine aT ?_ _ | refine bK (by assumption) ?_ | refine bZ ?_ (by simp <;> omega) _))⟩
   ·go_roundw
    case rel=>exact⟨k+1,by omega,by go_num,(by repeat (first | exact Below.refl _ _ | assumption | refine Below.drew ?_ | refine Below.drewN_ ?_ _ | refine aT ?_ _ | refine bK (by assumption) ?_ | refine bZ ?_ (by simp <;> omega) _)),by rw[qV Ho.out Hck.out];simp_all⟩
    case measure=>simp[intOf];omega
  ·go_wp2
   go_ret
   exact⟨eW (Ba (by omega) (by rw[←Hck.out,bD (by omega)])),(by repeat (first | exact Below.refl _ _ | assumption | refine Below.drew ?_ | refine Below.drewN_ ?_ _ | refine aT ?_ _ | refine bK (by assumption) ?_ | refine bZ ?_ (by simp <;> omega) _))⟩

end
section
theorem Km {α:Type} {l1 l2:List α} {k:Nat} {x:α} (a:l1[k]? =some x) (h2:l2[k]? =some x) (h:l1.take k=l2.take k):l1.take (k+1)=l2.take (k+1):=by
 rw[List.take_add_one,List.take_add_one,h,a,h2]
theorem Ps {α:Type} {l1 l2:List α} {k:Nat} {x y:α} (a:l1[k]? =some x) (h2:l2[k]? =some y) (b:x≠y):¬l1=l2:=by
 rintro rfl;rw[a] at h2;exact b (fC h2)
theorem LZ:Tryz.prog.eqGuardType Tryz.prog.depth 86=false:=by kernel_rfl
theorem Th:Tryz.prog.stoodInHeld 86=false:=by kernel_rfl
theorem Tb (w:World) (a b c d:Int):(binOp .neq 86 (.agg #[.int .i64 a,.int .i64 b]) (.agg #[.int .i64 c,.int .i64 d])).run Tryz.prog w= .ok (.bool (!(a == c && b == d))) w:=by
 have e:=Th
 by_cases f:a=c <;> by_cases g:b=d <;> simp[go_sem,e,f,g]
theorem wv (v1 v2:Value) (l1 l2:List bG) (w:World) (hs1:Sl w v1 l1) (hs2:Sl w v2 l2) :
  Calls Tryz.prog 90 #[v1,v2] w fun e w'=>e= .returned (.bool (decide (l1=l2))) /\ Below w.heap.size w w':=by
 obtain⟨A1,c1,rfl,hlc1,hc1,hl1⟩:=hs1.form
 obtain⟨A2,c2,rfl,hlc2,hc2,hl2⟩:=hs2.form
 by_cases hne:l1.length=l2.length
 ·have ht:((l1.length:Int) != (l2.length:Int))=false:=by simp;omega
  have hle:l2.length <= l1.length:=by omega
  have hle2:l1.length <= l2.length:=by omega
  have Hne:=Lib.hid hne;clear hne
  go_enter Tryz.func90,Tryz.ntmps90
  go_wp2
  go_loopw [5] (fun t wr=> ∃k:Nat,k <= l1.length /\ t= .int .i64 k /\ Below w.heap.size w wr /\ l1.take k=l2.take k) (fun t _=>l1.length - (intOf t).toNat)
  case atStart=>exact⟨0,by omega,rfl,(by repeat (first | exact Below.refl _ _ | assumption | refine Below.drew ?_ | refine Below.drewN_ ?_ _ | refine aT ?_ _ | refine bK (by assumption) ?_ | refine bZ ?_ (by simp <;> omega) _)),by simp⟩
  case round=>
   obtain⟨k,hk,rfl,hbl,hck⟩:=hrel
   have Hck:=Lib.hid hck;clear hck
   by_cases hlt:k<l1.length
   ·obtain⟨b1,off1,o1,rfl,hb1,ho1,hc10,hc11,hi1⟩:=(hs1.via hbl).op_at hlt
    obtain⟨b2,off2,o2,rfl,hb2,ho2,hc20,hc21,hi2⟩:=(hs2.via hbl).op_at (show k<l2.length by omega)
    have Ho1:=Lib.hid ho1;clear ho1
    have Ho2:=Lib.hid ho2;clear ho2
    have hlt2:k<l2.length:=by omega
    have hsz:=hbl.size
    have hneq:=Tb
    have hgd:=LZ
    go_wp2
    go_quiet (fail)
    go_wp2
    ·go_ret
     exact⟨aY (Eq.symm (decide_eq_false (Ps Ho1.out Ho2.out (by rintro rfl;simp_all)))),(by repeat (first | exact Below.refl _ _ | assumption | refine Below.drew ?_ | refine Below.drewN_ ?_ _ | refine aT ?_ _ | refine bK (by assumption) ?_ | refine bZ ?_ (by simp <;> omega) _))⟩
    ·go_roundw
     case rel=>exact⟨k+1,by omega,by go_num,(by repeat (first | exact Below.refl _ _ | assumption | refine Below.drew ?_ | refine Below.drewN_ ?_ _ | refine aT ?_ _ | refine bK (by assumption) ?_ | refine bZ ?_ (by simp <;> omega) _)),Km Ho1.out (by rw[Ho2.out];cases o1;cases o2;simp_all) Hck.out⟩
     case measure=>simp[intOf];omega
   ·go_wp2
    go_ret
    refine⟨aY ?_,(by repeat (first | exact Below.refl _ _ | assumption | refine Below.drew ?_ | refine Below.drewN_ ?_ _ | refine aT ?_ _ | refine bK (by assumption) ?_ | refine bZ ?_ (by simp <;> omega) _))⟩
    have:=Hck.out
    rw[bD (by omega),bD (by omega)] at this
    simpa using this
 ·go_enter Tryz.func90,Tryz.ntmps90
  go_wp2
  go_ret
  exact⟨aY (by simp;rintro rfl;exact hne rfl),(by repeat (first | exact Below.refl _ _ | assumption | refine Below.drew ?_ | refine Below.drewN_ ?_ _ | refine aT ?_ _ | refine bK (by assumption) ?_ | refine bZ ?_ (by simp <;> omega) _))⟩
end
section
end
