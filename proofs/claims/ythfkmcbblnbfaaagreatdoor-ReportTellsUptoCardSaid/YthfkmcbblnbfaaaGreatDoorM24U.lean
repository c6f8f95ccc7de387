/- Texts of one proof, one behind the other: lemmas alone. -/
import Derived.Test.YthfkmcbblnbfaaaGreatDoorM0U
import Derived.RangeFuncBox
import Derived.Maps.AppendAt
import Derived.Deep.QuietTactic
import Derived.BigQuiet
import Derived.Test.YthfkmcbblnbfaaaGreatDoorM21U

namespace Go.Proofs.YthfkmcbblnbfaaaGreatDoor
set_option maxRecDepth 100000
set_option maxHeartbeats 16000000
open Go.RowKit
section
open Go.RowKit Go.Shelf
attribute [local go_sem] Oper.semAt_some

theorem CQ (l : List UInt8) (w : World) : Calls Tryz.prog 103 #[.string ⟨l.toArray⟩] w fun e w' => e = .returned (.func (.func 156) #[] #[.pointer (some ⟨w.heap.size, 0, none⟩)]) /\ w' = w.alloc (.cells #[.string ⟨l.toArray⟩] 9) := by
  go_enter Tryz.func103, Tryz.ntmps103
  go_wp2
  go_ret
  exact ⟨rfl, rfl⟩

theorem oM:(Tryz.prog.info? 86).map (fun i=>(i.zero,i.size,i.bytes))=some (some (.agg #[.int .i64 0,.int .i64 0]),2,16):=by kernel_rfl
def eG (o:aW):List Value:= [.int .i64 o.c,.int .i64 o.a]
structure nY (w:World) (l r:List UInt8) (W:World):Prop where
 ex:∃out v,Boxed W (w.heap.size+2) 77 v/\W.ownsRow (w.heap.size+4) 86 2 v out.length (out.flatMap eG)/\bn r.length r out=aE l/\out.length<=40
 b0:Boxed W w.heap.size 77 (.slice none 0 0)
 b1:Boxed W (w.heap.size+1) 29 (.int .i64 0)
 below:Below w.heap.size w W
structure xx (w:World) (l:List UInt8) (W:World):Prop where
 ex:∃e,aE l=([],e)/\Boxed W (w.heap.size+1) 29 (.int .i64 e)
 b0:Boxed W w.heap.size 77 (.slice none 0 0)
 below:Below w.heap.size w W
theorem m7 {W:World} {base row size n:Nat} {e:TypeId} {v:Value} {xs:List Value} {o:Obj} (h:W.ownsRow base e size v n xs) (ho:W.heap[row]? =some o) (hc:o.isCells=false):v.ownBlock≠some row:=by
 rcases h.2 with ⟨rfl,_⟩ | ⟨g,cap,cur,rfl,_,hg,_⟩
 ·simp[Value.ownBlock]
 intro e'
 obtain rfl:g=row:=by simpa [Value.ownBlock] using e'
 rw[hg] at ho;cases ho;cases hc
theorem jc {W:World} {base row size n:Nat} {e:TypeId} {v:Value} {xs:List Value} (h:W.ownsRow base e size v n xs) (hr:row<base):v.ownBlock≠some row:=by
 intro e'
 have:=(h.lt _ e').1
 omega
theorem f4 {W:World} {B row:Nat} {t:TypeId} {v:Value} {o:Obj} (h:Boxed W B t v) (ho:W.heap[row]? =some o) (hc:o.isCells=false):B≠row:=by
 rintro rfl
 rw[show W.heap[B]? =_ from h] at ho;cases ho;cases hc
def ox (w W:World) (row:Nat):Prop:=w.heap.size+3=row\/(w.heap.size<=row/\∃o,W.heap[row]? =some o/\o.isCells=false)
theorem ox.le {w W:World} {row:Nat} (h:ox w W row):w.heap.size<=row:=by rcases h with h | h <;> omega
theorem ox.box {w W:World} {row B:Nat} {t:TypeId} {v:Value} (h:ox w W row) (hb:Boxed W B t v) (hB:B≠w.heap.size+3):some B≠some row:=by
 rcases h with h | ⟨_,o,ho,hc⟩
 ·simp;omega
 simpa using f4 hb ho hc
theorem nY.kept {w W W':World} {l r:List UInt8} {row:Nat} (h:nY w l r W) (hg:W.grownBy W' (some row)) (hr:ox w W row):nY w l r W':=by
 obtain⟨⟨out,v,h2,ho,hd,h40⟩,h0,h1,hb⟩:=h
 refine⟨⟨out,v,h2.kept hg (hr.box h2 (by omega)),ho.kept hg (.inr ?_),hd,h40⟩,h0.kept hg (hr.box h0 (by omega)),h1.kept hg (hr.box h1 (by omega)),hb.grown hg hb.size (fun k e=>by cases e;exact hr.le)⟩
 rcases hr with h | ⟨_,o,ho',hc⟩
 ·exact jc ho (by omega)
 exact m7 ho ho' hc
theorem nY.alloc {w W:World} {l r:List UInt8} (h:nY w l r W) (o:Obj):nY w l r (W.alloc o):=by
 obtain⟨⟨out,v,h2,ho,hd,h40⟩,h0,h1,hb⟩:=h
 exact⟨⟨out,v,h2.alloc _,ho.alloc _,hd,h40⟩,h0.alloc _,h1.alloc _,hb.alloc hb.size _⟩
theorem xx.kept {w W W':World} {l:List UInt8} {row:Nat} (h:xx w l W) (hg:W.grownBy W' (some row)) (hr:ox w W row):xx w l W':=by
 obtain⟨⟨e,hd,h1⟩,h0,hb⟩:=h
 exact⟨⟨e,hd,h1.kept hg (hr.box h1 (by omega))⟩,h0.kept hg (hr.box h0 (by omega)),hb.grown hg hb.size (fun k e=>by cases e;exact hr.le)⟩
theorem qO (k:Nat):∀(m:Nat) (r:List UInt8) (out:List aW),r.length<=k->r.length<=m->bn k r out=bn m r out:=by
 induction k with
 | zero=>intro m r out h _;cases r <;> cases m <;> simp_all [bn]
 | succ k ih=>
  intro m r out h h2
  cases r with
  | nil=>cases m <;> simp[bn]
  | cons b r=>
   have hl:=kz b r
   simp at h h2
   cases m with
   | zero=>omega
   | succ m=>
    simp only[bn]
    split;· rfl
    split;· rfl
    exact ih _ _ _ (by omega) (by omega)
theorem kQ {b:UInt8} {r:List UInt8} {out:List aW} (hok:(aF b r).2.2=true) (h:(out.length == 40)=false) :
  bn (b::r).length (b::r) out=bn (aF b r).2.1.length (aF b r).2.1 (out++ [(aF b r).1]):=by
 simp only[aA,bn,hok,h]
 exact qO _ _ _ _ (kz b r) (ay _)
def FV (I:List UInt8->World->Prop) (Ix:World->Prop) (bs:Nat) (b:UInt8) (r:List UInt8) (W:World):Exit->Act->World->Prop
 | .normal,_,W'=>KeepsOthers W W'/\(aF b r).2.2=true/\I (aF b r).2.1 W'/\gk W' bs (b::r)
 | .ret,_,W'=>KeepsOthers W W'/\Ix W'
 | _,_,_=>False
theorem yb {g : Operand} {ps : Array Tmp} {assign body : Code} {Q : Exit -> Act -> World -> Prop} {a : Act} {w : World} (bs : Nat) (hg : a.eval g = .func (.func 156) #[] #[.pointer (some ⟨bs, 0, none⟩)]) (hps : ps.size = 2)
    (I : List UInt8 -> World -> Prop) (Ix : World -> Prop) (hbs : bs < w.heap.size)
    (hI : ∀ r W W' row, I r W -> W.grownBy W' (some row) -> (bs = row \/ (w.heap.size <= row /\ ∃ o, W.heap[row]? = some o /\ o.isCells = false)) -> I r W')
    (hIa : ∀ r W o, I r W -> I r (W.alloc o))
    (hIx : ∀ W W' row, Ix W -> W.grownBy W' (some row) -> (bs = row \/ (w.heap.size <= row /\ ∃ o, W.heap[row]? = some o /\ o.isCells = false)) -> Ix W')
    (r0 : List UInt8) (hc0 : gk w bs r0) (hl0 : r0.length <= 140737488355320) (h0 : I r0 w)
    (hround : ∀ (L : Nat) (b : UInt8) (r : List UInt8) (W : World), I (b :: r) W -> gk W bs (b :: r) -> w.heap.size <= W.heap.size ->
      assign.wpIn (Fence.wide.inRound L) 1 Tryz.prog (Exit.then (fun a₁ W₁ => KeepsOthers W W₁ /\
        (∀ W₂, W₁.grownBy W₂ (some L) -> w.heap.size <= L -> (∃ o, W₁.heap[L]? = some o /\ o.isCells = false) -> body.wpIn (Fence.wide.inRound L) 1 Tryz.prog (FV I Ix bs b r W₂) a₁ W₂)) (fun _ _ _ => False))
        { tmps := (ps.zip #[.agg #[.int .i64 (aF b r).1.c, .int .i64 (aF b r).1.a], .bool (aF b r).2.2]).foldl (fun t (p, v) => t.setIfInBounds p v) a.tmps, defers := [] } W)
    (hdone : ∀ (D : Nat) (W : World), w.heap.size <= D -> I [] W -> W.heap[D]? = some (.deferred (some [])) -> Q .normal { a with defers := { target := .collected D, args := #[] } :: a.defers } W)
    (hstop : ∀ (D : Nat) (W : World), w.heap.size <= D -> Ix W -> W.heap[D]? = some (.deferred (some [])) -> Code.ret.wpIn Fence.wide 3 Tryz.prog Q { a with defers := { target := .collected D, args := #[] } :: a.defers } W) :
    (Code.rangeFunc g ps assign body).wpIn Fence.wide 3 Tryz.prog Q a w := by
  refine wpIn_rangeFunc ?_
  intro fn hfn
  obtain ⟨rec, hrec⟩ : ∃ rec : LoopState -> Option Code -> Loop, rec = fun st pe => { state := st, pending := pe, fn, tmps := a.tmps, params := ps, assign, body, defers := w.heap.size } := ⟨_, rfl⟩
  have hrs : ∀ st pe, (rec st pe).state = st /\ (rec st pe).pending = pe := by intro st pe; rw [hrec]; exact ⟨rfl, rfl⟩
  obtain ⟨W1, hW1⟩ : ∃ W1, (w.alloc (.deferred (some []))).alloc (.loop (rec .ready none)) = W1 := ⟨_, rfl⟩
  have hL1 : W1.heap[w.heap.size + 1]? = some (.loop (rec .ready none)) := by
    rw [← hW1]; have := World.alloc_heap_new (w.alloc (.deferred (some []))) (.loop (rec .ready none)); rwa [World.size_alloc] at this
  have hK1 : W1.heap[w.heap.size]? = some (.deferred (some [])) := by
    rw [← hW1]; exact (Below.heap_alloc _ _ _ (by simp)).trans (World.alloc_heap_new w _)
  have hI1 : I r0 W1 := by rw [← hW1]; exact hIa _ _ _ (hIa _ _ _ h0)
  have hc1 : gk W1 bs r0 := by rw [← hW1]; exact (hc0.alloc _).alloc _
  have hs1 : w.heap.size <= W1.heap.size := by rw [← hW1]; simp; omega
  have eg := enters_of Tryz.func156 (by kernel_rfl) rfl
  refine ⟨w.heap.size + 1, [{ target := .collected w.heap.size, args := #[] }], W1, { target := .fn (.func 156) #[.pointer (some ⟨bs, 0, none⟩)], args := #[.func (.yield (w.heap.size + 1)) #[] #[]] }, W1, 156,
    #[.func (.yield (w.heap.size + 1)) #[] #[]] ++ #[.pointer (some ⟨bs, 0, none⟩)], W1, ?_, ?_, fun _ _ => trivial, ?_, fun _ => by omega, ?_⟩
  · rw [← hW1, hrec]; exact run_enterLoop_outer _ _ _ _ _
  · simp only [resolve, hg]
    simp [go_sem]
  · simp [invoke, go_sem]
  · refine (CR (3 - 1) (w.heap.size + 1) bs (by omega)
      (fun r W => I r W /\ w.heap.size <= W.heap.size /\ W.heap[w.heap.size + 1]? = some (.loop (rec .ready none)) /\ W.heap[w.heap.size]? = some (.deferred (some [])))
      (fun W => Ix W /\ W.heap[w.heap.size + 1]? = some (.loop (rec .done (some .ret))) /\ W.heap[w.heap.size]? = some (.deferred (some [])))
      (fun r W W' h hg' => ⟨hI _ _ _ _ h.1 hg' (.inl rfl), eu h.2.1 hg'.size, (hg'.block _ (bC.1 h.2.2.1).1 (by simp; omega)).trans h.2.2.1, (hg'.block _ (bC.1 h.2.2.2).1 (by simp; omega)).trans h.2.2.2⟩)
      ?_ r0 W1 ⟨hI1, hs1, hL1, hK1⟩ hc1 hl0).mono ?_
    · rintro b r W ⟨hi, hsW, hl, hk⟩ hcap hrl
      have hy := run_yield (P := Tryz.prog) (args := #[.agg #[.int .i64 (aF b r).1.c, .int .i64 (aF b r).1.a], .bool (aF b r).2.2]) hl (by rw [hrec]; exact hps.symm)
      rw [hrec] at hy
      refine ⟨fn, _, assign, body, hy, roundIn_of_wpIn hfn (wpIn_mono (hround _ b r W hi hcap hsW) ?_)⟩
      rintro e a₁ W₁ hq
      cases e with
      | normal =>
        obtain ⟨hko, hbody⟩ := hq
        have hl' := hko.same _ _ hl rfl
        have hk' := hko.same _ _ hk rfl
        refine ⟨_, run_beginRound hl' (hrs _ _).1, wpIn_mono (hbody _ (grownBy_putObj' _ _ _) (by omega) ⟨_, hl', rfl⟩) ?_⟩
        have hlt : w.heap.size + 1 < W₁.heap.size := (bC.1 hl').1
        have hl2 : (W₁.putObj (w.heap.size + 1) (.loop { rec .ready none with state := .busy })).heap[w.heap.size + 1]? = some (.loop { rec .ready none with state := .busy }) := World.putObj_heap_same hlt
        have hk2 : (W₁.putObj (w.heap.size + 1) (.loop { rec .ready none with state := .busy })).heap[w.heap.size]? = some (.deferred (some [])) := (World.putObj_heap_other (by omega)).trans hk'
        rintro e a3 W3 hp
        cases e with
        | normal =>
          obtain ⟨hk3, hok, hi3, hc3⟩ := hp
          have hl3 := hk3.same _ _ hl2 rfl
          have hend := run_endRound (P := Tryz.prog) none hl3
          have hsz3 : w.heap.size <= W3.heap.size := by have := (bC.1 hl3).1; omega
          refine ⟨_, _, hend, .inl ⟨rfl, hok, ⟨hI _ _ _ _ hi3 (grownBy_putObj' _ _ _) (.inr ⟨by omega, _, hl3, rfl⟩), by simpa using hsz3, ?_, (World.putObj_heap_other (by omega)).trans (hk3.same _ _ hk2 rfl)⟩, ?_⟩⟩
          · have := World.putObj_heap_same (w := W3) (o := .loop { ({ rec .ready none with state := .busy } : Loop) with state := .ready, pending := none }) (bC.1 hl3).1
            rw [hrec] at this ⊢
            exact this
          · have h1 : (W3.putObj (w.heap.size + 1) (.loop { ({ rec .ready none with state := .busy } : Loop) with state := .ready, pending := none })).heap[bs]? = W3.heap[bs]? := World.putObj_heap_other (by omega)
            exact h1.trans ((show W3.heap[bs]? = _ from hc3).trans (show W.heap[bs]? = _ from hcap).symm)
        | ret =>
          obtain ⟨hk3, hi3⟩ := hp
          have hl3 := hk3.same _ _ hl2 rfl
          have hend := run_endRound (P := Tryz.prog) (some .ret) hl3
          refine ⟨_, _, hend, .inr ⟨rfl, hIx _ _ _ hi3 (grownBy_putObj' _ _ _) (.inr ⟨by omega, _, hl3, rfl⟩), ?_, (World.putObj_heap_other (by omega)).trans (hk3.same _ _ hk2 rfl)⟩⟩
          have := World.putObj_heap_same (w := W3) (o := .loop { ({ rec .ready none with state := .busy } : Loop) with state := .done, pending := some .ret }) (bC.1 hl3).1
          rw [hrec] at this ⊢
          exact this
        | exit id => exact hp.elim
        | goto t => exact hp.elim
        | panic ch => exact hp.elim
        | outgrown => exact hp.elim
      | exit id => exact hq.elim
      | goto t => exact hq.elim
      | ret => exact hq.elim
      | panic ch => exact hq.elim
      | outgrown => exact hq.elim
    · rintro e W2 ⟨⟨v, rfl⟩, (⟨hi, _, hl, hk⟩ | ⟨hi, hl, hk⟩)⟩
      · obtain ⟨o, hend⟩ : ∃ o, (Instr.endLoop (w.heap.size + 1)).run Tryz.prog W2 = .ok none (W2.putObj (w.heap.size + 1) o) := by
          have := run_endLoop (P := Tryz.prog) hl (by rw [(hrs _ _).1]; simp)
          rw [(hrs _ _).2] at this
          exact ⟨_, this⟩
        exact ⟨none, _, hend, hdone _ _ (ay _) (hI _ _ _ _ hi (grownBy_putObj' _ _ _) (.inr ⟨by omega, _, hl, rfl⟩)) ((World.putObj_heap_other (by omega)).trans hk)⟩
      · obtain ⟨o, hend⟩ : ∃ o, (Instr.endLoop (w.heap.size + 1)).run Tryz.prog W2 = .ok (some .ret) (W2.putObj (w.heap.size + 1) o) := by
          have := run_endLoop (P := Tryz.prog) hl (by rw [(hrs _ _).1]; simp)
          rw [(hrs _ _).2] at this
          exact ⟨_, this⟩
        exact ⟨some .ret, _, hend, hstop _ _ (ay _) (hIx _ _ _ hi (grownBy_putObj' _ _ _) (.inr ⟨by omega, _, hl, rfl⟩)) ((World.putObj_heap_other (by omega)).trans hk)⟩

end
section
open Go.RowKit Go.Shelf
attribute [local go_sem] Oper.semAt_some

theorem f6 {W:World} {B:Nat} {t:TypeId} {v:Value} (h:Boxed W B t v) {p:Addr} (hp:B≠p.block) (u:Value):Boxed (W.setCell p u) B t v:=(Below.heap_setCell _ _ _ _ hp).trans h
theorem y6 (l : List UInt8) (w : World) (hl : l.length <= 140737488355320) : CallsIn Fence.wide 3 Tryz.prog 41 #[.string ⟨l.toArray⟩] w fun e W =>
    ∃ v, e = .returned (.tuple #[v, .int .i64 (aE l).2]) /\ Below w.heap.size w W /\ W.ownsRow (w.heap.size + 4) 86 2 v (aE l).1.length ((aE l).1.flatMap eG) := by
  refine callsIn_of_wp_marks Tryz.func41 rfl trivial ?_
  simp only [Tryz.ntmps41, jg, aA, aH, Nat.reduceAdd, Nat.reduceSub, Array.replicate_succ, Array.replicate_zero, List.push_toArray, List.append_toArray, e9, dE]
  gi_wp2_with (refine ⟨trivial, ?_⟩; gi_at_call 103; refine (callsIn_wide.2 (CQ l _)).mono ?_; rintro e w' ⟨rfl, rfl⟩)
  obtain ⟨w1, hw1⟩ : ∃ w1, (((w.alloc (.cells #[.slice none 0 0] 77)).alloc (.cells #[.int .i64 0] 29)).alloc (.cells #[.slice none 0 0] 77)).alloc (.cells #[.string ⟨l.toArray⟩] 9) = w1 := ⟨_, rfl⟩
  rw [hw1]
  have hsz : w1.heap.size = w.heap.size + 4 := by rw [← hw1]; simp
  have hB : Below w.heap.size w w1 := by
    rw [← hw1]; exact aB (aB (aB (aB (Below.refl _ _) _) _) _) _
  have hbx0 : Boxed w1 w.heap.size 77 (.slice none 0 0) := by rw [← hw1]; exact (((Boxed.new w _ _).alloc _).alloc _).alloc _
  have hbx1 : Boxed w1 (w.heap.size + 1) 29 (.int .i64 0) := by
    rw [← hw1]; have := ((Boxed.new (w.alloc (.cells #[.slice none 0 0] 77)) 29 (.int .i64 0)).alloc (.cells #[.slice none 0 0] 77)).alloc (.cells #[.string ⟨l.toArray⟩] 9); rwa [World.size_alloc] at this
  have hbx2 : Boxed w1 (w.heap.size + 2) 77 (.slice none 0 0) := by
    rw [← hw1]; have := (Boxed.new ((w.alloc (.cells #[.slice none 0 0] 77)).alloc (.cells #[.int .i64 0] 29)) 77 (.slice none 0 0)).alloc (.cells #[.string ⟨l.toArray⟩] 9); rwa [World.size_alloc, World.size_alloc] at this
  have hcap : gk w1 (w.heap.size + 3) l := by
    rw [← hw1]; have := Boxed.new (((w.alloc (.cells #[.slice none 0 0] 77)).alloc (.cells #[.int .i64 0] 29)).alloc (.cells #[.slice none 0 0] 77)) 9 (.string ⟨l.toArray⟩); rwa [World.size_alloc, World.size_alloc, World.size_alloc] at this
  clear hw1
  refine yb (w.heap.size + 3) rfl rfl (nY w l) (xx w l) (by omega)
    (fun r W W' row h hg hr => h.kept hg (hr.imp id (fun ⟨h1, h2⟩ => ⟨by omega, h2⟩)))
    (fun r W o h => h.alloc o)
    (fun W W' row h hg hr => h.kept hg (hr.imp id (fun ⟨h1, h2⟩ => ⟨by omega, h2⟩)))
    l hcap hl ⟨⟨[], .slice none 0 0, hbx2, by simpa using World.ownsRow_nil _ _ _ _, rfl, by simp⟩, hbx0, hbx1, hB⟩ ?round ?done ?stop
  case round =>
    intro L b r W hi hc hs
    gi_wp2
    refine ⟨KeepsOthers.alloc _ _, fun W₂ hg hL ho => ?_⟩
    have hLne : W.heap.size ≠ L := by
      obtain ⟨o, h1, h2⟩ := ho
      rintro rfl
      rw [World.alloc_heap_new] at h1; cases h1; cases h2
    have hi2 : nY w l (b :: r) W₂ := (hi.alloc _).kept hg (.inr ⟨by omega, ho⟩)
    have hc2 : gk W₂ (w.heap.size + 3) (b :: r) := (hg.block _ (hc.alloc _).lt (by simp; omega)).trans (hc.alloc _)
    have hbox : W₂.heap[W.heap.size]? = some (.cells #[.int .i64 (aF b r).1.c, .int .i64 (aF b r).1.a] 86 (0, 0)) := (hg.block _ (by simp) (by simpa using hLne)).trans (World.alloc_heap_new _ _)
    have hx0 : W₂.cell? ⟨W.heap.size, 0, none⟩ = some (.int .i64 (aF b r).1.c) := by simp [World.cell?, hbox]
    have hx1 : W₂.cell? ⟨W.heap.size, 1, none⟩ = some (.int .i64 (aF b r).1.a) := by simp [World.cell?, hbox]
    clear hbox hg hi hc
    obtain ⟨⟨out, v, h2, hown, hd, h40⟩, h0, h1, hb⟩ := hi2
    obtain ⟨A, cap, rfl⟩ : ∃ A cap, v = .slice A out.length cap := o8 hown
    have Hd := Lib.hid hd; clear hd
    have c0 := h0.cell
    have c1 := h1.cell
    have c2 := h2.cell
    have f0 := h0.frozen
    have f1 := h1.frozen
    have f2 := h2.frozen
    have hcs := hc2.lt
    obtain ⟨i0, hi, hz0, hz1, hz2⟩ := info_parts oM
    cases hok : (aF b r).2.2 with
    | false =>
      gi_wp2
      refine ⟨(KeepsOthers.setCell _ _ _).trans (KeepsOthers.setCell _ _ _), ⟨1, ?_, (f6 h1 (by simp) _).set _⟩, f6 (h0.set _) (by simp) _, (hb.setCell (by simp) _).setCell (by simp) _⟩
      rw [← Hd.out]; simp [bn, hok]
    | true =>
      by_cases h41 : out.length = 40
      · have ht : ((out.length : Int) == 40) = true := by simp; omega
        have ht2 : decide ((out.length : Int) = 40) = true := by simp; omega
        have Hl := Lib.hid h41; clear h41
        gi_wp2
        refine ⟨(KeepsOthers.setCell _ _ _).trans (KeepsOthers.setCell _ _ _), ⟨2, ?_, (f6 h1 (by simp) _).set _⟩, f6 (h0.set _) (by simp) _, (hb.setCell (by simp) _).setCell (by simp) _⟩
        rw [← Hd.out]; simp [bn, hok, Hl.out]
      · have ht : ((out.length : Int) == 40) = false := by simp; omega
        have ht2 : decide ((out.length : Int) = 40) = false := by simp; omega
        have hcell2 := cell_two_new W₂ (.int .i64 (aF b r).1.c) (.int .i64 (aF b r).1.a) 86
        gi_wp2_with (gi_at_builtin; refine r7 ?_)
        unfold wm
        refine wpListIn_append_own _ rfl _ _ 77 rfl (w.heap.size + 4) 86 i0 (.agg #[.int .i64 0, .int .i64 0]) 2 16 fH hi hz0 hz1 hz2 rfl (by decide) _ _ _ rfl (hown.alloc _) ⟨W₂.heap.size, 0, none⟩ 1 1 (eG (aF b r).1) rfl rfl hcell2
          (by simp [eG, Value.oneCell']) (by unfold maxLen; omega) (by omega) (by simp; omega) ?_
        intro v' w2 hown' hgrow _
        obtain ⟨g', cap', rfl⟩ := ownsRow_succ hown'
        obtain ⟨hv1, hv2, _, hk2, hb2⟩ := h2.appended (n₀ := w.heap.size) (by decide) (o7 hown (by omega)) hb.size (by omega) (o7 hown' (by omega)) hgrow
        have hr2 := hown'.kept (grownBy_setCell' w2 (w.heap.size + 2) (.slice (some ⟨g', 0, none⟩) (out.length + 1) cap')) (.inr (jc hown' (by omega)))
        have hv1c := hv1.cell
        have hv1f := hv1.frozen
        have hg2 : ∀ B t u, Boxed W₂ B t u -> B < w.heap.size + 4 -> Boxed w2 B t u := fun B t u h hlt => (h.alloc _).kept hgrow (Ne.symm (jc hown (by omega)))
        gi_wp2
        refine ⟨hk2, hok, ⟨⟨out ++ [(aF b r).1], _, hv2, ?_, ?_, ?_⟩, f6 (hg2 _ _ _ h0 (by omega)) (by simp <;> omega) _, f6 (hg2 _ _ _ h1 (by omega)) (by simp <;> omega) _, hb.trans hb2⟩, f6 (hg2 _ _ _ hc2 (by omega)) (by simp <;> omega) _⟩
        · rw [ag, List.flatMap_append]; simpa using hr2
        · rw [← Hd.out, kQ hok (by simpa using h41)]
        · simp; omega
  case done =>
    intro D W hD hi hdef
    obtain ⟨⟨out, v, h2, hown, hd, h40⟩, h0, h1, hb⟩ := hi
    obtain ⟨A, cap, rfl⟩ : ∃ A cap, v = .slice A out.length cap := o8 hown
    have Hd := Lib.hid hd; clear hd
    have c0 := h0.cell
    have c1 := h1.cell
    have c2 := h2.cell
    have f0 := h0.frozen
    have f1 := h1.frozen
    gi_wp2
    obtain ⟨W', hW'⟩ : ∃ W', (W.setCell ⟨w.heap.size, 0, none⟩ (.slice A out.length cap)).setCell ⟨w.heap.size + 1, 0, none⟩ (.int .i64 0) = W' := ⟨_, rfl⟩
    have b0 : Boxed W' w.heap.size 77 (.slice A out.length cap) := by rw [← hW']; exact f6 (h0.set _) (by simp) _
    have b1 : Boxed W' (w.heap.size + 1) 29 (.int .i64 0) := by rw [← hW']; exact (f6 h1 (by simp) _).set _
    have hB' : Below w.heap.size w W' := by rw [← hW']; exact (hb.setCell (by simp) _).setCell (by simp) _
    have hown' : W'.ownsRow (w.heap.size + 4) 86 2 (.slice A out.length cap) out.length (out.flatMap eG) := by
      rw [← hW']; exact (hown.kept (grownBy_setCell' _ _ _) (.inr (jc hown (by omega)))).kept (grownBy_setCell' _ _ _) (.inr (jc hown (by omega)))
    have hdef' : W'.heap[D]? = some (.deferred (some [])) := by rw [← hW']; exact ((KeepsOthers.setCell _ _ _).trans (KeepsOthers.setCell _ _ _)).same D _ hdef rfl
    rw [hW']
    refine ⟨by simp, .inl ⟨_, _, rfl, run_takeDeferred hdef', ?_⟩⟩
    have r0 := (b0.kept (grownBy_putObj' W' D (.deferred none)) (by simpa using f4 b0 hdef' rfl)).cell
    have r1 := (b1.kept (grownBy_putObj' W' D (.deferred none)) (by simpa using f4 b1 hdef' rfl)).cell
    have e1 : aE l = (out, 0) := by rw [← Hd.out]; rfl
    refine ⟨.tuple #[.slice A out.length cap, .int .i64 0], by unfold results; rw [Tryz.results41]; go_simp, _, by rw [e1], hB'.grown (grownBy_putObj' _ _ _) hB'.size (fun k e => by cases e; omega), ?_⟩
    rw [e1]
    exact hown'.kept (grownBy_putObj' _ _ _) (.inr (m7 hown' hdef' rfl))
  case stop =>
    intro D W hD hi hdef
    obtain ⟨⟨e, hd, h1⟩, h0, hb⟩ := hi
    gi_wp2
    refine ⟨by simp, .inl ⟨_, _, rfl, run_takeDeferred hdef, ?_⟩⟩
    have r0 := (h0.kept (grownBy_putObj' W D (.deferred none)) (by simpa using f4 h0 hdef rfl)).cell
    have r1 := (h1.kept (grownBy_putObj' W D (.deferred none)) (by simpa using f4 h1 hdef rfl)).cell
    have Hd := Lib.hid hd; clear hd
    refine ⟨.tuple #[.slice none 0 0, .int .i64 e], by unfold results; rw [Tryz.results41]; go_simp, _, by rw [Hd.out], hb.grown (grownBy_putObj' _ _ _) hb.size (fun k e => by cases e; omega), ?_⟩
    rw [Hd.out]
    exact World.ownsRow_nil _ _ _ _

end
section
theorem dV (n a b : Int) (w : World) : Calls Tryz.prog 80 #[.int .i64 n, .int .i64 a, .int .i64 b] w fun e w' => e = .returned (.bool (decide (a <= n) && decide (n <= b))) /\ w = w' := by
  go_enter Tryz.func80, Tryz.ntmps80
  go_wp2
  all_goals (go_ret; exact ⟨aS (by simp [*]; try omega), rfl⟩)
theorem gJ (n : Int) (w : World) : Calls Tryz.prog 81 #[.int .i64 n] w fun e w' => e = .returned (.bool (bg n)) /\ w = w' := by
  go_enter Tryz.func81, Tryz.ntmps81
  go_wp2_with (go_at_call 80; refine (dV _ _ _ _).mono ?_; rintro e w' ⟨rfl, rfl⟩)
  all_goals (go_ret; exact ⟨aS (by simp [bg]), rfl⟩)
theorem q9 (n : Int) (w : World) : Calls Tryz.prog 200 #[.int .i64 n] w fun e w' => e = .returned (.bool (fj n)) /\ w = w' := by
  go_enter Tryz.func200, Tryz.ntmps200
  go_wp2
  all_goals (go_ret; exact ⟨aS (by rw [Bool.eq_iff_iff]; simp [fj, *]; try omega), rfl⟩)
theorem sT (o : aW) (w : World) : Calls Tryz.prog 246 #[.agg #[.int .i64 o.c, .int .i64 o.a]] w fun e w' => e = .returned (.int .i64 (dP o)) /\ Below w.heap.size w w' := by
  go_enter Tryz.func246, Tryz.ntmps246
  go_wp2_with (first
    | (go_at_call 80; refine (dV _ _ _ _).mono ?_; rintro e w' ⟨rfl, rfl⟩)
    | (go_at_call 81; refine (gJ _ _).mono ?_; rintro e w' ⟨rfl, rfl⟩)
    | (go_at_call 200; refine (q9 _ _).mono ?_; rintro e w' ⟨rfl, rfl⟩))
  all_goals (go_ret; exact ⟨cK (by simp_all [dP, fX]), (by repeat (first | exact Below.refl _ _ | assumption | refine Below.drew ?_ | refine Below.drewN_ ?_ _ | refine aB ?_ _ | refine a8 (by assumption) ?_ | refine bz ?_ (by simp <;> omega) _))⟩)

theorem xR (n : Int) (w : World) (hn : aI n) : Calls Tryz.prog 110 #[.int .i64 n] w fun e w' => e = .returned (.int .i64 (gt n)) /\ w = w' := by
  have h1 := hn.lo
  have h2 := hn.hi
  by_cases h0 : 0 <= n
  · go_enter Tryz.func110, Tryz.ntmps110
    go_wp2
    all_goals (go_ret; exact ⟨cK (by unfold gt; omega), rfl⟩)
  · have ht : n.tmod 4294967296 = -((-n) % 4294967296) := by
      rw [← Int.tmod_eq_emod_of_nonneg (by omega), Int.neg_tmod, Int.neg_neg]
    have h3 : -4294967296 < -((-n) % 4294967296) := by omega
    have h4 : -((-n) % 4294967296) <= 0 := by omega
    go_enter Tryz.func110, Tryz.ntmps110
    go_wp2
    all_goals (go_ret; exact ⟨cK (by unfold gt; omega), rfl⟩)

end
section
def fQ (l:List UInt8):Int:=l.foldl (fun u c=>u*256+c.toNat) 0
theorem yu (l:List UInt8) (k:Nat) (h:k<l.length):fQ (l.take (k+1))=fQ (l.take k)*256+(l[k].toNat:Int):=by
 rw[dM h,fQ,List.foldl_append]
 simp[fQ]
theorem CY (l:List UInt8):0<=fQ l/\fQ l<256 ^ l.length:=by
 refine sJ (m:=fun l=>0<=fQ l/\fQ l<256 ^ l.length) (by simp[fQ]) ?_ l
 ·intro l c ih
  have h1:fQ (l++ [c])=fQ l*256+c.toNat:=by simp[fQ,List.foldl_append]
  have:=c.toNat_lt
  rw[h1,ag,br,Int.pow_succ]
  constructor <;> omega
theorem AI (l:List UInt8):iA l=fQ l % 4294967296:=by
 refine sJ (m:=fun l=>iA l=fQ l % 4294967296) (by simp[fQ,iA]) ?_ l
 ·intro l c ih
  have h1:fQ (l++ [c])=fQ l*256+c.toNat:=by simp[fQ,List.foldl_append]
  have h2:iA (l++ [c])=(iA l*256+c.toNat) % 4294967296:=by simp[iA,List.foldl_append]
  rw[h1,h2,ih];omega
theorem CJ (n:Nat) (h:n<=4):(256:Int) ^ n<=4294967296:=by
 match n,h with
 | 0,_=>decide
 | 1,_=>decide
 | 2,_=>decide
 | 3,_=>decide
 | 4,_=>decide
theorem xy (n:Int):gt (n % 4294967296)=gt n:=by unfold gt;omega
theorem rP (l : List UInt8) (a : Int) (w : World) (h0 : 0 <= a) (h4 : a + 4 <= l.length) (hl : l.length <= 140737488355320) :
    Calls Tryz.prog 201 #[.string ⟨l.toArray⟩, .int .i64 a] w fun e w' => e = .returned (.int .i64 (de ((l.drop a.toNat).take 4))) /\ w = w' := by
  obtain ⟨k, rfl⟩ := lJ h0
  rw [aV]
  go_enter Tryz.func201, Tryz.ntmps201
  go_wp2
  go_loop [5, 6] (fun n i => ∃ j : Nat, j <= 4 /\ i = .int .i64 (k + j : Nat) /\ n = .int .i64 (fQ ((l.drop k).take j))) (fun _ i => k + 4 - (intOf i).toNat)
  case atStart => exact ⟨0, by omega, rfl, rfl⟩
  case round =>
    obtain ⟨j, hj, rfl, rfl⟩ := hrel
    have hb := CY ((l.drop k).take j)
    have hlen : ((l.drop k).take j).length <= 4 := by simp; omega
    have hb2 : fQ ((l.drop k).take j) < 4294967296 := by
      exact Int.lt_of_lt_of_le hb.2 (CJ _ hlen)
    have hb1 := hb.1
    clear hb hlen
    by_cases hlt : j < 4
    · have hs := yu (l.drop k) j (by simp; omega)
      rw [List.getElem_drop] at hs
      have Hs := Lib.hid hs; clear hs
      generalize fQ ((l.drop k).take j) = x at *
      have hkl : k + j < l.length := by omega
      have hb8 := (l[k + j]'hkl).toNat_lt
      go_wp2
      go_round
      case rel => exact ⟨j + 1, by omega, by go_num, by rw [Hs.out, Int.mul_comm]⟩
      case measure => simp [intOf]; omega
    · have hge : 4 <= j := by omega
      clear hlt
      generalize hx : fQ ((l.drop k).take j) = x at *
      have Hx := Lib.hid hx; clear hx
      go_wp2_with (go_at_call 110; refine (xR _ _ ⟨by omega, by omega⟩).mono ?_; rintro e w' ⟨rfl, rfl⟩)
      go_ret
      obtain rfl : j = 4 := by omega
      exact ⟨cK (by rw [← Hx.out, de, AI, xy]), rfl⟩
end
section
theorem qz (v : Value) (l : List aW) (w : World) (hs : Sl w v l) :
    Calls Tryz.prog 194 #[v] w fun e w' => e = .returned (.int .i64 (df l)) /\ Below w.heap.size w w' := by
  obtain ⟨A, c, rfl, hlc, hc, hl⟩ := hs.form
  go_enter Tryz.func194, Tryz.ntmps194
  go_wp2
  · go_ret
    exact ⟨cK (by simp [df]; omega), (by repeat (first | exact Below.refl _ _ | assumption | refine Below.drew ?_ | refine Below.drewN_ ?_ _ | refine aB ?_ _ | refine a8 (by assumption) ?_ | refine bz ?_ (by simp <;> omega) _))⟩
  go_loopw [3] (fun t wr => ∃ k : Nat, k <= l.length /\ t = .int .i64 k /\ Below w.heap.size w wr /\ dp (l.take k) = 0) (fun t _ => l.length - (intOf t).toNat)
  case atStart => exact ⟨0, by omega, rfl, (by repeat (first | exact Below.refl _ _ | assumption | refine Below.drew ?_ | refine Below.drewN_ ?_ _ | refine aB ?_ _ | refine a8 (by assumption) ?_ | refine bz ?_ (by simp <;> omega) _)), by simp [dp]⟩
  case round =>
    obtain ⟨k, hk, rfl, hbl, hck⟩ := hrel
    have Hck := Lib.hid hck; clear hck
    have hs' := hs.via hbl
    by_cases hlt : k < l.length
    · obtain ⟨b, off, o, rfl, hb, ho, hc0, hc1, hi0, hi1⟩ := hs'.op_at hlt
      have Ho := Lib.hid ho; clear ho
      have hsz := hbl.size
      go_wp2_with (go_at_call 246; refine (sT o _).mono ?_; rintro e w' ⟨rfl, hb⟩)
      · go_ret
        exact ⟨cK (qd (by omega) Ho.out Hck.out (by assumption)), (by repeat (first | exact Below.refl _ _ | assumption | refine Below.drew ?_ | refine Below.drewN_ ?_ _ | refine aB ?_ _ | refine a8 (by assumption) ?_ | refine bz ?_ (by simp <;> omega) _))⟩
      · go_roundw
        case rel => exact ⟨k + 1, by omega, by go_num, (by repeat (first | exact Below.refl _ _ | assumption | refine Below.drew ?_ | refine Below.drewN_ ?_ _ | refine aB ?_ _ | refine a8 (by assumption) ?_ | refine bz ?_ (by simp <;> omega) _)), by rw [kR Ho.out Hck.out]; simp_all⟩
        case measure => simp [intOf]; omega
    · go_wp2
      go_ret
      exact ⟨cK (qc (by omega) (by rw [← Hck.out, a6 (by omega)])), (by repeat (first | exact Below.refl _ _ | assumption | refine Below.drew ?_ | refine Below.drewN_ ?_ _ | refine aB ?_ _ | refine a8 (by assumption) ?_ | refine bz ?_ (by simp <;> omega) _))⟩

theorem Gw (W:World) (x:Int):(convert 177 9 (.slice (some ⟨W.heap.size,0,none⟩) 1 1)).run Tryz.prog (W.alloc (.cells #[.int .u8 x] 5)) =
  .ok (.string ⟨[UInt8.ofNat x.toNat].toArray⟩) (W.alloc (.cells #[.int .u8 x] 5)):=
 run_convert_bytes_arg (P:=Tryz.prog) _ 177 5 Tryz.underlying177 Tryz.underlying5 _ 0 1 1 [x] rfl
  (by intro i hi;match i,hi with | 0,_=>simp) 9 Tryz.underlying9
end
section
theorem nK {l:List UInt8} {k:Nat} {out:List aW} (hlt:k<l.length) (hd:bn (l.drop k).length (l.drop k) out=aE l):aE l=bn (l[k]::l.drop (k+1)).length (l[k]::l.drop (k+1)) out:=by
 rw[<-hd,ku hlt]
theorem r8 {b:UInt8} (h:(!decide ((1:Int)<=b.toNat))=false/\(!decide ((b.toNat:Int)<=21))=false):fX b.toNat=true:=by
 simp only[fX];simp_all
theorem wa {l:List UInt8} {k:Nat} {out:List aW} (hlt:k<l.length) (hd:bn (l.drop k).length (l.drop k) out=aE l) (h:(!decide ((1:Int)<=l[k].toNat))=true\/(!decide ((l[k].toNat:Int)<=21))=true):aE l=([],1):=by
 rw[nK hlt hd]
 generalize l[k]=b at *
 generalize l.drop (k+1)=r at *
 have h1:fX b.toNat=false:=by simp only[fX];rcases h with h | h <;> simp at h⊢ <;> omega
 simp[bn,aF,h1]
theorem rF {l:List UInt8} {k:Nat} {out:List aW} (hlt:k<l.length) (hd:bn (l.drop k).length (l.drop k) out=aE l) (h:(!decide ((1:Int)<=l[k].toNat))=false/\(!decide ((l[k].toNat:Int)<=21))=false) (hn:fj l[k].toNat=true) (h4:(l.length:Int)<k+1+4):aE l=([],1):=by
 rw[nK hlt hd]
 have hc:=r8 h
 have hr:((l.drop (k+1)).length:Int)<4:=by simp;omega
 generalize l[k]=b at *
 generalize l.drop (k+1)=r at *
 simp[bn,aF,hc,hn,dX,hr]
theorem mW {l:List UInt8} {k:Nat} {out:List aW} (hlt:k<l.length) (hd:bn (l.drop k).length (l.drop k) out=aE l) (h:(!decide ((1:Int)<=l[k].toNat))=false/\(!decide ((l[k].toNat:Int)<=21))=false) (hn:fj l[k].toNat=true/\(k:Int)+1+4<=l.length\/fj l[k].toNat=false) (h40:((out.length:Int) == 40)=true):aE l=([],2):=by
 have h41:(out.length == 40)=true:=by simp at h40⊢;omega
 rw[nK hlt hd]
 have hc:=r8 h
 rcases hn with ⟨hn,h4⟩ | hn
 ·have hr:¬((l.drop (k+1)).length:Int)<4:=by simp;omega
  generalize l[k]=b at *
  generalize l.drop (k+1)=r at *
  have hcut:dX r 4=(r.take 4,r.drop 4,true):=by unfold dX;rw[if_neg hr];rfl
  simp[bn,aF,hc,hn,hcut,h41]
 generalize l[k]=b at *
 generalize l.drop (k+1)=r at *
 simp[bn,aF,hc,hn,h41]
theorem Bo {l:List UInt8} {k:Nat} {out:List aW} (hlt:k<l.length) (hd:bn (l.drop k).length (l.drop k) out=aE l) (h:(!decide ((1:Int)<=l[k].toNat))=false/\(!decide ((l[k].toNat:Int)<=21))=false) (hn:fj l[k].toNat=true) (h4:(k:Int)+1+4<=l.length) (h40:((out.length:Int) == 40)=false) :
  bn (l.drop (k+5)).length (l.drop (k+5)) (out++ [⟨l[k].toNat,de ((l.drop (k+1)).take 4)⟩])=aE l:=by
 have h41:(out.length == 40)=false:=by simp at h40⊢;omega
 have hr:¬((l.drop (k+1)).length:Int)<4:=by simp;omega
 have hf:aF l[k] (l.drop (k+1))=(⟨l[k].toNat,de ((l.drop (k+1)).take 4)⟩,(l.drop (k+1)).drop 4,true):=by
  have hc:=r8 h
  generalize l[k]=b at *
  generalize l.drop (k+1)=r at *
  have hcut:dX r 4=(r.take 4,r.drop 4,true):=by unfold dX;rw[if_neg hr];rfl
  simp[aF,hc,hn,hcut]
 rw[nK hlt hd,kQ (by rw[hf]) h41,hf,List.drop_drop]
theorem y7 {l:List UInt8} {k:Nat} {out:List aW} (hlt:k<l.length) (hd:bn (l.drop k).length (l.drop k) out=aE l) (h:(!decide ((1:Int)<=l[k].toNat))=false/\(!decide ((l[k].toNat:Int)<=21))=false) (hn:fj l[k].toNat=false) (h40:((out.length:Int) == 40)=false) :
  bn (l.drop (k+1)).length (l.drop (k+1)) (out++ [⟨l[k].toNat,0⟩])=aE l:=by
 have h41:(out.length == 40)=false:=by simp at h40⊢;omega
 have hf:aF l[k] (l.drop (k+1))=(⟨l[k].toNat,0⟩,l.drop (k+1),true):=by
  simp[aF,r8 h,hn]
 rw[nK hlt hd,kQ (by rw[hf]) h41,hf]
theorem rJ {a W w2:World} {e:TypeId} {size n:Nat} {v:Value} {xs:List Value} (h:Below a.heap.size a W) (ho:W.ownsRow a.heap.size e size v n xs) (hg:W.grownBy w2 v.ownBlock):Below a.heap.size a w2:=
 h.grown hg h.size (fun k hk=>(ho.lt k hk).1)
theorem BM {out:List aW} {x:aW} (h:((out.length:Int) == 40)=false) (h40:out.length<=40):(out++ [x]).length<=40:=by
 simp at h⊢;omega
theorem mg {l:List UInt8} {out:List aW} {e:Int} {v:Value} (h:aE l=(out,e)):Ending.returned (.tuple #[v,.int .i64 e])= .returned (.tuple #[v,.int .i64 (aE l).2]):=by rw[h]
theorem n9 {W:World} {base:Nat} {l:List UInt8} {e:Int} (h:aE l=([],e)):W.ownsRow base 86 2 (.slice none 0 0) (aE l).1.length ((aE l).1.flatMap eG):=by rw[h];exact World.ownsRow_nil _ _ _ _
theorem uG (l : List UInt8) (w : World) (hl : l.length <= 140737488355320) :
    Calls Tryz.prog 144 #[.string ⟨l.toArray⟩] w fun e w' => ∃ v, e = .returned (.tuple #[v, .int .i64 (aE l).2]) /\ Below w.heap.size w w' /\ w'.ownsRow w.heap.size 86 2 v (aE l).1.length ((aE l).1.flatMap eG) := by
  go_enter Tryz.func144, Tryz.ntmps144
  go_wp2
  go_loopw [4, 5] (fun v t wr => ∃ (k : Nat) (out : List aW), k <= l.length /\ t = .int .i64 k /\ Below w.heap.size w wr /\ wr.ownsRow w.heap.size 86 2 v out.length (out.flatMap eG) /\ bn (l.drop k).length (l.drop k) out = aE l /\ out.length <= 40) (fun _ t _ => l.length - (intOf t).toNat)
  case atStart => exact ⟨0, [], by omega, rfl, (by repeat (first | exact Below.refl _ _ | assumption | refine Below.drew ?_ | refine Below.drewN_ ?_ _ | refine aB ?_ _ | refine a8 (by assumption) ?_ | refine bz ?_ (by simp <;> omega) _)), by simpa using World.ownsRow_nil _ _ _ _, rfl, by simp⟩
  case round =>
    obtain ⟨k, out, hk, rfl, hbl, hown, hd, h40⟩ := hrel
    obtain ⟨A, cap, rfl⟩ := o8 hown
    have Hd := Lib.hid hd; clear hd
    by_cases hlt : k < l.length
    · have hdr : l.drop k = l[k] :: l.drop (k + 1) := ku hlt
      have fp := Lib.hid hdr; clear hdr
      have hb8 := (l[k]'hlt).toNat_lt
      have hlr : (l.drop (k + 1)).length = l.length - (k + 1) := by simp
      have Hlr := Lib.hid hlr; clear hlr
      have hsz := hbl.size
      obtain ⟨i0, hi, hz0, hz1, hz2⟩ := info_parts oM
      go_wp2_with (first
        | (go_at_call 80; refine (dV _ _ _ _).mono ?_; rintro e w' ⟨rfl, rfl⟩)
        | (go_at_call 200; refine (q9 _ _).mono ?_; rintro e w' ⟨rfl, rfl⟩)
        | (go_at_call 201; refine (rP l _ _ (by omega) (by omega) hl).mono ?_; rintro e w' ⟨rfl, rfl⟩)
        | (at_builtin; refine r7 ?_))
      · go_ret2
        exact ⟨_, mg (wa hlt Hd.out (by assumption)), (by repeat (first | exact Below.refl _ _ | assumption | refine Below.drew ?_ | refine Below.drewN_ ?_ _ | refine aB ?_ _ | refine a8 (by assumption) ?_ | refine bz ?_ (by simp <;> omega) _)), n9 (wa hlt Hd.out (by assumption))⟩
      · go_ret2
        exact ⟨_, mg (rF hlt Hd.out (by assumption) (by assumption) (by assumption)), (by repeat (first | exact Below.refl _ _ | assumption | refine Below.drew ?_ | refine Below.drewN_ ?_ _ | refine aB ?_ _ | refine a8 (by assumption) ?_ | refine bz ?_ (by simp <;> omega) _)), n9 (rF hlt Hd.out (by assumption) (by assumption) (by assumption))⟩
      · go_ret2
        exact ⟨_, mg (mW hlt Hd.out (by assumption) (.inl ⟨by assumption, by assumption⟩) (by assumption)), (by repeat (first | exact Below.refl _ _ | assumption | refine Below.drew ?_ | refine Below.drewN_ ?_ _ | refine aB ?_ _ | refine a8 (by assumption) ?_ | refine bz ?_ (by simp <;> omega) _)), n9 (mW hlt Hd.out (by assumption) (.inl ⟨by assumption, by assumption⟩) (by assumption))⟩
      · unfold wm
        have Hn := Lib.hid (Bo hlt Hd.out (by assumption) (by assumption) (by assumption) (by assumption))
        have Hk5 := Lib.hid (show (k : Int) + 1 + 4 <= l.length by assumption)
        refine wpList_append_own _ rfl _ _ 77 rfl w.heap.size 86 i0 (.agg #[.int .i64 0, .int .i64 0]) 2 16 fH hi hz0 hz1 hz2 rfl (by decide) _ _ _ rfl ((hown.alloc _).alloc _) ⟨wr.heap.size + 1, 0, none⟩ 1 1 (eG ⟨l[k].toNat, de ((l.drop (k + 1)).take 4)⟩) rfl rfl (by have := cell_two_new (wr.alloc (.cells #[.int .i64 l[k].toNat, .int .i64 (de ((l.drop (k + 1)).take 4))] 86)) (.int .i64 l[k].toNat) (.int .i64 (de ((l.drop (k + 1)).take 4))) 86; rwa [World.size_alloc] at this)
          (by simp [eG, Value.oneCell']) (by unfold maxLen; omega) (by omega) (by simp; omega) ?_
        intro v' w2 hown' hgrow _
        go_wp2
        go_roundw
        case rel => exact ⟨k + 5, out ++ [⟨l[k].toNat, de ((l.drop (k + 1)).take 4)⟩], by have := Hk5.out; omega, by go_num, rJ (aB (aB hbl _) _) ((hown.alloc _).alloc _) hgrow, by rw [ag, List.flatMap_append]; simpa using hown', Hn.out, BM (by assumption) h40⟩
        case measure => simp [intOf]; omega
      · go_ret2
        exact ⟨_, mg (mW hlt Hd.out (by assumption) (.inr (by assumption)) (by assumption)), (by repeat (first | exact Below.refl _ _ | assumption | refine Below.drew ?_ | refine Below.drewN_ ?_ _ | refine aB ?_ _ | refine a8 (by assumption) ?_ | refine bz ?_ (by simp <;> omega) _)), n9 (mW hlt Hd.out (by assumption) (.inr (by assumption)) (by assumption))⟩
      · unfold wm
        have Hn := Lib.hid (y7 hlt Hd.out (by assumption) (by assumption) (by assumption))
        refine wpList_append_own _ rfl _ _ 77 rfl w.heap.size 86 i0 (.agg #[.int .i64 0, .int .i64 0]) 2 16 fH hi hz0 hz1 hz2 rfl (by decide) _ _ _ rfl ((hown.alloc _).alloc _) ⟨wr.heap.size + 1, 0, none⟩ 1 1 (eG ⟨l[k].toNat, 0⟩) rfl rfl (by have := cell_two_new (wr.alloc (.cells #[.int .i64 l[k].toNat, .int .i64 0] 86)) (.int .i64 l[k].toNat) (.int .i64 0) 86; rwa [World.size_alloc] at this)
          (by simp [eG, Value.oneCell']) (by unfold maxLen; omega) (by omega) (by simp; omega) ?_
        intro v' w2 hown' hgrow _
        go_wp2
        go_roundw
        case rel => exact ⟨k + 1, out ++ [⟨l[k].toNat, 0⟩], by omega, by go_num, rJ (aB (aB hbl _) _) ((hown.alloc _).alloc _) hgrow, by rw [ag, List.flatMap_append]; simpa using hown', Hn.out, BM (by assumption) h40⟩
        case measure => simp [intOf]; omega
    · go_wp2
      go_ret2
      have e0 : aE l = (out, 0) := by rw [← Hd.out, List.drop_of_length_le (by omega)]; rfl
      exact ⟨_, mg e0, (by repeat (first | exact Below.refl _ _ | assumption | refine Below.drew ?_ | refine Below.drewN_ ?_ _ | refine aB ?_ _ | refine a8 (by assumption) ?_ | refine bz ?_ (by simp <;> omega) _)), by rw [e0]; exact hown⟩
end
end Go.Proofs.YthfkmcbblnbfaaaGreatDoor
