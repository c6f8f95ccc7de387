/- Lemmas of one proof. -/
import Derived.Test.YthfkmcbblnbfaaaGreatDoorM0Q
import Derived.RangeFuncBox
import Derived.Maps.AppendAt
import Derived.Test.YthfkmcbblnbfaaaGreatDoorM22Q

namespace Go.Proofs.YthfkmcbblnbfaaaGreatDoor
set_option maxRecDepth 100000
set_option maxHeartbeats 16000000
open Go.RowKit
section
open Go.RowKit Go.Shelf
attribute [local go_sem] Oper.semAt_some

theorem LU (l : List UInt8) (w : World) : Calls Tryz.prog 103 #[.string ⟨l.toArray⟩] w fun e w' => e = .returned (.func (.func 156) #[] #[.pointer (some ⟨w.heap.size, 0, none⟩)]) /\ w' = w.alloc (.cells #[.string ⟨l.toArray⟩] 9) := by
  go_enter Tryz.func103, Tryz.ntmps103
  go_wp2
  go_ret
  exact ⟨rfl, rfl⟩

theorem uo:(Tryz.prog.info? 86).map (fun i=>(i.zero,i.size,i.bytes))=some (some (.agg #[.int .i64 0,.int .i64 0]),2,16):=by kernel_rfl
def gj (o:bd):List Value:= [.int .i64 o.c,.int .i64 o.a]
structure tk (w:World) (l r:List UInt8) (W:World):Prop where
 ex:∃out v,Boxed W (w.heap.size+2) 77 v/\W.ownsRow (w.heap.size+4) 86 2 v out.length (out.flatMap gj)/\bQ r.length r out=be l/\out.length<=40
 b0:Boxed W w.heap.size 77 (.slice none 0 0)
 b1:Boxed W (w.heap.size+1) 29 (.int .i64 0)
 below:Below w.heap.size w W
structure Fv (w:World) (l:List UInt8) (W:World):Prop where
 ex:∃e,be l=([],e)/\Boxed W (w.heap.size+1) 29 (.int .i64 e)
 b0:Boxed W w.heap.size 77 (.slice none 0 0)
 below:Below w.heap.size w W
theorem rR {W:World} {base row size n:Nat} {e:TypeId} {v:Value} {xs:List Value} {o:Obj} (h:W.ownsRow base e size v n xs) (ho:W.heap[row]? =some o) (hc:o.isCells=false):v.ownBlock≠some row:=by
 rcases h.2 with ⟨rfl,_⟩ | ⟨g,cap,cur,rfl,_,hg,_⟩
 ·simp[Value.ownBlock]
 intro e'
 obtain rfl:g=row:=by simpa [Value.ownBlock] using e'
 rw[hg] at ho;cases ho;cases hc
theorem lf {W:World} {base row size n:Nat} {e:TypeId} {v:Value} {xs:List Value} (h:W.ownsRow base e size v n xs) (hr:row<base):v.ownBlock≠some row:=by
 intro e'
 have:=(h.lt _ e').1
 omega
theorem ja {W:World} {B row:Nat} {t:TypeId} {v:Value} {o:Obj} (h:Boxed W B t v) (ho:W.heap[row]? =some o) (hc:o.isCells=false):B≠row:=by
 rintro rfl
 rw[show W.heap[B]? =_ from h] at ho;cases ho;cases hc
def tQ (w W:World) (row:Nat):Prop:=w.heap.size+3=row\/(w.heap.size<=row/\∃o,W.heap[row]? =some o/\o.isCells=false)
theorem tQ.le {w W:World} {row:Nat} (h:tQ w W row):w.heap.size<=row:=by rcases h with h | h <;> omega
theorem tQ.box {w W:World} {row B:Nat} {t:TypeId} {v:Value} (h:tQ w W row) (hb:Boxed W B t v) (hB:B≠w.heap.size+3):some B≠some row:=by
 rcases h with h | ⟨_,o,ho,hc⟩
 ·simp;omega
 simpa using ja hb ho hc
theorem tk.kept {w W W':World} {l r:List UInt8} {row:Nat} (h:tk w l r W) (hg:W.grownBy W' (some row)) (hr:tQ w W row):tk w l r W':=by
 obtain⟨⟨out,v,h2,ho,hd,h40⟩,h0,h1,hb⟩:=h
 refine⟨⟨out,v,h2.kept hg (hr.box h2 (by omega)),ho.kept hg (.inr ?_),hd,h40⟩,h0.kept hg (hr.box h0 (by omega)),h1.kept hg (hr.box h1 (by omega)),hb.grown hg hb.size (fun k e=>by cases e;exact hr.le)⟩
 rcases hr with h | ⟨_,o,ho',hc⟩
 ·exact lf ho (by omega)
 exact rR ho ho' hc
theorem tk.alloc {w W:World} {l r:List UInt8} (h:tk w l r W) (o:Obj):tk w l r (W.alloc o):=by
 obtain⟨⟨out,v,h2,ho,hd,h40⟩,h0,h1,hb⟩:=h
 exact⟨⟨out,v,h2.alloc _,ho.alloc _,hd,h40⟩,h0.alloc _,h1.alloc _,hb.alloc hb.size _⟩
theorem Fv.kept {w W W':World} {l:List UInt8} {row:Nat} (h:Fv w l W) (hg:W.grownBy W' (some row)) (hr:tQ w W row):Fv w l W':=by
 obtain⟨⟨e,hd,h1⟩,h0,hb⟩:=h
 exact⟨⟨e,hd,h1.kept hg (hr.box h1 (by omega))⟩,h0.kept hg (hr.box h0 (by omega)),hb.grown hg hb.size (fun k e=>by cases e;exact hr.le)⟩
theorem xr (k:Nat):∀(m:Nat) (r:List UInt8) (out:List bd),r.length<=k->r.length<=m->bQ k r out=bQ m r out:=by
 induction k with
 | zero=>intro m r out h _;cases r <;> cases m <;> simp_all [bQ]
 | succ k ih=>
  intro m r out h h2
  cases r with
  | nil=>cases m <;> simp[bQ]
  | cons b r=>
   have hl:=nq b r
   simp at h h2
   cases m with
   | zero=>omega
   | succ m=>
    simp only[bQ]
    split;· rfl
    split;· rfl
    exact ih _ _ _ (by omega) (by omega)
theorem nI {b:UInt8} {r:List UInt8} {out:List bd} (hok:(bh b r).2.2=true) (h:(out.length == 40)=false) :
  bQ (b::r).length (b::r) out=bQ (bh b r).2.1.length (bh b r).2.1 (out++ [(bh b r).1]):=by
 simp only[aR,bQ,hok,h]
 exact xr _ _ _ _ (nq b r) (aA _)
def PG (I:List UInt8->World->Prop) (Ix:World->Prop) (bs:Nat) (b:UInt8) (r:List UInt8) (W:World):Exit->Act->World->Prop
 | .normal,_,W'=>KeepsOthers W W'/\(bh b r).2.2=true/\I (bh b r).2.1 W'/\jn W' bs (b::r)
 | .ret,_,W'=>KeepsOthers W W'/\Ix W'
 | _,_,_=>False
theorem Gr {g : Operand} {ps : Array Tmp} {assign body : Code} {Q : Exit -> Act -> World -> Prop} {a : Act} {w : World} (bs : Nat) (hg : a.eval g = .func (.func 156) #[] #[.pointer (some ⟨bs, 0, none⟩)]) (hps : ps.size = 2)
    (I : List UInt8 -> World -> Prop) (Ix : World -> Prop) (hbs : bs < w.heap.size)
    (hI : ∀ r W W' row, I r W -> W.grownBy W' (some row) -> (bs = row \/ (w.heap.size <= row /\ ∃ o, W.heap[row]? = some o /\ o.isCells = false)) -> I r W')
    (hIa : ∀ r W o, I r W -> I r (W.alloc o))
    (hIx : ∀ W W' row, Ix W -> W.grownBy W' (some row) -> (bs = row \/ (w.heap.size <= row /\ ∃ o, W.heap[row]? = some o /\ o.isCells = false)) -> Ix W')
    (r0 : List UInt8) (hc0 : jn w bs r0) (hl0 : r0.length <= 140737488355320) (h0 : I r0 w)
    (hround : ∀ (L : Nat) (b : UInt8) (r : List UInt8) (W : World), I (b :: r) W -> jn W bs (b :: r) -> w.heap.size <= W.heap.size ->
      assign.wpIn (Fence.wide.inRound L) 1 Tryz.prog (Exit.then (fun a₁ W₁ => KeepsOthers W W₁ /\
        (∀ W₂, W₁.grownBy W₂ (some L) -> w.heap.size <= L -> (∃ o, W₁.heap[L]? = some o /\ o.isCells = false) -> body.wpIn (Fence.wide.inRound L) 1 Tryz.prog (PG I Ix bs b r W₂) a₁ W₂)) (fun _ _ _ => False))
        { tmps := (ps.zip #[.agg #[.int .i64 (bh b r).1.c, .int .i64 (bh b r).1.a], .bool (bh b r).2.2]).foldl (fun t (p, v) => t.setIfInBounds p v) a.tmps, defers := [] } W)
    (hdone : ∀ (D : Nat) (W : World), w.heap.size <= D -> I [] W -> W.heap[D]? = some (.deferred (some [])) -> Q .normal { a with defers := { target := .collected D, args := #[] } :: a.defers } W)
    (hstop : ∀ (D : Nat) (W : World), w.heap.size <= D -> Ix W -> W.heap[D]? = some (.deferred (some [])) -> Code.ret.wpIn Fence.wide 3 Tryz.prog Q { a with defers := { target := .collected D, args := #[] } :: a.defers } W) :
    (Code.rangeFunc g ps assign body).wpIn Fence.wide 3 Tryz.prog Q a w := by
  refine wpIn_rangeFunc ?_
  intro fn hfn
  obtain ⟨rec, hrec⟩ : ∃ rec : LoopState -> Option Code -> Loop, rec = fun st pe => { state := st, pending := pe, fn, tmps := a.tmps, params := ps, assign, body, defers := w.heap.size } := ⟨_, rfl⟩
  have hrs : ∀ st pe, (rec st pe).state = st /\ (rec st pe).pending = pe := by intro st pe; rw [hrec]; exact ⟨rfl, rfl⟩
  obtain ⟨W1, hW1⟩ : ∃ W1, (w.alloc (.deferred (some []))).alloc (.loop (rec .ready none)) = W1 := ⟨_, rfl⟩
  have hL1 : W1.heap[w.heap.size + 1]? = some (.loop (rec .ready none)) := by
    rw [← hW1]; have := World.alloc_heap_new (w.alloc (.deferred (some []))) (.loop (rec .ready none)); rwa [World.size_alloc] at this
  have hK1 : W1.heap[w.heap.size]? = some (.deferred (some [])) := by
    rw [← hW1]; exact (Below.heap_alloc _ _ _ (by simp)).trans (World.alloc_heap_new w _)
  have hI1 : I r0 W1 := by rw [← hW1]; exact hIa _ _ _ (hIa _ _ _ h0)
  have hc1 : jn W1 bs r0 := by rw [← hW1]; exact (hc0.alloc _).alloc _
  have hs1 : w.heap.size <= W1.heap.size := by rw [← hW1]; simp; omega
  have eg := enters_of Tryz.func156 (by kernel_rfl) rfl
  refine ⟨w.heap.size + 1, [{ target := .collected w.heap.size, args := #[] }], W1, { target := .fn (.func 156) #[.pointer (some ⟨bs, 0, none⟩)], args := #[.func (.yield (w.heap.size + 1)) #[] #[]] }, W1, 156,
    #[.func (.yield (w.heap.size + 1)) #[] #[]] ++ #[.pointer (some ⟨bs, 0, none⟩)], W1, ?_, ?_, fun _ _ => trivial, ?_, fun _ => by omega, ?_⟩
  · rw [← hW1, hrec]; exact run_enterLoop_outer _ _ _ _ _
  · simp only [resolve, hg]
    simp [go_sem]
  · simp [invoke, go_sem]
  · refine (LV (3 - 1) (w.heap.size + 1) bs (by omega)
      (fun r W => I r W /\ w.heap.size <= W.heap.size /\ W.heap[w.heap.size + 1]? = some (.loop (rec .ready none)) /\ W.heap[w.heap.size]? = some (.deferred (some [])))
      (fun W => Ix W /\ W.heap[w.heap.size + 1]? = some (.loop (rec .done (some .ret))) /\ W.heap[w.heap.size]? = some (.deferred (some [])))
      (fun r W W' h hg' => ⟨hI _ _ _ _ h.1 hg' (.inl rfl), dc h.2.1 hg'.size, (hg'.block _ (cI.1 h.2.2.1).1 (by simp; omega)).trans h.2.2.1, (hg'.block _ (cI.1 h.2.2.2).1 (by simp; omega)).trans h.2.2.2⟩)
      ?_ r0 W1 ⟨hI1, hs1, hL1, hK1⟩ hc1 hl0).mono ?_
    · rintro b r W ⟨hi, hsW, hl, hk⟩ hcap hrl
      have hy := run_yield (P := Tryz.prog) (args := #[.agg #[.int .i64 (bh b r).1.c, .int .i64 (bh b r).1.a], .bool (bh b r).2.2]) hl (by rw [hrec]; exact hps.symm)
      rw [hrec] at hy
      refine ⟨fn, _, assign, body, hy, roundIn_of_wpIn hfn (wpIn_mono (hround _ b r W hi hcap hsW) ?_)⟩
      rintro e a₁ W₁ hq
      cases e with
      | normal =>
        obtain ⟨hko, hbody⟩ := hq
        have hl' := hko.same _ _ hl rfl
        have hk' := hko.same _ _ hk rfl
        refine ⟨_, run_beginRound hl' (hrs _ _).1, wpIn_mono (hbody _ (grownBy_putObj' _ _ _) (by omega) ⟨_, hl', rfl⟩) ?_⟩
        have hlt : w.heap.size + 1 < W₁.heap.size := (cI.1 hl').1
        have hl2 : (W₁.putObj (w.heap.size + 1) (.loop { rec .ready none with state := .busy })).heap[w.heap.size + 1]? = some (.loop { rec .ready none with state := .busy }) := World.putObj_heap_same hlt
        have hk2 : (W₁.putObj (w.heap.size + 1) (.loop { rec .ready none with state := .busy })).heap[w.heap.size]? = some (.deferred (some [])) := (World.putObj_heap_other (by omega)).trans hk'
        rintro e a3 W3 hp
        cases e with
        | normal =>
          obtain ⟨hk3, hok, hi3, hc3⟩ := hp
          have hl3 := hk3.same _ _ hl2 rfl
          have hend := run_endRound (P := Tryz.prog) none hl3
          have hsz3 : w.heap.size <= W3.heap.size := by have := (cI.1 hl3).1; omega
          refine ⟨_, _, hend, .inl ⟨rfl, hok, ⟨hI _ _ _ _ hi3 (grownBy_putObj' _ _ _) (.inr ⟨by omega, _, hl3, rfl⟩), by simpa using hsz3, ?_, (World.putObj_heap_other (by omega)).trans (hk3.same _ _ hk2 rfl)⟩, ?_⟩⟩
          · have := World.putObj_heap_same (w := W3) (o := .loop { ({ rec .ready none with state := .busy } : Loop) with state := .ready, pending := none }) (cI.1 hl3).1
            rw [hrec] at this ⊢
            exact this
          · have h1 : (W3.putObj (w.heap.size + 1) (.loop { ({ rec .ready none with state := .busy } : Loop) with state := .ready, pending := none })).heap[bs]? = W3.heap[bs]? := World.putObj_heap_other (by omega)
            exact h1.trans ((show W3.heap[bs]? = _ from hc3).trans (show W.heap[bs]? = _ from hcap).symm)
        | ret =>
          obtain ⟨hk3, hi3⟩ := hp
          have hl3 := hk3.same _ _ hl2 rfl
          have hend := run_endRound (P := Tryz.prog) (some .ret) hl3
          refine ⟨_, _, hend, .inr ⟨rfl, hIx _ _ _ hi3 (grownBy_putObj' _ _ _) (.inr ⟨by omega, _, hl3, rfl⟩), ?_, (World.putObj_heap_other (by omega)).trans (hk3.same _ _ hk2 rfl)⟩⟩
          have := World.putObj_heap_same (w := W3) (o := .loop { ({ rec .ready none with state := .busy } : Loop) with state := .done, pending := some .ret }) (cI.1 hl3).1
          rw [hrec] at this ⊢
          exact this
        | exit id => exact hp.elim
        | goto t => exact hp.elim
        | panic ch => exact hp.elim
        | outgrown => exact hp.elim
      | exit id => exact hq.elim
      | goto t => exact hq.elim
      | ret => exact hq.elim
      | panic ch => exact hq.elim
      | outgrown => exact hq.elim
    · rintro e W2 ⟨⟨v, rfl⟩, (⟨hi, _, hl, hk⟩ | ⟨hi, hl, hk⟩)⟩
      · obtain ⟨o, hend⟩ : ∃ o, (Instr.endLoop (w.heap.size + 1)).run Tryz.prog W2 = .ok none (W2.putObj (w.heap.size + 1) o) := by
          have := run_endLoop (P := Tryz.prog) hl (by rw [(hrs _ _).1]; simp)
          rw [(hrs _ _).2] at this
          exact ⟨_, this⟩
        exact ⟨none, _, hend, hdone _ _ (aA _) (hI _ _ _ _ hi (grownBy_putObj' _ _ _) (.inr ⟨by omega, _, hl, rfl⟩)) ((World.putObj_heap_other (by omega)).trans hk)⟩
      · obtain ⟨o, hend⟩ : ∃ o, (Instr.endLoop (w.heap.size + 1)).run Tryz.prog W2 = .ok (some .ret) (W2.putObj (w.heap.size + 1) o) := by
          have := run_endLoop (P := Tryz.prog) hl (by rw [(hrs _ _).1]; simp)
          rw [(hrs _ _).2] at this
          exact ⟨_, this⟩
        exact ⟨some .ret, _, hend, hstop _ _ (aA _) (hIx _ _ _ hi (grownBy_putObj' _ _ _) (.inr ⟨by omega, _, hl, rfl⟩)) ((World.putObj_heap_other (by omega)).trans hk)⟩

end
section
open Go.RowKit Go.Shelf
attribute [local go_sem] Oper.semAt_some

theorem jb {W:World} {B:Nat} {t:TypeId} {v:Value} (h:Boxed W B t v) {p:Addr} (hp:B≠p.block) (u:Value):Boxed (W.setCell p u) B t v:=(Below.heap_setCell _ _ _ _ hp).trans h
theorem HJ (l : List UInt8) (w : World) (hl : l.length <= 140737488355320) : CallsIn Fence.wide 3 Tryz.prog 41 #[.string ⟨l.toArray⟩] w fun e W =>
    ∃ v, e = .returned (.tuple #[v, .int .i64 (be l).2]) /\ Below w.heap.size w W /\ W.ownsRow (w.heap.size + 4) 86 2 v (be l).1.length ((be l).1.flatMap gj) := by
  refine callsIn_of_wp_marks Tryz.func41 rfl trivial ?_
  simp only [Tryz.ntmps41, iK, aR, aZ, Nat.reduceAdd, Nat.reduceSub, Array.replicate_succ, Array.replicate_zero, List.push_toArray, List.append_toArray, jk, dy]
  gi_wp2_with (refine ⟨trivial, ?_⟩; gi_at_call 103; refine (callsIn_wide.2 (LU l _)).mono ?_; rintro e w' ⟨rfl, rfl⟩)
  obtain ⟨w1, hw1⟩ : ∃ w1, (((w.alloc (.cells #[.slice none 0 0] 77)).alloc (.cells #[.int .i64 0] 29)).alloc (.cells #[.slice none 0 0] 77)).alloc (.cells #[.string ⟨l.toArray⟩] 9) = w1 := ⟨_, rfl⟩
  rw [hw1]
  have hsz : w1.heap.size = w.heap.size + 4 := by rw [← hw1]; simp
  have hB : Below w.heap.size w w1 := by
    rw [← hw1]; exact aK (aK (aK (aK (Below.refl _ _) _) _) _) _
  have hbx0 : Boxed w1 w.heap.size 77 (.slice none 0 0) := by rw [← hw1]; exact (((Boxed.new w _ _).alloc _).alloc _).alloc _
  have hbx1 : Boxed w1 (w.heap.size + 1) 29 (.int .i64 0) := by
    rw [← hw1]; have := ((Boxed.new (w.alloc (.cells #[.slice none 0 0] 77)) 29 (.int .i64 0)).alloc (.cells #[.slice none 0 0] 77)).alloc (.cells #[.string ⟨l.toArray⟩] 9); rwa [World.size_alloc] at this
  have hbx2 : Boxed w1 (w.heap.size + 2) 77 (.slice none 0 0) := by
    rw [← hw1]; have := (Boxed.new ((w.alloc (.cells #[.slice none 0 0] 77)).alloc (.cells #[.int .i64 0] 29)) 77 (.slice none 0 0)).alloc (.cells #[.string ⟨l.toArray⟩] 9); rwa [World.size_alloc, World.size_alloc] at this
  have hcap : jn w1 (w.heap.size + 3) l := by
    rw [← hw1]; have := Boxed.new (((w.alloc (.cells #[.slice none 0 0] 77)).alloc (.cells #[.int .i64 0] 29)).alloc (.cells #[.slice none 0 0] 77)) 9 (.string ⟨l.toArray⟩); rwa [World.size_alloc, World.size_alloc, World.size_alloc] at this
  clear hw1
  refine Gr (w.heap.size + 3) rfl rfl (tk w l) (Fv w l) (by omega)
    (fun r W W' row h hg hr => h.kept hg (hr.imp id (fun ⟨h1, h2⟩ => ⟨by omega, h2⟩)))
    (fun r W o h => h.alloc o)
    (fun W W' row h hg hr => h.kept hg (hr.imp id (fun ⟨h1, h2⟩ => ⟨by omega, h2⟩)))
    l hcap hl ⟨⟨[], .slice none 0 0, hbx2, by simpa using World.ownsRow_nil _ _ _ _, rfl, by simp⟩, hbx0, hbx1, hB⟩ ?round ?done ?stop
  case round =>
    intro L b r W hi hc hs
    gi_wp2
    refine ⟨KeepsOthers.alloc _ _, fun W₂ hg hL ho => ?_⟩
    have hLne : W.heap.size ≠ L := by
      obtain ⟨o, h1, h2⟩ := ho
      rintro rfl
      rw [World.alloc_heap_new] at h1; cases h1; cases h2
    have hi2 : tk w l (b :: r) W₂ := (hi.alloc _).kept hg (.inr ⟨by omega, ho⟩)
    have hc2 : jn W₂ (w.heap.size + 3) (b :: r) := (hg.block _ (hc.alloc _).lt (by simp; omega)).trans (hc.alloc _)
    have hbox : W₂.heap[W.heap.size]? = some (.cells #[.int .i64 (bh b r).1.c, .int .i64 (bh b r).1.a] 86 (0, 0)) := (hg.block _ (by simp) (by simpa using hLne)).trans (World.alloc_heap_new _ _)
    have hx0 : W₂.cell? ⟨W.heap.size, 0, none⟩ = some (.int .i64 (bh b r).1.c) := by simp [World.cell?, hbox]
    have hx1 : W₂.cell? ⟨W.heap.size, 1, none⟩ = some (.int .i64 (bh b r).1.a) := by simp [World.cell?, hbox]
    clear hbox hg hi hc
    obtain ⟨⟨out, v, h2, hown, hd, h40⟩, h0, h1, hb⟩ := hi2
    obtain ⟨A, cap, rfl⟩ : ∃ A cap, v = .slice A out.length cap := uK hown
    have Hd := Lib.hid hd; clear hd
    have c0 := h0.cell
    have c1 := h1.cell
    have c2 := h2.cell
    have f0 := h0.frozen
    have f1 := h1.frozen
    have f2 := h2.frozen
    have hcs := hc2.lt
    obtain ⟨i0, hi, hz0, hz1, hz2⟩ := info_parts uo
    cases hok : (bh b r).2.2 with
    | false =>
      gi_wp2
      refine ⟨(KeepsOthers.setCell _ _ _).trans (KeepsOthers.setCell _ _ _), ⟨1, ?_, (jb h1 (by simp) _).set _⟩, jb (h0.set _) (by simp) _, (hb.setCell (by simp) _).setCell (by simp) _⟩
      rw [← Hd.out]; simp [bQ, hok]
    | true =>
      by_cases h41 : out.length = 40
      · have ht : ((out.length : Int) == 40) = true := by simp; omega
        have ht2 : decide ((out.length : Int) = 40) = true := by simp; omega
        have Hl := Lib.hid h41; clear h41
        gi_wp2
        refine ⟨(KeepsOthers.setCell _ _ _).trans (KeepsOthers.setCell _ _ _), ⟨2, ?_, (jb h1 (by simp) _).set _⟩, jb (h0.set _) (by simp) _, (hb.setCell (by simp) _).setCell (by simp) _⟩
        rw [← Hd.out]; simp [bQ, hok, Hl.out]
      · have ht : ((out.length : Int) == 40) = false := by simp; omega
        have ht2 : decide ((out.length : Int) = 40) = false := by simp; omega
        have hcell2 := cell_two_new W₂ (.int .i64 (bh b r).1.c) (.int .i64 (bh b r).1.a) 86
        gi_wp2_with (gi_at_builtin; refine vT ?_)
        unfold Ci
        refine wpListIn_append_own _ rfl _ _ 77 rfl (w.heap.size + 4) 86 i0 (.agg #[.int .i64 0, .int .i64 0]) 2 16 eQ hi hz0 hz1 hz2 rfl (by decide) _ _ _ rfl (hown.alloc _) ⟨W₂.heap.size, 0, none⟩ 1 1 (gj (bh b r).1) rfl rfl hcell2
          (by simp [gj, Value.oneCell']) (by unfold maxLen; omega) (by omega) (by simp; omega) ?_
        intro v' w2 hown' hgrow _
        obtain ⟨g', cap', rfl⟩ := ownsRow_succ hown'
        obtain ⟨hv1, hv2, _, hk2, hb2⟩ := h2.appended (n₀ := w.heap.size) (by decide) (uJ hown (by omega)) hb.size (by omega) (uJ hown' (by omega)) hgrow
        have hr2 := hown'.kept (grownBy_setCell' w2 (w.heap.size + 2) (.slice (some ⟨g', 0, none⟩) (out.length + 1) cap')) (.inr (lf hown' (by omega)))
        have hv1c := hv1.cell
        have hv1f := hv1.frozen
        have hg2 : ∀ B t u, Boxed W₂ B t u -> B < w.heap.size + 4 -> Boxed w2 B t u := fun B t u h hlt => (h.alloc _).kept hgrow (Ne.symm (lf hown (by omega)))
        gi_wp2
        refine ⟨hk2, hok, ⟨⟨out ++ [(bh b r).1], _, hv2, ?_, ?_, ?_⟩, jb (hg2 _ _ _ h0 (by omega)) (by simp <;> omega) _, jb (hg2 _ _ _ h1 (by omega)) (by simp <;> omega) _, hb.trans hb2⟩, jb (hg2 _ _ _ hc2 (by omega)) (by simp <;> omega) _⟩
        · rw [aq, pk]; simpa using hr2
        · rw [← Hd.out, nI hok (by simpa using h41)]
        · simp; omega
  case done =>
    intro D W hD hi hdef
    obtain ⟨⟨out, v, h2, hown, hd, h40⟩, h0, h1, hb⟩ := hi
    obtain ⟨A, cap, rfl⟩ : ∃ A cap, v = .slice A out.length cap := uK hown
    have Hd := Lib.hid hd; clear hd
    have c0 := h0.cell
    have c1 := h1.cell
    have c2 := h2.cell
    have f0 := h0.frozen
    have f1 := h1.frozen
    gi_wp2
    obtain ⟨W', hW'⟩ : ∃ W', (W.setCell ⟨w.heap.size, 0, none⟩ (.slice A out.length cap)).setCell ⟨w.heap.size + 1, 0, none⟩ (.int .i64 0) = W' := ⟨_, rfl⟩
    have b0 : Boxed W' w.heap.size 77 (.slice A out.length cap) := by rw [← hW']; exact jb (h0.set _) (by simp) _
    have b1 : Boxed W' (w.heap.size + 1) 29 (.int .i64 0) := by rw [← hW']; exact (jb h1 (by simp) _).set _
    have hB' : Below w.heap.size w W' := by rw [← hW']; exact (hb.setCell (by simp) _).setCell (by simp) _
    have hown' : W'.ownsRow (w.heap.size + 4) 86 2 (.slice A out.length cap) out.length (out.flatMap gj) := by
      rw [← hW']; exact (hown.kept (grownBy_setCell' _ _ _) (.inr (lf hown (by omega)))).kept (grownBy_setCell' _ _ _) (.inr (lf hown (by omega)))
    have hdef' : W'.heap[D]? = some (.deferred (some [])) := by rw [← hW']; exact ((KeepsOthers.setCell _ _ _).trans (KeepsOthers.setCell _ _ _)).same D _ hdef rfl
    rw [hW']
    refine ⟨by simp, .inl ⟨_, _, rfl, run_takeDeferred hdef', ?_⟩⟩
    have r0 := (b0.kept (grownBy_putObj' W' D (.deferred none)) (by simpa using ja b0 hdef' rfl)).cell
    have r1 := (b1.kept (grownBy_putObj' W' D (.deferred none)) (by simpa using ja b1 hdef' rfl)).cell
    have e1 : be l = (out, 0) := by rw [← Hd.out]; rfl
    refine ⟨.tuple #[.slice A out.length cap, .int .i64 0], by unfold results; rw [Tryz.results41]; go_simp, _, by rw [e1], hB'.grown (grownBy_putObj' _ _ _) hB'.size (fun k e => by cases e; omega), ?_⟩
    rw [e1]
    exact hown'.kept (grownBy_putObj' _ _ _) (.inr (rR hown' hdef' rfl))
  case stop =>
    intro D W hD hi hdef
    obtain ⟨⟨e, hd, h1⟩, h0, hb⟩ := hi
    gi_wp2
    refine ⟨by simp, .inl ⟨_, _, rfl, run_takeDeferred hdef, ?_⟩⟩
    have r0 := (h0.kept (grownBy_putObj' W D (.deferred none)) (by simpa using ja h0 hdef rfl)).cell
    have r1 := (h1.kept (grownBy_putObj' W D (.deferred none)) (by simpa using ja h1 hdef rfl)).cell
    have Hd := Lib.hid hd; clear hd
    refine ⟨.tuple #[.slice none 0 0, .int .i64 e], by unfold results; rw [Tryz.results41]; go_simp, _, by rw [Hd.out], hb.grown (grownBy_putObj' _ _ _) hb.size (fun k e => by cases e; omega), ?_⟩
    rw [Hd.out]
    exact World.ownsRow_nil _ _ _ _

end
section
theorem AE (n a b : Int) (w : World) : Calls Tryz.prog 80 #[.int .i64 n, .int .i64 a, .int .i64 b] w fun e w' => e = .returned (.bool (decide (a <= n) && decide (n <= b))) /\ w = w' := by
  go_enter Tryz.func80, Tryz.ntmps80
  go_wp2
  all_goals (go_ret; exact ⟨aM (by simp [*]; try omega), rfl⟩)
theorem Gi (n : Int) (w : World) : Calls Tryz.prog 200 #[.int .i64 n] w fun e w' => e = .returned (.bool (gX n)) /\ w = w' := by
  go_enter Tryz.func200, Tryz.ntmps200
  go_wp2
  all_goals (go_ret; exact ⟨aM (by rw [Bool.eq_iff_iff]; simp [gX, *]; try omega), rfl⟩)
theorem xK (n : Int) (w : World) (hn : aF n) : Calls Tryz.prog 110 #[.int .i64 n] w fun e w' => e = .returned (.int .i64 (iE n)) /\ w = w' := by
  have h1 := hn.lo
  have h2 := hn.hi
  by_cases h0 : 0 <= n
  · go_enter Tryz.func110, Tryz.ntmps110
    go_wp2
    all_goals (go_ret; exact ⟨fk (by unfold iE; omega), rfl⟩)
  · have ht : n.tmod 4294967296 = -((-n) % 4294967296) := by
      rw [← Int.tmod_eq_emod_of_nonneg (by omega), Int.neg_tmod, Int.neg_neg]
    have h3 : -4294967296 < -((-n) % 4294967296) := by omega
    have h4 : -((-n) % 4294967296) <= 0 := by omega
    go_enter Tryz.func110, Tryz.ntmps110
    go_wp2
    all_goals (go_ret; exact ⟨fk (by unfold iE; omega), rfl⟩)

end
section
def iN (l:List UInt8):Int:=l.foldl (fun u c=>u*256+c.toNat) 0
theorem GM (l:List UInt8) (k:Nat) (h:k<l.length):iN (l.take (k+1))=iN (l.take k)*256+(l[k].toNat:Int):=by
 rw[cO h,iN,List.foldl_append]
 simp[iN]
theorem L7 (l:List UInt8):0<=iN l/\iN l<256 ^ l.length:=by
 refine zP (m:=fun l=>0<=iN l/\iN l<256 ^ l.length) (by simp[iN]) ?_ l
 ·intro l c ih
  have h1:iN (l++ [c])=iN l*256+c.toNat:=by simp[iN,List.foldl_append]
  have:=c.toNat_lt
  rw[h1,aq,aL,Int.pow_succ]
  constructor <;> omega
theorem JC (l:List UInt8):kz l=iN l % 4294967296:=by
 refine zP (m:=fun l=>kz l=iN l % 4294967296) (by simp[iN,kz]) ?_ l
 ·intro l c ih
  have h1:iN (l++ [c])=iN l*256+c.toNat:=by simp[iN,List.foldl_append]
  have h2:kz (l++ [c])=(kz l*256+c.toNat) % 4294967296:=by simp[kz,List.foldl_append]
  rw[h1,h2,ih];omega
theorem LO (n:Nat) (h:n<=4):(256:Int) ^ n<=4294967296:=by
 match n,h with
 | 0,_=>decide
 | 1,_=>decide
 | 2,_=>decide
 | 3,_=>decide
 | 4,_=>decide
theorem Fy (n:Int):iE (n % 4294967296)=iE n:=by unfold iE;omega
theorem yK (l : List UInt8) (a : Int) (w : World) (h0 : 0 <= a) (h4 : a + 4 <= l.length) (hl : l.length <= 140737488355320) :
    Calls Tryz.prog 201 #[.string ⟨l.toArray⟩, .int .i64 a] w fun e w' => e = .returned (.int .i64 (cU ((l.drop a.toNat).take 4))) /\ w = w' := by
  obtain ⟨k, rfl⟩ := pm h0
  rw [bj]
  go_enter Tryz.func201, Tryz.ntmps201
  go_wp2
  go_loop [5, 6] (fun n i => ∃ j : Nat, j <= 4 /\ i = .int .i64 (k + j : Nat) /\ n = .int .i64 (iN ((l.drop k).take j))) (fun _ i => k + 4 - (intOf i).toNat)
  case atStart => exact ⟨0, by omega, rfl, rfl⟩
  case round =>
    obtain ⟨j, hj, rfl, rfl⟩ := hrel
    have hb := L7 ((l.drop k).take j)
    have hlen : ((l.drop k).take j).length <= 4 := by simp; omega
    have hb2 : iN ((l.drop k).take j) < 4294967296 := by
      exact Int.lt_of_lt_of_le hb.2 (LO _ hlen)
    have hb1 := hb.1
    clear hb hlen
    by_cases hlt : j < 4
    · have hs := GM (l.drop k) j (by simp; omega)
      rw [List.getElem_drop] at hs
      have Hs := Lib.hid hs; clear hs
      generalize iN ((l.drop k).take j) = x at *
      have hkl : k + j < l.length := by omega
      have hb8 := (l[k + j]'hkl).toNat_lt
      go_wp2
      go_round
      case rel => exact ⟨j + 1, by omega, by go_num, by rw [Hs.out, Int.mul_comm]⟩
      case measure => simp [intOf]; omega
    · have hge : 4 <= j := by omega
      clear hlt
      generalize hx : iN ((l.drop k).take j) = x at *
      have Hx := Lib.hid hx; clear hx
      go_wp2_with (go_at_call 110; refine (xK _ _ ⟨by omega, by omega⟩).mono ?_; rintro e w' ⟨rfl, rfl⟩)
      go_ret
      obtain rfl : j = 4 := by omega
      exact ⟨fk (by rw [← Hx.out, cU, JC, Fy]), rfl⟩
end
section
theorem FJ {α:Type} {l1 l2:List α} {k:Nat} {x:α} (h1:l1[k]? =some x) (h2:l2[k]? =some x) (h:l1.take k=l2.take k):l1.take (k+1)=l2.take (k+1):=by
 rw[List.take_add_one,List.take_add_one,h,h1,h2]
theorem La {α:Type} {l1 l2:List α} {k:Nat} {x y:α} (h1:l1[k]? =some x) (h2:l2[k]? =some y) (hne:x≠y):¬l1=l2:=by
 rintro rfl
 rw[h1] at h2
 exact hne (eh h2)
theorem HB:Tryz.prog.eqGuardType Tryz.prog.depth 86=false:=by kernel_rfl
theorem OM:Tryz.prog.stoodInHeld 86=false:=by kernel_rfl
theorem OI (w : World) (a b c d : Int) : (binOp .neq 86 (.agg #[.int .i64 a, .int .i64 b]) (.agg #[.int .i64 c, .int .i64 d])).run Tryz.prog w = .ok (.bool (!(a == c && b == d))) w := by
  have h := OM
  by_cases h1 : a = c <;> by_cases h2 : b = d <;> simp [go_sem, h, h1, h2]
theorem zZ (v1 v2 : Value) (l1 l2 : List bd) (w : World) (hs1 : Sl w v1 l1) (hs2 : Sl w v2 l2) :
    Calls Tryz.prog 90 #[v1, v2] w fun e w' => e = .returned (.bool (decide (l1 = l2))) /\ Below w.heap.size w w' := by
  obtain ⟨A1, c1, rfl, hlc1, hc1, hl1⟩ := hs1.form
  obtain ⟨A2, c2, rfl, hlc2, hc2, hl2⟩ := hs2.form
  by_cases hne : l1.length = l2.length
  · have ht : ((l1.length : Int) != (l2.length : Int)) = false := by simp; omega
    have hle : l2.length <= l1.length := by omega
    have hle2 : l1.length <= l2.length := by omega
    have Hne := Lib.hid hne; clear hne
    go_enter Tryz.func90, Tryz.ntmps90
    go_wp2
    go_loopw [5] (fun t wr => ∃ k : Nat, k <= l1.length /\ t = .int .i64 k /\ Below w.heap.size w wr /\ l1.take k = l2.take k) (fun t _ => l1.length - (intOf t).toNat)
    case atStart => exact ⟨0, by omega, rfl, (by repeat (first | exact Below.refl _ _ | assumption | refine Below.drew ?_ | refine Below.drewN_ ?_ _ | refine aK ?_ _ | refine bq (by assumption) ?_ | refine bD ?_ (by simp <;> omega) _)), by simp⟩
    case round =>
      obtain ⟨k, hk, rfl, hbl, hck⟩ := hrel
      have Hck := Lib.hid hck; clear hck
      by_cases hlt : k < l1.length
      · obtain ⟨b1, off1, o1, rfl, hb1, ho1, hc10, hc11, hi1⟩ := (hs1.via hbl).op_at hlt
        obtain ⟨b2, off2, o2, rfl, hb2, ho2, hc20, hc21, hi2⟩ := (hs2.via hbl).op_at (show k < l2.length by omega)
        have Ho1 := Lib.hid ho1; clear ho1
        have Ho2 := Lib.hid ho2; clear ho2
        have hlt2 : k < l2.length := by omega
        have hsz := hbl.size
        have hneq := OI
        have hgd := HB
        go_wp2
        go_quiet (fail)
        go_wp2
        · go_ret
          exact ⟨aM (Eq.symm (decide_eq_false (La Ho1.out Ho2.out (by rintro rfl; simp_all)))), (by repeat (first | exact Below.refl _ _ | assumption | refine Below.drew ?_ | refine Below.drewN_ ?_ _ | refine aK ?_ _ | refine bq (by assumption) ?_ | refine bD ?_ (by simp <;> omega) _))⟩
        · go_roundw
          case rel => exact ⟨k + 1, by omega, by go_num, (by repeat (first | exact Below.refl _ _ | assumption | refine Below.drew ?_ | refine Below.drewN_ ?_ _ | refine aK ?_ _ | refine bq (by assumption) ?_ | refine bD ?_ (by simp <;> omega) _)), FJ Ho1.out (by rw [Ho2.out]; cases o1; cases o2; simp_all) Hck.out⟩
          case measure => simp [intOf]; omega
      · go_wp2
        go_ret
        refine ⟨aM ?_, (by repeat (first | exact Below.refl _ _ | assumption | refine Below.drew ?_ | refine Below.drewN_ ?_ _ | refine aK ?_ _ | refine bq (by assumption) ?_ | refine bD ?_ (by simp <;> omega) _))⟩
        have := Hck.out
        rw [bg (by omega), bg (by omega)] at this
        simpa using this
  · go_enter Tryz.func90, Tryz.ntmps90
    go_wp2
    go_ret
    exact ⟨aM (by simp; rintro rfl; exact hne rfl), (by repeat (first | exact Below.refl _ _ | assumption | refine Below.drew ?_ | refine Below.drewN_ ?_ _ | refine aK ?_ _ | refine bq (by assumption) ?_ | refine bD ?_ (by simp <;> omega) _))⟩
end
section
theorem sV {l:List UInt8} {k:Nat} {out:List bd} (hlt:k<l.length) (hd:bQ (l.drop k).length (l.drop k) out=be l):be l=bQ (l[k]::l.drop (k+1)).length (l[k]::l.drop (k+1)) out:=by
 rw[<-hd,nk hlt]
theorem zk {b:UInt8} (h:(!decide ((1:Int)<=b.toNat))=false/\(!decide ((b.toNat:Int)<=21))=false):jw b.toNat=true:=by
 simp only[jw];simp_all
theorem D3 {l:List UInt8} {k:Nat} {out:List bd} (hlt:k<l.length) (hd:bQ (l.drop k).length (l.drop k) out=be l) (h:(!decide ((1:Int)<=l[k].toNat))=true\/(!decide ((l[k].toNat:Int)<=21))=true):be l=([],1):=by
 rw[sV hlt hd]
 generalize l[k]=b at *
 generalize l.drop (k+1)=r at *
 have h1:jw b.toNat=false:=by simp only[jw];rcases h with h | h <;> simp at h⊢ <;> omega
 simp[bQ,bh,h1]
theorem yq {l:List UInt8} {k:Nat} {out:List bd} (hlt:k<l.length) (hd:bQ (l.drop k).length (l.drop k) out=be l) (h:(!decide ((1:Int)<=l[k].toNat))=false/\(!decide ((l[k].toNat:Int)<=21))=false) (hn:gX l[k].toNat=true) (h4:(l.length:Int)<k+1+4):be l=([],1):=by
 rw[sV hlt hd]
 have hc:=zk h
 have hr:((l.drop (k+1)).length:Int)<4:=by simp;omega
 generalize l[k]=b at *
 generalize l.drop (k+1)=r at *
 simp[bQ,bh,hc,hn,eY,hr]
theorem rD {l:List UInt8} {k:Nat} {out:List bd} (hlt:k<l.length) (hd:bQ (l.drop k).length (l.drop k) out=be l) (h:(!decide ((1:Int)<=l[k].toNat))=false/\(!decide ((l[k].toNat:Int)<=21))=false) (hn:gX l[k].toNat=true/\(k:Int)+1+4<=l.length\/gX l[k].toNat=false) (h40:((out.length:Int) == 40)=true):be l=([],2):=by
 have h41:(out.length == 40)=true:=by simp at h40⊢;omega
 rw[sV hlt hd]
 have hc:=zk h
 rcases hn with ⟨hn,h4⟩ | hn
 ·have hr:¬((l.drop (k+1)).length:Int)<4:=by simp;omega
  generalize l[k]=b at *
  generalize l.drop (k+1)=r at *
  have hcut:eY r 4=(r.take 4,r.drop 4,true):=by unfold eY;rw[if_neg hr];rfl
  simp[bQ,bh,hc,hn,hcut,h41]
 generalize l[k]=b at *
 generalize l.drop (k+1)=r at *
 simp[bQ,bh,hc,hn,h41]
theorem Kj {l:List UInt8} {k:Nat} {out:List bd} (hlt:k<l.length) (hd:bQ (l.drop k).length (l.drop k) out=be l) (h:(!decide ((1:Int)<=l[k].toNat))=false/\(!decide ((l[k].toNat:Int)<=21))=false) (hn:gX l[k].toNat=true) (h4:(k:Int)+1+4<=l.length) (h40:((out.length:Int) == 40)=false) :
  bQ (l.drop (k+5)).length (l.drop (k+5)) (out++ [⟨l[k].toNat,cU ((l.drop (k+1)).take 4)⟩])=be l:=by
 have h41:(out.length == 40)=false:=by simp at h40⊢;omega
 have hr:¬((l.drop (k+1)).length:Int)<4:=by simp;omega
 have hf:bh l[k] (l.drop (k+1))=(⟨l[k].toNat,cU ((l.drop (k+1)).take 4)⟩,(l.drop (k+1)).drop 4,true):=by
  have hc:=zk h
  generalize l[k]=b at *
  generalize l.drop (k+1)=r at *
  have hcut:eY r 4=(r.take 4,r.drop 4,true):=by unfold eY;rw[if_neg hr];rfl
  simp[bh,hc,hn,hcut]
 rw[sV hlt hd,nI (by rw[hf]) h41,hf,List.drop_drop]
theorem HK {l:List UInt8} {k:Nat} {out:List bd} (hlt:k<l.length) (hd:bQ (l.drop k).length (l.drop k) out=be l) (h:(!decide ((1:Int)<=l[k].toNat))=false/\(!decide ((l[k].toNat:Int)<=21))=false) (hn:gX l[k].toNat=false) (h40:((out.length:Int) == 40)=false) :
  bQ (l.drop (k+1)).length (l.drop (k+1)) (out++ [⟨l[k].toNat,0⟩])=be l:=by
 have h41:(out.length == 40)=false:=by simp at h40⊢;omega
 have hf:bh l[k] (l.drop (k+1))=(⟨l[k].toNat,0⟩,l.drop (k+1),true):=by
  simp[bh,zk h,hn]
 rw[sV hlt hd,nI (by rw[hf]) h41,hf]
theorem yz {a W w2:World} {e:TypeId} {size n:Nat} {v:Value} {xs:List Value} (h:Below a.heap.size a W) (ho:W.ownsRow a.heap.size e size v n xs) (hg:W.grownBy w2 v.ownBlock):Below a.heap.size a w2:=
 h.grown hg h.size (fun k hk=>(ho.lt k hk).1)
theorem KG {out:List bd} {x:bd} (h:((out.length:Int) == 40)=false) (h40:out.length<=40):(out++ [x]).length<=40:=by
 simp at h⊢;omega
theorem qh {l:List UInt8} {out:List bd} {e:Int} {v:Value} (h:be l=(out,e)):Ending.returned (.tuple #[v,.int .i64 e])= .returned (.tuple #[v,.int .i64 (be l).2]):=by rw[h]
theorem tD {W:World} {base:Nat} {l:List UInt8} {e:Int} (h:be l=([],e)):W.ownsRow base 86 2 (.slice none 0 0) (be l).1.length ((be l).1.flatMap gj):=by rw[h];exact World.ownsRow_nil _ _ _ _
theorem Cx (l : List UInt8) (w : World) (hl : l.length <= 140737488355320) :
    Calls Tryz.prog 144 #[.string ⟨l.toArray⟩] w fun e w' => ∃ v, e = .returned (.tuple #[v, .int .i64 (be l).2]) /\ Below w.heap.size w w' /\ w'.ownsRow w.heap.size 86 2 v (be l).1.length ((be l).1.flatMap gj) := by
  go_enter Tryz.func144, Tryz.ntmps144
  go_wp2
  go_loopw [4, 5] (fun v t wr => ∃ (k : Nat) (out : List bd), k <= l.length /\ t = .int .i64 k /\ Below w.heap.size w wr /\ wr.ownsRow w.heap.size 86 2 v out.length (out.flatMap gj) /\ bQ (l.drop k).length (l.drop k) out = be l /\ out.length <= 40) (fun _ t _ => l.length - (intOf t).toNat)
  case atStart => exact ⟨0, [], by omega, rfl, (by repeat (first | exact Below.refl _ _ | assumption | refine Below.drew ?_ | refine Below.drewN_ ?_ _ | refine aK ?_ _ | refine bq (by assumption) ?_ | refine bD ?_ (by simp <;> omega) _)), by simpa using World.ownsRow_nil _ _ _ _, rfl, by simp⟩
  case round =>
    obtain ⟨k, out, hk, rfl, hbl, hown, hd, h40⟩ := hrel
    obtain ⟨A, cap, rfl⟩ := uK hown
    have Hd := Lib.hid hd; clear hd
    by_cases hlt : k < l.length
    · have hdr : l.drop k = l[k] :: l.drop (k + 1) := nk hlt
      have jB := Lib.hid hdr; clear hdr
      have hb8 := (l[k]'hlt).toNat_lt
      have hlr : (l.drop (k + 1)).length = l.length - (k + 1) := by simp
      have Hlr := Lib.hid hlr; clear hlr
      have hsz := hbl.size
      obtain ⟨i0, hi, hz0, hz1, hz2⟩ := info_parts uo
      go_wp2_with (first
        | (go_at_call 80; refine (AE _ _ _ _).mono ?_; rintro e w' ⟨rfl, rfl⟩)
        | (go_at_call 200; refine (Gi _ _).mono ?_; rintro e w' ⟨rfl, rfl⟩)
        | (go_at_call 201; refine (yK l _ _ (by omega) (by omega) hl).mono ?_; rintro e w' ⟨rfl, rfl⟩)
        | (at_builtin; refine vT ?_))
      · go_ret2
        exact ⟨_, qh (D3 hlt Hd.out (by assumption)), (by repeat (first | exact Below.refl _ _ | assumption | refine Below.drew ?_ | refine Below.drewN_ ?_ _ | refine aK ?_ _ | refine bq (by assumption) ?_ | refine bD ?_ (by simp <;> omega) _)), tD (D3 hlt Hd.out (by assumption))⟩
      · go_ret2
        exact ⟨_, qh (yq hlt Hd.out (by assumption) (by assumption) (by assumption)), (by repeat (first | exact Below.refl _ _ | assumption | refine Below.drew ?_ | refine Below.drewN_ ?_ _ | refine aK ?_ _ | refine bq (by assumption) ?_ | refine bD ?_ (by simp <;> omega) _)), tD (yq hlt Hd.out (by assumption) (by assumption) (by assumption))⟩
      · go_ret2
        exact ⟨_, qh (rD hlt Hd.out (by assumption) (.inl ⟨by assumption, by assumption⟩) (by assumption)), (by repeat (first | exact Below.refl _ _ | assumption | refine Below.drew ?_ | refine Below.drewN_ ?_ _ | refine aK ?_ _ | refine bq (by assumption) ?_ | refine bD ?_ (by simp <;> omega) _)), tD (rD hlt Hd.out (by assumption) (.inl ⟨by assumption, by assumption⟩) (by assumption))⟩
      · unfold Ci
        have Hn := Lib.hid (Kj hlt Hd.out (by assumption) (by assumption) (by assumption) (by assumption))
        have Hk5 := Lib.hid (show (k : Int) + 1 + 4 <= l.length by assumption)
        refine wpList_append_own _ rfl _ _ 77 rfl w.heap.size 86 i0 (.agg #[.int .i64 0, .int .i64 0]) 2 16 eQ hi hz0 hz1 hz2 rfl (by decide) _ _ _ rfl ((hown.alloc _).alloc _) ⟨wr.heap.size + 1, 0, none⟩ 1 1 (gj ⟨l[k].toNat, cU ((l.drop (k + 1)).take 4)⟩) rfl rfl (by have := cell_two_new (wr.alloc (.cells #[.int .i64 l[k].toNat, .int .i64 (cU ((l.drop (k + 1)).take 4))] 86)) (.int .i64 l[k].toNat) (.int .i64 (cU ((l.drop (k + 1)).take 4))) 86; rwa [World.size_alloc] at this)
          (by simp [gj, Value.oneCell']) (by unfold maxLen; omega) (by omega) (by simp; omega) ?_
        intro v' w2 hown' hgrow _
        go_wp2
        go_roundw
        case rel => exact ⟨k + 5, out ++ [⟨l[k].toNat, cU ((l.drop (k + 1)).take 4)⟩], by have := Hk5.out; omega, by go_num, yz (aK (aK hbl _) _) ((hown.alloc _).alloc _) hgrow, by rw [aq, pk]; simpa using hown', Hn.out, KG (by assumption) h40⟩
        case measure => simp [intOf]; omega
      · go_ret2
        exact ⟨_, qh (rD hlt Hd.out (by assumption) (.inr (by assumption)) (by assumption)), (by repeat (first | exact Below.refl _ _ | assumption | refine Below.drew ?_ | refine Below.drewN_ ?_ _ | refine aK ?_ _ | refine bq (by assumption) ?_ | refine bD ?_ (by simp <;> omega) _)), tD (rD hlt Hd.out (by assumption) (.inr (by assumption)) (by assumption))⟩
      · unfold Ci
        have Hn := Lib.hid (HK hlt Hd.out (by assumption) (by assumption) (by assumption))
        refine wpList_append_own _ rfl _ _ 77 rfl w.heap.size 86 i0 (.agg #[.int .i64 0, .int .i64 0]) 2 16 eQ hi hz0 hz1 hz2 rfl (by decide) _ _ _ rfl ((hown.alloc _).alloc _) ⟨wr.heap.size + 1, 0, none⟩ 1 1 (gj ⟨l[k].toNat, 0⟩) rfl rfl (by have := cell_two_new (wr.alloc (.cells #[.int .i64 l[k].toNat, .int .i64 0] 86)) (.int .i64 l[k].toNat) (.int .i64 0) 86; rwa [World.size_alloc] at this)
          (by simp [gj, Value.oneCell']) (by unfold maxLen; omega) (by omega) (by simp; omega) ?_
        intro v' w2 hown' hgrow _
        go_wp2
        go_roundw
        case rel => exact ⟨k + 1, out ++ [⟨l[k].toNat, 0⟩], by omega, by go_num, yz (aK (aK hbl _) _) ((hown.alloc _).alloc _) hgrow, by rw [aq, pk]; simpa using hown', Hn.out, KG (by assumption) h40⟩
        case measure => simp [intOf]; omega
    · go_wp2
      go_ret2
      have e0 : be l = (out, 0) := by rw [← Hd.out, List.drop_of_length_le (by omega)]; rfl
      exact ⟨_, qh e0, (by repeat (first | exact Below.refl _ _ | assumption | refine Below.drew ?_ | refine Below.drewN_ ?_ _ | refine aK ?_ _ | refine bq (by assumption) ?_ | refine bD ?_ (by simp <;> omega) _)), by rw [e0]; exact hown⟩
end
