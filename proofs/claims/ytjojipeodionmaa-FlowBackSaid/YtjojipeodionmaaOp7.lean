import Derived.Test.YtjojipeodionmaaOp6
import Derived.RangeFuncBox
import Derived.Maps.AppendAt
namespace Go.Proofs.Ytjojipeodionmaa
open Go.RowKit Go.Shelf
attribute [local go_sem] Oper.semAt_some

theorem ops_any (l : List UInt8) (w : World) : Calls Try.prog 78 #[.string ⟨l.toArray⟩] w fun e w' => e = .returned (.func (.func 116) #[] #[.pointer (some ⟨w.heap.size, 0, none⟩)]) ∧ w' = w.alloc (.cells #[.string ⟨l.toArray⟩] 9) := by
  go_enter Try.func78, Try.ntmps78
  go_wp2
  go_ret
  exact ⟨rfl, rfl⟩

theorem Try.infoOp : (Try.prog.info? 23).map (fun i => (i.zero, i.size, i.bytes)) = some (some (.agg #[.int .i64 0, .int .i64 0]), 2, 16) := by kernel_rfl
def opCells (o : MOp) : List Value := [.int .i64 o.c, .int .i64 o.a]

/-- Between two rounds: r is left to be told. -/
structure DecI (w : World) (l r : List UInt8) (W : World) : Prop where
  ex : ∃ out v, Boxed W (w.heap.size + 2) 24 v ∧ W.ownsRow (w.heap.size + 4) 23 2 v out.length (out.flatMap opCells) ∧ decodeGo r.length r out = decodeOps l ∧ out.length ≤ 40
  b0 : Boxed W w.heap.size 24 (.slice none 0 0)
  b1 : Boxed W (w.heap.size + 1) 25 (.int .i64 0)
  below : Below w.heap.size w W
/-- A round has left. -/
structure DecX (w : World) (l : List UInt8) (W : World) : Prop where
  ex : ∃ e, decodeOps l = ([], e) ∧ Boxed W (w.heap.size + 1) 25 (.int .i64 e)
  b0 : Boxed W w.heap.size 24 (.slice none 0 0)
  below : Below w.heap.size w W

theorem own_not_other {W : World} {base row size n : Nat} {e : TypeId} {v : Value} {xs : List Value} {o : Obj} (h : W.ownsRow base e size v n xs) (ho : W.heap[row]? = some o) (hc : o.isCells = false) : v.ownBlock ≠ some row := by
  rcases h.2 with ⟨rfl, _⟩ | ⟨g, cap, cur, rfl, _, hg, _⟩
  · simp [Value.ownBlock]
  · intro e'
    obtain rfl : g = row := by simpa [Value.ownBlock] using e'
    rw [hg] at ho; cases ho; cases hc
theorem own_not_low {W : World} {base row size n : Nat} {e : TypeId} {v : Value} {xs : List Value} (h : W.ownsRow base e size v n xs) (hr : row < base) : v.ownBlock ≠ some row := by
  intro e'
  have := (h.lt _ e').1
  omega
theorem boxed_not_other {W : World} {B row : Nat} {t : TypeId} {v : Value} {o : Obj} (h : Boxed W B t v) (ho : W.heap[row]? = some o) (hc : o.isCells = false) : B ≠ row := by
  rintro rfl
  rw [show W.heap[B]? = _ from h] at ho; cases ho; cases hc
def Turns (w W : World) (row : Nat) : Prop := w.heap.size + 3 = row ∨ (w.heap.size ≤ row ∧ ∃ o, W.heap[row]? = some o ∧ o.isCells = false)
theorem Turns.le {w W : World} {row : Nat} (h : Turns w W row) : w.heap.size ≤ row := by rcases h with h | h <;> omega
theorem Turns.box {w W : World} {row B : Nat} {t : TypeId} {v : Value} (h : Turns w W row) (hb : Boxed W B t v) (hB : B ≠ w.heap.size + 3) : some B ≠ some row := by
  rcases h with h | ⟨_, o, ho, hc⟩
  · simp; omega
  · simpa using boxed_not_other hb ho hc
theorem DecI.kept {w W W' : World} {l r : List UInt8} {row : Nat} (h : DecI w l r W) (hg : W.grownBy W' (some row)) (hr : Turns w W row) : DecI w l r W' := by
  obtain ⟨⟨out, v, h2, ho, hd, h40⟩, h0, h1, hb⟩ := h
  refine ⟨⟨out, v, h2.kept hg (hr.box h2 (by omega)), ho.kept hg (.inr ?_), hd, h40⟩, h0.kept hg (hr.box h0 (by omega)), h1.kept hg (hr.box h1 (by omega)), hb.grown hg hb.size (fun k e => by cases e; exact hr.le)⟩
  rcases hr with h | ⟨_, o, ho', hc⟩
  · exact own_not_low ho (by omega)
  · exact own_not_other ho ho' hc
theorem DecI.alloc {w W : World} {l r : List UInt8} (h : DecI w l r W) (o : Obj) : DecI w l r (W.alloc o) := by
  obtain ⟨⟨out, v, h2, ho, hd, h40⟩, h0, h1, hb⟩ := h
  exact ⟨⟨out, v, h2.alloc _, ho.alloc _, hd, h40⟩, h0.alloc _, h1.alloc _, hb.alloc hb.size _⟩
theorem DecX.kept {w W W' : World} {l : List UInt8} {row : Nat} (h : DecX w l W) (hg : W.grownBy W' (some row)) (hr : Turns w W row) : DecX w l W' := by
  obtain ⟨⟨e, hd, h1⟩, h0, hb⟩ := h
  exact ⟨⟨e, hd, h1.kept hg (hr.box h1 (by omega))⟩, h0.kept hg (hr.box h0 (by omega)), hb.grown hg hb.size (fun k e => by cases e; exact hr.le)⟩

theorem decodeGo_fuel2 (k : Nat) : ∀ (m : Nat) (r : List UInt8) (out : List MOp), r.length ≤ k → r.length ≤ m → decodeGo k r out = decodeGo m r out := by
  induction k with
  | zero => intro m r out h _; cases r <;> cases m <;> simp_all [decodeGo]
  | succ k ih =>
    intro m r out h h2
    cases r with
    | nil => cases m <;> simp [decodeGo]
    | cons b r =>
      have hl := firstOp_len b r
      simp at h h2
      cases m with
      | zero => omega
      | succ m =>
        simp only [decodeGo]
        split; · rfl
        split; · rfl
        exact ih _ _ _ (by omega) (by omega)
theorem decodeGo_step {b : UInt8} {r : List UInt8} {out : List MOp} (hok : (firstOp b r).2.2 = true) (h : (out.length == 40) = false) :
    decodeGo (b :: r).length (b :: r) out = decodeGo (firstOp b r).2.1.length (firstOp b r).2.1 (out ++ [(firstOp b r).1]) := by
  simp only [List.length_cons, decodeGo, hok, h]
  exact decodeGo_fuel2 _ _ _ _ (firstOp_len b r) (Nat.le_refl _)

/-- How the body of a round may be left. -/
def postR (I : List UInt8 → World → Prop) (Ix : World → Prop) (bs : Nat) (b : UInt8) (r : List UInt8) (W : World) : Exit → Act → World → Prop
  | .normal, _, W' => KeepsOthers W W' ∧ (firstOp b r).2.2 = true ∧ I (firstOp b r).2.1 W' ∧ Cap W' bs (b :: r)
  | .ret, _, W' => KeepsOthers W W' ∧ Ix W'
  | _, _, _ => False

/-- A range over the ops of bytes: the iterator keeps what is left in a variable of its own, in block bs. -/
theorem range_ops {g : Operand} {ps : Array Tmp} {assign body : Code} {Q : Exit → Act → World → Prop} {a : Act} {w : World} (bs : Nat) (hg : a.eval g = .func (.func 116) #[] #[.pointer (some ⟨bs, 0, none⟩)]) (hps : ps.size = 2)
    (I : List UInt8 → World → Prop) (Ix : World → Prop) (hbs : bs < w.heap.size)
    (hI : ∀ r W W' row, I r W → W.grownBy W' (some row) → (bs = row ∨ (w.heap.size ≤ row ∧ ∃ o, W.heap[row]? = some o ∧ o.isCells = false)) → I r W')
    (hIa : ∀ r W o, I r W → I r (W.alloc o))
    (hIx : ∀ W W' row, Ix W → W.grownBy W' (some row) → (bs = row ∨ (w.heap.size ≤ row ∧ ∃ o, W.heap[row]? = some o ∧ o.isCells = false)) → Ix W')
    (r0 : List UInt8) (hc0 : Cap w bs r0) (hl0 : r0.length ≤ 140737488355320) (h0 : I r0 w)
    (hround : ∀ (L : Nat) (b : UInt8) (r : List UInt8) (W : World), I (b :: r) W → Cap W bs (b :: r) → w.heap.size ≤ W.heap.size →
      assign.wpIn (Fence.wide.inRound L) 1 Try.prog (Exit.then (fun a₁ W₁ => KeepsOthers W W₁ ∧
        (∀ W₂, W₁.grownBy W₂ (some L) → w.heap.size ≤ L → (∃ o, W₁.heap[L]? = some o ∧ o.isCells = false) → body.wpIn (Fence.wide.inRound L) 1 Try.prog (postR I Ix bs b r W₂) a₁ W₂)) (fun _ _ _ => False))
        { tmps := (ps.zip #[.agg #[.int .i64 (firstOp b r).1.c, .int .i64 (firstOp b r).1.a], .bool (firstOp b r).2.2]).foldl (fun t (p, v) => t.setIfInBounds p v) a.tmps, defers := [] } W)
    (hdone : ∀ (D : Nat) (W : World), w.heap.size ≤ D → I [] W → W.heap[D]? = some (.deferred (some [])) → Q .normal { a with defers := { target := .collected D, args := #[] } :: a.defers } W)
    (hstop : ∀ (D : Nat) (W : World), w.heap.size ≤ D → Ix W → W.heap[D]? = some (.deferred (some [])) → Code.ret.wpIn Fence.wide 3 Try.prog Q { a with defers := { target := .collected D, args := #[] } :: a.defers } W) :
    (Code.rangeFunc g ps assign body).wpIn Fence.wide 3 Try.prog Q a w := by
  refine wpIn_rangeFunc ?_
  intro fn hfn
  obtain ⟨rec, hrec⟩ : ∃ rec : LoopState → Option Code → Loop, rec = fun st pe => { state := st, pending := pe, fn, tmps := a.tmps, params := ps, assign, body, defers := w.heap.size } := ⟨_, rfl⟩
  have hrs : ∀ st pe, (rec st pe).state = st ∧ (rec st pe).pending = pe := by intro st pe; rw [hrec]; exact ⟨rfl, rfl⟩
  obtain ⟨W1, hW1⟩ : ∃ W1, (w.alloc (.deferred (some []))).alloc (.loop (rec .ready none)) = W1 := ⟨_, rfl⟩
  have hL1 : W1.heap[w.heap.size + 1]? = some (.loop (rec .ready none)) := by
    rw [← hW1]; have := World.alloc_heap_new (w.alloc (.deferred (some []))) (.loop (rec .ready none)); rwa [World.size_alloc] at this
  have hK1 : W1.heap[w.heap.size]? = some (.deferred (some [])) := by
    rw [← hW1]; exact (Below.heap_alloc _ _ _ (by simp)).trans (World.alloc_heap_new w _)
  have hI1 : I r0 W1 := by rw [← hW1]; exact hIa _ _ _ (hIa _ _ _ h0)
  have hc1 : Cap W1 bs r0 := by rw [← hW1]; exact (hc0.alloc _).alloc _
  have hs1 : w.heap.size ≤ W1.heap.size := by rw [← hW1]; simp; omega
  have eg := enters_of Try.func116 (by kernel_rfl) rfl
  refine ⟨w.heap.size + 1, [{ target := .collected w.heap.size, args := #[] }], W1, { target := .fn (.func 116) #[.pointer (some ⟨bs, 0, none⟩)], args := #[.func (.yield (w.heap.size + 1)) #[] #[]] }, W1, 116,
    #[.func (.yield (w.heap.size + 1)) #[] #[]] ++ #[.pointer (some ⟨bs, 0, none⟩)], W1, ?_, ?_, fun _ _ => trivial, ?_, fun _ => by omega, ?_⟩
  · rw [← hW1, hrec]; exact run_enterLoop_outer _ _ _ _ _
  · simp only [resolve, hg]
    simp [go_sem]
  · simp [invoke, go_sem]
  · refine (ops1_in (3 - 1) (w.heap.size + 1) bs (by omega)
      (fun r W => I r W ∧ w.heap.size ≤ W.heap.size ∧ W.heap[w.heap.size + 1]? = some (.loop (rec .ready none)) ∧ W.heap[w.heap.size]? = some (.deferred (some [])))
      (fun W => Ix W ∧ W.heap[w.heap.size + 1]? = some (.loop (rec .done (some .ret))) ∧ W.heap[w.heap.size]? = some (.deferred (some [])))
      (fun r W W' h hg' => ⟨hI _ _ _ _ h.1 hg' (.inl rfl), Nat.le_trans h.2.1 hg'.size, (hg'.block _ (Array.getElem?_eq_some_iff.1 h.2.2.1).1 (by simp; omega)).trans h.2.2.1, (hg'.block _ (Array.getElem?_eq_some_iff.1 h.2.2.2).1 (by simp; omega)).trans h.2.2.2⟩)
      ?_ r0 W1 ⟨hI1, hs1, hL1, hK1⟩ hc1 hl0).mono ?_
    · rintro b r W ⟨hi, hsW, hl, hk⟩ hcap hrl
      have hy := run_yield (P := Try.prog) (args := #[.agg #[.int .i64 (firstOp b r).1.c, .int .i64 (firstOp b r).1.a], .bool (firstOp b r).2.2]) hl (by rw [hrec]; exact hps.symm)
      rw [hrec] at hy
      refine ⟨fn, _, assign, body, hy, roundIn_of_wpIn hfn (wpIn_mono (hround _ b r W hi hcap hsW) ?_)⟩
      rintro e a₁ W₁ hq
      cases e with
      | normal =>
        obtain ⟨hko, hbody⟩ := hq
        have hl' := hko.same _ _ hl rfl
        have hk' := hko.same _ _ hk rfl
        refine ⟨_, run_beginRound hl' (hrs _ _).1, wpIn_mono (hbody _ (grownBy_putObj' _ _ _) (by omega) ⟨_, hl', rfl⟩) ?_⟩
        have hlt : w.heap.size + 1 < W₁.heap.size := (Array.getElem?_eq_some_iff.1 hl').1
        have hl2 : (W₁.putObj (w.heap.size + 1) (.loop { rec .ready none with state := .busy })).heap[w.heap.size + 1]? = some (.loop { rec .ready none with state := .busy }) := World.putObj_heap_same hlt
        have hk2 : (W₁.putObj (w.heap.size + 1) (.loop { rec .ready none with state := .busy })).heap[w.heap.size]? = some (.deferred (some [])) := (World.putObj_heap_other (by omega)).trans hk'
        rintro e a3 W3 hp
        cases e with
        | normal =>
          obtain ⟨hk3, hok, hi3, hc3⟩ := hp
          have hl3 := hk3.same _ _ hl2 rfl
          have hend := run_endRound (P := Try.prog) none hl3
          have hsz3 : w.heap.size ≤ W3.heap.size := by have := (Array.getElem?_eq_some_iff.1 hl3).1; omega
          refine ⟨_, _, hend, .inl ⟨rfl, hok, ⟨hI _ _ _ _ hi3 (grownBy_putObj' _ _ _) (.inr ⟨by omega, _, hl3, rfl⟩), by simpa using hsz3, ?_, (World.putObj_heap_other (by omega)).trans (hk3.same _ _ hk2 rfl)⟩, ?_⟩⟩
          · have := World.putObj_heap_same (w := W3) (o := .loop { ({ rec .ready none with state := .busy } : Loop) with state := .ready, pending := none }) (Array.getElem?_eq_some_iff.1 hl3).1
            rw [hrec] at this ⊢
            exact this
          · have h1 : (W3.putObj (w.heap.size + 1) (.loop { ({ rec .ready none with state := .busy } : Loop) with state := .ready, pending := none })).heap[bs]? = W3.heap[bs]? := World.putObj_heap_other (by omega)
            exact h1.trans ((show W3.heap[bs]? = _ from hc3).trans (show W.heap[bs]? = _ from hcap).symm)
        | ret =>
          obtain ⟨hk3, hi3⟩ := hp
          have hl3 := hk3.same _ _ hl2 rfl
          have hend := run_endRound (P := Try.prog) (some .ret) hl3
          refine ⟨_, _, hend, .inr ⟨rfl, hIx _ _ _ hi3 (grownBy_putObj' _ _ _) (.inr ⟨by omega, _, hl3, rfl⟩), ?_, (World.putObj_heap_other (by omega)).trans (hk3.same _ _ hk2 rfl)⟩⟩
          have := World.putObj_heap_same (w := W3) (o := .loop { ({ rec .ready none with state := .busy } : Loop) with state := .done, pending := some .ret }) (Array.getElem?_eq_some_iff.1 hl3).1
          rw [hrec] at this ⊢
          exact this
        | exit id => exact hp.elim
        | goto t => exact hp.elim
        | panic ch => exact hp.elim
        | outgrown => exact hp.elim
      | exit id => exact hq.elim
      | goto t => exact hq.elim
      | ret => exact hq.elim
      | panic ch => exact hq.elim
      | outgrown => exact hq.elim
    · rintro e W2 ⟨⟨v, rfl⟩, (⟨hi, _, hl, hk⟩ | ⟨hi, hl, hk⟩)⟩
      · obtain ⟨o, hend⟩ : ∃ o, (Instr.endLoop (w.heap.size + 1)).run Try.prog W2 = .ok none (W2.putObj (w.heap.size + 1) o) := by
          have := run_endLoop (P := Try.prog) hl (by rw [(hrs _ _).1]; simp)
          rw [(hrs _ _).2] at this
          exact ⟨_, this⟩
        exact ⟨none, _, hend, hdone _ _ (Nat.le_refl _) (hI _ _ _ _ hi (grownBy_putObj' _ _ _) (.inr ⟨by omega, _, hl, rfl⟩)) ((World.putObj_heap_other (by omega)).trans hk)⟩
      · obtain ⟨o, hend⟩ : ∃ o, (Instr.endLoop (w.heap.size + 1)).run Try.prog W2 = .ok (some .ret) (W2.putObj (w.heap.size + 1) o) := by
          have := run_endLoop (P := Try.prog) hl (by rw [(hrs _ _).1]; simp)
          rw [(hrs _ _).2] at this
          exact ⟨_, this⟩
        exact ⟨some .ret, _, hend, hstop _ _ (Nat.le_refl _) (hIx _ _ _ hi (grownBy_putObj' _ _ _) (.inr ⟨by omega, _, hl, rfl⟩)) ((World.putObj_heap_other (by omega)).trans hk)⟩

end Go.Proofs.Ytjojipeodionmaa
