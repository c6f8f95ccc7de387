/- Texts of one proof, one behind the other: lemmas alone. -/
import Derived.RangeFuncBox
import Derived.Maps.AppendAt
import Derived.Test.YtmnkaalchcomlaaGreatM21V

-- Op7
namespace Go.Proofs.YtmnkaalchcomlaaGreat
open Go.RowKit Go.Shelf
attribute [local go_sem] Oper.semAt_some

theorem ops_any (l : List UInt8) (w : World) : Calls Tryz.prog 144 #[.string ⟨l.toArray⟩] w fun e w' => e = .returned (.func (.func 181) #[] #[.pointer (some ⟨w.heap.size, 0, none⟩)]) ∧ w' = w.alloc (.cells #[.string ⟨l.toArray⟩] 9) := by
  go_enter Tryz.func144, Tryz.ntmps144
  go_wp2
  go_ret
  exact ⟨rfl, rfl⟩

theorem Tryz.infoOp : (Tryz.prog.info? 51).map (fun i => (i.zero, i.size, i.bytes)) = some (some (.agg #[.int .i64 0, .int .i64 0]), 2, 16) := by kernel_rfl
def opCells (o : MOp) : List Value := [.int .i64 o.c, .int .i64 o.a]
structure DecI (w : World) (l r : List UInt8) (W : World) : Prop where
 ex : ∃ out v, Boxed W (w.heap.size + 2) 111 v ∧ W.ownsRow (w.heap.size + 4) 51 2 v out.length (out.flatMap opCells) ∧ decodeGo r.length r out = decodeOps l ∧ out.length ≤ 40
 b0 : Boxed W w.heap.size 111 (.slice none 0 0)
 b1 : Boxed W (w.heap.size + 1) 30 (.int .i64 0)
 below : Below w.heap.size w W
structure DecX (w : World) (l : List UInt8) (W : World) : Prop where
 ex : ∃ e, decodeOps l = ([], e) ∧ Boxed W (w.heap.size + 1) 30 (.int .i64 e)
 b0 : Boxed W w.heap.size 111 (.slice none 0 0)
 below : Below w.heap.size w W
theorem own_not_other {W : World} {base row size n : Nat} {e : TypeId} {v : Value} {xs : List Value} {o : Obj} (h : W.ownsRow base e size v n xs) (ho : W.heap[row]? = some o) (hc : o.isCells = false) : v.ownBlock ≠ some row := by
 rcases h.2 with ⟨rfl, _⟩ | ⟨g, cap, cur, rfl, _, hg, _⟩
 ·simp [Value.ownBlock]
 ·intro e'
  obtain rfl : g = row := by simpa [Value.ownBlock] using e'
  rw [hg] at ho; cases ho; cases hc
theorem own_not_low {W : World} {base row size n : Nat} {e : TypeId} {v : Value} {xs : List Value} (h : W.ownsRow base e size v n xs) (hr : row < base) : v.ownBlock ≠ some row := by
 intro e'
 have := (h.lt _ e').1
 omega
theorem boxed_not_other {W : World} {B row : Nat} {t : TypeId} {v : Value} {o : Obj} (h : Boxed W B t v) (ho : W.heap[row]? = some o) (hc : o.isCells = false) : B ≠ row := by
 rintro rfl
 rw [show W.heap[B]? = _ from h] at ho; cases ho; cases hc
def Turns (w W : World) (row : Nat) : Prop := w.heap.size + 3 = row ∨ (w.heap.size ≤ row ∧ ∃ o, W.heap[row]? = some o ∧ o.isCells = false)
theorem Turns.le {w W : World} {row : Nat} (h : Turns w W row) : w.heap.size ≤ row := by rcases h with h | h <;> omega
theorem Turns.box {w W : World} {row B : Nat} {t : TypeId} {v : Value} (h : Turns w W row) (hb : Boxed W B t v) (hB : B ≠ w.heap.size + 3) : some B ≠ some row := by
 rcases h with h | ⟨_, o, ho, hc⟩
 ·simp; omega
 ·simpa using boxed_not_other hb ho hc
theorem DecI.kept {w W W' : World} {l r : List UInt8} {row : Nat} (h : DecI w l r W) (hg : W.grownBy W' (some row)) (hr : Turns w W row) : DecI w l r W' := by
 obtain ⟨⟨out, v, h2, ho, hd, h40⟩, h0, h1, hb⟩ := h
 refine ⟨⟨out, v, h2.kept hg (hr.box h2 (by omega)), ho.kept hg (.inr ?_), hd, h40⟩, h0.kept hg (hr.box h0 (by omega)), h1.kept hg (hr.box h1 (by omega)), hb.grown hg hb.size (fun k e => by cases e; exact hr.le)⟩
 rcases hr with h | ⟨_, o, ho', hc⟩
 ·exact own_not_low ho (by omega)
 ·exact own_not_other ho ho' hc
theorem DecI.alloc {w W : World} {l r : List UInt8} (h : DecI w l r W) (o : Obj) : DecI w l r (W.alloc o) := by
 obtain ⟨⟨out, v, h2, ho, hd, h40⟩, h0, h1, hb⟩ := h
 exact ⟨⟨out, v, h2.alloc _, ho.alloc _, hd, h40⟩, h0.alloc _, h1.alloc _, hb.alloc hb.size _⟩
theorem DecX.kept {w W W' : World} {l : List UInt8} {row : Nat} (h : DecX w l W) (hg : W.grownBy W' (some row)) (hr : Turns w W row) : DecX w l W' := by
 obtain ⟨⟨e, hd, h1⟩, h0, hb⟩ := h
 exact ⟨⟨e, hd, h1.kept hg (hr.box h1 (by omega))⟩, h0.kept hg (hr.box h0 (by omega)), hb.grown hg hb.size (fun k e => by cases e; exact hr.le)⟩
theorem decodeGo_fuel2 (k : Nat) : ∀ (m : Nat) (r : List UInt8) (out : List MOp), r.length ≤ k → r.length ≤ m → decodeGo k r out = decodeGo m r out := by
 induction k with
 | zero => intro m r out h _; cases r <;> cases m <;> simp_all [decodeGo]
 | succ k ih =>
  intro m r out h h2
  cases r with
  | nil => cases m <;> simp [decodeGo]
  | cons b r =>
   have hl := firstOp_len b r
   simp at h h2
   cases m with
   | zero => omega
   | succ m =>
    simp only [decodeGo]
    split; · rfl
    split; · rfl
    exact ih _ _ _ (by omega) (by omega)
theorem decodeGo_step {b : UInt8} {r : List UInt8} {out : List MOp} (hok : (firstOp b r).2.2 = true) (h : (out.length == 40) = false) :
  decodeGo (b :: r).length (b :: r) out = decodeGo (firstOp b r).2.1.length (firstOp b r).2.1 (out ++ [(firstOp b r).1]) := by
 simp only [List.length_cons, decodeGo, hok, h]
 exact decodeGo_fuel2 _ _ _ _ (firstOp_len b r) (Nat.le_refl _)
def postR (I : List UInt8 → World → Prop) (Ix : World → Prop) (bs : Nat) (b : UInt8) (r : List UInt8) (W : World) : Exit → Act → World → Prop
 | .normal, _, W' => KeepsOthers W W' ∧ (firstOp b r).2.2 = true ∧ I (firstOp b r).2.1 W' ∧ Cap W' bs (b :: r)
 | .ret, _, W' => KeepsOthers W W' ∧ Ix W'
 | _, _, _ => False
theorem range_ops {g : Operand} {ps : Array Tmp} {assign body : Code} {Q : Exit → Act → World → Prop} {a : Act} {w : World} (bs : Nat) (hg : a.eval g = .func (.func 181) #[] #[.pointer (some ⟨bs, 0, none⟩)]) (hps : ps.size = 2)
    (I : List UInt8 → World → Prop) (Ix : World → Prop) (hbs : bs < w.heap.size)
    (hI : ∀ r W W' row, I r W → W.grownBy W' (some row) → (bs = row ∨ (w.heap.size ≤ row ∧ ∃ o, W.heap[row]? = some o ∧ o.isCells = false)) → I r W')
    (hIa : ∀ r W o, I r W → I r (W.alloc o))
    (hIx : ∀ W W' row, Ix W → W.grownBy W' (some row) → (bs = row ∨ (w.heap.size ≤ row ∧ ∃ o, W.heap[row]? = some o ∧ o.isCells = false)) → Ix W')
    (r0 : List UInt8) (hc0 : Cap w bs r0) (hl0 : r0.length ≤ 140737488355320) (h0 : I r0 w)
    (hround : ∀ (L : Nat) (b : UInt8) (r : List UInt8) (W : World), I (b :: r) W → Cap W bs (b :: r) → w.heap.size ≤ W.heap.size →
      assign.wpIn (Fence.wide.inRound L) 1 Tryz.prog (Exit.then (fun a₁ W₁ => KeepsOthers W W₁ ∧
        (∀ W₂, W₁.grownBy W₂ (some L) → w.heap.size ≤ L → (∃ o, W₁.heap[L]? = some o ∧ o.isCells = false) → body.wpIn (Fence.wide.inRound L) 1 Tryz.prog (postR I Ix bs b r W₂) a₁ W₂)) (fun _ _ _ => False))
        { tmps := (ps.zip #[.agg #[.int .i64 (firstOp b r).1.c, .int .i64 (firstOp b r).1.a], .bool (firstOp b r).2.2]).foldl (fun t (p, v) => t.setIfInBounds p v) a.tmps, defers := [] } W)
    (hdone : ∀ (D : Nat) (W : World), w.heap.size ≤ D → I [] W → W.heap[D]? = some (.deferred (some [])) → Q .normal { a with defers := { target := .collected D, args := #[] } :: a.defers } W)
    (hstop : ∀ (D : Nat) (W : World), w.heap.size ≤ D → Ix W → W.heap[D]? = some (.deferred (some [])) → Code.ret.wpIn Fence.wide 3 Tryz.prog Q { a with defers := { target := .collected D, args := #[] } :: a.defers } W) :
    (Code.rangeFunc g ps assign body).wpIn Fence.wide 3 Tryz.prog Q a w := by
  refine wpIn_rangeFunc ?_
  intro fn hfn
  obtain ⟨rec, hrec⟩ : ∃ rec : LoopState → Option Code → Loop, rec = fun st pe => { state := st, pending := pe, fn, tmps := a.tmps, params := ps, assign, body, defers := w.heap.size } := ⟨_, rfl⟩
  have hrs : ∀ st pe, (rec st pe).state = st ∧ (rec st pe).pending = pe := by intro st pe; rw [hrec]; exact ⟨rfl, rfl⟩
  obtain ⟨W1, hW1⟩ : ∃ W1, (w.alloc (.deferred (some []))).alloc (.loop (rec .ready none)) = W1 := ⟨_, rfl⟩
  have hL1 : W1.heap[w.heap.size + 1]? = some (.loop (rec .ready none)) := by
    rw [← hW1]; have := World.alloc_heap_new (w.alloc (.deferred (some []))) (.loop (rec .ready none)); rwa [World.size_alloc] at this
  have hK1 : W1.heap[w.heap.size]? = some (.deferred (some [])) := by
    rw [← hW1]; exact (Below.heap_alloc _ _ _ (by simp)).trans (World.alloc_heap_new w _)
  have hI1 : I r0 W1 := by rw [← hW1]; exact hIa _ _ _ (hIa _ _ _ h0)
  have hc1 : Cap W1 bs r0 := by rw [← hW1]; exact (hc0.alloc _).alloc _
  have hs1 : w.heap.size ≤ W1.heap.size := by rw [← hW1]; simp; omega
  have eg := enters_of Tryz.func181 (by kernel_rfl) rfl
  refine ⟨w.heap.size + 1, [{ target := .collected w.heap.size, args := #[] }], W1, { target := .fn (.func 181) #[.pointer (some ⟨bs, 0, none⟩)], args := #[.func (.yield (w.heap.size + 1)) #[] #[]] }, W1, 181,
    #[.func (.yield (w.heap.size + 1)) #[] #[]] ++ #[.pointer (some ⟨bs, 0, none⟩)], W1, ?_, ?_, fun _ _ => trivial, ?_, fun _ => by omega, ?_⟩
  · rw [← hW1, hrec]; exact run_enterLoop_outer _ _ _ _ _
  · simp only [resolve, hg]
    simp [go_sem]
  · simp [invoke, go_sem]
  · refine (ops1_in (3 - 1) (w.heap.size + 1) bs (by omega)
      (fun r W => I r W ∧ w.heap.size ≤ W.heap.size ∧ W.heap[w.heap.size + 1]? = some (.loop (rec .ready none)) ∧ W.heap[w.heap.size]? = some (.deferred (some [])))
      (fun W => Ix W ∧ W.heap[w.heap.size + 1]? = some (.loop (rec .done (some .ret))) ∧ W.heap[w.heap.size]? = some (.deferred (some [])))
      (fun r W W' h hg' => ⟨hI _ _ _ _ h.1 hg' (.inl rfl), Nat.le_trans h.2.1 hg'.size, (hg'.block _ (Array.getElem?_eq_some_iff.1 h.2.2.1).1 (by simp; omega)).trans h.2.2.1, (hg'.block _ (Array.getElem?_eq_some_iff.1 h.2.2.2).1 (by simp; omega)).trans h.2.2.2⟩)
      ?_ r0 W1 ⟨hI1, hs1, hL1, hK1⟩ hc1 hl0).mono ?_
    · rintro b r W ⟨hi, hsW, hl, hk⟩ hcap hrl
      have hy := run_yield (P := Tryz.prog) (args := #[.agg #[.int .i64 (firstOp b r).1.c, .int .i64 (firstOp b r).1.a], .bool (firstOp b r).2.2]) hl (by rw [hrec]; exact hps.symm)
      rw [hrec] at hy
      refine ⟨fn, _, assign, body, hy, roundIn_of_wpIn hfn (wpIn_mono (hround _ b r W hi hcap hsW) ?_)⟩
      rintro e a₁ W₁ hq
      cases e with
      | normal =>
        obtain ⟨hko, hbody⟩ := hq
        have hl' := hko.same _ _ hl rfl
        have hk' := hko.same _ _ hk rfl
        refine ⟨_, run_beginRound hl' (hrs _ _).1, wpIn_mono (hbody _ (grownBy_putObj' _ _ _) (by omega) ⟨_, hl', rfl⟩) ?_⟩
        have hlt : w.heap.size + 1 < W₁.heap.size := (Array.getElem?_eq_some_iff.1 hl').1
        have hl2 : (W₁.putObj (w.heap.size + 1) (.loop { rec .ready none with state := .busy })).heap[w.heap.size + 1]? = some (.loop { rec .ready none with state := .busy }) := World.putObj_heap_same hlt
        have hk2 : (W₁.putObj (w.heap.size + 1) (.loop { rec .ready none with state := .busy })).heap[w.heap.size]? = some (.deferred (some [])) := (World.putObj_heap_other (by omega)).trans hk'
        rintro e a3 W3 hp
        cases e with
        | normal =>
          obtain ⟨hk3, hok, hi3, hc3⟩ := hp
          have hl3 := hk3.same _ _ hl2 rfl
          have hend := run_endRound (P := Tryz.prog) none hl3
          have hsz3 : w.heap.size ≤ W3.heap.size := by have := (Array.getElem?_eq_some_iff.1 hl3).1; omega
          refine ⟨_, _, hend, .inl ⟨rfl, hok, ⟨hI _ _ _ _ hi3 (grownBy_putObj' _ _ _) (.inr ⟨by omega, _, hl3, rfl⟩), by simpa using hsz3, ?_, (World.putObj_heap_other (by omega)).trans (hk3.same _ _ hk2 rfl)⟩, ?_⟩⟩
          · have := World.putObj_heap_same (w := W3) (o := .loop { ({ rec .ready none with state := .busy } : Loop) with state := .ready, pending := none }) (Array.getElem?_eq_some_iff.1 hl3).1
            rw [hrec] at this ⊢
            exact this
          · have h1 : (W3.putObj (w.heap.size + 1) (.loop { ({ rec .ready none with state := .busy } : Loop) with state := .ready, pending := none })).heap[bs]? = W3.heap[bs]? := World.putObj_heap_other (by omega)
            exact h1.trans ((show W3.heap[bs]? = _ from hc3).trans (show W.heap[bs]? = _ from hcap).symm)
        | ret =>
          obtain ⟨hk3, hi3⟩ := hp
          have hl3 := hk3.same _ _ hl2 rfl
          have hend := run_endRound (P := Tryz.prog) (some .ret) hl3
          refine ⟨_, _, hend, .inr ⟨rfl, hIx _ _ _ hi3 (grownBy_putObj' _ _ _) (.inr ⟨by omega, _, hl3, rfl⟩), ?_, (World.putObj_heap_other (by omega)).trans (hk3.same _ _ hk2 rfl)⟩⟩
          have := World.putObj_heap_same (w := W3) (o := .loop { ({ rec .ready none with state := .busy } : Loop) with state := .done, pending := some .ret }) (Array.getElem?_eq_some_iff.1 hl3).1
          rw [hrec] at this ⊢
          exact this
        | exit id => exact hp.elim
        | goto t => exact hp.elim
        | panic ch => exact hp.elim
        | outgrown => exact hp.elim
      | exit id => exact hq.elim
      | goto t => exact hq.elim
      | ret => exact hq.elim
      | panic ch => exact hq.elim
      | outgrown => exact hq.elim
    · rintro e W2 ⟨⟨v, rfl⟩, (⟨hi, _, hl, hk⟩ | ⟨hi, hl, hk⟩)⟩
      · obtain ⟨o, hend⟩ : ∃ o, (Instr.endLoop (w.heap.size + 1)).run Tryz.prog W2 = .ok none (W2.putObj (w.heap.size + 1) o) := by
          have := run_endLoop (P := Tryz.prog) hl (by rw [(hrs _ _).1]; simp)
          rw [(hrs _ _).2] at this
          exact ⟨_, this⟩
        exact ⟨none, _, hend, hdone _ _ (Nat.le_refl _) (hI _ _ _ _ hi (grownBy_putObj' _ _ _) (.inr ⟨by omega, _, hl, rfl⟩)) ((World.putObj_heap_other (by omega)).trans hk)⟩
      · obtain ⟨o, hend⟩ : ∃ o, (Instr.endLoop (w.heap.size + 1)).run Tryz.prog W2 = .ok (some .ret) (W2.putObj (w.heap.size + 1) o) := by
          have := run_endLoop (P := Tryz.prog) hl (by rw [(hrs _ _).1]; simp)
          rw [(hrs _ _).2] at this
          exact ⟨_, this⟩
        exact ⟨some .ret, _, hend, hstop _ _ (Nat.le_refl _) (hIx _ _ _ hi (grownBy_putObj' _ _ _) (.inr ⟨by omega, _, hl, rfl⟩)) ((World.putObj_heap_other (by omega)).trans hk)⟩

end Go.Proofs.YtmnkaalchcomlaaGreat
-- Op8
namespace Go.Proofs.YtmnkaalchcomlaaGreat
open Go.RowKit Go.Shelf
attribute [local go_sem] Oper.semAt_some

theorem boxed_far {W : World} {B : Nat} {t : TypeId} {v : Value} (h : Boxed W B t v) {p : Addr} (hp : B ≠ p.block) (u : Value) : Boxed (W.setCell p u) B t v := (Below.heap_setCell _ _ _ _ hp).trans h
set_option maxHeartbeats 1000000 in
theorem decode_in (l : List UInt8) (w : World) (hl : l.length ≤ 140737488355320) : CallsIn Fence.wide 3 Tryz.prog 106 #[.string ⟨l.toArray⟩] w fun e W =>
    ∃ v, e = .returned (.tuple #[v, .int .i64 (decodeOps l).2]) ∧ Below w.heap.size w W ∧ W.ownsRow (w.heap.size + 4) 51 2 v (decodeOps l).1.length ((decodeOps l).1.flatMap opCells) := by
  refine callsIn_of_wp_marks Tryz.func106 rfl trivial ?_
  simp only [Tryz.ntmps106, List.size_toArray, List.length_cons, List.length_nil, Nat.reduceAdd, Nat.reduceSub, Array.replicate_succ, Array.replicate_zero, List.push_toArray, List.append_toArray, List.nil_append, List.cons_append]
  gi_wp2_with (refine ⟨trivial, ?_⟩; gi_at_call 144; refine (callsIn_wide.2 (ops_any l _)).mono ?_; rintro e w' ⟨rfl, rfl⟩)
  obtain ⟨w1, hw1⟩ : ∃ w1, (((w.alloc (.cells #[.slice none 0 0] 111)).alloc (.cells #[.int .i64 0] 30)).alloc (.cells #[.slice none 0 0] 111)).alloc (.cells #[.string ⟨l.toArray⟩] 9) = w1 := ⟨_, rfl⟩
  rw [hw1]
  have hsz : w1.heap.size = w.heap.size + 4 := by rw [← hw1]; simp
  have hB : Below w.heap.size w w1 := by
    rw [← hw1]; exact below_alloc (below_alloc (below_alloc (below_alloc (Below.refl _ _) _) _) _) _
  have hbx0 : Boxed w1 w.heap.size 111 (.slice none 0 0) := by rw [← hw1]; exact (((Boxed.new w _ _).alloc _).alloc _).alloc _
  have hbx1 : Boxed w1 (w.heap.size + 1) 30 (.int .i64 0) := by
    rw [← hw1]; have := ((Boxed.new (w.alloc (.cells #[.slice none 0 0] 111)) 30 (.int .i64 0)).alloc (.cells #[.slice none 0 0] 111)).alloc (.cells #[.string ⟨l.toArray⟩] 9); rwa [World.size_alloc] at this
  have hbx2 : Boxed w1 (w.heap.size + 2) 111 (.slice none 0 0) := by
    rw [← hw1]; have := (Boxed.new ((w.alloc (.cells #[.slice none 0 0] 111)).alloc (.cells #[.int .i64 0] 30)) 111 (.slice none 0 0)).alloc (.cells #[.string ⟨l.toArray⟩] 9); rwa [World.size_alloc, World.size_alloc] at this
  have hcap : Cap w1 (w.heap.size + 3) l := by
    rw [← hw1]; have := Boxed.new (((w.alloc (.cells #[.slice none 0 0] 111)).alloc (.cells #[.int .i64 0] 30)).alloc (.cells #[.slice none 0 0] 111)) 9 (.string ⟨l.toArray⟩); rwa [World.size_alloc, World.size_alloc, World.size_alloc] at this
  clear hw1
  refine range_ops (w.heap.size + 3) rfl rfl (DecI w l) (DecX w l) (by omega)
    (fun r W W' row h hg hr => h.kept hg (hr.imp id (fun ⟨h1, h2⟩ => ⟨by omega, h2⟩)))
    (fun r W o h => h.alloc o)
    (fun W W' row h hg hr => h.kept hg (hr.imp id (fun ⟨h1, h2⟩ => ⟨by omega, h2⟩)))
    l hcap hl ⟨⟨[], .slice none 0 0, hbx2, by simpa using World.ownsRow_nil _ _ _ _, rfl, by simp⟩, hbx0, hbx1, hB⟩ ?round ?done ?stop
  case round =>
    intro L b r W hi hc hs
    gi_wp2
    refine ⟨KeepsOthers.alloc _ _, fun W₂ hg hL ho => ?_⟩
    have hLne : W.heap.size ≠ L := by
      obtain ⟨o, h1, h2⟩ := ho
      rintro rfl
      rw [World.alloc_heap_new] at h1; cases h1; cases h2
    have hi2 : DecI w l (b :: r) W₂ := (hi.alloc _).kept hg (.inr ⟨by omega, ho⟩)
    have hc2 : Cap W₂ (w.heap.size + 3) (b :: r) := (hg.block _ (hc.alloc _).lt (by simp; omega)).trans (hc.alloc _)
    have hbox : W₂.heap[W.heap.size]? = some (.cells #[.int .i64 (firstOp b r).1.c, .int .i64 (firstOp b r).1.a] 51 (0, 0)) := (hg.block _ (by simp) (by simpa using hLne)).trans (World.alloc_heap_new _ _)
    have hx0 : W₂.cell? ⟨W.heap.size, 0, none⟩ = some (.int .i64 (firstOp b r).1.c) := by simp [World.cell?, hbox]
    have hx1 : W₂.cell? ⟨W.heap.size, 1, none⟩ = some (.int .i64 (firstOp b r).1.a) := by simp [World.cell?, hbox]
    clear hbox hg hi hc
    obtain ⟨⟨out, v, h2, hown, hd, h40⟩, h0, h1, hb⟩ := hi2
    obtain ⟨A, cap, rfl⟩ : ∃ A cap, v = .slice A out.length cap := own_form hown
    have Hd := Lib.hid hd; clear hd
    have c0 := h0.cell
    have c1 := h1.cell
    have c2 := h2.cell
    have f0 := h0.frozen
    have f1 := h1.frozen
    have f2 := h2.frozen
    have hcs := hc2.lt
    obtain ⟨i0, hi, hz0, hz1, hz2⟩ := info_parts Tryz.infoOp
    cases hok : (firstOp b r).2.2 with
    | false =>
      gi_wp2
      refine ⟨(KeepsOthers.setCell _ _ _).trans (KeepsOthers.setCell _ _ _), ⟨1, ?_, (boxed_far h1 (by simp) _).set _⟩, boxed_far (h0.set _) (by simp) _, (hb.setCell (by simp) _).setCell (by simp) _⟩
      rw [← Hd.out]; simp [decodeGo, hok]
    | true =>
      by_cases h41 : out.length = 40
      · have ht : ((out.length : Int) == 40) = true := by simp; omega
        have ht2 : decide ((out.length : Int) = 40) = true := by simp; omega
        have Hl := Lib.hid h41; clear h41
        gi_wp2
        refine ⟨(KeepsOthers.setCell _ _ _).trans (KeepsOthers.setCell _ _ _), ⟨2, ?_, (boxed_far h1 (by simp) _).set _⟩, boxed_far (h0.set _) (by simp) _, (hb.setCell (by simp) _).setCell (by simp) _⟩
        rw [← Hd.out]; simp [decodeGo, hok, Hl.out]
      · have ht : ((out.length : Int) == 40) = false := by simp; omega
        have ht2 : decide ((out.length : Int) = 40) = false := by simp; omega
        have hcell2 := cell_two_new W₂ (.int .i64 (firstOp b r).1.c) (.int .i64 (firstOp b r).1.a) 51
        gi_wp2_with (gi_at_builtin; refine mk_in ?_)
        unfold MkD
        refine wpListIn_append_own _ rfl _ _ 111 rfl (w.heap.size + 4) 51 i0 (.agg #[.int .i64 0, .int .i64 0]) 2 16 Tryz.underlying111 hi hz0 hz1 hz2 rfl (by decide) _ _ _ rfl (hown.alloc _) ⟨W₂.heap.size, 0, none⟩ 1 1 (opCells (firstOp b r).1) rfl rfl hcell2
          (by simp [opCells, Value.oneCell']) (by unfold maxLen; omega) (by omega) (by simp; omega) ?_
        intro v' w2 hown' hgrow _
        obtain ⟨g', cap', rfl⟩ := ownsRow_succ hown'
        obtain ⟨hv1, hv2, _, hk2, hb2⟩ := h2.appended (n₀ := w.heap.size) (by decide) (own_mono hown (by omega)) hb.size (by omega) (own_mono hown' (by omega)) hgrow
        have hr2 := hown'.kept (grownBy_setCell' w2 (w.heap.size + 2) (.slice (some ⟨g', 0, none⟩) (out.length + 1) cap')) (.inr (own_not_low hown' (by omega)))
        have hv1c := hv1.cell
        have hv1f := hv1.frozen
        have hg2 : ∀ B t u, Boxed W₂ B t u → B < w.heap.size + 4 → Boxed w2 B t u := fun B t u h hlt => (h.alloc _).kept hgrow (Ne.symm (own_not_low hown (by omega)))
        gi_wp2
        refine ⟨hk2, hok, ⟨⟨out ++ [(firstOp b r).1], _, hv2, ?_, ?_, ?_⟩, boxed_far (hg2 _ _ _ h0 (by omega)) (by simp <;> omega) _, boxed_far (hg2 _ _ _ h1 (by omega)) (by simp <;> omega) _, hb.trans hb2⟩, boxed_far (hg2 _ _ _ hc2 (by omega)) (by simp <;> omega) _⟩
        · rw [List.length_append, List.flatMap_append]; simpa using hr2
        · rw [← Hd.out, decodeGo_step hok (by simpa using h41)]
        · simp; omega
  case done =>
    intro D W hD hi hdef
    obtain ⟨⟨out, v, h2, hown, hd, h40⟩, h0, h1, hb⟩ := hi
    obtain ⟨A, cap, rfl⟩ : ∃ A cap, v = .slice A out.length cap := own_form hown
    have Hd := Lib.hid hd; clear hd
    have c0 := h0.cell
    have c1 := h1.cell
    have c2 := h2.cell
    have f0 := h0.frozen
    have f1 := h1.frozen
    gi_wp2
    obtain ⟨W', hW'⟩ : ∃ W', (W.setCell ⟨w.heap.size, 0, none⟩ (.slice A out.length cap)).setCell ⟨w.heap.size + 1, 0, none⟩ (.int .i64 0) = W' := ⟨_, rfl⟩
    have b0 : Boxed W' w.heap.size 111 (.slice A out.length cap) := by rw [← hW']; exact boxed_far (h0.set _) (by simp) _
    have b1 : Boxed W' (w.heap.size + 1) 30 (.int .i64 0) := by rw [← hW']; exact (boxed_far h1 (by simp) _).set _
    have hB' : Below w.heap.size w W' := by rw [← hW']; exact (hb.setCell (by simp) _).setCell (by simp) _
    have hown' : W'.ownsRow (w.heap.size + 4) 51 2 (.slice A out.length cap) out.length (out.flatMap opCells) := by
      rw [← hW']; exact (hown.kept (grownBy_setCell' _ _ _) (.inr (own_not_low hown (by omega)))).kept (grownBy_setCell' _ _ _) (.inr (own_not_low hown (by omega)))
    have hdef' : W'.heap[D]? = some (.deferred (some [])) := by rw [← hW']; exact ((KeepsOthers.setCell _ _ _).trans (KeepsOthers.setCell _ _ _)).same D _ hdef rfl
    rw [hW']
    refine ⟨by simp, .inl ⟨_, _, rfl, run_takeDeferred hdef', ?_⟩⟩
    have r0 := (b0.kept (grownBy_putObj' W' D (.deferred none)) (by simpa using boxed_not_other b0 hdef' rfl)).cell
    have r1 := (b1.kept (grownBy_putObj' W' D (.deferred none)) (by simpa using boxed_not_other b1 hdef' rfl)).cell
    have e1 : decodeOps l = (out, 0) := by rw [← Hd.out]; rfl
    refine ⟨.tuple #[.slice A out.length cap, .int .i64 0], by unfold results; rw [Tryz.results106]; go_simp, _, by rw [e1], hB'.grown (grownBy_putObj' _ _ _) hB'.size (fun k e => by cases e; omega), ?_⟩
    rw [e1]
    exact hown'.kept (grownBy_putObj' _ _ _) (.inr (own_not_other hown' hdef' rfl))
  case stop =>
    intro D W hD hi hdef
    obtain ⟨⟨e, hd, h1⟩, h0, hb⟩ := hi
    gi_wp2
    refine ⟨by simp, .inl ⟨_, _, rfl, run_takeDeferred hdef, ?_⟩⟩
    have r0 := (h0.kept (grownBy_putObj' W D (.deferred none)) (by simpa using boxed_not_other h0 hdef rfl)).cell
    have r1 := (h1.kept (grownBy_putObj' W D (.deferred none)) (by simpa using boxed_not_other h1 hdef rfl)).cell
    have Hd := Lib.hid hd; clear hd
    refine ⟨.tuple #[.slice none 0 0, .int .i64 e], by unfold results; rw [Tryz.results106]; go_simp, _, by rw [Hd.out], hb.grown (grownBy_putObj' _ _ _) hb.size (fun k e => by cases e; omega), ?_⟩
    rw [Hd.out]
    exact World.ownsRow_nil _ _ _ _

end Go.Proofs.YtmnkaalchcomlaaGreat
-- Rop1
namespace Go.Proofs.YtmnkaalchcomlaaGreat
open Go.RowKit
theorem rwrap_any (n : Int) (w : World) (hn : I64 n) : Calls Tryz.prog 90 #[.int .i64 n] w fun e w' => e = .returned (.int .i64 (wrapI n)) ∧ w = w' := by
  have h1 := hn.lo
  have h2 := hn.hi
  by_cases h0 : 0 ≤ n
  · go_enter Tryz.func90, Tryz.ntmps90
    go_wp2
    all_goals (go_ret; exact ⟨ret_int (by unfold wrapI; omega), rfl⟩)
  · have ht : n.tmod 4294967296 = -((-n) % 4294967296) := by
      rw [← Int.tmod_eq_emod_of_nonneg (by omega), Int.neg_tmod, Int.neg_neg]
    have h3 : -4294967296 < -((-n) % 4294967296) := by omega
    have h4 : -((-n) % 4294967296) ≤ 0 := by omega
    go_enter Tryz.func90, Tryz.ntmps90
    go_wp2
    all_goals (go_ret; exact ⟨ret_int (by unfold wrapI; omega), rfl⟩)

end Go.Proofs.YtmnkaalchcomlaaGreat
