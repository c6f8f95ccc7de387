/- Texts of one proof, one behind the other: lemmas alone. -/
import Derived.Test.YtejpkcheimgdfaaM2Q
import Derived.Deep.QuietTactic
import Derived.BigQuiet
import Derived.RangeFuncNested
import Derived.RangeFuncBound
import Derived.RangeFuncCalls
import Derived.RangeFuncLeaves
import Derived.Shelf.Abstract
import Derived.Shelf.RegionOpen
import Derived.OwnWalkIn
import Derived.TacticsInMore
import Derived.LoopNIn
import Derived.LoopIn
import Derived.RangeFuncBox
import Derived.Maps.AppendAt

-- Op4
namespace Go.Proofs.Ytejpkcheimgdfaa
open Go.RowKit

theorem conv_one (W : World) (o : Obj) (x : Int) : (convert 68 9 (.slice (some ⟨W.heap.size + 1, 0, none⟩) 1 1)).run Try.prog ((W.alloc o).alloc (.cells #[.int .u8 x] 5)) =
    .ok (.string ⟨[UInt8.ofNat x.toNat].toArray⟩) ((W.alloc o).alloc (.cells #[.int .u8 x] 5)) :=
  run_convert_bytes_arg (P := Try.prog) _ 68 5 Try.underlying68 Try.underlying5 _ 0 1 1 [x] rfl
    (by intro i hi; match i, hi with | 0, _ => simp) 9 Try.underlying9
theorem codeBytes_snoc {l : List MOp} {k : Nat} {o : MOp} (hk : l[k]? = some o) : codeBytes (l.take (k + 1)) = codeBytes (l.take k) ++ opBytes o := by
  obtain ⟨h, rfl⟩ := List.getElem?_eq_some_iff.1 hk
  rw [List.take_succ_eq_append_getElem h, codeBytes, List.flatMap_append]
  simp [codeBytes]
theorem opBytes_len (o : MOp) : (opBytes o).length ≤ 5 := by unfold opBytes fourOf; split <;> simp
theorem codeBytes_len (l : List MOp) : (codeBytes l).length ≤ 5 * l.length := by
  induction l with
  | nil => simp [codeBytes]
  | cons o l ih => have := opBytes_len o; simp [codeBytes] at ih ⊢; omega

set_option maxHeartbeats 400000 in
theorem bytes_any (v : Value) (l : List MOp) (w : World) (hs : Sl w v l) (h40 : l.length ≤ 40) :
    Calls Try.prog 37 #[v] w fun e w' => e = .returned (.string ⟨(codeBytes l).toArray⟩) ∧ Below w.heap.size w w' := by
  obtain ⟨A, c, rfl, hlc, hc, hl⟩ := hs.form
  have hcv := conv_one
  go_enter Try.func37, Try.ntmps37
  go_wp2
  go_loopw [3, 8] (fun s t wr => ∃ k : Nat, k ≤ l.length ∧ t = .int .i64 k ∧ Below w.heap.size w wr ∧ s = .string ⟨(codeBytes (l.take k)).toArray⟩) (fun _ t _ => l.length - (intOf t).toNat)
  case atStart => exact ⟨0, by omega, rfl, (by repeat (first | exact Below.refl _ _ | assumption | refine Below.drew ?_ | refine Below.drewN_ ?_ _ | refine below_alloc ?_ _ | refine below_via (by assumption) ?_ | refine below_set ?_ (by simp <;> omega) _)), rfl⟩
  case round =>
    obtain ⟨k, hk, rfl, hbl, rfl⟩ := hrel
    have hs' := hs.via hbl
    have hln := codeBytes_len (l.take k)
    have hln' : (l.take k).length ≤ k := List.length_take_le _ _
    by_cases hlt : k < l.length
    · obtain ⟨b, off, o, rfl, hb, ho, hc0, hc1, hi0, hi1⟩ := hs'.op_at hlt
      have Ho := Lib.hid ho; clear ho
      have hsz := hbl.size
      have Hsn := Lib.hid (codeBytes_snoc Ho.out)
      have h4 : (fourOf o.a).length ≤ 4 := by simp [fourOf]
      generalize codeBytes (l.take k) = cb at *
      go_wp2_with (first
       | (go_at_call 62; refine (names_any o.c _).mono ?_; rintro e w' ⟨rfl, hb⟩; obtain ⟨hc, hf⟩ := bcell hb)
       | (go_at_call 63; refine (four_any o.a _).mono ?_; rintro e w' ⟨rfl, hb⟩))
      all_goals
        go_roundw
        case rel => exact ⟨k + 1, by omega, by go_num, (by repeat (first | exact Below.refl _ _ | assumption | refine Below.drew ?_ | refine Below.drewN_ ?_ _ | refine below_alloc ?_ _ | refine below_via (by assumption) ?_ | refine below_set ?_ (by simp <;> omega) _)), by rw [Hsn.out]; simp_all [opBytes]⟩
        case measure => simp [intOf]; omega
    · go_wp2
      go_ret
      exact ⟨ret_str (by rw [List.take_of_length_le (by omega)]), (by repeat (first | exact Below.refl _ _ | assumption | refine Below.drew ?_ | refine Below.drewN_ ?_ _ | refine below_alloc ?_ _ | refine below_via (by assumption) ?_ | refine below_set ?_ (by simp <;> omega) _))⟩
end Go.Proofs.Ytejpkcheimgdfaa

-- Op5
namespace Go.Proofs.Ytejpkcheimgdfaa
open Go.RowKit

theorem cut_any (l : List UInt8) (n : Int) (w : World) (h0 : 0 ≤ n) (_ : l.length ≤ 140737488355328) :
    Calls Try.prog 86 #[.string ⟨l.toArray⟩, .int .i64 n] w fun e w' => e = .returned (.tuple #[.string ⟨(cutB l n).1.toArray⟩, .string ⟨(cutB l n).2.1.toArray⟩, .bool (cutB l n).2.2]) ∧ Below w.heap.size w w' := by
  by_cases h : (l.length : Int) < n
  · go_enter Try.func86, Try.ntmps86
    go_wp2
    go_ret3
    exact ⟨by simp [cutB, h], (by repeat (first | exact Below.refl _ _ | assumption | refine Below.drew ?_ | refine Below.drewN_ ?_ _ | refine below_alloc ?_ _ | refine below_via (by assumption) ?_ | refine below_set ?_ (by simp <;> omega) _))⟩
  · go_enter Try.func86, Try.ntmps86
    go_wp2
    go_quiet (fail)
    go_wp2
    go_ret3
    exact ⟨by rw [cutB, if_neg (by omega)]; simp [List.take_of_length_le], (by repeat (first | exact Below.refl _ _ | assumption | refine Below.drew ?_ | refine Below.drewN_ ?_ _ | refine below_alloc ?_ _ | refine below_via (by assumption) ?_ | refine below_set ?_ (by simp <;> omega) _))⟩

theorem cutB_len (l : List UInt8) (n : Int) : (cutB l n).1.length ≤ l.length := by unfold cutB; split <;> simp; omega
theorem first_any (b : UInt8) (l : List UInt8) (w : World) (hl : l.length ≤ 140737488355320) :
    Calls Try.prog 101 #[.string ⟨(b :: l).toArray⟩] w fun e w' => e = .returned (.tuple #[.agg #[.int .i64 (firstOp b l).1.c, .int .i64 (firstOp b l).1.a], .string ⟨(firstOp b l).2.1.toArray⟩, .bool (firstOp b l).2.2]) ∧ Below w.heap.size w w' := by
  go_enter Try.func101, Try.ntmps101
  go_wp2_with (first
       | (go_at_call 102; refine (is_any _ _).mono ?_; rintro e w' ⟨rfl, rfl⟩)
       | (go_at_call 62; refine (names_any _ _).mono ?_; rintro e w' ⟨rfl, hb⟩; obtain ⟨hc, hf⟩ := bcell hb; have hz0 : w.heap.size < w'.heap.size := (by have := hb.size; (try simp at this); omega); have hz1 : w.heap.size + 1 < w'.heap.size := (by have := hb.size; (try simp at this); omega))
       | (go_at_call 86; refine (cut_any _ _ _ (by omega) (by omega)).mono ?_; rintro e w' ⟨rfl, hb⟩; obtain ⟨hc, hf⟩ := bcell hb; have hz0 : w.heap.size < w'.heap.size := (by have := hb.size; (try simp at this); omega); have hz1 : w.heap.size + 1 < w'.heap.size := (by have := hb.size; (try simp at this); omega))
       | (go_at_call 120; refine (number_any _ _ (by have := cutB_len l 4; omega)).mono ?_; rintro e w' ⟨rfl, hb⟩; obtain ⟨hc, hf⟩ := bcell hb; have hz0 : w.heap.size < w'.heap.size := (by have := hb.size; (try simp at this); omega); have hz1 : w.heap.size + 1 < w'.heap.size := (by have := hb.size; (try simp at this); omega)))
  all_goals
    exact bodyPost_ret (v := .tuple #[.agg #[.int .i64 (firstOp b l).1.c, .int .i64 (firstOp b l).1.a], .string ⟨(firstOp b l).2.1.toArray⟩, .bool (firstOp b l).2.2])
      (by unfold results; rw [Try.results101]; go_simp; simp_all [firstOp]) rfl ⟨rfl, (by repeat (first | exact Below.refl _ _ | assumption | refine Below.drew ?_ | refine Below.drewN_ ?_ _ | refine below_alloc ?_ _ | refine below_via (by assumption) ?_ | refine below_set ?_ (by simp <;> omega) _))⟩
end Go.Proofs.Ytejpkcheimgdfaa

-- Op6
namespace Go.Proofs.Ytejpkcheimgdfaa
open Go.RowKit Go.Shelf
attribute [local go_sem] Oper.semAt_some

/-- The variable that the iterator keeps: a block of one cell. -/
def Cap (W : World) (bs : Nat) (r : List UInt8) : Prop := W.heap[bs]? = some (.cells #[.string ⟨r.toArray⟩] 9 (0, 0))
theorem Cap.cell {W : World} {bs : Nat} {r : List UInt8} (h : Cap W bs r) : W.cell? ⟨bs, 0, none⟩ = some (.string ⟨r.toArray⟩) := by unfold Cap at h; simp [World.cell?, h]
theorem Cap.frozen {W : World} {bs : Nat} {r : List UInt8} (h : Cap W bs r) : W.frozen? ⟨bs, 0, none⟩ = false := by unfold Cap at h; simp [World.frozen?, h]
theorem Cap.lt {W : World} {bs : Nat} {r : List UInt8} (h : Cap W bs r) : bs < W.heap.size := (Array.getElem?_eq_some_iff.1 h).1

theorem grown_of_below {W W' : World} {row : Option Nat} (h : Below W.heap.size W W') : W.grownBy W' row := ⟨h.os, h.tape, h.output, h.size, fun k hk _ => h.block k hk⟩
theorem Cap.below {W W' : World} {bs : Nat} {r : List UInt8} (h : Cap W bs r) (hb : Below W.heap.size W W') : Cap W' bs r := (hb.block bs h.lt).trans h
theorem Cap.alloc {W : World} {bs : Nat} {r : List UInt8} (h : Cap W bs r) (o : Obj) : Cap (W.alloc o) bs r := (Below.heap_alloc W o bs h.lt).trans h
theorem grown_setCell (W : World) (bs : Nat) (v : Value) : W.grownBy (W.setCell ⟨bs, 0, none⟩ v) (some bs) :=
  ⟨rfl, rfl, rfl, by simp [World.setCell], fun k _ hk => Below.heap_setCell _ _ _ _ (fun e => hk (by rw [e]))⟩
theorem Cap.set {W : World} {bs : Nat} {r : List UInt8} (h : Cap W bs r) (r' : List UInt8) : Cap (W.setCell ⟨bs, 0, none⟩ (.string ⟨r'.toArray⟩)) bs r' := by
  unfold Cap at h ⊢
  simp [World.setCell, Array.getElem?_modify, h]
theorem firstOp_len (b : UInt8) (r : List UInt8) : (firstOp b r).2.1.length ≤ r.length := by
  unfold firstOp; split; · simp
  split; · simp
  simp only [cutB]; split <;> simp

set_option maxHeartbeats 400000 in
theorem ops1_in (n l bs : Nat) (hn : 1 ≤ n) (J : List UInt8 → World → Prop) (Jx : World → Prop)
    (hJ : ∀ r W W', J r W → W.grownBy W' (some bs) → J r W')
    (hY : ∀ b r W, J (b :: r) W → Cap W bs (b :: r) → r.length ≤ 140737488355320 → YieldAt Fence.wide (n - 1) Try.prog l #[.agg #[.int .i64 (firstOp b r).1.c, .int .i64 (firstOp b r).1.a], .bool (firstOp b r).2.2] W fun e W' =>
      (e = .returned (.bool true) ∧ (firstOp b r).2.2 = true ∧ J (firstOp b r).2.1 W' ∧ W'.heap[bs]? = W.heap[bs]?) ∨ (e = .returned (.bool false) ∧ Jx W'))
    (r0 : List UInt8) (W : World) (h0 : J r0 W) (hc0 : Cap W bs r0) (hl0 : r0.length ≤ 140737488355320) :
    CallsIn Fence.wide n Try.prog 100 #[.func (.yield l) #[] #[], .pointer (some ⟨bs, 0, none⟩)] W fun e W' => (∃ v, e = .returned v) ∧ (J [] W' ∨ Jx W') := by
  refine callsIn_of_wp Try.func100 rfl trivial ?_ rfl
  simp only [Try.ntmps100, List.size_toArray, List.length_cons, List.length_nil, Nat.reduceAdd, Nat.reduceSub, Array.replicate_succ, Array.replicate_zero, List.push_toArray, List.append_toArray, List.nil_append, List.cons_append]
  have hcell := hc0.cell
  gi_wp2
  clear hcell
  gi_loopw [] (fun wr => ∃ r, J r wr ∧ Cap wr bs r ∧ r.length ≤ 140737488355320) (fun wr => match wr.cell? ⟨bs, 0, none⟩ with | some (.string s) => s.size | _ => 0)
  case atStart => exact ⟨r0, h0, hc0, hl0⟩
  case round =>
    obtain ⟨r, hj, hcap, hl⟩ := hrel
    have hcell := hcap.cell
    have hfr := hcap.frozen
    cases r with
    | nil =>
      gi_wp2
      go_end0
      exact ⟨⟨_, rfl⟩, .inl hj⟩
    | cons b r =>
      gi_wp2_with (refine ⟨trivial, ?_⟩; gi_at_call 101; refine (callsIn_wide.2 (first_any b r _ (by simp at hl; omega))).mono ?_; rintro e w' ⟨rfl, hb⟩)
      have hl' : r.length ≤ 140737488355320 := by simp at hl; omega
      have hcap' := (hcap.below hb).alloc (.cells #[.int .i64 (firstOp b r).1.c, .int .i64 (firstOp b r).1.a] 61)
      have hj' : J (b :: r) (w'.alloc (.cells #[.int .i64 (firstOp b r).1.c, .int .i64 (firstOp b r).1.a] 61)) := hJ _ _ _ (hJ _ _ _ hj (grown_of_below hb)) (World.grownBy_alloc _ _ _)
      obtain ⟨fn, tmps, assign, body, hy, hR⟩ := hY b r _ hj' hcap' hl'
      clear hcell hfr
      gi_wp2
      rw [hy]
      refine ⟨fun _ => hn, hR.mono ?_⟩
      rintro e W3 (⟨rfl, hok, hJ3, hk3⟩ | ⟨rfl, hJx3⟩)
      · have hc3 : Cap W3 bs (b :: r) := hk3.trans hcap'
        have hcell3 := hc3.cell
        have hfr3 := hc3.frozen
        gi_wp2
        have hcs := hc3.set (firstOp b r).2.1
        go_roundw
        case rel => exact ⟨_, hJ _ _ _ hJ3 (grown_setCell _ _ _), hcs, by have := firstOp_len b r; omega⟩
        case measure =>
          have h1 := hcs.cell
          have h2 := hcap.cell
          have := firstOp_len b r
          rw [h1, h2]
          simp [ByteArray.size]
          omega
      · gi_wp2
        refine bodyPost_ret (results_none rfl _ _ _) rfl ?_
        exact ⟨⟨_, rfl⟩, .inr hJx3⟩
end Go.Proofs.Ytejpkcheimgdfaa

-- Op7
namespace Go.Proofs.Ytejpkcheimgdfaa
open Go.RowKit Go.Shelf
attribute [local go_sem] Oper.semAt_some

theorem ops_any (l : List UInt8) (w : World) : Calls Try.prog 87 #[.string ⟨l.toArray⟩] w fun e w' => e = .returned (.func (.func 100) #[] #[.pointer (some ⟨w.heap.size, 0, none⟩)]) ∧ w' = w.alloc (.cells #[.string ⟨l.toArray⟩] 9) := by
  go_enter Try.func87, Try.ntmps87
  go_wp2
  go_ret
  exact ⟨rfl, rfl⟩

theorem Try.infoOp : (Try.prog.info? 61).map (fun i => (i.zero, i.size, i.bytes)) = some (some (.agg #[.int .i64 0, .int .i64 0]), 2, 16) := by kernel_rfl
def opCells (o : MOp) : List Value := [.int .i64 o.c, .int .i64 o.a]

/-- Between two rounds: r is left to be told. -/
structure DecI (w : World) (l r : List UInt8) (W : World) : Prop where
  ex : ∃ out v, Boxed W (w.heap.size + 2) 52 v ∧ W.ownsRow (w.heap.size + 4) 61 2 v out.length (out.flatMap opCells) ∧ decodeGo r.length r out = decodeOps l ∧ out.length ≤ 40
  b0 : Boxed W w.heap.size 52 (.slice none 0 0)
  b1 : Boxed W (w.heap.size + 1) 25 (.int .i64 0)
  below : Below w.heap.size w W
/-- A round has left. -/
structure DecX (w : World) (l : List UInt8) (W : World) : Prop where
  ex : ∃ e, decodeOps l = ([], e) ∧ Boxed W (w.heap.size + 1) 25 (.int .i64 e)
  b0 : Boxed W w.heap.size 52 (.slice none 0 0)
  below : Below w.heap.size w W

theorem own_not_other {W : World} {base row size n : Nat} {e : TypeId} {v : Value} {xs : List Value} {o : Obj} (h : W.ownsRow base e size v n xs) (ho : W.heap[row]? = some o) (hc : o.isCells = false) : v.ownBlock ≠ some row := by
  rcases h.2 with ⟨rfl, _⟩ | ⟨g, cap, cur, rfl, _, hg, _⟩
  · simp [Value.ownBlock]
  · intro e'
    obtain rfl : g = row := by simpa [Value.ownBlock] using e'
    rw [hg] at ho; cases ho; cases hc
theorem own_not_low {W : World} {base row size n : Nat} {e : TypeId} {v : Value} {xs : List Value} (h : W.ownsRow base e size v n xs) (hr : row < base) : v.ownBlock ≠ some row := by
  intro e'
  have := (h.lt _ e').1
  omega
theorem boxed_not_other {W : World} {B row : Nat} {t : TypeId} {v : Value} {o : Obj} (h : Boxed W B t v) (ho : W.heap[row]? = some o) (hc : o.isCells = false) : B ≠ row := by
  rintro rfl
  rw [show W.heap[B]? = _ from h] at ho; cases ho; cases hc
def Turns (w W : World) (row : Nat) : Prop := w.heap.size + 3 = row ∨ (w.heap.size ≤ row ∧ ∃ o, W.heap[row]? = some o ∧ o.isCells = false)
theorem Turns.le {w W : World} {row : Nat} (h : Turns w W row) : w.heap.size ≤ row := by rcases h with h | h <;> omega
theorem Turns.box {w W : World} {row B : Nat} {t : TypeId} {v : Value} (h : Turns w W row) (hb : Boxed W B t v) (hB : B ≠ w.heap.size + 3) : some B ≠ some row := by
  rcases h with h | ⟨_, o, ho, hc⟩
  · simp; omega
  · simpa using boxed_not_other hb ho hc
theorem DecI.kept {w W W' : World} {l r : List UInt8} {row : Nat} (h : DecI w l r W) (hg : W.grownBy W' (some row)) (hr : Turns w W row) : DecI w l r W' := by
  obtain ⟨⟨out, v, h2, ho, hd, h40⟩, h0, h1, hb⟩ := h
  refine ⟨⟨out, v, h2.kept hg (hr.box h2 (by omega)), ho.kept hg (.inr ?_), hd, h40⟩, h0.kept hg (hr.box h0 (by omega)), h1.kept hg (hr.box h1 (by omega)), hb.grown hg hb.size (fun k e => by cases e; exact hr.le)⟩
  rcases hr with h | ⟨_, o, ho', hc⟩
  · exact own_not_low ho (by omega)
  · exact own_not_other ho ho' hc
theorem DecI.alloc {w W : World} {l r : List UInt8} (h : DecI w l r W) (o : Obj) : DecI w l r (W.alloc o) := by
  obtain ⟨⟨out, v, h2, ho, hd, h40⟩, h0, h1, hb⟩ := h
  exact ⟨⟨out, v, h2.alloc _, ho.alloc _, hd, h40⟩, h0.alloc _, h1.alloc _, hb.alloc hb.size _⟩
theorem DecX.kept {w W W' : World} {l : List UInt8} {row : Nat} (h : DecX w l W) (hg : W.grownBy W' (some row)) (hr : Turns w W row) : DecX w l W' := by
  obtain ⟨⟨e, hd, h1⟩, h0, hb⟩ := h
  exact ⟨⟨e, hd, h1.kept hg (hr.box h1 (by omega))⟩, h0.kept hg (hr.box h0 (by omega)), hb.grown hg hb.size (fun k e => by cases e; exact hr.le)⟩

theorem decodeGo_fuel2 (k : Nat) : ∀ (m : Nat) (r : List UInt8) (out : List MOp), r.length ≤ k → r.length ≤ m → decodeGo k r out = decodeGo m r out := by
  induction k with
  | zero => intro m r out h _; cases r <;> cases m <;> simp_all [decodeGo]
  | succ k ih =>
    intro m r out h h2
    cases r with
    | nil => cases m <;> simp [decodeGo]
    | cons b r =>
      have hl := firstOp_len b r
      simp at h h2
      cases m with
      | zero => omega
      | succ m =>
        simp only [decodeGo]
        split; · rfl
        split; · rfl
        exact ih _ _ _ (by omega) (by omega)
theorem decodeGo_step {b : UInt8} {r : List UInt8} {out : List MOp} (hok : (firstOp b r).2.2 = true) (h : (out.length == 40) = false) :
    decodeGo (b :: r).length (b :: r) out = decodeGo (firstOp b r).2.1.length (firstOp b r).2.1 (out ++ [(firstOp b r).1]) := by
  simp only [List.length_cons, decodeGo, hok, h]
  exact decodeGo_fuel2 _ _ _ _ (firstOp_len b r) (Nat.le_refl _)

/-- How the body of a round may be left. -/
def postR (I : List UInt8 → World → Prop) (Ix : World → Prop) (bs : Nat) (b : UInt8) (r : List UInt8) (W : World) : Exit → Act → World → Prop
  | .normal, _, W' => KeepsOthers W W' ∧ (firstOp b r).2.2 = true ∧ I (firstOp b r).2.1 W' ∧ Cap W' bs (b :: r)
  | .ret, _, W' => KeepsOthers W W' ∧ Ix W'
  | _, _, _ => False

/-- A range over the ops of bytes: the iterator keeps what is left in a variable of its own, in block bs. -/
theorem range_ops {g : Operand} {ps : Array Tmp} {assign body : Code} {Q : Exit → Act → World → Prop} {a : Act} {w : World} (bs : Nat) (hg : a.eval g = .func (.func 100) #[] #[.pointer (some ⟨bs, 0, none⟩)]) (hps : ps.size = 2)
    (I : List UInt8 → World → Prop) (Ix : World → Prop) (hbs : bs < w.heap.size)
    (hI : ∀ r W W' row, I r W → W.grownBy W' (some row) → (bs = row ∨ (w.heap.size ≤ row ∧ ∃ o, W.heap[row]? = some o ∧ o.isCells = false)) → I r W')
    (hIa : ∀ r W o, I r W → I r (W.alloc o))
    (hIx : ∀ W W' row, Ix W → W.grownBy W' (some row) → (bs = row ∨ (w.heap.size ≤ row ∧ ∃ o, W.heap[row]? = some o ∧ o.isCells = false)) → Ix W')
    (r0 : List UInt8) (hc0 : Cap w bs r0) (hl0 : r0.length ≤ 140737488355320) (h0 : I r0 w)
    (hround : ∀ (L : Nat) (b : UInt8) (r : List UInt8) (W : World), I (b :: r) W → Cap W bs (b :: r) → w.heap.size ≤ W.heap.size →
      assign.wpIn (Fence.wide.inRound L) 1 Try.prog (Exit.then (fun a₁ W₁ => KeepsOthers W W₁ ∧
        (∀ W₂, W₁.grownBy W₂ (some L) → w.heap.size ≤ L → (∃ o, W₁.heap[L]? = some o ∧ o.isCells = false) → body.wpIn (Fence.wide.inRound L) 1 Try.prog (postR I Ix bs b r W₂) a₁ W₂)) (fun _ _ _ => False))
        { tmps := (ps.zip #[.agg #[.int .i64 (firstOp b r).1.c, .int .i64 (firstOp b r).1.a], .bool (firstOp b r).2.2]).foldl (fun t (p, v) => t.setIfInBounds p v) a.tmps, defers := [] } W)
    (hdone : ∀ (D : Nat) (W : World), w.heap.size ≤ D → I [] W → W.heap[D]? = some (.deferred (some [])) → Q .normal { a with defers := { target := .collected D, args := #[] } :: a.defers } W)
    (hstop : ∀ (D : Nat) (W : World), w.heap.size ≤ D → Ix W → W.heap[D]? = some (.deferred (some [])) → Code.ret.wpIn Fence.wide 3 Try.prog Q { a with defers := { target := .collected D, args := #[] } :: a.defers } W) :
    (Code.rangeFunc g ps assign body).wpIn Fence.wide 3 Try.prog Q a w := by
  refine wpIn_rangeFunc ?_
  intro fn hfn
  obtain ⟨rec, hrec⟩ : ∃ rec : LoopState → Option Code → Loop, rec = fun st pe => { state := st, pending := pe, fn, tmps := a.tmps, params := ps, assign, body, defers := w.heap.size } := ⟨_, rfl⟩
  have hrs : ∀ st pe, (rec st pe).state = st ∧ (rec st pe).pending = pe := by intro st pe; rw [hrec]; exact ⟨rfl, rfl⟩
  obtain ⟨W1, hW1⟩ : ∃ W1, (w.alloc (.deferred (some []))).alloc (.loop (rec .ready none)) = W1 := ⟨_, rfl⟩
  have hL1 : W1.heap[w.heap.size + 1]? = some (.loop (rec .ready none)) := by
    rw [← hW1]; have := World.alloc_heap_new (w.alloc (.deferred (some []))) (.loop (rec .ready none)); rwa [World.size_alloc] at this
  have hK1 : W1.heap[w.heap.size]? = some (.deferred (some [])) := by
    rw [← hW1]; exact (Below.heap_alloc _ _ _ (by simp)).trans (World.alloc_heap_new w _)
  have hI1 : I r0 W1 := by rw [← hW1]; exact hIa _ _ _ (hIa _ _ _ h0)
  have hc1 : Cap W1 bs r0 := by rw [← hW1]; exact (hc0.alloc _).alloc _
  have hs1 : w.heap.size ≤ W1.heap.size := by rw [← hW1]; simp; omega
  have eg := enters_of Try.func100 (by kernel_rfl) rfl
  refine ⟨w.heap.size + 1, [{ target := .collected w.heap.size, args := #[] }], W1, { target := .fn (.func 100) #[.pointer (some ⟨bs, 0, none⟩)], args := #[.func (.yield (w.heap.size + 1)) #[] #[]] }, W1, 100,
    #[.func (.yield (w.heap.size + 1)) #[] #[]] ++ #[.pointer (some ⟨bs, 0, none⟩)], W1, ?_, ?_, fun _ _ => trivial, ?_, fun _ => by omega, ?_⟩
  · rw [← hW1, hrec]; exact run_enterLoop_outer _ _ _ _ _
  · simp only [resolve, hg]
    simp [go_sem]
  · simp [invoke, go_sem]
  · refine (ops1_in (3 - 1) (w.heap.size + 1) bs (by omega)
      (fun r W => I r W ∧ w.heap.size ≤ W.heap.size ∧ W.heap[w.heap.size + 1]? = some (.loop (rec .ready none)) ∧ W.heap[w.heap.size]? = some (.deferred (some [])))
      (fun W => Ix W ∧ W.heap[w.heap.size + 1]? = some (.loop (rec .done (some .ret))) ∧ W.heap[w.heap.size]? = some (.deferred (some [])))
      (fun r W W' h hg' => ⟨hI _ _ _ _ h.1 hg' (.inl rfl), Nat.le_trans h.2.1 hg'.size, (hg'.block _ (Array.getElem?_eq_some_iff.1 h.2.2.1).1 (by simp; omega)).trans h.2.2.1, (hg'.block _ (Array.getElem?_eq_some_iff.1 h.2.2.2).1 (by simp; omega)).trans h.2.2.2⟩)
      ?_ r0 W1 ⟨hI1, hs1, hL1, hK1⟩ hc1 hl0).mono ?_
    · rintro b r W ⟨hi, hsW, hl, hk⟩ hcap hrl
      have hy := run_yield (P := Try.prog) (args := #[.agg #[.int .i64 (firstOp b r).1.c, .int .i64 (firstOp b r).1.a], .bool (firstOp b r).2.2]) hl (by rw [hrec]; exact hps.symm)
      rw [hrec] at hy
      refine ⟨fn, _, assign, body, hy, roundIn_of_wpIn hfn (wpIn_mono (hround _ b r W hi hcap hsW) ?_)⟩
      rintro e a₁ W₁ hq
      cases e with
      | normal =>
        obtain ⟨hko, hbody⟩ := hq
        have hl' := hko.same _ _ hl rfl
        have hk' := hko.same _ _ hk rfl
        refine ⟨_, run_beginRound hl' (hrs _ _).1, wpIn_mono (hbody _ (grownBy_putObj' _ _ _) (by omega) ⟨_, hl', rfl⟩) ?_⟩
        have hlt : w.heap.size + 1 < W₁.heap.size := (Array.getElem?_eq_some_iff.1 hl').1
        have hl2 : (W₁.putObj (w.heap.size + 1) (.loop { rec .ready none with state := .busy })).heap[w.heap.size + 1]? = some (.loop { rec .ready none with state := .busy }) := World.putObj_heap_same hlt
        have hk2 : (W₁.putObj (w.heap.size + 1) (.loop { rec .ready none with state := .busy })).heap[w.heap.size]? = some (.deferred (some [])) := (World.putObj_heap_other (by omega)).trans hk'
        rintro e a3 W3 hp
        cases e with
        | normal =>
          obtain ⟨hk3, hok, hi3, hc3⟩ := hp
          have hl3 := hk3.same _ _ hl2 rfl
          have hend := run_endRound (P := Try.prog) none hl3
          have hsz3 : w.heap.size ≤ W3.heap.size := by have := (Array.getElem?_eq_some_iff.1 hl3).1; omega
          refine ⟨_, _, hend, .inl ⟨rfl, hok, ⟨hI _ _ _ _ hi3 (grownBy_putObj' _ _ _) (.inr ⟨by omega, _, hl3, rfl⟩), by simpa using hsz3, ?_, (World.putObj_heap_other (by omega)).trans (hk3.same _ _ hk2 rfl)⟩, ?_⟩⟩
          · have := World.putObj_heap_same (w := W3) (o := .loop { ({ rec .ready none with state := .busy } : Loop) with state := .ready, pending := none }) (Array.getElem?_eq_some_iff.1 hl3).1
            rw [hrec] at this ⊢
            exact this
          · have h1 : (W3.putObj (w.heap.size + 1) (.loop { ({ rec .ready none with state := .busy } : Loop) with state := .ready, pending := none })).heap[bs]? = W3.heap[bs]? := World.putObj_heap_other (by omega)
            exact h1.trans ((show W3.heap[bs]? = _ from hc3).trans (show W.heap[bs]? = _ from hcap).symm)
        | ret =>
          obtain ⟨hk3, hi3⟩ := hp
          have hl3 := hk3.same _ _ hl2 rfl
          have hend := run_endRound (P := Try.prog) (some .ret) hl3
          refine ⟨_, _, hend, .inr ⟨rfl, hIx _ _ _ hi3 (grownBy_putObj' _ _ _) (.inr ⟨by omega, _, hl3, rfl⟩), ?_, (World.putObj_heap_other (by omega)).trans (hk3.same _ _ hk2 rfl)⟩⟩
          have := World.putObj_heap_same (w := W3) (o := .loop { ({ rec .ready none with state := .busy } : Loop) with state := .done, pending := some .ret }) (Array.getElem?_eq_some_iff.1 hl3).1
          rw [hrec] at this ⊢
          exact this
        | exit id => exact hp.elim
        | goto t => exact hp.elim
        | panic ch => exact hp.elim
        | outgrown => exact hp.elim
      | exit id => exact hq.elim
      | goto t => exact hq.elim
      | ret => exact hq.elim
      | panic ch => exact hq.elim
      | outgrown => exact hq.elim
    · rintro e W2 ⟨⟨v, rfl⟩, (⟨hi, _, hl, hk⟩ | ⟨hi, hl, hk⟩)⟩
      · obtain ⟨o, hend⟩ : ∃ o, (Instr.endLoop (w.heap.size + 1)).run Try.prog W2 = .ok none (W2.putObj (w.heap.size + 1) o) := by
          have := run_endLoop (P := Try.prog) hl (by rw [(hrs _ _).1]; simp)
          rw [(hrs _ _).2] at this
          exact ⟨_, this⟩
        exact ⟨none, _, hend, hdone _ _ (Nat.le_refl _) (hI _ _ _ _ hi (grownBy_putObj' _ _ _) (.inr ⟨by omega, _, hl, rfl⟩)) ((World.putObj_heap_other (by omega)).trans hk)⟩
      · obtain ⟨o, hend⟩ : ∃ o, (Instr.endLoop (w.heap.size + 1)).run Try.prog W2 = .ok (some .ret) (W2.putObj (w.heap.size + 1) o) := by
          have := run_endLoop (P := Try.prog) hl (by rw [(hrs _ _).1]; simp)
          rw [(hrs _ _).2] at this
          exact ⟨_, this⟩
        exact ⟨some .ret, _, hend, hstop _ _ (Nat.le_refl _) (hIx _ _ _ hi (grownBy_putObj' _ _ _) (.inr ⟨by omega, _, hl, rfl⟩)) ((World.putObj_heap_other (by omega)).trans hk)⟩

end Go.Proofs.Ytejpkcheimgdfaa

-- Op8
namespace Go.Proofs.Ytejpkcheimgdfaa
open Go.RowKit Go.Shelf
attribute [local go_sem] Oper.semAt_some

theorem boxed_far {W : World} {B : Nat} {t : TypeId} {v : Value} (h : Boxed W B t v) {p : Addr} (hp : B ≠ p.block) (u : Value) : Boxed (W.setCell p u) B t v := (Below.heap_setCell _ _ _ _ hp).trans h

set_option maxHeartbeats 1000000 in
theorem decode_in (l : List UInt8) (w : World) (hl : l.length ≤ 140737488355320) : CallsIn Fence.wide 3 Try.prog 65 #[.string ⟨l.toArray⟩] w fun e W =>
    ∃ v, e = .returned (.tuple #[v, .int .i64 (decodeOps l).2]) ∧ Below w.heap.size w W ∧ W.ownsRow (w.heap.size + 4) 61 2 v (decodeOps l).1.length ((decodeOps l).1.flatMap opCells) := by
  refine callsIn_of_wp_marks Try.func65 rfl trivial ?_
  simp only [Try.ntmps65, List.size_toArray, List.length_cons, List.length_nil, Nat.reduceAdd, Nat.reduceSub, Array.replicate_succ, Array.replicate_zero, List.push_toArray, List.append_toArray, List.nil_append, List.cons_append]
  gi_wp2_with (refine ⟨trivial, ?_⟩; gi_at_call 87; refine (callsIn_wide.2 (ops_any l _)).mono ?_; rintro e w' ⟨rfl, rfl⟩)
  obtain ⟨w1, hw1⟩ : ∃ w1, (((w.alloc (.cells #[.slice none 0 0] 52)).alloc (.cells #[.int .i64 0] 25)).alloc (.cells #[.slice none 0 0] 52)).alloc (.cells #[.string ⟨l.toArray⟩] 9) = w1 := ⟨_, rfl⟩
  rw [hw1]
  have hsz : w1.heap.size = w.heap.size + 4 := by rw [← hw1]; simp
  have hB : Below w.heap.size w w1 := by
    rw [← hw1]; exact below_alloc (below_alloc (below_alloc (below_alloc (Below.refl _ _) _) _) _) _
  have hbx0 : Boxed w1 w.heap.size 52 (.slice none 0 0) := by rw [← hw1]; exact (((Boxed.new w _ _).alloc _).alloc _).alloc _
  have hbx1 : Boxed w1 (w.heap.size + 1) 25 (.int .i64 0) := by
    rw [← hw1]; have := ((Boxed.new (w.alloc (.cells #[.slice none 0 0] 52)) 25 (.int .i64 0)).alloc (.cells #[.slice none 0 0] 52)).alloc (.cells #[.string ⟨l.toArray⟩] 9); rwa [World.size_alloc] at this
  have hbx2 : Boxed w1 (w.heap.size + 2) 52 (.slice none 0 0) := by
    rw [← hw1]; have := (Boxed.new ((w.alloc (.cells #[.slice none 0 0] 52)).alloc (.cells #[.int .i64 0] 25)) 52 (.slice none 0 0)).alloc (.cells #[.string ⟨l.toArray⟩] 9); rwa [World.size_alloc, World.size_alloc] at this
  have hcap : Cap w1 (w.heap.size + 3) l := by
    rw [← hw1]; have := Boxed.new (((w.alloc (.cells #[.slice none 0 0] 52)).alloc (.cells #[.int .i64 0] 25)).alloc (.cells #[.slice none 0 0] 52)) 9 (.string ⟨l.toArray⟩); rwa [World.size_alloc, World.size_alloc, World.size_alloc] at this
  clear hw1
  refine range_ops (w.heap.size + 3) rfl rfl (DecI w l) (DecX w l) (by omega)
    (fun r W W' row h hg hr => h.kept hg (hr.imp id (fun ⟨h1, h2⟩ => ⟨by omega, h2⟩)))
    (fun r W o h => h.alloc o)
    (fun W W' row h hg hr => h.kept hg (hr.imp id (fun ⟨h1, h2⟩ => ⟨by omega, h2⟩)))
    l hcap hl ⟨⟨[], .slice none 0 0, hbx2, by simpa using World.ownsRow_nil _ _ _ _, rfl, by simp⟩, hbx0, hbx1, hB⟩ ?round ?done ?stop
  case round =>
    intro L b r W hi hc hs
    gi_wp2
    refine ⟨KeepsOthers.alloc _ _, fun W₂ hg hL ho => ?_⟩
    have hLne : W.heap.size ≠ L := by
      obtain ⟨o, h1, h2⟩ := ho
      rintro rfl
      rw [World.alloc_heap_new] at h1; cases h1; cases h2
    have hi2 : DecI w l (b :: r) W₂ := (hi.alloc _).kept hg (.inr ⟨by omega, ho⟩)
    have hc2 : Cap W₂ (w.heap.size + 3) (b :: r) := (hg.block _ (hc.alloc _).lt (by simp; omega)).trans (hc.alloc _)
    have hbox : W₂.heap[W.heap.size]? = some (.cells #[.int .i64 (firstOp b r).1.c, .int .i64 (firstOp b r).1.a] 61 (0, 0)) := (hg.block _ (by simp) (by simpa using hLne)).trans (World.alloc_heap_new _ _)
    have hx0 : W₂.cell? ⟨W.heap.size, 0, none⟩ = some (.int .i64 (firstOp b r).1.c) := by simp [World.cell?, hbox]
    have hx1 : W₂.cell? ⟨W.heap.size, 1, none⟩ = some (.int .i64 (firstOp b r).1.a) := by simp [World.cell?, hbox]
    clear hbox hg hi hc
    obtain ⟨⟨out, v, h2, hown, hd, h40⟩, h0, h1, hb⟩ := hi2
    obtain ⟨A, cap, rfl⟩ : ∃ A cap, v = .slice A out.length cap := own_form hown
    have Hd := Lib.hid hd; clear hd
    have c0 := h0.cell
    have c1 := h1.cell
    have c2 := h2.cell
    have f0 := h0.frozen
    have f1 := h1.frozen
    have f2 := h2.frozen
    have hcs := hc2.lt
    obtain ⟨i0, hi, hz0, hz1, hz2⟩ := info_parts Try.infoOp
    cases hok : (firstOp b r).2.2 with
    | false =>
      gi_wp2
      refine ⟨(KeepsOthers.setCell _ _ _).trans (KeepsOthers.setCell _ _ _), ⟨1, ?_, (boxed_far h1 (by simp) _).set _⟩, boxed_far (h0.set _) (by simp) _, (hb.setCell (by simp) _).setCell (by simp) _⟩
      rw [← Hd.out]; simp [decodeGo, hok]
    | true =>
      by_cases h41 : out.length = 40
      · have ht : ((out.length : Int) == 40) = true := by simp; omega
        have ht2 : decide ((out.length : Int) = 40) = true := by simp; omega
        have Hl := Lib.hid h41; clear h41
        gi_wp2
        refine ⟨(KeepsOthers.setCell _ _ _).trans (KeepsOthers.setCell _ _ _), ⟨2, ?_, (boxed_far h1 (by simp) _).set _⟩, boxed_far (h0.set _) (by simp) _, (hb.setCell (by simp) _).setCell (by simp) _⟩
        rw [← Hd.out]; simp [decodeGo, hok, Hl.out]
      · have ht : ((out.length : Int) == 40) = false := by simp; omega
        have ht2 : decide ((out.length : Int) = 40) = false := by simp; omega
        have hcell2 := cell_two_new W₂ (.int .i64 (firstOp b r).1.c) (.int .i64 (firstOp b r).1.a) 61
        gi_wp2_with (gi_at_builtin; refine mk_in ?_)
        unfold MkD
        refine wpListIn_append_own _ rfl _ _ 52 rfl (w.heap.size + 4) 61 i0 (.agg #[.int .i64 0, .int .i64 0]) 2 16 Try.underlying52 hi hz0 hz1 hz2 rfl (by decide) _ _ _ rfl (hown.alloc _) ⟨W₂.heap.size, 0, none⟩ 1 1 (opCells (firstOp b r).1) rfl rfl hcell2
          (by simp [opCells, Value.oneCell']) (by unfold maxLen; omega) (by omega) (by simp; omega) ?_
        intro v' w2 hown' hgrow _
        obtain ⟨g', cap', rfl⟩ := ownsRow_succ hown'
        obtain ⟨hv1, hv2, _, hk2, hb2⟩ := h2.appended (n₀ := w.heap.size) (by decide) (own_mono hown (by omega)) hb.size (by omega) (own_mono hown' (by omega)) hgrow
        have hr2 := hown'.kept (grownBy_setCell' w2 (w.heap.size + 2) (.slice (some ⟨g', 0, none⟩) (out.length + 1) cap')) (.inr (own_not_low hown' (by omega)))
        have hv1c := hv1.cell
        have hv1f := hv1.frozen
        have hg2 : ∀ B t u, Boxed W₂ B t u → B < w.heap.size + 4 → Boxed w2 B t u := fun B t u h hlt => (h.alloc _).kept hgrow (Ne.symm (own_not_low hown (by omega)))
        gi_wp2
        refine ⟨hk2, hok, ⟨⟨out ++ [(firstOp b r).1], _, hv2, ?_, ?_, ?_⟩, boxed_far (hg2 _ _ _ h0 (by omega)) (by simp <;> omega) _, boxed_far (hg2 _ _ _ h1 (by omega)) (by simp <;> omega) _, hb.trans hb2⟩, boxed_far (hg2 _ _ _ hc2 (by omega)) (by simp <;> omega) _⟩
        · rw [List.length_append, List.flatMap_append]; simpa using hr2
        · rw [← Hd.out, decodeGo_step hok (by simpa using h41)]
        · simp; omega
  case done =>
    intro D W hD hi hdef
    obtain ⟨⟨out, v, h2, hown, hd, h40⟩, h0, h1, hb⟩ := hi
    obtain ⟨A, cap, rfl⟩ : ∃ A cap, v = .slice A out.length cap := own_form hown
    have Hd := Lib.hid hd; clear hd
    have c0 := h0.cell
    have c1 := h1.cell
    have c2 := h2.cell
    have f0 := h0.frozen
    have f1 := h1.frozen
    gi_wp2
    obtain ⟨W', hW'⟩ : ∃ W', (W.setCell ⟨w.heap.size, 0, none⟩ (.slice A out.length cap)).setCell ⟨w.heap.size + 1, 0, none⟩ (.int .i64 0) = W' := ⟨_, rfl⟩
    have b0 : Boxed W' w.heap.size 52 (.slice A out.length cap) := by rw [← hW']; exact boxed_far (h0.set _) (by simp) _
    have b1 : Boxed W' (w.heap.size + 1) 25 (.int .i64 0) := by rw [← hW']; exact (boxed_far h1 (by simp) _).set _
    have hB' : Below w.heap.size w W' := by rw [← hW']; exact (hb.setCell (by simp) _).setCell (by simp) _
    have hown' : W'.ownsRow (w.heap.size + 4) 61 2 (.slice A out.length cap) out.length (out.flatMap opCells) := by
      rw [← hW']; exact (hown.kept (grownBy_setCell' _ _ _) (.inr (own_not_low hown (by omega)))).kept (grownBy_setCell' _ _ _) (.inr (own_not_low hown (by omega)))
    have hdef' : W'.heap[D]? = some (.deferred (some [])) := by rw [← hW']; exact ((KeepsOthers.setCell _ _ _).trans (KeepsOthers.setCell _ _ _)).same D _ hdef rfl
    rw [hW']
    refine ⟨by simp, .inl ⟨_, _, rfl, run_takeDeferred hdef', ?_⟩⟩
    have r0 := (b0.kept (grownBy_putObj' W' D (.deferred none)) (by simpa using boxed_not_other b0 hdef' rfl)).cell
    have r1 := (b1.kept (grownBy_putObj' W' D (.deferred none)) (by simpa using boxed_not_other b1 hdef' rfl)).cell
    have e1 : decodeOps l = (out, 0) := by rw [← Hd.out]; rfl
    refine ⟨.tuple #[.slice A out.length cap, .int .i64 0], by unfold results; rw [Try.results65]; go_simp, _, by rw [e1], hB'.grown (grownBy_putObj' _ _ _) hB'.size (fun k e => by cases e; omega), ?_⟩
    rw [e1]
    exact hown'.kept (grownBy_putObj' _ _ _) (.inr (own_not_other hown' hdef' rfl))
  case stop =>
    intro D W hD hi hdef
    obtain ⟨⟨e, hd, h1⟩, h0, hb⟩ := hi
    gi_wp2
    refine ⟨by simp, .inl ⟨_, _, rfl, run_takeDeferred hdef, ?_⟩⟩
    have r0 := (h0.kept (grownBy_putObj' W D (.deferred none)) (by simpa using boxed_not_other h0 hdef rfl)).cell
    have r1 := (h1.kept (grownBy_putObj' W D (.deferred none)) (by simpa using boxed_not_other h1 hdef rfl)).cell
    have Hd := Lib.hid hd; clear hd
    refine ⟨.tuple #[.slice none 0 0, .int .i64 e], by unfold results; rw [Try.results65]; go_simp, _, by rw [Hd.out], hb.grown (grownBy_putObj' _ _ _) hb.size (fun k e => by cases e; omega), ?_⟩
    rw [Hd.out]
    exact World.ownsRow_nil _ _ _ _

end Go.Proofs.Ytejpkcheimgdfaa

-- Rop1
namespace Go.Proofs.Ytejpkcheimgdfaa
open Go.RowKit

theorem rbetween_any (n a b : Int) (w : World) : Calls Try.prog 40 #[.int .i64 n, .int .i64 a, .int .i64 b] w fun e w' => e = .returned (.bool (decide (a ≤ n) && decide (n ≤ b))) ∧ w = w' := by
  go_enter Try.func40, Try.ntmps40
  go_wp2
  all_goals (go_ret; exact ⟨ret_bool (by simp [*]; try omega), rfl⟩)
theorem risInt_any (n : Int) (w : World) : Calls Try.prog 88 #[.int .i64 n] w fun e w' => e = .returned (.bool (isInt n)) ∧ w = w' := by
  go_enter Try.func88, Try.ntmps88
  go_wp2_with (go_at_call 40; refine (rbetween_any _ _ _ _).mono ?_; rintro e w' ⟨rfl, rfl⟩)
  all_goals (go_ret; exact ⟨ret_bool (by simp [isInt]), rfl⟩)
theorem rhasA_any (n : Int) (w : World) : Calls Try.prog 67 #[.int .i64 n] w fun e w' => e = .returned (.bool (names n)) ∧ w = w' := by
  go_enter Try.func67, Try.ntmps67
  go_wp2
  all_goals (go_ret; exact ⟨ret_bool (by rw [Bool.eq_iff_iff]; simp [names, *]; try omega), rfl⟩)
theorem rcheckOp_any (o : MOp) (w : World) : Calls Try.prog 66 #[.agg #[.int .i64 o.c, .int .i64 o.a]] w fun e w' => e = .returned (.int .i64 (checkOp o)) ∧ Below w.heap.size w w' := by
  go_enter Try.func66, Try.ntmps66
  go_wp2_with (first
    | (go_at_call 40; refine (rbetween_any _ _ _ _).mono ?_; rintro e w' ⟨rfl, rfl⟩)
    | (go_at_call 88; refine (risInt_any _ _).mono ?_; rintro e w' ⟨rfl, rfl⟩)
    | (go_at_call 67; refine (rhasA_any _ _).mono ?_; rintro e w' ⟨rfl, rfl⟩))
  all_goals (go_ret; exact ⟨ret_int (by simp_all [checkOp, isCode]), (by repeat (first | exact Below.refl _ _ | assumption | refine Below.drew ?_ | refine Below.drewN_ ?_ _ | refine below_alloc ?_ _ | refine below_via (by assumption) ?_ | refine below_set ?_ (by simp <;> omega) _))⟩)

theorem rwrap_any (n : Int) (w : World) (hn : I64 n) : Calls Try.prog 89 #[.int .i64 n] w fun e w' => e = .returned (.int .i64 (wrapI n)) ∧ w = w' := by
  have h1 := hn.lo
  have h2 := hn.hi
  by_cases h0 : 0 ≤ n
  · go_enter Try.func89, Try.ntmps89
    go_wp2
    all_goals (go_ret; exact ⟨ret_int (by unfold wrapI; omega), rfl⟩)
  · have ht : n.tmod 4294967296 = -((-n) % 4294967296) := by
      rw [← Int.tmod_eq_emod_of_nonneg (by omega), Int.neg_tmod, Int.neg_neg]
    have h3 : -4294967296 < -((-n) % 4294967296) := by omega
    have h4 : -((-n) % 4294967296) ≤ 0 := by omega
    go_enter Try.func89, Try.ntmps89
    go_wp2
    all_goals (go_ret; exact ⟨ret_int (by unfold wrapI; omega), rfl⟩)

theorem rfour_any (n : Int) (w : World) (hn : isInt n = true) : Calls Try.prog 68 #[.int .i64 n] w fun e w' => e = .returned (.string ⟨(fourOf n).toArray⟩) ∧ Below w.heap.size w w' := by
  have hcv := fun (x0 x1 x2 x3 : Int) => run_convert_bytes_arg (P := Try.prog) (w.alloc (.cells #[.int .u8 x0, .int .u8 x1, .int .u8 x2, .int .u8 x3] 5)) 68 5 Try.underlying68 Try.underlying5 w.heap.size 0 4 4 [x0, x1, x2, x3] rfl
    (by intro i hi; match i, hi with | 0, _ => simp | 1, _ => simp | 2, _ => simp | 3, _ => simp) 9 Try.underlying9
  simp [isInt] at hn
  obtain ⟨h1, h2⟩ := hn
  by_cases h0 : n < 0
  · go_enter Try.func68, Try.ntmps68
    go_wp2
    go_ret
    refine ⟨ret_str ?_, (by repeat (first | exact Below.refl _ _ | assumption | refine Below.drew ?_ | refine Below.drewN_ ?_ _ | refine below_alloc ?_ _ | refine below_via (by assumption) ?_ | refine below_set ?_ (by simp <;> omega) _))⟩
    simp only [fourOf, List.map_cons, List.map_nil]
    rw [show (n + 4294967296) / 16777216 = n % 4294967296 / 16777216 from by omega, show (n + 4294967296) / 65536 % 256 = n % 4294967296 / 65536 % 256 from by omega, show (n + 4294967296) / 256 % 256 = n % 4294967296 / 256 % 256 from by omega, show (n + 4294967296) % 256 = n % 256 from by omega]
  · go_enter Try.func68, Try.ntmps68
    go_wp2
    go_ret
    refine ⟨ret_str ?_, (by repeat (first | exact Below.refl _ _ | assumption | refine Below.drew ?_ | refine Below.drewN_ ?_ _ | refine below_alloc ?_ _ | refine below_via (by assumption) ?_ | refine below_set ?_ (by simp <;> omega) _))⟩
    simp only [fourOf, List.map_cons, List.map_nil]
    rw [show n % 4294967296 = n from by omega]
end Go.Proofs.Ytejpkcheimgdfaa

-- Rop2
namespace Go.Proofs.Ytejpkcheimgdfaa
open Go.RowKit

/-- Bytes as a number, nothing cut off. -/
def numP (l : List UInt8) : Int := l.foldl (fun u c => u * 256 + c.toNat) 0
theorem numP_snoc (l : List UInt8) (k : Nat) (h : k < l.length) : numP (l.take (k + 1)) = numP (l.take k) * 256 + (l[k].toNat : Int) := by
  rw [List.take_succ_eq_append_getElem h, numP, List.foldl_append]
  simp [numP]
theorem numP_bd (l : List UInt8) : 0 ≤ numP l ∧ numP l < 256 ^ l.length := by
  refine snoc_ind (m := fun l => 0 ≤ numP l ∧ numP l < 256 ^ l.length) (by simp [numP]) ?_ l
  · intro l c ih
    have h1 : numP (l ++ [c]) = numP l * 256 + c.toNat := by simp [numP, List.foldl_append]
    have := c.toNat_lt
    rw [h1, List.length_append, List.length_singleton, Int.pow_succ]
    constructor <;> omega
theorem numU_mod (l : List UInt8) : numU l = numP l % 4294967296 := by
  refine snoc_ind (m := fun l => numU l = numP l % 4294967296) (by simp [numP, numU]) ?_ l
  · intro l c ih
    have h1 : numP (l ++ [c]) = numP l * 256 + c.toNat := by simp [numP, List.foldl_append]
    have h2 : numU (l ++ [c]) = (numU l * 256 + c.toNat) % 4294967296 := by simp [numU, List.foldl_append]
    rw [h1, h2, ih]; omega
theorem pow_le4 (n : Nat) (h : n ≤ 4) : (256 : Int) ^ n ≤ 4294967296 := by
  match n, h with
  | 0, _ => decide
  | 1, _ => decide
  | 2, _ => decide
  | 3, _ => decide
  | 4, _ => decide
theorem wrapI_mod (n : Int) : wrapI (n % 4294967296) = wrapI n := by unfold wrapI; omega

set_option maxHeartbeats 400000 in
theorem rnumberAt_any (l : List UInt8) (a : Int) (w : World) (h0 : 0 ≤ a) (h4 : a + 4 ≤ l.length) (hl : l.length ≤ 140737488355320) :
    Calls Try.prog 69 #[.string ⟨l.toArray⟩, .int .i64 a] w fun e w' => e = .returned (.int .i64 (numberOf ((l.drop a.toNat).take 4))) ∧ w = w' := by
  obtain ⟨k, rfl⟩ := Int.eq_ofNat_of_zero_le h0
  rw [Int.toNat_natCast]
  go_enter Try.func69, Try.ntmps69
  go_wp2
  go_loop [5, 6] (fun n i => ∃ j : Nat, j ≤ 4 ∧ i = .int .i64 (k + j : Nat) ∧ n = .int .i64 (numP ((l.drop k).take j))) (fun _ i => k + 4 - (intOf i).toNat)
  case atStart => exact ⟨0, by omega, rfl, rfl⟩
  case round =>
    obtain ⟨j, hj, rfl, rfl⟩ := hrel
    have hb := numP_bd ((l.drop k).take j)
    have hlen : ((l.drop k).take j).length ≤ 4 := by simp; omega
    have hb2 : numP ((l.drop k).take j) < 4294967296 := by
      exact Int.lt_of_lt_of_le hb.2 (pow_le4 _ hlen)
    have hb1 := hb.1
    clear hb hlen
    by_cases hlt : j < 4
    · have hs := numP_snoc (l.drop k) j (by simp; omega)
      rw [List.getElem_drop] at hs
      have Hs := Lib.hid hs; clear hs
      generalize numP ((l.drop k).take j) = x at *
      have hkl : k + j < l.length := by omega
      have hb8 := (l[k + j]'hkl).toNat_lt
      go_wp2
      go_round
      case rel => exact ⟨j + 1, by omega, by go_num, by rw [Hs.out, Int.mul_comm]⟩
      case measure => simp [intOf]; omega
    · have hge : 4 ≤ j := by omega
      clear hlt
      generalize hx : numP ((l.drop k).take j) = x at *
      have Hx := Lib.hid hx; clear hx
      go_wp2_with (go_at_call 89; refine (rwrap_any _ _ ⟨by omega, by omega⟩).mono ?_; rintro e w' ⟨rfl, rfl⟩)
      go_ret
      obtain rfl : j = 4 := by omega
      exact ⟨ret_int (by rw [← Hx.out, numberOf, numU_mod, wrapI_mod]), rfl⟩
end Go.Proofs.Ytejpkcheimgdfaa

-- Rop3
namespace Go.Proofs.Ytejpkcheimgdfaa
open Go.RowKit

set_option maxHeartbeats 400000 in
theorem rcheckCode_any (v : Value) (l : List MOp) (w : World) (hs : Sl w v l) :
    Calls Try.prog 41 #[v] w fun e w' => e = .returned (.int .i64 (codeErr l)) ∧ Below w.heap.size w w' := by
  obtain ⟨A, c, rfl, hlc, hc, hl⟩ := hs.form
  go_enter Try.func41, Try.ntmps41
  go_wp2
  · go_ret
    exact ⟨ret_int (by simp [codeErr]; omega), (by repeat (first | exact Below.refl _ _ | assumption | refine Below.drew ?_ | refine Below.drewN_ ?_ _ | refine below_alloc ?_ _ | refine below_via (by assumption) ?_ | refine below_set ?_ (by simp <;> omega) _))⟩
  go_loopw [3] (fun t wr => ∃ k : Nat, k ≤ l.length ∧ t = .int .i64 k ∧ Below w.heap.size w wr ∧ checkOps (l.take k) = 0) (fun t _ => l.length - (intOf t).toNat)
  case atStart => exact ⟨0, by omega, rfl, (by repeat (first | exact Below.refl _ _ | assumption | refine Below.drew ?_ | refine Below.drewN_ ?_ _ | refine below_alloc ?_ _ | refine below_via (by assumption) ?_ | refine below_set ?_ (by simp <;> omega) _)), by simp [checkOps]⟩
  case round =>
    obtain ⟨k, hk, rfl, hbl, hck⟩ := hrel
    have Hck := Lib.hid hck; clear hck
    have hs' := hs.via hbl
    by_cases hlt : k < l.length
    · obtain ⟨b, off, o, rfl, hb, ho, hc0, hc1, hi0, hi1⟩ := hs'.op_at hlt
      have Ho := Lib.hid ho; clear ho
      have hsz := hbl.size
      go_wp2_with (go_at_call 66; refine (rcheckOp_any o _).mono ?_; rintro e w' ⟨rfl, hb⟩)
      · go_ret
        exact ⟨ret_int (codeErr_of (by omega) Ho.out Hck.out (by assumption)), (by repeat (first | exact Below.refl _ _ | assumption | refine Below.drew ?_ | refine Below.drewN_ ?_ _ | refine below_alloc ?_ _ | refine below_via (by assumption) ?_ | refine below_set ?_ (by simp <;> omega) _))⟩
      · go_roundw
        case rel => exact ⟨k + 1, by omega, by go_num, (by repeat (first | exact Below.refl _ _ | assumption | refine Below.drew ?_ | refine Below.drewN_ ?_ _ | refine below_alloc ?_ _ | refine below_via (by assumption) ?_ | refine below_set ?_ (by simp <;> omega) _)), by rw [checkOps_snoc Ho.out Hck.out]; simp_all⟩
        case measure => simp [intOf]; omega
    · go_wp2
      go_ret
      exact ⟨ret_int (codeErr_ok (by omega) (by rw [← Hck.out, List.take_of_length_le (by omega)])), (by repeat (first | exact Below.refl _ _ | assumption | refine Below.drew ?_ | refine Below.drewN_ ?_ _ | refine below_alloc ?_ _ | refine below_via (by assumption) ?_ | refine below_set ?_ (by simp <;> omega) _))⟩

theorem conv_one0 (W : World) (x : Int) : (convert 68 9 (.slice (some ⟨W.heap.size, 0, none⟩) 1 1)).run Try.prog (W.alloc (.cells #[.int .u8 x] 5)) =
    .ok (.string ⟨[UInt8.ofNat x.toNat].toArray⟩) (W.alloc (.cells #[.int .u8 x] 5)) :=
  run_convert_bytes_arg (P := Try.prog) _ 68 5 Try.underlying68 Try.underlying5 _ 0 1 1 [x] rfl
    (by intro i hi; match i, hi with | 0, _ => simp) 9 Try.underlying9
theorem checkOps_mem {l : List MOp} (h : checkOps l = 0) : ∀ o ∈ l, checkOp o = 0 := by
  induction l with
  | nil => simp
  | cons a l ih =>
    simp only [checkOps] at h
    split at h
    · rename_i e; rw [h] at e; simp at e
    · rename_i e
      intro o ho
      rcases List.mem_cons.1 ho with rfl | ho
      · simpa using e
      · exact ih h o ho
theorem codeErr_zero {l : List MOp} (h : codeErr l = 0) : l.length ≤ 40 ∧ ∀ o ∈ l, checkOp o = 0 := by
  unfold codeErr at h
  split at h
  · omega
  · exact ⟨by omega, checkOps_mem h⟩
theorem checkOp_zero {o : MOp} (h : checkOp o = 0) : isCode o.c = true ∧ (names o.c = true ∨ o.a = 0) ∧ isInt o.a = true := by
  unfold checkOp at h
  split at h; · omega
  split at h; · omega
  split at h; · omega
  simp_all
  rename_i h2 _
  cases hn : names o.c <;> simp_all

set_option maxHeartbeats 400000 in
theorem rcodeBytes_any (v : Value) (l : List MOp) (w : World) (hs : Sl w v l) (h40 : codeErr l = 0) :
    Calls Try.prog 43 #[v] w fun e w' => e = .returned (.string ⟨(codeBytes l).toArray⟩) ∧ Below w.heap.size w w' := by
  obtain ⟨A, c, rfl, hlc, hc, hl⟩ := hs.form
  obtain ⟨h40, hch⟩ := codeErr_zero h40
  have Hch := Lib.hid hch; clear hch
  have hcv := conv_one0
  go_enter Try.func43, Try.ntmps43
  go_wp2
  go_loopw [3, 4] (fun s t wr => ∃ k : Nat, k ≤ l.length ∧ t = .int .i64 k ∧ Below w.heap.size w wr ∧ s = .string ⟨(codeBytes (l.take k)).toArray⟩) (fun _ t _ => l.length - (intOf t).toNat)
  case atStart => exact ⟨0, by omega, rfl, (by repeat (first | exact Below.refl _ _ | assumption | refine Below.drew ?_ | refine Below.drewN_ ?_ _ | refine below_alloc ?_ _ | refine below_via (by assumption) ?_ | refine below_set ?_ (by simp <;> omega) _)), rfl⟩
  case round =>
    obtain ⟨k, hk, rfl, hbl, rfl⟩ := hrel
    have hs' := hs.via hbl
    have hln := codeBytes_len (l.take k)
    have hln' : (l.take k).length ≤ k := List.length_take_le _ _
    by_cases hlt : k < l.length
    · obtain ⟨b, off, o, rfl, hb, ho, hc0, hc1, hi0, hi1⟩ := hs'.op_at hlt
      have hint := Lib.hid ((checkOp_zero (Hch.out o (List.mem_of_getElem? ho))).2.2)
      have Ho := Lib.hid ho; clear ho
      have hsz := hbl.size
      have Hsn := Lib.hid (codeBytes_snoc Ho.out)
      have h4 : (fourOf o.a).length ≤ 4 := by simp [fourOf]
      generalize codeBytes (l.take k) = cb at *
      go_wp2_with (first
       | (go_at_call 67; refine (rhasA_any o.c _).mono ?_; rintro e w' ⟨rfl, rfl⟩)
       | (go_at_call 68; refine (rfour_any o.a _ hint.out).mono ?_; rintro e w' ⟨rfl, hb⟩))
      all_goals
        go_roundw
        case rel => exact ⟨k + 1, by omega, by go_num, (by repeat (first | exact Below.refl _ _ | assumption | refine Below.drew ?_ | refine Below.drewN_ ?_ _ | refine below_alloc ?_ _ | refine below_via (by assumption) ?_ | refine below_set ?_ (by simp <;> omega) _)), by rw [Hsn.out]; simp_all [opBytes]⟩
        case measure => simp [intOf]; omega
    · go_wp2
      go_ret
      exact ⟨ret_str (by rw [List.take_of_length_le (by omega)]), (by repeat (first | exact Below.refl _ _ | assumption | refine Below.drew ?_ | refine Below.drewN_ ?_ _ | refine below_alloc ?_ _ | refine below_via (by assumption) ?_ | refine below_set ?_ (by simp <;> omega) _))⟩

end Go.Proofs.Ytejpkcheimgdfaa

-- Fl1
/- Flow: what its functions answer, in plain words; ops as elements for the walker. -/
namespace Go.Proofs.Ytejpkcheimgdfaa
open Go.RowKit

theorem retb {a b : Bool} (h : a = b) : Ending.returned (.bool a) = .returned (.bool b) := by rw [h]
theorem reti {a b : Int} (h : a = b) : Ending.returned (.int .i64 a) = .returned (.int .i64 b) := by rw [h]
instance : Ow MOp where
  ty := 61
  own _ F cs o := (cs = [.int .i64 o.c, .int .i64 o.a] ∧ I64 o.c ∧ I64 o.a) ∧ ∀ b, ¬ F b
  rd_ h := h.1
  lt h hb := (h.2 _ hb).elim
  frame h _ := h
  cong h hf := ⟨h.1, fun b hb => h.2 b ((hf b).2 hb)⟩
instance : FOw MOp where
  enc o := [.int .i64 o.c, .int .i64 o.a]
  wf o := I64 o.c ∧ I64 o.a
  rep_iff := Iff.rfl
  own_iff := Iff.rfl
instance : SlTy MOp := ⟨52⟩
theorem Try.inI : (Try.prog.info? 3).map (fun i => (i.zero, i.size, i.bytes)) = some (some (.int .i64 0), 1, 8) := by kernel_rfl
theorem Try.inB : (Try.prog.info? 4).map (fun i => (i.zero, i.size, i.bytes)) = some (some (.bool false), 1, 1) := by kernel_rfl
theorem Try.inOp : (Try.prog.info? 61).map (fun i => (i.zero, i.size, i.bytes)) = some (some (.agg #[.int .i64 0, .int .i64 0]), 2, 16) := by kernel_rfl
theorem Try.plOp : Places Try.prog 61 #[(0, 1), (1, 1)] := ⟨_, Try.underlying61, fun w => by simp [Try.sizeOf3]⟩

theorem one_i64 {a : Int} (h : I64 a) : ∀ x ∈ [a], I64 x := by intro x hx; rw [List.mem_singleton.1 hx]; exact h
theorem two_i64 {a b : Int} (h : I64 a) (h2 : I64 b) : ∀ x ∈ [a, b], I64 x := by
  intro x hx
  rcases List.mem_cons.1 hx with hx | hx
  · rw [hx]; exact h
  · rw [List.mem_singleton.1 hx]; exact h2
section
variable {P : Program} {n : Nat} {o : Oper} {env : Env} {B : Nat} {w0 : World} {H H' : List Res}
/-- A bool is written. -/
theorem ot_stB {i j : Operand} {t : TypeId} {A : Option Addr} {m c k : Nat} {z : Bool} {xs xs' : List Bool} (hxs : xs' = xs.set k z) (hp : Foc H (ROw (.slice A m c) xs) H') (hk : k < m) (hz : ∀ w, (sizeOf t).run P w = .ok 1 w)
    (hop : o.op = .store t i j) (hi : opv env i = some (.pointer (some ⟨ab A, ao A + k * 1, none⟩))) (hj : opv env j = some (.bool z)) : OT P n B w0 o env H (γ := Unit) (fun _ => True) (fun _ => undef) (fun _ => ROw (.slice A m c) xs' :: H') :=
  ot_stE0 (us := [.bool z]) z false hxs hp hk trivial hz hop hi hj rfl rfl rfl rfl rfl
def opAt (l : List MOp) (k : Nat) : MOp := l.getD k default
theorem SF.op {A : Option Addr} {xs : List MOp} {m c k : Nat} (hs : SF B w0 H A m c xs) (hk : k < m) : ∀ w, Cw B w0 H w → ∀ j v, ([.int .i64 (opAt xs k).c, .int .i64 (opAt xs k).a] : List Value)[j]? = some v → w.cell? ⟨ab A, ao A + k * 2 + j, none⟩ = some v :=
  fun w hw _ _ hj => SF.cell hs hk default hj w hw
theorem SF.opc {A : Option Addr} {xs : List MOp} {m c k : Nat} (hs : SF B w0 H A m c xs) (hk : k < m) : ∀ w, Cw B w0 H w → w.cell? ⟨ab A, ao A + k * 2 + 0, none⟩ = some (.int .i64 (opAt xs k).c) := fun w hw => SF.op hs hk w hw 0 _ rfl
theorem SF.opa {A : Option Addr} {xs : List MOp} {m c k : Nat} (hs : SF B w0 H A m c xs) (hk : k < m) : ∀ w, Cw B w0 H w → w.cell? ⟨ab A, ao A + k * 2 + 1, none⟩ = some (.int .i64 (opAt xs k).a) := fun w hw => SF.op hs hk w hw 1 _ rfl
theorem SF.bool {A : Option Addr} {xs : List Bool} {m c k : Nat} (hs : SF B w0 H A m c xs) (hk : k < m) : ∀ w, Cw B w0 H w → w.cell? ⟨ab A, ao A + k * 1, none⟩ = some (.bool (xs.getD k false)) := fun w hw => SF.cell hs hk false (j := 0) rfl w hw
theorem op_i64 {w : World} {B : Nat} {A : Option Addr} {xs : List MOp} {m c k : Nat} (h : SlB w B (.slice A m c) xs) (hk : k < m) : I64 (opAt xs k).c ∧ I64 (opAt xs k).a := by
  obtain ⟨cs, hr, _⟩ := h.elr hk default
  exact hr.2
end

def isFar (n : Nat) (o : MOp) : Bool := (decide (o.c = 10) || decide (o.c = 11)) && (decide (o.a < 0) || decide ((n : Int) ≤ o.a))
def flowE (l : List MOp) : Int := if codeErr l = 0 then (if l.length = 0 then 5 else if l.any (isFar l.length) then 3 else 0) else codeErr l
def goesOn (o : MOp) (pc to_ : Int) : Bool := if o.c = 13 then false else if o.c = 10 then decide (to_ = o.a) else if o.c = 11 then decide (to_ = pc + 1) || decide (to_ = o.a) else decide (to_ = pc + 1)
def afterL (o : MOp) (pc : Int) : List Int := if o.c = 13 then [] else if o.c = 10 then [o.a] else if o.c = 11 then (if pc + 1 = o.a then [pc + 1] else if o.a < pc + 1 then [o.a, pc + 1] else [pc + 1, o.a]) else [pc + 1]
def upto (n : Nat) : List Int := (List.range n).map fun i : Nat => (i : Int)
def nextL (l : List MOp) (pc : Nat) : List Int := (upto (l.length + 1)).filter (goesOn (opAt l pc) pc)
def backL (l : List MOp) (to_ : Int) : List Int := (upto l.length).filter fun i => goesOn (opAt l i.toNat) i to_
def nextE (l : List MOp) (pc : Int) : Int := if flowE l = 0 then (if pc < 0 ∨ (l.length : Int) ≤ pc then 3 else 0) else flowE l
def backE (l : List MOp) (pc : Int) : Int := if flowE l = 0 then (if pc < 0 ∨ (l.length : Int) < pc then 3 else 0) else flowE l
def nextR (l : List MOp) (pc : Int) : List Int := if nextE l pc = 0 then nextL l pc.toNat else []
def backR (l : List MOp) (pc : Int) : List Int := if backE l pc = 0 then backL l pc else []
/-- What may be come to from p. -/
inductive RchF (l : List MOp) (p : Nat) : Nat → Prop where
  | refl : RchF l p p
  | step {q r : Nat} : RchF l p q → q < l.length → goesOn (opAt l q) q r = true → RchF l p r
theorem RchF.trans {l : List MOp} {p q r : Nat} (h1 : RchF l p q) (h2 : RchF l q r) : RchF l p r := by
  induction h2 with
  | refl => exact h1
  | step _ h3 h4 ih => exact .step ih h3 h4
abbrev Rch (l : List MOp) (q : Nat) : Prop := RchF l 0 q
noncomputable def rchB (l : List MOp) (i : Int) : Bool := @decide (Rch l i.toNat) (Classical.propDecidable _)
theorem rchB_iff {l : List MOp} {i : Int} : rchB l i = true ↔ Rch l i.toNat := by unfold rchB; exact @decide_eq_true_iff _ (Classical.propDecidable _)
noncomputable def reachL (l : List MOp) : List Int := (upto (l.length + 1)).filter (rchB l)
noncomputable def reachR (l : List MOp) : List Int := if flowE l = 0 then reachL l else []

theorem upto_snoc (n : Nat) : upto (n + 1) = upto n ++ [(n : Int)] := by simp [upto, List.range_succ]
theorem upto_mem {n : Nat} {a : Int} : a ∈ upto n ↔ 0 ≤ a ∧ a < n := by
  simp only [upto, List.mem_map, List.mem_range]
  constructor
  · rintro ⟨i, h, rfl⟩; omega
  · intro h; exact ⟨a.toNat, by omega, by omega⟩
theorem upto_sorted (n : Nat) : (upto n).Pairwise (· < ·) := by
  unfold upto
  rw [List.pairwise_map]
  exact List.pairwise_lt_range.imp (by intro a b h; omega)
theorem upto_len (n : Nat) : (upto n).length = n := by simp [upto]
theorem filter_snoc (p : Int → Bool) (n : Nat) : (upto (n + 1)).filter p = (upto n).filter p ++ (if p n then [(n : Int)] else []) := by
  rw [upto_snoc, List.filter_append]
  congr 1
  by_cases h : p n = true <;> simp [h]
theorem filter_yes {p : Int → Bool} {n : Nat} (h : p n = true) : (upto (n + 1)).filter p = (upto n).filter p ++ [(n : Int)] := by rw [filter_snoc, if_pos h]
theorem filter_no {p : Int → Bool} {n : Nat} (h : ¬ p n = true) : (upto (n + 1)).filter p = (upto n).filter p := by rw [filter_snoc, if_neg h, List.append_nil]
theorem filter_len (p : Int → Bool) (n : Nat) : ((upto n).filter p).length ≤ n := by
  have := List.length_filter_le p (upto n)
  rw [upto_len] at this
  exact this
theorem filter_i64 {p : Int → Bool} {n : Nat} (hn : n ≤ 140737488355328) : ∀ a ∈ (upto n).filter p, I64 a := by
  intro a ha
  have := upto_mem.1 (List.mem_filter.1 ha).1
  unfold I64
  omega
/-- Two rising lists of the same numbers are the same. -/
theorem rising_eq : ∀ {xs ys : List Int}, xs.Pairwise (· < ·) → ys.Pairwise (· < ·) → (∀ a, a ∈ xs ↔ a ∈ ys) → xs = ys
  | [], [], _, _, _ => rfl
  | [], y :: ys, _, _, h => by have := (h y).2 (by simp); simp at this
  | x :: xs, [], _, _, h => by have := (h x).1 (by simp); simp at this
  | x :: xs, y :: ys, hx, hy, h => by
    rw [List.pairwise_cons] at hx hy
    have e : x = y := by
      have h1 := (h x).1 (by simp)
      have h2 := (h y).2 (by simp)
      rw [List.mem_cons] at h1 h2
      rcases h1 with h1 | h1
      · exact h1
      · rcases h2 with h2 | h2
        · exact h2.symm
        · have a1 := hx.1 y h2
          have a2 := hy.1 x h1
          omega
    subst e
    congr 1
    refine rising_eq hx.2 hy.2 fun a => ?_
    have h1 := h a
    rw [List.mem_cons, List.mem_cons] at h1
    constructor
    · intro ha
      rcases h1.1 (.inr ha) with e | h2
      · have := hx.1 a ha; omega
      · exact h2
    · intro ha
      rcases h1.2 (.inr ha) with e | h2
      · have := hy.1 a ha; omega
      · exact h2
theorem after_mem (o : MOp) (pc a : Int) : a ∈ afterL o pc ↔ goesOn o pc a = true := by
  unfold afterL goesOn
  split
  · simp
  · split
    · simp
    · split
      · split
        · rename_i h; simp; omega
        · split
          · simp; omega
          · simp
      · simp
theorem after_contains (o : MOp) (pc a : Int) : (afterL o pc).contains a = goesOn o pc a := by
  rw [Bool.eq_iff_iff, List.contains_iff_mem, after_mem]
theorem after_sorted (o : MOp) (pc : Int) : (afterL o pc).Pairwise (· < ·) := by
  unfold afterL
  split
  · simp
  · split
    · simp
    · split
      · split
        · simp
        · split
          · simp; omega
          · simp; omega
      · simp
theorem after_len (o : MOp) (pc : Int) : (afterL o pc).length ≤ 2 := by
  unfold afterL
  split
  · simp
  · split
    · simp
    · split
      · split
        · simp
        · split <;> simp
      · simp
theorem flowE_zero {l : List MOp} (h : flowE l = 0) : codeErr l = 0 ∧ l.length ≠ 0 ∧ l.any (isFar l.length) = false := by
  unfold flowE at h
  split at h
  · rename_i h0
    split at h
    · cases h
    · split at h
      · cases h
      · rename_i h1 h2; exact ⟨h0, h1, by simpa using h2⟩
  · rename_i h0; exact absurd h h0
theorem codeErr_len {l : List MOp} (h : codeErr l = 0) : l.length ≤ 40 := by
  unfold codeErr at h
  split at h
  · cases h
  · omega
theorem opAt_mem {l : List MOp} {k : Nat} (h : k < l.length) : opAt l k ∈ l := by
  unfold opAt
  rw [List.getD_eq_getElem?_getD, List.getElem?_eq_getElem h]
  exact List.getElem_mem h
theorem goes_in {l : List MOp} (h : flowE l = 0) {pc : Nat} (hp : pc < l.length) {a : Int} (hg : goesOn (opAt l pc) pc a = true) : 0 ≤ a ∧ a ≤ l.length := by
  obtain ⟨h0, h1, h2⟩ := flowE_zero h
  have hm := opAt_mem hp
  have hf : isFar l.length (opAt l pc) = false := by
    rw [Bool.eq_false_iff] at h2 ⊢
    intro hb
    exact h2 (List.any_eq_true.2 ⟨_, hm, hb⟩)
  unfold isFar at hf
  unfold goesOn at hg
  split at hg
  · cases hg
  · split at hg
    · rename_i e
      simp only [e, decide_true, Bool.true_or, Bool.true_and, Bool.or_eq_false_iff, decide_eq_false_iff_not] at hf
      simp only [decide_eq_true_eq] at hg
      omega
    · split at hg
      · rename_i e
        simp only [e, decide_true, Bool.or_true, Bool.true_and, Bool.or_eq_false_iff, decide_eq_false_iff_not] at hf
        simp only [Bool.or_eq_true, decide_eq_true_eq] at hg
        omega
      · simp only [decide_eq_true_eq] at hg
        omega
theorem after_next {l : List MOp} (h : flowE l = 0) {pc : Nat} (hp : pc < l.length) : afterL (opAt l pc) pc = nextL l pc := by
  refine rising_eq (after_sorted _ _) ((upto_sorted _).filter _) fun a => ?_
  unfold nextL
  rw [after_mem, List.mem_filter, upto_mem]
  constructor
  · intro hg
    have := goes_in h hp hg
    exact ⟨by omega, hg⟩
  · exact fun hg => hg.2
theorem any_take_snoc {α : Type} {p : α → Bool} {l : List α} {k : Nat} (d : α) (hk : k < l.length) : (l.take (k + 1)).any p = ((l.take k).any p || p (l.getD k d)) := by
  rw [List.take_add_one, List.getElem?_eq_getElem hk, List.getD_eq_getElem?_getD, List.getElem?_eq_getElem hk, List.any_append]
  simp
theorem take_eq_w {xs ys : List Int} {k : Nat} (h : xs.take k = ys.take k) (hx : k < xs.length) (hy : k < ys.length) (he : xs.getD k 0 = ys.getD k 0) : xs.take (k + 1) = ys.take (k + 1) := by
  rw [List.take_succ_eq_append_getElem hx, List.take_succ_eq_append_getElem hy, h]
  rw [List.getD_eq_getElem?_getD, List.getElem?_eq_getElem hx, List.getD_eq_getElem?_getD, List.getElem?_eq_getElem hy] at he
  simp only [Option.getD_some] at he
  rw [he]
theorem sameInts_w (A1 A2 : Option Addr) (c1 c2 : Nat) (xs ys : List Int) (w : World) (h1 : Sl w (.slice A1 xs.length c1) xs) (h2 : Sl w (.slice A2 ys.length c2) ys) : Calls Try.prog 28 #[.slice A1 xs.length c1, .slice A2 ys.length c2] w fun e w' => e = .returned (.bool (decide (xs = ys))) ∧ Below w.heap.size w w' := by
  have b1 := len_bd h1
  refine enter Try.func28 rfl Try.ntmps28 rfl ?_
  refine cw_seq ?_
  refine cw_region ?_
  refine rw_run tab_ok 1 [(0, _), (1, _)] rfl ⟨rfl, rfl, trivial⟩ ?_
  refine rw_end ?_
  refine cw_seq ?_
  refine cw_seq ?_
  refine cw_region ?_
  refine rw_run tab_ok 1 [(0, _), (1, _), (6, _)] rfl ⟨rfl, rfl, rfl, trivial⟩ ?_
  refine rw_s (qs_len Try.underlying35 rfl rfl) rfl rfl ?_
  refine rw_run tab_ok 1 [(0, _), (1, _), (7, _), (8, _)] rfl ⟨rfl, rfl, rfl, rfl, trivial⟩ ?_
  refine rw_s (qs_len Try.underlying35 rfl rfl) rfl rfl ?_
  refine rw_run tab_ok 1 [(0, _), (1, _), (10, _)] rfl ⟨rfl, rfl, rfl, trivial⟩ ?_
  refine rw_end ?_
  refine cw_condN rfl (fun h => ?_) (fun h => ?_)
  · refine cw_seq ?_
    refine cw_region ?_
    refine rw_run tab_ok 1 [(4, _)] rfl ⟨rfl, trivial⟩ ?_
    refine rw_end ?_
    refine cw_ret (xw_thenr ?_)
    refine xw_ret1 Try.results28 (rv_tmp rfl) ?_
    intro w hw
    exact ⟨ret_bool (by simp; intro e; exact h (by simp [e])), hw.below⟩
  · refine cw_skip (xw_then ?_)
    refine cw_seq ?_
    refine cw_seq ?_
    refine cw_region ?_
    refine rw_run tab_ok 1 [(0, _), (1, _), (5, _)] rfl ⟨rfl, rfl, rfl, trivial⟩ ?_
    refine rw_end ?_
    refine cw_block (cw_loop (fun k : Nat => k ≤ xs.length ∧ xs.take k = ys.take k) (fun k => xs.length - k) (fun k => [(0, .slice A1 xs.length c1), (1, .slice A2 ys.length c2), (5, .int .i64 (k : Int))]) (fun _ => []) 0 (by simp) ⟨rfl, rfl, rfl, trivial⟩ me ?_)
    rintro k ⟨hk, ht⟩
    try dsimp only
    refine cw_seq ?_
    refine cw_seq ?_
    refine cw_region ?_
    refine rw_run tab_ok 2 [(0, _), (1, _), (5, _), (11, _), (12, _)] rfl ⟨rfl, rfl, rfl, rfl, rfl, trivial⟩ ?_
    refine rw_s (qs_len Try.underlying35 rfl rfl) rfl rfl ?_
    refine rw_run tab_ok 1 [(0, _), (1, _), (5, _), (14, _)] rfl ⟨rfl, rfl, rfl, rfl, trivial⟩ ?_
    refine rw_end ?_
    refine cw_condD rfl (fun h3 => ?_) (fun h3 => ?_)
    · refine cw_skip (xw_then ?_)
      refine cw_seq ?_
      refine cw_block ?_
      refine cw_seq ?_
      refine cw_draw (.still 0 (.still 1 (.still 2 (.still 3 (.still 4 (.still 5 (.still 6 (.still 7 (.still 8 .done))))))))) [] rfl (by kernel_rfl) (by kernel_rfl) ?_
      refine ro_run tab_ok ha 2 [(0, _), (1, _), (5, _), (17, _), (18, _)] rfl ⟨rfl, rfl, rfl, rfl, rfl, trivial⟩ ?_
      refine ro_s2 rfl (qs_idx Try.underlying35 Try.sizeOf3 (.ro h1) (by omega) rfl rfl rfl) rfl rfl ha ?_
      refine ro_s2 rfl (qs_ld (SF.int (.ro h1) (by omega)) rfl rfl Try.isAgg3) rfl rfl ha ?_
      refine ro_run tab_ok ha 2 [(0, _), (1, _), (5, _), (20, _), (21, _), (22, _)] rfl ⟨rfl, rfl, rfl, rfl, rfl, rfl, trivial⟩ ?_
      refine ro_s2 rfl (qs_idx Try.underlying35 Try.sizeOf3 (.ro h2) (by omega) rfl rfl rfl) rfl rfl ha ?_
      refine ro_s2 rfl (qs_ld (SF.int (.ro h2) (by omega)) rfl rfl Try.isAgg3) rfl rfl ha ?_
      refine ro_run tab_ok ha 1 [(0, _), (1, _), (5, _), (25, _)] rfl ⟨rfl, rfl, rfl, rfl, trivial⟩ ?_
      refine ro_end ?_
      refine cw_condN rfl (fun h4 => ?_) (fun h4 => ?_)
      · refine cw_seq ?_
        refine cw_region ?_
        refine rw_run tab_ok 1 [(4, _)] rfl ⟨rfl, trivial⟩ ?_
        refine rw_end ?_
        refine cw_ret (xw_blkr (xw_thenr (xw_thenr (xw_blkr (xw_thenr ?_)))))
        refine xw_ret1 Try.results28 (rv_tmp rfl) ?_
        intro w hw
        exact ⟨ret_bool (by simp; intro e; exact h4 (by simp [e])), hw.below⟩
      · refine cw_skip (xw_blkn (xw_then ?_))
        refine cw_region ?_
        refine rw_run tab_ok 1 [(0, _), (1, _), (15, _)] rfl ⟨rfl, rfl, rfl, trivial⟩ ?_
        refine rw_s (qs_add rfl rfl rfl (by omega)) rfl rfl ?_
        refine rw_run tab_ok 1 [(0, _), (1, _), (5, _)] rfl ⟨rfl, rfl, rfl, trivial⟩ ?_
        refine rw_round (k + 1) (⟨by omega, take_eq_w ht (by omega) (by omega) h4⟩) (by show _ - _ < _ - _; omega) ⟨rfl, rfl, rfl, trivial⟩ me
    · refine cw_exit (xw_thenx (xw_thenx (xw_blk (xw_then ?_))))
      refine cw_seq ?_
      refine cw_region ?_
      refine rw_run tab_ok 1 [(4, _)] rfl ⟨rfl, trivial⟩ ?_
      refine rw_end ?_
      refine cw_ret ?_
      refine xw_ret1 Try.results28 (rv_tmp rfl) ?_
      intro w hw
      exact ⟨ret_bool (by rw [List.take_of_length_le (by omega), List.take_of_length_le (by omega)] at ht; simp [ht]), hw.below⟩
theorem any_take_int {l : List Int} {k : Nat} {x : Int} (hk : k < l.length) : (l.take (k + 1)).contains x = ((l.take k).contains x || decide (x = l.getD k 0)) := by
  rw [Bool.eq_iff_iff, List.take_succ_eq_append_getElem hk, List.getD_eq_getElem?_getD, List.getElem?_eq_getElem hk]
  simp only [List.contains_iff_mem, List.mem_append, List.mem_singleton, Bool.or_eq_true, decide_eq_true_eq, Option.getD_some]
set_option maxRecDepth 100000 in
theorem has_w (A : Option Addr) (c : Nat) (l : List Int) (x : Int) (w : World) (hs : Sl w (.slice A l.length c) l) : Calls Try.prog 35 #[.slice A l.length c, .int .i64 x] w fun e w' => e = .returned (.bool (l.contains x)) ∧ Below w.heap.size w w' := by
  have b1 := len_bd hs
  refine enter Try.func35 rfl Try.ntmps35 rfl ?_
  refine cw_seq ?_
  refine cw_region ?_
  refine rw_run tab_ok 1 [(0, _), (1, _)] rfl ⟨rfl, rfl, trivial⟩ ?_
  refine rw_end ?_
  refine cw_seq ?_
  refine cw_seq ?_
  refine cw_region ?_
  refine rw_run tab_ok 1 [(0, _), (1, _), (5, _)] rfl ⟨rfl, rfl, rfl, trivial⟩ ?_
  refine rw_end ?_
  refine cw_block (cw_loop (fun k : Nat => k ≤ l.length ∧ (l.take k).contains x = false) (fun k => l.length - k) (fun k => [(0, .slice A l.length c), (1, .int .i64 x), (5, .int .i64 (k : Int))]) (fun _ => []) 0 (⟨Nat.zero_le _, rfl⟩) ⟨rfl, rfl, rfl, trivial⟩ me ?_)
  rintro k hk'
  obtain ⟨hk, hno⟩ : k ≤ l.length ∧ (l.take k).contains x = false := hk'
  refine cw_seq ?_
  refine cw_seq ?_
  refine cw_region ?_
  refine rw_run tab_ok 2 [(0, _), (1, _), (5, _), (6, _), (7, _)] rfl ⟨rfl, rfl, rfl, rfl, rfl, trivial⟩ ?_
  refine rw_s (qs_len Try.underlying35 rfl rfl) rfl rfl ?_
  refine rw_run tab_ok 1 [(0, _), (1, _), (5, _), (9, _)] rfl ⟨rfl, rfl, rfl, rfl, trivial⟩ ?_
  refine rw_end ?_
  refine cw_condD rfl (fun hlt => ?_) (fun hlt => ?_)
  · have hkl : k < l.length := by omega
    have hsn := any_take_int (x := x) hkl
    refine cw_skip (xw_then ?_)
    refine cw_seq ?_
    refine cw_block ?_
    refine cw_seq ?_
    refine cw_region ?_
    refine rw_run tab_ok 2 [(0, _), (1, _), (5, _), (12, _), (13, _)] rfl ⟨rfl, rfl, rfl, rfl, rfl, trivial⟩ ?_
    refine rw_s (qs_idx Try.underlying35 Try.sizeOf3 (.ro hs) (by omega) rfl rfl rfl) rfl rfl ?_
    refine rw_s (qs_ld (SF.int (.ro hs) (by omega)) rfl rfl Try.isAgg3) rfl rfl ?_
    refine rw_run tab_ok 2 [(0, _), (1, _), (5, _), (17, _)] rfl ⟨rfl, rfl, rfl, rfl, trivial⟩ ?_
    refine rw_end ?_
    refine cw_condD rfl (fun he => ?_) (fun he => ?_)
    · refine cw_seq ?_
      refine cw_region ?_
      refine rw_run tab_ok 1 [(4, _)] rfl ⟨rfl, trivial⟩ ?_
      refine rw_end ?_
      refine cw_ret (xw_blkr (xw_thenr (xw_thenr (xw_blkr (xw_thenr ?_)))))
      refine xw_ret1 Try.results35 (rv_tmp rfl) ?_
      intro w hw
      refine ⟨ret_bool ?_, hw.below⟩
      rw [eq_comm, List.contains_iff_mem, ← he, List.getD_eq_getElem?_getD, List.getElem?_eq_getElem hkl]
      exact List.getElem_mem hkl
    · refine cw_skip (xw_blkn (xw_then ?_))
      refine cw_region ?_
      refine rw_run tab_ok 1 [(0, _), (1, _), (10, _)] rfl ⟨rfl, rfl, rfl, trivial⟩ ?_
      refine rw_s (qs_add rfl rfl rfl (by omega)) rfl rfl ?_
      refine rw_run tab_ok 1 [(0, _), (1, _), (5, _)] rfl ⟨rfl, rfl, rfl, trivial⟩ ?_
      refine rw_round (k + 1) (⟨by omega, by rw [hsn, hno, Bool.false_or]; exact decide_eq_false (fun e => he e.symm)⟩) (by show _ - _ < _ - _; omega) ⟨rfl, rfl, rfl, trivial⟩ me
  · obtain rfl : k = l.length := by omega
    refine cw_exit (xw_thenx (xw_thenx (xw_blk (xw_then ?_))))
    refine cw_seq ?_
    refine cw_region ?_
    refine rw_run tab_ok 1 [(4, _)] rfl ⟨rfl, trivial⟩ ?_
    refine rw_end ?_
    refine cw_ret ?_
    refine xw_ret1 Try.results35 (rv_tmp rfl) ?_
    intro w hw
    exact ⟨ret_bool (by rw [List.take_length] at hno; rw [hno]), hw.below⟩
end Go.Proofs.Ytejpkcheimgdfaa

-- Pr1
/- Programs: what the functions answer, in plain words; functions of a program as elements for the walker. -/
namespace Go.Proofs.Ytejpkcheimgdfaa
open Go.RowKit

structure MFunc where
  params : Int
  locals : List Int
  result : Int
  code : List MOp
  deriving DecidableEq
instance : Inhabited MFunc := ⟨⟨0, [], 0, []⟩⟩
instance : Rep MFunc where
  k := 4
  rep w B cs f := ∃ v1 v2, cs = [.int .i64 f.params, v1, .int .i64 f.result, v2] ∧ (I64 f.params ∧ I64 f.result) ∧ SlB w B v1 f.locals ∧ SlB w B v2 f.code
  len h := by obtain ⟨v1, v2, h, _⟩ := h; rw [h]; rfl
  keep h hc := by obtain ⟨v1, v2, h, hi, h1, h2⟩ := h; exact ⟨v1, v2, h, hi, h1.keep hc, h2.keep hc⟩
  more h hb := by obtain ⟨v1, v2, h, hi, h1, h2⟩ := h; exact ⟨v1, v2, h, hi, h1.more hb, h2.more hb⟩
  one h := by
    obtain ⟨v1, v2, h, hi, h1, h2⟩ := h
    obtain ⟨A1, c1, rfl, _⟩ := h1.form
    obtain ⟨A2, c2, rfl, _⟩ := h2.form
    rw [h]
    simp [Value.oneCell']
instance : Ow MFunc where
  ty := 54
  own w F cs f := ∃ v1 v2 F1 F2, cs = [.int .i64 f.params, v1, .int .i64 f.result, v2] ∧ (I64 f.params ∧ I64 f.result) ∧ OwL w F1 v1 f.locals ∧ OwL w F2 v2 f.code ∧ (∀ b, F1 b → F2 b → False) ∧ ∀ b, F b ↔ F1 b ∨ F2 b
  rd_ h := by obtain ⟨v1, v2, F1, F2, h, hi, h1, h2, _⟩ := h; exact ⟨v1, v2, h, hi, h1.sl, h2.sl⟩
  lt h hb := by
    obtain ⟨v1, v2, F1, F2, h, hi, h1, h2, _, hF⟩ := h
    rcases (hF _).1 hb with h | h
    · exact h1.lt h
    · exact h2.lt h
  frame h hf := by
    obtain ⟨v1, v2, F1, F2, h, hi, h1, h2, hd, hF⟩ := h
    exact ⟨v1, v2, F1, F2, h, hi, h1.frame fun b hb => hf b ((hF b).2 (.inl hb)), h2.frame fun b hb => hf b ((hF b).2 (.inr hb)), hd, hF⟩
  cong h hf := by
    obtain ⟨v1, v2, F1, F2, h, hi, h1, h2, hd, hF⟩ := h
    exact ⟨v1, v2, F1, F2, h, hi, h1, h2, hd, fun b => (hf b).symm.trans (hF b)⟩
instance : SlTy MFunc := ⟨22⟩
section
variable {B : Nat} {w0 : World} {H : List Res}
def fnAt (l : List MFunc) (k : Nat) : MFunc := l.getD k default
/-- An element of a slice of functions that nobody writes. -/
theorem SlB.fn {A : Option Addr} {m c k : Nat} {xs : List MFunc} (h : SlB w0 B (.slice A m c) xs) (hk : k < m) : ∃ A1 c1 A2 c2, SlB w0 B (.slice A1 (fnAt xs k).locals.length c1) (fnAt xs k).locals ∧ SlB w0 B (.slice A2 (fnAt xs k).code.length c2) (fnAt xs k).code ∧ (I64 (fnAt xs k).params ∧ I64 (fnAt xs k).result) ∧
    ∀ H w, Cw B w0 H w → ∀ j v, ([.int .i64 (fnAt xs k).params, .slice A1 (fnAt xs k).locals.length c1, .int .i64 (fnAt xs k).result, .slice A2 (fnAt xs k).code.length c2] : List Value)[j]? = some v → w.cell? ⟨ab A, ao A + k * 4 + j, none⟩ = some v := by
  obtain ⟨cs, ⟨v1, v2, hcs, hi, h1, h2⟩, hc⟩ := h.elr hk default
  obtain ⟨A1, c1, rfl, _⟩ := h1.form
  obtain ⟨A2, c2, rfl, _⟩ := h2.form
  subst hcs
  exact ⟨A1, c1, A2, c2, h1, h2, hi, fun H w hw j v hv => hc j v hv H w hw⟩
/-- A function put together of what is one's own. -/
theorem hel_fn {v1 v2 : Value} {f : MFunc} (hi : I64 f.params ∧ I64 f.result) : ∀ (w : World) (F : Nat → Prop), Hs w [ROw v1 f.locals, ROw v2 f.code] F → Ow.own w F [.int .i64 f.params, v1, .int .i64 f.result, v2] f := by
  rintro w F ⟨F1, F2, h1, ⟨F3, F4, h3, h4, h5, h6⟩, hd, hF⟩
  have e : ∀ b, F2 b ↔ F3 b := fun b => by rw [h6 b]; simp [h4 b]
  exact ⟨v1, v2, F1, F3, rfl, hi, h1, h3, fun b hb hb' => hd b hb ((e b).2 hb'), fun b => by rw [hF b, e b]⟩
end

def within (n a b : Int) : Bool := decide (a ≤ n) && decide (n ≤ b)
def fitsO (nf nl nc : Nat) (o : MOp) : Bool :=
  if o.c = 8 ∨ o.c = 9 then within o.a 0 ((nl : Int) - 1) else if o.c = 10 ∨ o.c = 11 then within o.a 0 ((nc : Int) - 1) else if o.c = 12 then within o.a 0 ((nf : Int) - 1) else true
def badKind (t : Int) : Bool := !within t 1 2
def oneE (nf : Nat) (f : MFunc) : Int :=
  if 6 < f.locals.length then 2 else if within f.params 0 f.locals.length = false then 3 else if within f.result 0 2 = false ∨ f.locals.any badKind = true then 6 else if f.code.length = 0 then 5 else
  if codeErr f.code ≠ 0 then codeErr f.code else if f.code.any (fun o => !fitsO nf f.locals.length f.code.length o) = true then 3 else 0
def firstE {α : Type} (g : α → Int) : List α → Int
  | [] => 0
  | f :: l => if g f ≠ 0 then g f else firstE g l
def checkP (fs : List MFunc) : Int :=
  if fs.length = 0 then 5 else if 5 < fs.length then 2 else if firstE (oneE fs.length) fs ≠ 0 then firstE (oneE fs.length) fs else if 0 < (fnAt fs 0).params ∨ (fnAt fs 0).result ≠ 0 then 4 else 0
def funcBytes (f : MFunc) : List UInt8 :=
  [byteOf f.params, byteOf f.locals.length] ++ f.locals.map byteOf ++ [byteOf f.result, byteOf ((codeBytes f.code).length / 256), byteOf (codeBytes f.code).length] ++ codeBytes f.code
def progBytes (fs : List MFunc) : List UInt8 := byteOf fs.length :: fs.flatMap funcBytes
def encodeP (fs : List MFunc) : List UInt8 × Int := if checkP fs ≠ 0 then ([], checkP fs) else (progBytes fs, 0)

/-- A reader: what is left; whether it was short. -/
abbrev Rdr := List UInt8 × Bool
def takeR (r : Rdr) (n : Int) : List UInt8 × Rdr := ((cutB r.1 n).1, (cutB r.1 n).2.1, r.2 || !(cutB r.1 n).2.2)
def oneR (r : Rdr) : Int × Rdr := (match (takeR r 1).1 with | [] => 0 | b :: _ => (b.toNat : Int), (takeR r 1).2)
def localsR : Nat → Rdr → List Int → List Int × Rdr
  | 0, r, acc => (acc, r)
  | k + 1, r, acc => if r.2 then (acc, r) else localsR k (oneR r).2 (acc ++ [(oneR r).1])
def funcR (r : Rdr) : MFunc × Rdr :=
  let p := oneR r
  let n := oneR p.2
  let l := localsR n.1.toNat n.2 []
  let t := oneR l.2
  let a := oneR t.2
  let b := oneR a.2
  let c := takeR b.2 (a.1 * 256 + b.1)
  (⟨p.1, l.1, t.1, (decodeOps c.1).1⟩, c.2.1, c.2.2 || decide ((decodeOps c.1).2 ≠ 0))
def funcsR : Nat → Rdr → List MFunc → List MFunc × Rdr
  | 0, r, acc => (acc, r)
  | k + 1, r, acc => if r.2 then (acc, r) else funcsR k (funcR r).2 (acc ++ [(funcR r).1])
def parseP (s : List UInt8) : List MFunc × Rdr := funcsR (oneR (s, false)).1.toNat (oneR (s, false)).2 []
def decodeP (s : List UInt8) : List MFunc × Int :=
  if 2000 < s.length then ([], 2) else if (parseP s).2.2 = true ∨ (parseP s).2.1 ≠ [] then ([], 1) else if checkP (parseP s).1 ≠ 0 then ([], checkP (parseP s).1) else ((parseP s).1, 0)

theorem firstE_snoc {α : Type} {g : α → Int} {l : List α} {k : Nat} (d : α) (hk : k < l.length) (h : firstE g (l.take k) = 0) : firstE g (l.take (k + 1)) = g (l.getD k d) := by
  induction l generalizing k with
  | nil => simp at hk
  | cons a l ih =>
    cases k with
    | zero => simp [firstE]; intro e; exact e.symm
    | succ k =>
      simp only [List.take_succ_cons, firstE] at h ⊢
      have ha : g a = 0 := by
        by_cases e : g a = 0
        · exact e
        · rw [if_pos e] at h; exact absurd h e
      rw [if_neg (by simp [ha])] at h ⊢
      rw [ih (by simpa using hk) h]
      simp
theorem firstE_of {α : Type} {g : α → Int} {l : List α} {k : Nat} (h : firstE g (l.take k) ≠ 0) : firstE g l = firstE g (l.take k) := by
  induction l generalizing k with
  | nil => simp
  | cons a l ih =>
    cases k with
    | zero => simp [firstE] at h
    | succ k =>
      simp only [List.take_succ_cons, firstE] at h ⊢
      split
      · rfl
      · rename_i e; rw [if_neg e] at h; exact ih h
end Go.Proofs.Ytejpkcheimgdfaa

-- Fl2
/- Flow: ready, where an op goes on. -/
namespace Go.Proofs.Ytejpkcheimgdfaa
open Go.RowKit

set_option maxRecDepth 100000 in
theorem indexfOp (A : Option Addr) (c : Nat) (l : List MOp) (f : FuncId) (cap : Array Value) (p : MOp → Bool) (w : World) (hs : Sl w (.slice A l.length c) l) (hcall : ∀ a w, (callFunc f a).run Try.prog w = .ok (.enter f a) w)
    (hf : ∀ w1, Below w.heap.size w w1 → ∀ k, k < l.length → Calls Try.prog f ([Value.agg #[.int .i64 (opAt l k).c, .int .i64 (opAt l k).a]] ++ cap.toList).toArray w1 fun e w' => e = .returned (.bool (p (opAt l k))) ∧ Below w1.heap.size w1 w') :
    Calls Try.prog 91 #[.slice A l.length c, .func (.func f) #[] cap] w fun e w' => ∃ r : Int, decide (0 ≤ r) = l.any p ∧ e = .returned (.int .i64 r) ∧ Cw w.heap.size w [] w' := by
  have b1 := len_bd hs
  refine enter Try.func91 rfl Try.ntmps91 rfl ?_
  refine cw_seq ?_
  refine cw_region ?_
  refine rw_run tab_ok 1 [(0, _), (1, _)] rfl ⟨rfl, rfl, trivial⟩ ?_
  refine rw_end ?_
  refine cw_seq ?_
  refine cw_seq ?_
  refine cw_region ?_
  refine rw_run tab_ok 1 [(0, _), (1, _), (6, _)] rfl ⟨rfl, rfl, rfl, trivial⟩ ?_
  refine rw_s (qs_len Try.underlying52 rfl rfl) rfl rfl ?_
  refine rw_run tab_ok 1 [(0, _), (1, _), (7, _), (8, _)] rfl ⟨rfl, rfl, rfl, rfl, trivial⟩ ?_
  refine rw_end ?_
  refine cw_block (cw_loop (fun k : Nat => k ≤ l.length ∧ (l.take k).any p = false) (fun k => l.length - k) (fun k => [(0, .slice A l.length c), (1, .func (.func f) #[] cap), (7, .int .i64 (l.length : Int)), (8, .int .i64 (k : Int))]) (fun _ => []) 0 (⟨Nat.zero_le _, rfl⟩) ⟨rfl, rfl, rfl, rfl, trivial⟩ me ?_)
  rintro k hk'
  obtain ⟨hk, hno⟩ : k ≤ l.length ∧ (l.take k).any p = false := hk'
  refine cw_seq ?_
  refine cw_region ?_
  refine rw_run tab_ok 1 [(0, _), (1, _), (7, _), (8, _), (9, _)] rfl ⟨rfl, rfl, rfl, rfl, rfl, trivial⟩ ?_
  refine rw_end ?_
  refine cw_seq ?_
  refine cw_condD rfl (fun hlt => ?_) (fun hlt => ?_)
  · have hkl : k < l.length := by omega
    have hsn := any_take_snoc (p := p) default hkl
    refine cw_skip (xw_then ?_)
    refine cw_seq ?_
    refine cw_block ?_
    refine cw_seq ?_
    refine cw_region ?_
    refine rw_run tab_ok 2 [(0, _), (1, _), (5, _), (7, _), (8, _)] rfl ⟨rfl, rfl, rfl, rfl, rfl, trivial⟩ ?_
    refine rw_end ?_
    refine cw_seq ?_
    refine cw_region ?_
    refine rw_run tab_ok 3 [(0, _), (1, _), (5, _), (7, _), (8, _), (11, _), (12, _), (13, _)] rfl ⟨rfl, rfl, rfl, rfl, rfl, rfl, rfl, rfl, trivial⟩ ?_
    refine rw_s (qs_idx Try.underlying52 Try.sizeOf61 (.ro hs) (by omega) rfl rfl rfl) rfl rfl ?_
    refine rw_s (qs_ldA (cs := [_, _]) (SF.op (.ro hs) (by omega)) rfl rfl Try.isAgg61 Try.sizeOf61) rfl rfl ?_
    refine rw_op (ot_c0K rfl rfl rfl hcall (fun w hw => hf w hw.below k hkl)) rfl rfl (fun _ _ => ?_)
    refine rw_end ?_
    refine cw_cond rfl (fun hp => ?_) (fun hp => ?_)
    · have hp : p (opAt l k) = true := hp
      refine cw_seq ?_
      refine cw_region ?_
      refine rw_run tab_ok 2 [(4, _)] rfl ⟨rfl, trivial⟩ ?_
      refine rw_end ?_
      refine cw_ret (xw_blkr (xw_thenr (xw_thenr (xw_blkr (xw_thenr ?_)))))
      refine xw_ret1 Try.results91 (rv_tmp rfl) ?_
      intro w hw
      refine ⟨(k : Int), ?_, rfl, hw⟩
      have h2 : l.any p = true := List.any_eq_true.2 ⟨_, opAt_mem hkl, hp⟩
      rw [h2]
      exact decide_eq_true (by omega)
    · have hp : p (opAt l k) = false := hp
      refine cw_skip (xw_blkn (xw_then ?_))
      refine cw_region ?_
      refine rw_s (qs_add rfl rfl rfl (by omega)) rfl rfl ?_
      refine rw_run tab_ok 1 [(0, _), (1, _), (7, _), (8, _)] rfl ⟨rfl, rfl, rfl, rfl, trivial⟩ ?_
      refine rw_round (k + 1) ((by refine ⟨by omega, ?_⟩; rw [hsn, hno]; exact hp)) (by show _ - _ < _ - _; omega) ⟨rfl, rfl, rfl, rfl, trivial⟩ me
  · obtain rfl : k = l.length := by omega
    refine cw_exit (xw_thenx (xw_thenx (xw_blk (xw_then ?_))))
    refine cw_seq ?_
    refine cw_region ?_
    refine rw_run tab_ok 1 [(4, _)] rfl ⟨rfl, trivial⟩ ?_
    refine rw_end ?_
    refine cw_ret ?_
    refine xw_ret1 Try.results91 (rv_tmp rfl) ?_
    intro w hw
    refine ⟨-1, ?_, rfl, hw⟩
    rw [List.take_length] at hno
    rw [hno]
    rfl
set_option maxRecDepth 100000 in
theorem containsfOp (A : Option Addr) (c : Nat) (l : List MOp) (f : FuncId) (cap : Array Value) (p : MOp → Bool) (w : World) (hs : Sl w (.slice A l.length c) l) (hcall : ∀ a w, (callFunc f a).run Try.prog w = .ok (.enter f a) w)
    (hf : ∀ w1, Below w.heap.size w w1 → ∀ k, k < l.length → Calls Try.prog f ([Value.agg #[.int .i64 (opAt l k).c, .int .i64 (opAt l k).a]] ++ cap.toList).toArray w1 fun e w' => e = .returned (.bool (p (opAt l k))) ∧ Below w1.heap.size w1 w') :
    Calls Try.prog 73 #[.slice A l.length c, .func (.func f) #[] cap] w fun e w' => e = .returned (.bool (l.any p)) ∧ Below w.heap.size w w' := by
  refine enter Try.func73 rfl Try.ntmps73 rfl ?_
  refine cw_seq ?_
  refine cw_region ?_
  refine rw_run tab_ok 1 [(0, _), (1, _)] rfl ⟨rfl, rfl, trivial⟩ ?_
  refine rw_end ?_
  refine cw_seq ?_
  refine cw_region ?_
  refine rw_run tab_ok 2 [(5, _), (6, _)] rfl ⟨rfl, rfl, trivial⟩ ?_
  refine rw_op (ot_c rfl rfl rfl Try.call91 (fun w hw => indexfOp A c l f cap p w (hw.ro hs) hcall (fun w1 h1 => hf w1 (hw.below.trans (h1.mono hw.le))))) rfl rfl (fun r hr => ?_)
  refine rw_run tab_ok 2 [(4, _)] rfl ⟨rfl, trivial⟩ ?_
  refine rw_end ?_
  refine cw_ret ?_
  refine xw_ret1 Try.results73 (rv_tmp rfl) ?_
  intro w hw
  exact ⟨ret_bool hr, hw.below⟩

set_option maxRecDepth 100000 in
theorem far_any (o : MOp) (g n : Nat) (A : Option Addr) (c : Nat) (w : World) (hg : g < w.heap.size) (hc : w.cell? ⟨g, 0, none⟩ = some (.slice A n c)) :
    Calls Try.prog 82 #[.agg #[.int .i64 o.c, .int .i64 o.a], .pointer (some ⟨g, 0, none⟩)] w fun e w' => e = .returned (.bool (isFar n o)) ∧ Below w.heap.size w w' := by
  refine enter Try.func82 rfl Try.ntmps82 rfl ?_
  refine cw_seq ?_
  refine cw_region ?_
  refine rw_op (ot_box rfl rfl rfl) rfl rfl (fun g1 _ => ?_)
  refine rw_run tab_ok 1 [(1, _), (2, _)] rfl ⟨rfl, rfl, trivial⟩ ?_
  refine rw_end ?_
  refine cw_seq ?_
  refine cw_region ?_
  refine rw_run tab_ok 1 [(1, _), (2, _), (4, _)] rfl ⟨rfl, rfl, rfl, trivial⟩ ?_
  refine rw_s (qs_ldb fc Try.isAgg3 rfl rfl (by rfl)) rfl rfl ?_
  refine rw_run tab_ok 2 [(1, _), (2, _), (7, _)] rfl ⟨rfl, rfl, rfl, trivial⟩ ?_
  refine rw_split (t := 7) rfl (fun h1 => ?_) (fun h1 => ?_)
  · refine rw_run tab_ok 6 [(1, _), (2, _), (12, _), (13, _)] rfl ⟨rfl, rfl, rfl, rfl, trivial⟩ ?_
    refine rw_s (qs_ldb fc Try.isAgg3 rfl rfl (by rfl)) rfl rfl ?_
    refine rw_run tab_ok 2 [(1, _), (2, _), (12, _), (16, _)] rfl ⟨rfl, rfl, rfl, rfl, trivial⟩ ?_
    refine rw_split (t := 16) rfl (fun h2 => ?_) (fun h2 => ?_)
    · refine rw_run tab_ok 8 [(3, _)] rfl ⟨rfl, trivial⟩ ?_
      refine rw_end ?_
      refine cw_ret ?_
      refine xw_ret1 Try.results82 (rv_tmp rfl) ?_
      intro w hw
      exact ⟨ret_bool (by unfold isFar; rw [h1, h2]; rfl), hw.below⟩
    · refine rw_run tab_ok 1 [(1, _), (12, _), (16, _), (17, _)] rfl ⟨rfl, rfl, rfl, rfl, trivial⟩ ?_
      refine rw_s (qs_ldb fc Try.isAgg3 rfl rfl (by rfl)) rfl rfl ?_
      refine rw_s (qs_ld (fun w hw => (hw.below.cell hg).trans hc) rfl rfl Try.isAgg52) rfl rfl ?_
      refine rw_s (qs_len Try.underlying52 rfl rfl) rfl rfl ?_
      refine rw_run tab_ok 4 [(3, _)] rfl ⟨rfl, trivial⟩ ?_
      refine rw_end ?_
      refine cw_ret ?_
      refine xw_ret1 Try.results82 (rv_tmp rfl) ?_
      intro w hw
      exact ⟨ret_bool (by unfold isFar; rw [h1, h2]; rfl), hw.below⟩
  · refine rw_run tab_ok 1 [(1, _), (2, _), (7, _), (8, _)] rfl ⟨rfl, rfl, rfl, rfl, trivial⟩ ?_
    refine rw_s (qs_ldb fc Try.isAgg3 rfl rfl (by rfl)) rfl rfl ?_
    refine rw_run tab_ok 3 [(1, _), (2, _), (12, _)] rfl ⟨rfl, rfl, rfl, trivial⟩ ?_
    refine rw_split (t := 12) rfl (fun h3 => ?_) (fun h3 => ?_)
    · refine rw_run tab_ok 1 [(1, _), (2, _), (12, _), (13, _)] rfl ⟨rfl, rfl, rfl, rfl, trivial⟩ ?_
      refine rw_s (qs_ldb fc Try.isAgg3 rfl rfl (by rfl)) rfl rfl ?_
      refine rw_run tab_ok 2 [(1, _), (2, _), (12, _), (16, _)] rfl ⟨rfl, rfl, rfl, rfl, trivial⟩ ?_
      refine rw_split (t := 16) rfl (fun h2 => ?_) (fun h2 => ?_)
      · refine rw_run tab_ok 8 [(3, _)] rfl ⟨rfl, trivial⟩ ?_
        refine rw_end ?_
        refine cw_ret ?_
        refine xw_ret1 Try.results82 (rv_tmp rfl) ?_
        intro w hw
        exact ⟨ret_bool (by unfold isFar; rw [h1, h2, h3]; rfl), hw.below⟩
      · refine rw_run tab_ok 1 [(1, _), (12, _), (16, _), (17, _)] rfl ⟨rfl, rfl, rfl, rfl, trivial⟩ ?_
        refine rw_s (qs_ldb fc Try.isAgg3 rfl rfl (by rfl)) rfl rfl ?_
        refine rw_s (qs_ld (fun w hw => (hw.below.cell hg).trans hc) rfl rfl Try.isAgg52) rfl rfl ?_
        refine rw_s (qs_len Try.underlying52 rfl rfl) rfl rfl ?_
        refine rw_run tab_ok 4 [(3, _)] rfl ⟨rfl, trivial⟩ ?_
        refine rw_end ?_
        refine cw_ret ?_
        refine xw_ret1 Try.results82 (rv_tmp rfl) ?_
        intro w hw
        exact ⟨ret_bool (by unfold isFar; rw [h1, h2, h3]; rfl), hw.below⟩
    · refine rw_run tab_ok 12 [(3, _)] rfl ⟨rfl, trivial⟩ ?_
      refine rw_end ?_
      refine cw_ret ?_
      refine xw_ret1 Try.results82 (rv_tmp rfl) ?_
      intro w hw
      exact ⟨ret_bool (by unfold isFar; rw [h1, h3]; rfl), hw.below⟩

set_option maxRecDepth 100000 in
theorem ready_any (A : Option Addr) (c : Nat) (l : List MOp) (w : World) (hs : Sl w (.slice A l.length c) l) :
    Calls Try.prog 57 #[.slice A l.length c] w fun e w' => e = .returned (.int .i64 (flowE l)) ∧ Below w.heap.size w w' := by
  refine enter Try.func57 rfl Try.ntmps57 rfl ?_
  refine cw_seq ?_
  refine cw_region ?_
  refine rw_op (ot_box rfl rfl rfl) rfl rfl (fun g1 _ => ?_)
  refine rw_run tab_ok 1 [(1, _)] rfl ⟨rfl, trivial⟩ ?_
  refine rw_end ?_
  refine cw_seq ?_
  refine cw_seq ?_
  refine cw_region ?_
  refine rw_s (qs_ldb fc Try.isAgg52 rfl rfl (by rfl)) rfl rfl ?_
  refine rw_op (ot_c0 rfl rfl rfl Try.call72 (fun w hw => code_any _ l w (hw.ro hs))) rfl rfl (fun _ _ => ?_)
  refine rw_run tab_ok 1 [(1, _), (3, _)] rfl ⟨rfl, rfl, trivial⟩ ?_
  refine rw_end ?_
  refine cw_seq ?_
  refine cw_region ?_
  refine rw_run tab_ok 2 [(1, _), (3, _), (8, _)] rfl ⟨rfl, rfl, rfl, trivial⟩ ?_
  refine rw_end ?_
  refine cw_condN rfl (fun hz => ?_) (fun hz => ?_)
  · refine cw_seq ?_
    refine cw_region ?_
    refine rw_run tab_ok 2 [(2, _)] rfl ⟨rfl, trivial⟩ ?_
    refine rw_end ?_
    refine cw_ret (xw_thenr ?_)
    refine xw_ret1 Try.results57 (rv_tmp rfl) ?_
    intro w hw
    exact ⟨reti (by unfold flowE; rw [if_neg hz]), hw.below⟩
  · refine cw_skip (xw_then ?_)
    refine cw_seq ?_
    refine cw_seq ?_
    refine cw_region ?_
    refine rw_s (qs_ldb fc Try.isAgg52 rfl rfl (by rfl)) rfl rfl ?_
    refine rw_s (qs_len Try.underlying52 rfl rfl) rfl rfl ?_
    refine rw_run tab_ok 1 [(1, _), (12, _)] rfl ⟨rfl, rfl, trivial⟩ ?_
    refine rw_end ?_
    refine cw_condD rfl (fun h0 => ?_) (fun h0 => ?_)
    · refine cw_seq ?_
      refine cw_region ?_
      refine rw_run tab_ok 1 [(2, _)] rfl ⟨rfl, trivial⟩ ?_
      refine rw_end ?_
      refine cw_ret (xw_thenr ?_)
      refine xw_ret1 Try.results57 (rv_tmp rfl) ?_
      intro w hw
      exact ⟨reti (by unfold flowE; rw [if_pos hz, if_pos (by omega)]), hw.below⟩
    · refine cw_skip (xw_then ?_)
      refine cw_seq ?_
      refine cw_region ?_
      refine rw_run tab_ok 2 [(1, _), (4, _)] rfl ⟨rfl, rfl, trivial⟩ ?_
      refine rw_end ?_
      refine cw_seq ?_
      refine cw_seq ?_
      refine cw_region ?_
      refine rw_s (qs_ldb fc Try.isAgg52 rfl rfl (by rfl)) rfl rfl ?_
      refine rw_run tab_ok 1 [(14, _), (15, _)] rfl ⟨rfl, rfl, trivial⟩ ?_
      refine rw_op (ot_c0 rfl rfl rfl Try.call73 (fun w hw => containsfOp A c l _ _ (isFar l.length) w (hw.ro hs) Try.call82 (fun w1 h1 k hk => far_any (opAt l k) g1 l.length A c w1 (Nat.lt_of_lt_of_le (box_lt hw fc) h1.size) ((h1.cell (box_lt hw fc)).trans (box_cell fc rfl w hw))))) rfl rfl (fun _ _ => ?_)
      refine rw_end ?_
      refine cw_cond rfl (fun hf => ?_) (fun hf => ?_)
      · have hf : l.any (isFar l.length) = true := hf
        refine cw_seq ?_
        refine cw_region ?_
        refine rw_run tab_ok 1 [(2, _)] rfl ⟨rfl, trivial⟩ ?_
        refine rw_end ?_
        refine cw_ret (xw_thenr ?_)
        refine xw_ret1 Try.results57 (rv_tmp rfl) ?_
        intro w hw
        exact ⟨reti (by unfold flowE; rw [if_pos hz, if_neg (by omega), if_pos hf]), hw.below⟩
      · have hf : l.any (isFar l.length) = false := hf
        refine cw_skip (xw_then ?_)
        refine cw_seq ?_
        refine cw_region ?_
        refine rw_run tab_ok 1 [(2, _)] rfl ⟨rfl, trivial⟩ ?_
        refine rw_end ?_
        refine cw_ret ?_
        refine xw_ret1 Try.results57 (rv_tmp rfl) ?_
        intro w hw
        exact ⟨reti (by unfold flowE; rw [if_pos hz, if_neg (by omega), hf]; rfl), hw.below⟩

/-- The document's. -/
def flE (l : List MOp) : Int := if codeErr l = 0 then (if l.length = 0 then 5 else 0) else codeErr l
def flAt (l : List MOp) (i : Nat) : Int := if flE l = 0 then (if (l.take i).any (isFar l.length) then 3 else 0) else flE l
theorem flAt_zero (l : List MOp) : flAt l 0 = flE l := by
  unfold flAt
  split
  · rename_i h; rw [h]; rfl
  · rfl
theorem flAt_is {l : List MOp} {i : Nat} (h : flAt l i = 0) : flE l = 0 ∧ (l.take i).any (isFar l.length) = false := by
  unfold flAt at h
  split at h
  · rename_i h0
    refine ⟨h0, ?_⟩
    split at h
    · cases h
    · rename_i h1; simpa using h1
  · rename_i h0; exact absurd h h0
theorem flAt_end {l : List MOp} {i : Nat} (h : i = l.length ∨ flAt l i ≠ 0) : flAt l i = flowE l := by
  unfold flowE
  by_cases h0 : flE l = 0
  · have h1 : codeErr l = 0 ∧ ¬ l.length = 0 := by
      unfold flE at h0
      split at h0
      · rename_i e
        split at h0
        · cases h0
        · rename_i e2; exact ⟨e, e2⟩
      · rename_i e; exact absurd h0 e
    rw [if_pos h1.1, if_neg h1.2]
    unfold flAt at h ⊢
    rw [if_pos h0] at h ⊢
    rcases h with h | h
    · subst h; rw [List.take_length]
    · split at h
      · rename_i h2
        rw [if_pos h2, if_pos]
        obtain ⟨x, hx, hb⟩ := List.any_eq_true.1 h2
        exact List.any_eq_true.2 ⟨x, List.mem_of_mem_take hx, hb⟩
      · exact absurd rfl h
  · unfold flAt
    rw [if_neg h0]
    unfold flE at h0 ⊢
    split
    · rename_i e
      rw [if_pos e] at h0
      split
      · rfl
      · rename_i e2; rw [if_neg e2] at h0; exact absurd rfl h0
    · rfl
theorem flAt_step {l : List MOp} {i : Nat} {b : Bool} (hi : i < l.length) (h : flAt l i = 0) (hb : isFar l.length (opAt l i) = b) : flAt l (i + 1) = if b then 3 else 0 := by
  obtain ⟨h1, h2⟩ := flAt_is h
  unfold flAt
  rw [if_pos h1, any_take_snoc default hi, h2, Bool.false_or]
  unfold opAt at hb
  rw [hb]
theorem far_of {n : Nat} {o : MOp} {x b : Bool} (hx : (decide (o.c = 10) || decide (o.c = 11)) = x) (hb : (!(decide (0 ≤ o.a) && decide (o.a ≤ (n : Int) - 1))) = b) : isFar n o = (x && b) := by
  unfold isFar
  rw [hx, ← hb]
  congr 1
  rw [Bool.eq_iff_iff]
  simp
  omega
end Go.Proofs.Ytejpkcheimgdfaa

-- Pr2
/- Programs: Check. -/
namespace Go.Proofs.Ytejpkcheimgdfaa
open Go.RowKit

set_option maxRecDepth 100000 in
theorem within_any (n a b : Int) (w : World) : Calls Try.prog 70 #[.int .i64 n, .int .i64 a, .int .i64 b] w fun e w' => e = .returned (.bool (within n a b)) ∧ Below w.heap.size w w' := by
  refine enter Try.func70 rfl Try.ntmps70 rfl ?_
  refine cw_seq ?_
  refine cw_region ?_
  refine rw_run tab_ok 1 [(0, _), (1, _), (2, _)] rfl ⟨rfl, rfl, rfl, trivial⟩ ?_
  refine rw_end ?_
  refine cw_seq ?_
  refine cw_region ?_
  refine rw_run tab_ok 4 [(0, _), (2, _), (10, _)] rfl ⟨rfl, rfl, rfl, trivial⟩ ?_
  refine rw_split (t := 10) rfl (fun h1 => ?_) (fun h1 => ?_)
  · refine rw_run tab_ok 5 [(6, _)] rfl ⟨rfl, trivial⟩ ?_
    refine rw_end ?_
    refine cw_ret ?_
    refine xw_ret1 Try.results70 (rv_tmp rfl) ?_
    intro w hw
    exact ⟨ret_bool (by unfold within; rw [h1]; rfl), hw.below⟩
  · refine rw_run tab_ok 5 [(6, _)] rfl ⟨rfl, trivial⟩ ?_
    refine rw_end ?_
    refine cw_ret ?_
    refine xw_ret1 Try.results70 (rv_tmp rfl) ?_
    intro w hw
    exact ⟨ret_bool (by unfold within; rw [h1]; rfl), hw.below⟩
set_option maxRecDepth 100000 in
theorem kind_any (t : Int) (w : World) : Calls Try.prog 71 #[.int .i64 t] w fun e w' => e = .returned (.bool (badKind t)) ∧ Below w.heap.size w w' := by
  refine enter Try.func71 rfl Try.ntmps71 rfl ?_
  refine cw_seq ?_
  refine cw_region ?_
  refine rw_run tab_ok 1 [(0, _)] rfl ⟨rfl, trivial⟩ ?_
  refine rw_end ?_
  refine cw_seq ?_
  refine cw_region ?_
  refine rw_run tab_ok 1 [(3, _)] rfl ⟨rfl, trivial⟩ ?_
  refine rw_op (ot_c0 rfl rfl rfl Try.call70 (fun w hw => within_any t 1 2 w)) rfl rfl (fun _ _ => ?_)
  refine rw_run tab_ok 2 [(2, _)] rfl ⟨rfl, trivial⟩ ?_
  refine rw_end ?_
  refine cw_ret ?_
  refine xw_ret1 Try.results71 (rv_tmp rfl) ?_
  intro w hw
  exact ⟨rfl, hw.below⟩
set_option maxRecDepth 100000 in
theorem indexfInt (A : Option Addr) (c : Nat) (l : List Int) (f : FuncId) (cap : Array Value) (p : Int → Bool) (w : World) (hs : Sl w (.slice A l.length c) l) (hcall : ∀ a w, (callFunc f a).run Try.prog w = .ok (.enter f a) w)
    (hf : ∀ w1, Below w.heap.size w w1 → ∀ x, x ∈ l → Calls Try.prog f ([Value.int .i64 x] ++ cap.toList).toArray w1 fun e w' => e = .returned (.bool (p x)) ∧ Below w1.heap.size w1 w') :
    Calls Try.prog 78 #[.slice A l.length c, .func (.func f) #[] cap] w fun e w' => ∃ r : Int, decide (0 ≤ r) = l.any p ∧ e = .returned (.int .i64 r) ∧ Cw w.heap.size w [] w' := by
  have b1 := len_bd hs
  refine enter Try.func78 rfl Try.ntmps78 rfl ?_
  refine cw_seq ?_
  refine cw_region ?_
  refine rw_run tab_ok 1 [(0, _), (1, _)] rfl ⟨rfl, rfl, trivial⟩ ?_
  refine rw_end ?_
  refine cw_seq ?_
  refine cw_seq ?_
  refine cw_region ?_
  refine rw_run tab_ok 1 [(0, _), (1, _), (6, _)] rfl ⟨rfl, rfl, rfl, trivial⟩ ?_
  refine rw_s (qs_len Try.underlying35 rfl rfl) rfl rfl ?_
  refine rw_run tab_ok 1 [(0, _), (1, _), (7, _), (8, _)] rfl ⟨rfl, rfl, rfl, rfl, trivial⟩ ?_
  refine rw_end ?_
  refine cw_block (cw_loop (fun k : Nat => k ≤ l.length ∧ (l.take k).any p = false) (fun k => l.length - k) (fun k => [(0, .slice A l.length c), (1, .func (.func f) #[] cap), (7, .int .i64 (l.length : Int)), (8, .int .i64 (k : Int))]) (fun _ => []) 0 (⟨Nat.zero_le _, rfl⟩) ⟨rfl, rfl, rfl, rfl, trivial⟩ me ?_)
  rintro k hk'
  obtain ⟨hk, hno⟩ : k ≤ l.length ∧ (l.take k).any p = false := hk'
  refine cw_seq ?_
  refine cw_region ?_
  refine rw_run tab_ok 1 [(0, _), (1, _), (7, _), (8, _), (9, _)] rfl ⟨rfl, rfl, rfl, rfl, rfl, trivial⟩ ?_
  refine rw_end ?_
  refine cw_seq ?_
  refine cw_condD rfl (fun hlt => ?_) (fun hlt => ?_)
  · have hkl : k < l.length := by omega
    have hm : l.getD k 0 ∈ l := by rw [List.getD_eq_getElem?_getD, List.getElem?_eq_getElem hkl]; exact List.getElem_mem hkl
    have hsn := any_take_snoc (p := p) 0 hkl
    refine cw_skip (xw_then ?_)
    refine cw_seq ?_
    refine cw_block ?_
    refine cw_seq ?_
    refine cw_region ?_
    refine rw_run tab_ok 2 [(0, _), (1, _), (5, _), (7, _), (8, _)] rfl ⟨rfl, rfl, rfl, rfl, rfl, trivial⟩ ?_
    refine rw_end ?_
    refine cw_seq ?_
    refine cw_region ?_
    refine rw_run tab_ok 3 [(0, _), (1, _), (5, _), (7, _), (8, _), (11, _), (12, _), (13, _)] rfl ⟨rfl, rfl, rfl, rfl, rfl, rfl, rfl, rfl, trivial⟩ ?_
    refine rw_s (qs_idx Try.underlying35 Try.sizeOf3 (.ro hs) (by omega) rfl rfl rfl) rfl rfl ?_
    refine rw_s (qs_ld (SF.int (.ro hs) (by omega)) rfl rfl Try.isAgg3) rfl rfl ?_
    refine rw_op (ot_c0K rfl rfl rfl hcall (fun w hw => hf w hw.below (l.getD k 0) hm)) rfl rfl (fun _ _ => ?_)
    refine rw_end ?_
    refine cw_cond rfl (fun hp => ?_) (fun hp => ?_)
    · have hp : p (l.getD k 0) = true := hp
      refine cw_seq ?_
      refine cw_region ?_
      refine rw_run tab_ok 2 [(4, _)] rfl ⟨rfl, trivial⟩ ?_
      refine rw_end ?_
      refine cw_ret (xw_blkr (xw_thenr (xw_thenr (xw_blkr (xw_thenr ?_)))))
      refine xw_ret1 Try.results78 (rv_tmp rfl) ?_
      intro w hw
      refine ⟨(k : Int), ?_, rfl, hw⟩
      have h2 : l.any p = true := List.any_eq_true.2 ⟨_, hm, hp⟩
      rw [h2]
      exact decide_eq_true (by omega)
    · have hp : p (l.getD k 0) = false := hp
      refine cw_skip (xw_blkn (xw_then ?_))
      refine cw_region ?_
      refine rw_s (qs_add rfl rfl rfl (by omega)) rfl rfl ?_
      refine rw_run tab_ok 1 [(0, _), (1, _), (7, _), (8, _)] rfl ⟨rfl, rfl, rfl, rfl, trivial⟩ ?_
      refine rw_round (k + 1) ((by refine ⟨by omega, ?_⟩; rw [hsn, hno]; exact hp)) (by show _ - _ < _ - _; omega) ⟨rfl, rfl, rfl, rfl, trivial⟩ me
  · obtain rfl : k = l.length := by omega
    refine cw_exit (xw_thenx (xw_thenx (xw_blk (xw_then ?_))))
    refine cw_seq ?_
    refine cw_region ?_
    refine rw_run tab_ok 1 [(4, _)] rfl ⟨rfl, trivial⟩ ?_
    refine rw_end ?_
    refine cw_ret ?_
    refine xw_ret1 Try.results78 (rv_tmp rfl) ?_
    intro w hw
    refine ⟨-1, ?_, rfl, hw⟩
    rw [List.take_length] at hno
    rw [hno]
    rfl
set_option maxRecDepth 100000 in
theorem containsfInt (A : Option Addr) (c : Nat) (l : List Int) (f : FuncId) (cap : Array Value) (p : Int → Bool) (w : World) (hs : Sl w (.slice A l.length c) l) (hcall : ∀ a w, (callFunc f a).run Try.prog w = .ok (.enter f a) w)
    (hf : ∀ w1, Below w.heap.size w w1 → ∀ x, x ∈ l → Calls Try.prog f ([Value.int .i64 x] ++ cap.toList).toArray w1 fun e w' => e = .returned (.bool (p x)) ∧ Below w1.heap.size w1 w') :
    Calls Try.prog 50 #[.slice A l.length c, .func (.func f) #[] cap] w fun e w' => e = .returned (.bool (l.any p)) ∧ Below w.heap.size w w' := by
  refine enter Try.func50 rfl Try.ntmps50 rfl ?_
  refine cw_seq ?_
  refine cw_region ?_
  refine rw_run tab_ok 1 [(0, _), (1, _)] rfl ⟨rfl, rfl, trivial⟩ ?_
  refine rw_end ?_
  refine cw_seq ?_
  refine cw_region ?_
  refine rw_run tab_ok 2 [(5, _), (6, _)] rfl ⟨rfl, rfl, trivial⟩ ?_
  refine rw_op (ot_c rfl rfl rfl Try.call78 (fun w hw => indexfInt A c l f cap p w (hw.ro hs) hcall (fun w1 h1 => hf w1 (hw.below.trans (h1.mono hw.le))))) rfl rfl (fun r hr => ?_)
  refine rw_run tab_ok 2 [(4, _)] rfl ⟨rfl, trivial⟩ ?_
  refine rw_end ?_
  refine cw_ret ?_
  refine xw_ret1 Try.results50 (rv_tmp rfl) ?_
  intro w hw
  exact ⟨ret_bool hr, hw.below⟩

set_option maxRecDepth 100000 in
theorem fits_any (Ap A1 A2 : Option Addr) (cp c1 c2 n nl nc : Nat) (pa re : Int) (o : MOp) (w : World) (hn : n ≤ 140737488355328) (hnl : nl ≤ 140737488355328) (hnc : nc ≤ 140737488355328) :
    Calls Try.prog 75 #[.agg #[.slice Ap n cp], .agg #[.int .i64 pa, .slice A1 nl c1, .int .i64 re, .slice A2 nc c2], .agg #[.int .i64 o.c, .int .i64 o.a]] w fun e w' => e = .returned (.bool (fitsO n nl nc o)) ∧ Below w.heap.size w w' := by
  refine enter Try.func75 rfl Try.ntmps75 rfl ?_
  refine cw_seq ?_
  refine cw_region ?_
  refine rw_op (ot_box rfl rfl rfl) rfl rfl (fun g1 _ => ?_)
  refine rw_op (ot_box rfl rfl rfl) rfl rfl (fun g2 _ => ?_)
  refine rw_op (ot_box rfl rfl rfl) rfl rfl (fun g3 _ => ?_)
  refine rw_run tab_ok 1 [(3, _), (4, _), (5, _)] rfl ⟨rfl, rfl, rfl, trivial⟩ ?_
  refine rw_end ?_
  refine cw_seq ?_
  refine cw_seq ?_
  refine cw_region ?_
  refine rw_run tab_ok 1 [(3, _), (4, _), (5, _), (7, _)] rfl ⟨rfl, rfl, rfl, rfl, trivial⟩ ?_
  refine rw_s (qs_ldb fc Try.isAgg3 rfl rfl (by rfl)) rfl rfl ?_
  refine rw_end ?_
  refine cw_block ?_
  refine cw_seq ?_
  refine cw_seq ?_
  refine cw_region ?_
  refine rw_run tab_ok 2 [(3, _), (4, _), (5, _), (8, _), (9, _)] rfl ⟨rfl, rfl, rfl, rfl, rfl, trivial⟩ ?_
  refine rw_end ?_
  refine cw_condD rfl (fun h1 => ?_) (fun h1 => ?_)
  · refine cw_skip (xw_then ?_)
    refine cw_as (t := 9) (v' := .bool true) rfl (by rw [decide_eq_true h1]) ?_
    refine cw_cond_t rfl ?_
    refine cw_seq ?_
    refine cw_region ?_
    refine rw_run tab_ok 1 [(4, _), (12, _)] rfl ⟨rfl, rfl, trivial⟩ ?_
    refine rw_s (qs_ldb fc Try.isAgg3 rfl rfl (by rfl)) rfl rfl ?_
    refine rw_run tab_ok 1 [(13, _), (14, _)] rfl ⟨rfl, rfl, trivial⟩ ?_
    refine rw_s (qs_ldb fc Try.isAgg35 rfl rfl (by rfl)) rfl rfl ?_
    refine rw_s (qs_len Try.underlying35 rfl rfl) rfl rfl ?_
    refine rw_s (qs_sub rfl rfl rfl (by omega)) rfl rfl ?_
    refine rw_op (ot_c0 rfl rfl rfl Try.call70 (fun w hw => within_any _ _ _ w)) rfl rfl (fun _ _ => ?_)
    refine rw_run tab_ok 1 [(6, _)] rfl ⟨rfl, trivial⟩ ?_
    refine rw_end ?_
    refine cw_ret (xw_blkr (xw_thenr ?_))
    refine xw_ret1 Try.results75 (rv_tmp rfl) ?_
    intro w hw
    exact ⟨ret_bool (by unfold fitsO; rw [if_pos (.inl h1)]), hw.below⟩
  · refine cw_region ?_
    refine rw_run tab_ok 2 [(3, _), (4, _), (5, _), (8, _), (9, _)] rfl ⟨rfl, rfl, rfl, rfl, rfl, trivial⟩ ?_
    refine rw_end ?_
    refine cw_condD rfl (fun h2 => ?_) (fun h2 => ?_)
    · refine cw_seq ?_
      refine cw_region ?_
      refine rw_run tab_ok 1 [(4, _), (12, _)] rfl ⟨rfl, rfl, trivial⟩ ?_
      refine rw_s (qs_ldb fc Try.isAgg3 rfl rfl (by rfl)) rfl rfl ?_
      refine rw_run tab_ok 1 [(13, _), (14, _)] rfl ⟨rfl, rfl, trivial⟩ ?_
      refine rw_s (qs_ldb fc Try.isAgg35 rfl rfl (by rfl)) rfl rfl ?_
      refine rw_s (qs_len Try.underlying35 rfl rfl) rfl rfl ?_
      refine rw_s (qs_sub rfl rfl rfl (by omega)) rfl rfl ?_
      refine rw_op (ot_c0 rfl rfl rfl Try.call70 (fun w hw => within_any _ _ _ w)) rfl rfl (fun _ _ => ?_)
      refine rw_run tab_ok 1 [(6, _)] rfl ⟨rfl, trivial⟩ ?_
      refine rw_end ?_
      refine cw_ret (xw_blkr (xw_thenr ?_))
      refine xw_ret1 Try.results75 (rv_tmp rfl) ?_
      intro w hw
      exact ⟨ret_bool (by unfold fitsO; rw [if_pos (.inr h2)]), hw.below⟩
    · have h12 : ¬ (o.c = 8 ∨ o.c = 9) := by omega
      refine cw_seq ?_
      refine cw_seq ?_
      refine cw_region ?_
      refine rw_run tab_ok 2 [(3, _), (4, _), (5, _), (8, _), (19, _)] rfl ⟨rfl, rfl, rfl, rfl, rfl, trivial⟩ ?_
      refine rw_end ?_
      refine cw_condD rfl (fun h3 => ?_) (fun h3 => ?_)
      · refine cw_skip (xw_then ?_)
        refine cw_as (t := 19) (v' := .bool true) rfl (by rw [decide_eq_true h3]) ?_
        refine cw_cond_t rfl ?_
        refine cw_seq ?_
        refine cw_region ?_
        refine rw_run tab_ok 1 [(4, _), (22, _)] rfl ⟨rfl, rfl, trivial⟩ ?_
        refine rw_s (qs_ldb fc Try.isAgg3 rfl rfl (by rfl)) rfl rfl ?_
        refine rw_run tab_ok 1 [(23, _), (24, _)] rfl ⟨rfl, rfl, trivial⟩ ?_
        refine rw_s (qs_ldb fc Try.isAgg52 rfl rfl (by rfl)) rfl rfl ?_
        refine rw_s (qs_len Try.underlying52 rfl rfl) rfl rfl ?_
        refine rw_s (qs_sub rfl rfl rfl (by omega)) rfl rfl ?_
        refine rw_op (ot_c0 rfl rfl rfl Try.call70 (fun w hw => within_any _ _ _ w)) rfl rfl (fun _ _ => ?_)
        refine rw_run tab_ok 1 [(6, _)] rfl ⟨rfl, trivial⟩ ?_
        refine rw_end ?_
        refine cw_ret (xw_blkr (xw_thenr ?_))
        refine xw_ret1 Try.results75 (rv_tmp rfl) ?_
        intro w hw
        exact ⟨ret_bool (by unfold fitsO; rw [if_neg h12, if_pos (.inl h3)]), hw.below⟩
      · refine cw_region ?_
        refine rw_run tab_ok 2 [(3, _), (4, _), (5, _), (8, _), (19, _)] rfl ⟨rfl, rfl, rfl, rfl, rfl, trivial⟩ ?_
        refine rw_end ?_
        refine cw_condD rfl (fun h4 => ?_) (fun h4 => ?_)
        · refine cw_seq ?_
          refine cw_region ?_
          refine rw_run tab_ok 1 [(4, _), (22, _)] rfl ⟨rfl, rfl, trivial⟩ ?_
          refine rw_s (qs_ldb fc Try.isAgg3 rfl rfl (by rfl)) rfl rfl ?_
          refine rw_run tab_ok 1 [(23, _), (24, _)] rfl ⟨rfl, rfl, trivial⟩ ?_
          refine rw_s (qs_ldb fc Try.isAgg52 rfl rfl (by rfl)) rfl rfl ?_
          refine rw_s (qs_len Try.underlying52 rfl rfl) rfl rfl ?_
          refine rw_s (qs_sub rfl rfl rfl (by omega)) rfl rfl ?_
          refine rw_op (ot_c0 rfl rfl rfl Try.call70 (fun w hw => within_any _ _ _ w)) rfl rfl (fun _ _ => ?_)
          refine rw_run tab_ok 1 [(6, _)] rfl ⟨rfl, trivial⟩ ?_
          refine rw_end ?_
          refine cw_ret (xw_blkr (xw_thenr ?_))
          refine xw_ret1 Try.results75 (rv_tmp rfl) ?_
          intro w hw
          exact ⟨ret_bool (by unfold fitsO; rw [if_neg h12, if_pos (.inr h4)]), hw.below⟩
        · have h34 : ¬ (o.c = 10 ∨ o.c = 11) := by omega
          refine cw_seq ?_
          refine cw_region ?_
          refine rw_run tab_ok 2 [(3, _), (5, _), (29, _)] rfl ⟨rfl, rfl, rfl, trivial⟩ ?_
          refine rw_end ?_
          refine cw_condD rfl (fun h5 => ?_) (fun h5 => ?_)
          · refine cw_seq ?_
            refine cw_region ?_
            refine rw_run tab_ok 1 [(3, _), (31, _)] rfl ⟨rfl, rfl, trivial⟩ ?_
            refine rw_s (qs_ldb fc Try.isAgg3 rfl rfl (by rfl)) rfl rfl ?_
            refine rw_run tab_ok 1 [(32, _), (33, _)] rfl ⟨rfl, rfl, trivial⟩ ?_
            refine rw_s (qs_ldb fc Try.isAgg22 rfl rfl (by rfl)) rfl rfl ?_
            refine rw_s (qs_len Try.underlying22 rfl rfl) rfl rfl ?_
            refine rw_s (qs_sub rfl rfl rfl (by omega)) rfl rfl ?_
            refine rw_op (ot_c0 rfl rfl rfl Try.call70 (fun w hw => within_any _ _ _ w)) rfl rfl (fun _ _ => ?_)
            refine rw_run tab_ok 1 [(6, _)] rfl ⟨rfl, trivial⟩ ?_
            refine rw_end ?_
            refine cw_ret (xw_blkr (xw_thenr ?_))
            refine xw_ret1 Try.results75 (rv_tmp rfl) ?_
            intro w hw
            exact ⟨ret_bool (by unfold fitsO; rw [if_neg h12, if_neg h34, if_pos h5]), hw.below⟩
          · refine cw_skip (xw_blkn (xw_then ?_))
            refine cw_seq ?_
            refine cw_region ?_
            refine rw_run tab_ok 1 [(6, _)] rfl ⟨rfl, trivial⟩ ?_
            refine rw_end ?_
            refine cw_ret ?_
            refine xw_ret1 Try.results75 (rv_tmp rfl) ?_
            intro w hw
            exact ⟨ret_bool (by unfold fitsO; rw [if_neg h12, if_neg h34, if_neg h5]), hw.below⟩
end Go.Proofs.Ytejpkcheimgdfaa

-- Pr3
/- Programs: Check, whole. -/
namespace Go.Proofs.Ytejpkcheimgdfaa
open Go.RowKit

theorem box_all {B : Nat} {w0 : World} {H H' : List Res} {g : Nat} {cs : List Value} {T : TypeId} (hp : Foc H (RBox g cs T) H') : ∀ w, Cw B w0 H w → ∀ j v, cs[j]? = some v → w.cell? ⟨g, 0 + j, none⟩ = some v := fun w hw j v hv => by
  rw [Nat.zero_add]
  exact box_cell hp (by rw [nth_eq]; exact hv) w hw
set_option maxRecDepth 100000 in
theorem one2_any (o : MOp) (gp gf : Nat) (Ap A1 A2 : Option Addr) (cp c1 c2 n nl nc : Nat) (pa re : Int) (w : World) (hn : n ≤ 140737488355328) (hnl : nl ≤ 140737488355328) (hnc : nc ≤ 140737488355328) (hgp : gp < w.heap.size) (hgf : gf < w.heap.size)
    (hcp : ∀ j v, ([.slice Ap n cp] : List Value)[j]? = some v → w.cell? ⟨gp, 0 + j, none⟩ = some v) (hcf : ∀ j v, ([.int .i64 pa, .slice A1 nl c1, .int .i64 re, .slice A2 nc c2] : List Value)[j]? = some v → w.cell? ⟨gf, 0 + j, none⟩ = some v) :
    Calls Try.prog 74 #[.agg #[.int .i64 o.c, .int .i64 o.a], .pointer (some ⟨gp, 0, none⟩), .pointer (some ⟨gf, 0, none⟩)] w fun e w' => e = .returned (.bool (!fitsO n nl nc o)) ∧ Below w.heap.size w w' := by
  refine enter Try.func74 rfl Try.ntmps74 rfl ?_
  refine cw_seq ?_
  refine cw_region ?_
  refine rw_op (ot_box rfl rfl rfl) rfl rfl (fun g1 _ => ?_)
  refine rw_run tab_ok 1 [(1, _), (2, _), (3, _)] rfl ⟨rfl, rfl, rfl, trivial⟩ ?_
  refine rw_end ?_
  refine cw_seq ?_
  refine cw_region ?_
  refine rw_s (qs_ldA (fun w hw j v hv => (hw.below.cell hgp).trans (hcp j v hv)) rfl rfl Try.isAgg24 Try.sizeOf24) rfl rfl ?_
  refine rw_s (qs_ldA (fun w hw j v hv => (hw.below.cell hgf).trans (hcf j v hv)) rfl rfl Try.isAgg54 Try.sizeOf54) rfl rfl ?_
  refine rw_s (qs_ldbA (vs := [_, _]) fc Try.isAgg61 Try.sizeOf61 rfl rfl (by rfl) rfl) rfl rfl ?_
  refine rw_op (ot_c0 rfl rfl rfl Try.call75 (fun w hw => fits_any Ap A1 A2 cp c1 c2 n nl nc pa re o w hn hnl hnc)) rfl rfl (fun _ _ => ?_)
  refine rw_run tab_ok 2 [(4, _)] rfl ⟨rfl, trivial⟩ ?_
  refine rw_end ?_
  refine cw_ret ?_
  refine xw_ret1 Try.results74 (rv_tmp rfl) ?_
  intro w hw
  exact ⟨rfl, hw.below⟩
set_option maxRecDepth 100000 in
set_option maxHeartbeats 1000000 in
theorem pone_any (Ap A1 A2 : Option Addr) (cp c1 c2 n : Nat) (f : MFunc) (w : World) (hn : n ≤ 140737488355328) (hl : Sl w (.slice A1 f.locals.length c1) f.locals) (hc : Sl w (.slice A2 f.code.length c2) f.code) :
    Calls Try.prog 47 #[.agg #[.slice Ap n cp], .agg #[.int .i64 f.params, .slice A1 f.locals.length c1, .int .i64 f.result, .slice A2 f.code.length c2]] w fun e w' => e = .returned (.int .i64 (oneE n f)) ∧ Below w.heap.size w w' := by
  have b1 := len_bd hl
  have b2 := len_bd hc
  refine enter Try.func47 rfl Try.ntmps47 rfl ?_
  refine cw_seq ?_
  refine cw_region ?_
  refine rw_op (ot_box rfl rfl rfl) rfl rfl (fun g1 _ => ?_)
  refine rw_op (ot_box rfl rfl rfl) rfl rfl (fun g2 _ => ?_)
  refine rw_run tab_ok 1 [(2, _), (3, _)] rfl ⟨rfl, rfl, trivial⟩ ?_
  refine rw_end ?_
  refine cw_seq ?_
  refine cw_block ?_
  refine cw_seq ?_
  refine cw_region ?_
  refine rw_run tab_ok 1 [(2, _), (3, _), (7, _)] rfl ⟨rfl, rfl, rfl, trivial⟩ ?_
  refine rw_s (qs_ldb fc Try.isAgg35 rfl rfl (by rfl)) rfl rfl ?_
  refine rw_s (qs_len Try.underlying35 rfl rfl) rfl rfl ?_
  refine rw_run tab_ok 2 [(2, _), (3, _), (6, _)] rfl ⟨rfl, rfl, rfl, trivial⟩ ?_
  refine rw_end ?_
  refine cw_condD rfl (fun h1 => ?_) (fun h1 => ?_)
  · refine cw_seq ?_
    refine cw_region ?_
    refine rw_run tab_ok 1 [(4, _)] rfl ⟨rfl, trivial⟩ ?_
    refine rw_end ?_
    refine cw_ret (xw_blkr (xw_thenr ?_))
    refine xw_ret1 Try.results47 (rv_tmp rfl) ?_
    intro w hw
    exact ⟨reti (by unfold oneE; rw [if_pos (by omega)]), hw.below⟩
  · have h1 : ¬ 6 < f.locals.length := by omega
    refine cw_seq ?_
    refine cw_region ?_
    refine rw_run tab_ok 1 [(2, _), (3, _), (12, _)] rfl ⟨rfl, rfl, rfl, trivial⟩ ?_
    refine rw_s (qs_ldb fc Try.isAgg3 rfl rfl (by rfl)) rfl rfl ?_
    refine rw_run tab_ok 1 [(2, _), (3, _), (13, _), (14, _)] rfl ⟨rfl, rfl, rfl, rfl, trivial⟩ ?_
    refine rw_s (qs_ldb fc Try.isAgg35 rfl rfl (by rfl)) rfl rfl ?_
    refine rw_s (qs_len Try.underlying35 rfl rfl) rfl rfl ?_
    refine rw_op (ot_c0 rfl rfl rfl Try.call70 (fun w hw => within_any f.params 0 f.locals.length w)) rfl rfl (fun _ _ => ?_)
    refine rw_run tab_ok 2 [(2, _), (3, _), (11, _)] rfl ⟨rfl, rfl, rfl, trivial⟩ ?_
    refine rw_end ?_
    refine cw_cond rfl (fun h2 => ?_) (fun h2 => ?_)
    · have h2 : within f.params 0 f.locals.length = false := by simpa using h2
      refine cw_seq ?_
      refine cw_region ?_
      refine rw_run tab_ok 1 [(4, _)] rfl ⟨rfl, trivial⟩ ?_
      refine rw_end ?_
      refine cw_ret (xw_blkr (xw_thenr ?_))
      refine xw_ret1 Try.results47 (rv_tmp rfl) ?_
      intro w hw
      exact ⟨reti (by unfold oneE; rw [if_neg h1, if_pos h2]), hw.below⟩
    · have h2 : ¬ within f.params 0 f.locals.length = false := by simpa using h2
      refine cw_seq ?_
      refine cw_seq ?_
      refine cw_region ?_
      refine rw_run tab_ok 1 [(2, _), (3, _), (20, _)] rfl ⟨rfl, rfl, rfl, trivial⟩ ?_
      refine rw_s (qs_ldb fc Try.isAgg3 rfl rfl (by rfl)) rfl rfl ?_
      refine rw_op (ot_c0 rfl rfl rfl Try.call70 (fun w hw => within_any f.result 0 2 w)) rfl rfl (fun _ _ => ?_)
      refine rw_run tab_ok 2 [(2, _), (3, _), (19, _)] rfl ⟨rfl, rfl, rfl, trivial⟩ ?_
      refine rw_end ?_
      refine cw_cond rfl (fun h3 => ?_) (fun h3 => ?_)
      · have h3' : within f.result 0 2 = false := by simpa using h3
        refine cw_skip (xw_then ?_)
        refine cw_as (t := 19) (v' := .bool true) rfl (by rw [h3]) ?_
        refine cw_cond_t rfl ?_
        refine cw_seq ?_
        refine cw_region ?_
        refine rw_run tab_ok 1 [(4, _)] rfl ⟨rfl, trivial⟩ ?_
        refine rw_end ?_
        refine cw_ret (xw_blkr (xw_thenr ?_))
        refine xw_ret1 Try.results47 (rv_tmp rfl) ?_
        intro w hw
        exact ⟨reti (by unfold oneE; rw [if_neg h1, if_neg h2, if_pos (.inl h3')]), hw.below⟩
      · have h3 : ¬ within f.result 0 2 = false := by simpa using h3
        refine cw_region ?_
        refine rw_run tab_ok 1 [(2, _), (3, _), (24, _)] rfl ⟨rfl, rfl, rfl, trivial⟩ ?_
        refine rw_s (qs_ldb fc Try.isAgg35 rfl rfl (by rfl)) rfl rfl ?_
        refine rw_op (ot_c0 rfl rfl rfl Try.call50 (fun w hw => containsfInt A1 c1 f.locals _ _ badKind w (hw.ro hl) Try.call71 (fun w1 _ x _ => kind_any x w1))) rfl rfl (fun _ _ => ?_)
        refine rw_run tab_ok 1 [(2, _), (3, _), (19, _)] rfl ⟨rfl, rfl, rfl, trivial⟩ ?_
        refine rw_end ?_
        refine cw_cond rfl (fun h4 => ?_) (fun h4 => ?_)
        · have h4 : f.locals.any badKind = true := h4
          refine cw_seq ?_
          refine cw_region ?_
          refine rw_run tab_ok 1 [(4, _)] rfl ⟨rfl, trivial⟩ ?_
          refine rw_end ?_
          refine cw_ret (xw_blkr (xw_thenr ?_))
          refine xw_ret1 Try.results47 (rv_tmp rfl) ?_
          intro w hw
          exact ⟨reti (by unfold oneE; rw [if_neg h1, if_neg h2, if_pos (.inr h4)]), hw.below⟩
        · have h4 : ¬ (within f.result 0 2 = false ∨ f.locals.any badKind = true) := by
            rintro (h | h)
            · exact h3 h
            · rw [show f.locals.any badKind = false from h4] at h; cases h
          refine cw_seq ?_
          refine cw_region ?_
          refine rw_run tab_ok 1 [(2, _), (3, _), (28, _)] rfl ⟨rfl, rfl, rfl, trivial⟩ ?_
          refine rw_s (qs_ldb fc Try.isAgg52 rfl rfl (by rfl)) rfl rfl ?_
          refine rw_s (qs_len Try.underlying52 rfl rfl) rfl rfl ?_
          refine rw_run tab_ok 2 [(2, _), (3, _), (27, _)] rfl ⟨rfl, rfl, rfl, trivial⟩ ?_
          refine rw_end ?_
          refine cw_condD rfl (fun h5 => ?_) (fun h5 => ?_)
          · refine cw_seq ?_
            refine cw_region ?_
            refine rw_run tab_ok 1 [(4, _)] rfl ⟨rfl, trivial⟩ ?_
            refine rw_end ?_
            refine cw_ret (xw_blkr (xw_thenr ?_))
            refine xw_ret1 Try.results47 (rv_tmp rfl) ?_
            intro w hw
            exact ⟨reti (by unfold oneE; rw [if_neg h1, if_neg h2, if_neg h4, if_pos (by omega)]), hw.below⟩
          · have h5 : ¬ f.code.length = 0 := by omega
            refine cw_skip (xw_blkn (xw_then ?_))
            refine cw_seq ?_
            refine cw_seq ?_
            refine cw_region ?_
            refine rw_run tab_ok 1 [(2, _), (3, _), (32, _)] rfl ⟨rfl, rfl, rfl, trivial⟩ ?_
            refine rw_s (qs_ldb fc Try.isAgg52 rfl rfl (by rfl)) rfl rfl ?_
            refine rw_op (ot_c0 rfl rfl rfl Try.call72 (fun w hw => code_any _ f.code w (hw.ro hc))) rfl rfl (fun _ _ => ?_)
            refine rw_run tab_ok 1 [(2, _), (3, _), (5, _)] rfl ⟨rfl, rfl, rfl, trivial⟩ ?_
            refine rw_end ?_
            refine cw_seq ?_
            refine cw_region ?_
            refine rw_run tab_ok 2 [(2, _), (3, _), (5, _), (36, _)] rfl ⟨rfl, rfl, rfl, rfl, trivial⟩ ?_
            refine rw_end ?_
            refine cw_condN rfl (fun h6 => ?_) (fun h6 => ?_)
            · refine cw_seq ?_
              refine cw_region ?_
              refine rw_run tab_ok 2 [(4, _)] rfl ⟨rfl, trivial⟩ ?_
              refine rw_end ?_
              refine cw_ret (xw_thenr ?_)
              refine xw_ret1 Try.results47 (rv_tmp rfl) ?_
              intro w hw
              exact ⟨reti (by unfold oneE; rw [if_neg h1, if_neg h2, if_neg h4, if_neg h5, if_pos h6]), hw.below⟩
            · have h6 : ¬ codeErr f.code ≠ 0 := fun h => h h6
              refine cw_skip (xw_then ?_)
              refine cw_seq ?_
              refine cw_seq ?_
              refine cw_region ?_
              refine rw_run tab_ok 1 [(2, _), (3, _), (38, _)] rfl ⟨rfl, rfl, rfl, trivial⟩ ?_
              refine rw_s (qs_ldb fc Try.isAgg52 rfl rfl (by rfl)) rfl rfl ?_
              refine rw_run tab_ok 1 [(39, _), (40, _)] rfl ⟨rfl, rfl, trivial⟩ ?_
              refine rw_op (ot_c0 rfl rfl rfl Try.call73 (fun w hw => containsfOp A2 c2 f.code _ _ (fun o => !fitsO n f.locals.length f.code.length o) w (hw.ro hc) Try.call74 (fun w1 h1 k hk => one2_any (opAt f.code k) g1 g2 Ap A1 A2 cp c1 c2 n f.locals.length f.code.length f.params f.result w1 hn b1 b2 (Nat.lt_of_lt_of_le (box_lt hw fc) h1.size) (Nat.lt_of_lt_of_le (box_lt hw fc) h1.size) (fun j v hv => (h1.cell (box_lt hw fc)).trans (box_all fc w hw j v hv)) (fun j v hv => (h1.cell (box_lt hw fc)).trans (box_all fc w hw j v hv))))) rfl rfl (fun _ _ => ?_)
              refine rw_end ?_
              refine cw_cond rfl (fun h7 => ?_) (fun h7 => ?_)
              · refine cw_seq ?_
                refine cw_region ?_
                refine rw_run tab_ok 1 [(4, _)] rfl ⟨rfl, trivial⟩ ?_
                refine rw_end ?_
                refine cw_ret (xw_thenr ?_)
                refine xw_ret1 Try.results47 (rv_tmp rfl) ?_
                intro w hw
                exact ⟨reti (by unfold oneE; rw [if_neg h1, if_neg h2, if_neg h4, if_neg h5, if_neg h6, if_pos h7]), hw.below⟩
              · refine cw_skip (xw_then ?_)
                refine cw_seq ?_
                refine cw_region ?_
                refine rw_run tab_ok 1 [(4, _)] rfl ⟨rfl, trivial⟩ ?_
                refine rw_end ?_
                refine cw_ret ?_
                refine xw_ret1 Try.results47 (rv_tmp rfl) ?_
                intro w hw
                exact ⟨reti (by unfold oneE; rw [if_neg h1, if_neg h2, if_neg h4, if_neg h5, if_neg h6, if_neg (by rw [h7]; decide)]), hw.below⟩
set_option maxRecDepth 100000 in
set_option maxHeartbeats 1000000 in
theorem pcheck_any (A : Option Addr) (c : Nat) (fs : List MFunc) (w : World) (hs : Sl w (.slice A fs.length c) fs) :
    Calls Try.prog 16 #[.agg #[.slice A fs.length c]] w fun e w' => e = .returned (.int .i64 (checkP fs)) ∧ Below w.heap.size w w' := by
  have b1 := len_bd hs
  refine enter Try.func16 rfl Try.ntmps16 rfl ?_
  refine cw_seq ?_
  refine cw_region ?_
  refine rw_op (ot_box rfl rfl rfl) rfl rfl (fun g1 _ => ?_)
  refine rw_run tab_ok 1 [(1, _)] rfl ⟨rfl, trivial⟩ ?_
  refine rw_end ?_
  refine cw_seq ?_
  refine cw_block ?_
  refine cw_seq ?_
  refine cw_region ?_
  refine rw_run tab_ok 1 [(1, _), (8, _)] rfl ⟨rfl, rfl, trivial⟩ ?_
  refine rw_s (qs_ldb fc Try.isAgg22 rfl rfl (by rfl)) rfl rfl ?_
  refine rw_s (qs_len Try.underlying22 rfl rfl) rfl rfl ?_
  refine rw_run tab_ok 2 [(1, _), (7, _)] rfl ⟨rfl, rfl, trivial⟩ ?_
  refine rw_end ?_
  refine cw_condD rfl (fun h1 => ?_) (fun h1 => ?_)
  · refine cw_seq ?_
    refine cw_region ?_
    refine rw_run tab_ok 1 [(2, _)] rfl ⟨rfl, trivial⟩ ?_
    refine rw_end ?_
    refine cw_ret (xw_blkr (xw_thenr ?_))
    refine xw_ret1 Try.results16 (rv_tmp rfl) ?_
    intro w hw
    exact ⟨reti (by unfold checkP; rw [if_pos (by omega)]), hw.below⟩
  · have h1 : ¬ fs.length = 0 := by omega
    refine cw_seq ?_
    refine cw_region ?_
    refine rw_run tab_ok 1 [(1, _), (13, _)] rfl ⟨rfl, rfl, trivial⟩ ?_
    refine rw_s (qs_ldb fc Try.isAgg22 rfl rfl (by rfl)) rfl rfl ?_
    refine rw_s (qs_len Try.underlying22 rfl rfl) rfl rfl ?_
    refine rw_run tab_ok 2 [(1, _), (12, _)] rfl ⟨rfl, rfl, trivial⟩ ?_
    refine rw_end ?_
    refine cw_condD rfl (fun h2 => ?_) (fun h2 => ?_)
    · refine cw_seq ?_
      refine cw_region ?_
      refine rw_run tab_ok 1 [(2, _)] rfl ⟨rfl, trivial⟩ ?_
      refine rw_end ?_
      refine cw_ret (xw_blkr (xw_thenr ?_))
      refine xw_ret1 Try.results16 (rv_tmp rfl) ?_
      intro w hw
      exact ⟨reti (by unfold checkP; rw [if_neg h1, if_pos (by omega)]), hw.below⟩
    · have h2 : ¬ 5 < fs.length := by omega
      refine cw_skip (xw_blkn (xw_then ?_))
      refine cw_seq ?_
      refine cw_seq ?_
      refine cw_region ?_
      refine rw_run tab_ok 1 [(1, _), (17, _)] rfl ⟨rfl, rfl, trivial⟩ ?_
      refine rw_s (qs_ldb fc Try.isAgg22 rfl rfl (by rfl)) rfl rfl ?_
      refine rw_s (qs_len Try.underlying22 rfl rfl) rfl rfl ?_
      refine rw_run tab_ok 1 [(1, _), (18, _), (19, _), (20, _)] rfl ⟨rfl, rfl, rfl, rfl, trivial⟩ ?_
      refine rw_end ?_
      refine cw_block (cw_loop (fun k : Nat => k ≤ fs.length ∧ firstE (oneE fs.length) (fs.take k) = 0) (fun k => fs.length - k) (fun k => [(1, .pointer (some ⟨g1, 0, none⟩)), (18, .slice A fs.length c), (19, .int .i64 (fs.length : Int)), (20, .int .i64 (k : Int))]) (fun _ => [RBox g1 [.slice A fs.length c] 24]) 0 (⟨Nat.zero_le _, rfl⟩) ⟨rfl, rfl, rfl, rfl, trivial⟩ me ?_)
      rintro k hk'
      obtain ⟨hk, hno⟩ : k ≤ fs.length ∧ firstE (oneE fs.length) (fs.take k) = 0 := hk'
      refine cw_seq ?_
      refine cw_region ?_
      refine rw_run tab_ok 1 [(1, _), (18, _), (19, _), (20, _), (21, _)] rfl ⟨rfl, rfl, rfl, rfl, rfl, trivial⟩ ?_
      refine rw_end ?_
      refine cw_seq ?_
      refine cw_condD rfl (fun hlt => ?_) (fun hlt => ?_)
      · have hkl : k < fs.length := by omega
        have hsn := firstE_snoc (g := oneE fs.length) default hkl hno
        obtain ⟨A1, c1, A2, c2, hl, hc, hi, hcell⟩ := hs.fn hkl
        refine cw_skip (xw_then ?_)
        refine cw_seq ?_
        refine cw_block ?_
        refine cw_seq ?_
        refine cw_region ?_
        refine rw_s (qs_idx Try.underlying22 Try.sizeOf54 (.ro hs) (by omega) rfl rfl rfl) rfl rfl ?_
        refine rw_s (qs_ldA (hcell _) rfl rfl Try.isAgg54 Try.sizeOf54) rfl rfl ?_
        refine rw_op (ot_alloc Try.zeroValue54 rfl rfl) rfl rfl (fun g2 _ => ?_)
        refine rw_op (ot_stb _ fc Try.sizeOf54 rfl rfl rfl rfl rfl (by rfl) rfl (by rfl)) rfl rfl (fun _ _ => ?_)
        refine rw_end ?_
        refine cw_seq ?_
        refine cw_region ?_
        refine rw_s (qs_ldbA (vs := [_]) fc Try.isAgg24 Try.sizeOf24 rfl rfl (by rfl) rfl) rfl rfl ?_
        refine rw_s (qs_ldbA (vs := [_, _, _, _]) fc Try.isAgg54 Try.sizeOf54 rfl rfl (by rfl) rfl) rfl rfl ?_
        refine rw_op (ot_c0 rfl rfl rfl Try.call47 (fun w hw => pone_any A A1 A2 c c1 c2 fs.length (fnAt fs k) w b1 (hw.ro hl) (hw.ro hc))) rfl rfl (fun _ _ => ?_)
        refine rw_run tab_ok 1 [(1, _), (5, _), (18, _), (19, _), (20, _)] rfl ⟨rfl, rfl, rfl, rfl, rfl, trivial⟩ ?_
        refine rw_end ?_
        refine cw_seq ?_
        refine cw_region ?_
        refine rw_run tab_ok 2 [(1, _), (5, _), (18, _), (19, _), (20, _), (28, _)] rfl ⟨rfl, rfl, rfl, rfl, rfl, rfl, trivial⟩ ?_
        refine rw_end ?_
        refine cw_condN rfl (fun he => ?_) (fun he => ?_)
        · refine cw_seq ?_
          refine cw_region ?_
          refine rw_run tab_ok 2 [(2, _)] rfl ⟨rfl, trivial⟩ ?_
          refine rw_end ?_
          refine cw_ret (xw_blkr (xw_thenr (xw_thenr (xw_blkr (xw_thenr ?_)))))
          refine xw_ret1 Try.results16 (rv_tmp rfl) ?_
          intro w hw
          have e2 : firstE (oneE fs.length) fs = oneE fs.length (fnAt fs k) := by
            rw [firstE_of (k := k + 1) (by rw [hsn]; exact he), hsn]; rfl
          exact ⟨reti (by unfold checkP; rw [if_neg h1, if_neg h2, e2, if_pos he]), hw.below⟩
        · refine cw_skip (xw_blkn (xw_then ?_))
          refine cw_region ?_
          refine rw_s (qs_add rfl rfl rfl (by omega)) rfl rfl ?_
          refine rw_run tab_ok 1 [(1, _), (18, _), (19, _), (20, _)] rfl ⟨rfl, rfl, rfl, rfl, trivial⟩ ?_
          refine rw_round (k + 1) (⟨by show k + 1 ≤ _; omega, hsn.trans he⟩) (by show _ - _ < _ - _; omega) ⟨rfl, rfl, rfl, rfl, trivial⟩ me
      · obtain rfl : k = fs.length := by omega
        rw [List.take_length] at hno
        obtain ⟨A1, c1, A2, c2, hl, hc, hi, hcell⟩ := hs.fn (k := 0) (by omega)
        have hno : ¬ firstE (oneE fs.length) fs ≠ 0 := fun h => h hno
        refine cw_exit (xw_thenx (xw_thenx (xw_blk (xw_then ?_))))
        refine cw_seq ?_
        refine cw_seq ?_
        refine cw_region ?_
        refine rw_run tab_ok 1 [(31, _)] rfl ⟨rfl, trivial⟩ ?_
        refine rw_s (qs_ldb fc Try.isAgg22 rfl rfl (by rfl)) rfl rfl ?_
        refine rw_s (qs_idx (k := 0) Try.underlying22 Try.sizeOf54 (.ro hs) (by omega) rfl rfl rfl) rfl rfl ?_
        refine rw_s (qs_ldA (hcell _) rfl rfl Try.isAgg54 Try.sizeOf54) rfl rfl ?_
        refine rw_op (ot_alloc Try.zeroValue54 rfl rfl) rfl rfl (fun g3 _ => ?_)
        refine rw_op (ot_stb _ fc Try.sizeOf54 rfl rfl rfl rfl rfl (by rfl) rfl (by rfl)) rfl rfl (fun _ _ => ?_)
        refine rw_end ?_
        refine cw_seq ?_
        refine cw_region ?_
        refine rw_run tab_ok 1 [(6, _), (35, _)] rfl ⟨rfl, rfl, trivial⟩ ?_
        refine rw_s (qs_ldb fc Try.isAgg3 rfl rfl (by rfl)) rfl rfl ?_
        refine rw_run tab_ok 2 [(6, _), (38, _)] rfl ⟨rfl, rfl, trivial⟩ ?_
        refine rw_split (t := 38) rfl (fun h3 => ?_) (fun h3 => ?_)
        · have h3 := of_decide_eq_true h3
          refine rw_run tab_ok 4 [(42, _)] rfl ⟨rfl, trivial⟩ ?_
          refine rw_end ?_
          refine cw_cond_t rfl ?_
          refine cw_seq ?_
          refine cw_region ?_
          refine rw_run tab_ok 1 [(2, _)] rfl ⟨rfl, trivial⟩ ?_
          refine rw_end ?_
          refine cw_ret (xw_thenr ?_)
          refine xw_ret1 Try.results16 (rv_tmp rfl) ?_
          intro w hw
          exact ⟨reti (by unfold checkP; rw [if_neg h1, if_neg h2, if_neg hno, if_pos (.inl h3)]), hw.below⟩
        · have h3 := of_decide_eq_false h3
          refine rw_run tab_ok 1 [(38, _), (39, _)] rfl ⟨rfl, rfl, trivial⟩ ?_
          refine rw_s (qs_ldb fc Try.isAgg3 rfl rfl (by rfl)) rfl rfl ?_
          refine rw_run tab_ok 2 [(42, _)] rfl ⟨rfl, trivial⟩ ?_
          refine rw_end ?_
          refine cw_condN rfl (fun h4 => ?_) (fun h4 => ?_)
          · refine cw_seq ?_
            refine cw_region ?_
            refine rw_run tab_ok 1 [(2, _)] rfl ⟨rfl, trivial⟩ ?_
            refine rw_end ?_
            refine cw_ret (xw_thenr ?_)
            refine xw_ret1 Try.results16 (rv_tmp rfl) ?_
            intro w hw
            exact ⟨reti (by unfold checkP; rw [if_neg h1, if_neg h2, if_neg hno, if_pos (.inr h4)]), hw.below⟩
          · refine cw_skip (xw_then ?_)
            refine cw_seq ?_
            refine cw_region ?_
            refine rw_run tab_ok 1 [(2, _)] rfl ⟨rfl, trivial⟩ ?_
            refine rw_end ?_
            refine cw_ret ?_
            refine xw_ret1 Try.results16 (rv_tmp rfl) ?_
            intro w hw
            exact ⟨reti (by unfold checkP; rw [if_neg h1, if_neg h2, if_neg hno, if_neg (fun h => h.elim h3 (fun e => e h4))]), hw.below⟩
end Go.Proofs.Ytejpkcheimgdfaa

-- Rop4
namespace Go.Proofs.Ytejpkcheimgdfaa
open Go.RowKit

theorem take_same {α : Type} {l1 l2 : List α} {k : Nat} {x : α} (h1 : l1[k]? = some x) (h2 : l2[k]? = some x) (h : l1.take k = l2.take k) : l1.take (k + 1) = l2.take (k + 1) := by
  rw [List.take_add_one, List.take_add_one, h, h1, h2]
theorem take_ne {α : Type} {l1 l2 : List α} {k : Nat} {x y : α} (h1 : l1[k]? = some x) (h2 : l2[k]? = some y) (hne : x ≠ y) : ¬ l1 = l2 := by
  rintro rfl
  rw [h1] at h2
  exact hne (Option.some.inj h2)
theorem eqGuardOp : Try.prog.eqGuardType Try.prog.depth 61 = false := by kernel_rfl
theorem heldOp : Try.prog.stoodInHeld 61 = false := by kernel_rfl
theorem neq_op (w : World) (a b c d : Int) : (binOp .neq 61 (.agg #[.int .i64 a, .int .i64 b]) (.agg #[.int .i64 c, .int .i64 d])).run Try.prog w = .ok (.bool (!(a == c && b == d))) w := by
  have h := heldOp
  by_cases h1 : a = c <;> by_cases h2 : b = d <;> simp [go_sem, h, h1, h2]
set_option maxHeartbeats 400000 in
set_option maxRecDepth 100000 in
theorem rsameOps_any (v1 v2 : Value) (l1 l2 : List MOp) (w : World) (hs1 : Sl w v1 l1) (hs2 : Sl w v2 l2) :
    Calls Try.prog 48 #[v1, v2] w fun e w' => e = .returned (.bool (decide (l1 = l2))) ∧ Below w.heap.size w w' := by
  obtain ⟨A1, c1, rfl, hlc1, hc1, hl1⟩ := hs1.form
  obtain ⟨A2, c2, rfl, hlc2, hc2, hl2⟩ := hs2.form
  by_cases hne : l1.length = l2.length
  · have ht : ((l1.length : Int) != (l2.length : Int)) = false := by simp; omega
    have hle : l2.length ≤ l1.length := by omega
    have hle2 : l1.length ≤ l2.length := by omega
    have Hne := Lib.hid hne; clear hne
    go_enter Try.func48, Try.ntmps48
    go_wp2
    go_loopw [5] (fun t wr => ∃ k : Nat, k ≤ l1.length ∧ t = .int .i64 k ∧ Below w.heap.size w wr ∧ l1.take k = l2.take k) (fun t _ => l1.length - (intOf t).toNat)
    case atStart => exact ⟨0, by omega, rfl, (by repeat (first | exact Below.refl _ _ | assumption | refine Below.drew ?_ | refine Below.drewN_ ?_ _ | refine below_alloc ?_ _ | refine below_via (by assumption) ?_ | refine below_set ?_ (by simp <;> omega) _)), by simp⟩
    case round =>
      obtain ⟨k, hk, rfl, hbl, hck⟩ := hrel
      have Hck := Lib.hid hck; clear hck
      by_cases hlt : k < l1.length
      · obtain ⟨b1, off1, o1, rfl, hb1, ho1, hc10, hc11, hi1⟩ := (hs1.via hbl).op_at hlt
        obtain ⟨b2, off2, o2, rfl, hb2, ho2, hc20, hc21, hi2⟩ := (hs2.via hbl).op_at (show k < l2.length by omega)
        have Ho1 := Lib.hid ho1; clear ho1
        have Ho2 := Lib.hid ho2; clear ho2
        have hlt2 : k < l2.length := by omega
        have hsz := hbl.size
        have hneq := neq_op
        have hgd := eqGuardOp
        go_wp2
        go_quiet (fail)
        go_wp2
        · go_ret
          exact ⟨ret_bool (Eq.symm (decide_eq_false (take_ne Ho1.out Ho2.out (by rintro rfl; simp_all)))), (by repeat (first | exact Below.refl _ _ | assumption | refine Below.drew ?_ | refine Below.drewN_ ?_ _ | refine below_alloc ?_ _ | refine below_via (by assumption) ?_ | refine below_set ?_ (by simp <;> omega) _))⟩
        · go_roundw
          case rel => exact ⟨k + 1, by omega, by go_num, (by repeat (first | exact Below.refl _ _ | assumption | refine Below.drew ?_ | refine Below.drewN_ ?_ _ | refine below_alloc ?_ _ | refine below_via (by assumption) ?_ | refine below_set ?_ (by simp <;> omega) _)), take_same Ho1.out (by rw [Ho2.out]; cases o1; cases o2; simp_all) Hck.out⟩
          case measure => simp [intOf]; omega
      · go_wp2
        go_ret
        refine ⟨ret_bool ?_, (by repeat (first | exact Below.refl _ _ | assumption | refine Below.drew ?_ | refine Below.drewN_ ?_ _ | refine below_alloc ?_ _ | refine below_via (by assumption) ?_ | refine below_set ?_ (by simp <;> omega) _))⟩
        have := Hck.out
        rw [List.take_of_length_le (by omega), List.take_of_length_le (by omega)] at this
        simpa using this
  · go_enter Try.func48, Try.ntmps48
    go_wp2
    go_ret
    exact ⟨ret_bool (by simp; rintro rfl; exact hne rfl), (by repeat (first | exact Below.refl _ _ | assumption | refine Below.drew ?_ | refine Below.drewN_ ?_ _ | refine below_alloc ?_ _ | refine below_via (by assumption) ?_ | refine below_set ?_ (by simp <;> omega) _))⟩
end Go.Proofs.Ytejpkcheimgdfaa

