/- Texts of one proof, one behind the other: lemmas alone. -/
import Derived.Deep.QuietTactic
import Derived.BigQuiet
import Derived.Test.YtpacloheigifkaaGreatM18V
import Derived.Test.YtpacloheigifkaaGreatM14V
import Derived.Test.YtpacloheigifkaaGreatM16V
import Derived.Test.YtpacloheigifkaaGreatM23V

-- Lb2
/- BlockTells is true, whatever it is handed. -/
namespace Go.Proofs.YtpacloheigifkaaGreat
open Go.RowKit
def sizeE (l : List (List Int)) (size : Int) : Int := if checkB l = 0 ∧ size < 0 then 3 else checkB l
def keepTo (l : List (List Int)) (refs : List Int) (k : Nat) : Int := if checkB l = 0 then (if (refs.take k).any (outP l.length) then 3 else 0) else checkB l
theorem setL_get {l : List (List Int)} {ref at_ n : Int} (h : setE l ref at_ n = 0) : checkB l = 0 ∧ placeE l ref at_ = 0 ∧ isInt n = true ∧ setL l ref at_ n = put l ref at_ n := by
 unfold setL
 rw [if_pos h]
 unfold setE putE at h
 split at h
 ·rename_i h1
  split at h
  ·rename_i h2
   split at h
   ·rename_i h3; exact ⟨h1, h2, h3, rfl⟩
   ·cases h
  ·rename_i h2; exact absurd h h2
 ·rename_i h1; exact absurd h h1
theorem blocksTrue {P : Program} {f : FuncId} {args : Array Value} {w : World} {l want : List (List Int)} {e x : Int} (h : Calls P f args w fun e' w' => e' = .returned (.bool (decide (e = x) && decide (l = if x = 0 then want else []))) ∧ Below w.heap.size w w') (h1 : e = x) (h2 : l = if x = 0 then want else []) :
  Calls P f args w fun e' w' => e' = .returned (.bool true) ∧ Below w.heap.size w w' := h.mono fun _ _ ⟨h3, h4⟩ => ⟨by rw [h3, decide_eq_true h1, decide_eq_true h2]; rfl, h4⟩
end Go.Proofs.YtpacloheigifkaaGreat
-- Lb3
/- BlockRoom is true, whatever it is handed. -/
namespace Go.Proofs.YtpacloheigifkaaGreat
open Go.RowKit
def refsN (k : Nat) : List Int := (List.range k).map fun i : Nat => (i : Int) + 1
theorem refsN_has (n k : Nat) : (refsN n).contains ((k : Int) + 1) = decide (k < n) := by
 rw [Bool.eq_iff_iff]
 simp only [List.contains_iff_mem, refsN, List.mem_map, List.mem_range, decide_eq_true_eq]
 constructor
 ·rintro ⟨a, h1, h2⟩; omega
 ·intro h; exact ⟨k, h, rfl⟩
theorem keptTo_refs (m : List (List Int)) (n : Nat) (hn : n ≤ m.length) : ∀ k, k ≤ n → keptTo m (refsN n) k = m.take k
 | 0, _ => by simp [keptTo]
 | k + 1, hk => by
  rw [keptTo_yes (by rw [refsN_has]; exact decide_eq_true (by omega)), keptTo_refs m n hn k (by omega), take_snoc m k [] (by omega)]
theorem newE_zero {l : List (List Int)} {size : Int} (h : newE l size = 0) : checkB l = 0 ∧ 0 ≤ size ∧ l.length ≠ 8 ∧ size ≤ 40 - cellsN l := by
 unfold newE moreE at h
 split at h
 ·rename_i h0
  split at h
  ·cases h
  ·split at h
   ·cases h
   ·rename_i h1 h2; exact ⟨h0, by omega, by omega, by omega⟩
 ·rename_i h0; exact absurd h h0
theorem checkB_zero {l : List (List Int)} (h : checkB l = 0) : l.length ≤ 8 ∧ cellsN l ≤ 40 ∧ l.any badInts = false := by
 unfold checkB at h
 split at h
 ·cases h
 ·split at h
  ·cases h
  ·rename_i h1 h2; exact ⟨by omega, by omega, by simpa using h2⟩
theorem checkB_of {l : List (List Int)} (h1 : l.length ≤ 8) (h2 : cellsN l ≤ 40) (h3 : l.any badInts = false) : checkB l = 0 := by
 unfold checkB
 rw [if_neg (by omega), if_neg (by rw [h3]; decide)]
theorem badInts_zero (n : Nat) : badInts (List.replicate n 0) = false := by
 unfold badInts
 rw [Bool.eq_false_iff]
 intro h
 obtain ⟨x, hx, hb⟩ := List.any_eq_true.1 h
 have := List.eq_of_mem_replicate hx
 subst this
 simp [isInt] at hb
theorem checkB_new {l : List (List Int)} {size : Int} (h : newE l size = 0) : checkB (newL l size) = 0 := by
 obtain ⟨h0, h1, h2, h3⟩ := newE_zero h
 obtain ⟨h4, h5, h6⟩ := checkB_zero h0
 unfold newL
 rw [if_pos h]
 refine checkB_of (by simp; omega) ?_ ?_
 ·rw [cellsN_snoc]; simp; omega
 ·rw [List.any_append, h6]; simp [badInts_zero]
theorem run_eqBd {P : Program} {t : TypeId} (hu : P.underlying t = some .bool) (a b : Bool) (w : World) (d : Nat) : (Op.equalIn (d + 1) t (.bool a) (.bool b)).run P w = .ok (a == b) w := by
 simp [Op.equalIn, run_underlying hu]
theorem run_eqB {P : Program} {t : TypeId} (hu : P.underlying t = some .bool) (a b : Bool) (w : World) : (binOp .eql t (.bool a) (.bool b)).run P w = .ok (.bool (a == b)) w := by
 simp only [binOp, Op.equal, Op.maxDepth, Sem.run_bind]
 rw [show (10000 : Nat) = 9999 + 1 from rfl, run_eqBd hu]
 rfl
theorem qs_eqB {P : Program} {n : NF} {B : Nat} {w0 : World} {o : Oper} {env : Env} {H : List Res} {i j : Operand} {t u : TypeId} {a b : Bool} (hu : P.underlying t = some .bool) (hop : o.op = .binOp .eql t i j u) (hi : opv env i = some (.bool a)) (hj : opv env j = some (.bool b)) : QS P n B w0 o env H (.bool (a == b)) := by
 intro a' w hf hw
 unfold execOp
 have hgd : (eqGuard .eql t i j (.bool a) (.bool b)).run P w = .ok () w := by
  unfold eqGuard
  split <;> simp
 simp only [hop, hf.opv hi, hf.opv hj, Sem.run_bind, hgd, Result.andThen_ok, run_eqB hu, Sem.run_pure]
end Go.Proofs.YtpacloheigifkaaGreat
-- Lb4
/- BlockBack is true, whatever it is handed. -/
namespace Go.Proofs.YtpacloheigifkaaGreat
open Go.RowKit
theorem put_len {l : List (List Int)} {ref at_ n : Int} (i : Nat) : (put l ref at_ n).length = l.length ∧ ((put l ref at_ n).getD i []).length = (l.getD i []).length := by
 unfold put blk
 refine ⟨by simp, ?_⟩
 by_cases h1 : (ref - 1).toNat = i
 ·subst h1
  by_cases h2 : (ref - 1).toNat < l.length
  ·rw [List.getD_eq_getElem?_getD (l := l.set _ _), List.getElem?_set_self h2]; simp
  ·rw [List.set_eq_of_length_le (by omega)]
 ·rw [List.getD_eq_getElem?_getD (l := l.set _ _), List.getElem?_set_ne h1, ← List.getD_eq_getElem?_getD (l := l)]
theorem cellsN_set {l : List (List Int)} (i : Nat) (b : List Int) (hb : b.length = (l.getD i []).length) : cellsN (l.set i b) = cellsN l := by
 unfold cellsN
 induction l generalizing i with
 | nil => rfl
 | cons a l ih =>
  match i with
  | 0 => simp at hb; simp [hb]
  | i + 1 =>
   have := ih i (by simpa using hb)
   simp only [List.set_cons_succ, List.map_cons, List.sum_cons]
   rw [this]
theorem any_set {α : Type} (p : α → Bool) (l : List α) (i : Nat) (b : α) (h : l.any p = false) (hb : p b = false) : (l.set i b).any p = false := by
 rw [Bool.eq_false_iff] at *
 intro ha
 obtain ⟨x, hx, hp⟩ := List.any_eq_true.1 ha
 rcases List.mem_or_eq_of_mem_set hx with h1 | h1
 ·exact h (List.any_eq_true.2 ⟨x, h1, hp⟩)
 ·subst h1; exact hb hp
theorem checkB_set {l : List (List Int)} {ref at_ n : Int} (h : setE l ref at_ n = 0) : checkB (setL l ref at_ n) = 0 := by
 obtain ⟨h0, h1, h2, h3⟩ := setL_get h
 obtain ⟨h4, h5, h6⟩ := checkB_zero h0
 rw [h3]
 refine checkB_of (by rw [(put_len 0).1]; exact h4) (by unfold put; rw [cellsN_set _ _ (by unfold blk; simp)]; exact h5) ?_
 unfold put
 refine any_set _ _ _ _ h6 ?_
 unfold badInts
 refine any_set _ _ _ _ ?_ (by simp [h2])
 by_cases h7 : (ref - 1).toNat < l.length
 ·rw [Bool.eq_false_iff] at h6 ⊢
  intro ha
  exact h6 (List.any_eq_true.2 ⟨blk l ref, mem_getD h7, ha⟩)
 ·unfold blk; rw [List.getD_eq_getElem?_getD, List.getElem?_eq_none (by omega)]; rfl
end Go.Proofs.YtpacloheigifkaaGreat
