import Derived.Test.YtjojipeodionmaaRows
import Derived.Test.YtjojipeodionmaaBase
import Derived.Test.YtjojipeodionmaaSpec
import Derived.Deep.QuietTactic
import Derived.BigQuiet
namespace Go.Proofs.Ytjojipeodionmaa
open Go.RowKit


theorem is_any (a : Int) (w : World) : Calls Try.prog 84 #[.int .i64 a] w fun e w' => e = .returned (.bool (isCode a)) ∧ w = w' := by
  go_enter Try.func84, Try.ntmps84
  go_wp2
  all_goals (go_ret; exact ⟨ret_bool (by simp [isCode, *]; try omega), rfl⟩)
theorem int_any (a : Int) (w : World) : Calls Try.prog 86 #[.int .i64 a] w fun e w' => e = .returned (.bool (isInt a)) ∧ w = w' := by
  go_enter Try.func86, Try.ntmps86
  go_wp2
  all_goals (go_ret; exact ⟨ret_bool (by simp [isInt, *]; try omega), rfl⟩)

def findI (l : List Int) (v : Int) : Int := match l.findIdx? (· == v) with | some i => i | none => -1
theorem findI_at {l : List Int} {v : Int} {k : Nat} (hk : k < l.length) (hv : (v == l[k]?.getD 0) = true) (hne : ∀ j, j < k → l.getD j 0 ≠ v) : findI l v = k := by
  have hv' : l[k] = v := by simp [hk] at hv; exact hv.symm
  have : l.findIdx? (· == v) = some k := by
    rw [List.findIdx?_eq_some_iff_getElem]
    refine ⟨hk, by simp [hv'], fun j hj => ?_⟩
    have := hne j hj
    rw [List.getD_eq_getElem?_getD, List.getElem?_eq_getElem (by omega)] at this
    simpa using this
  simp [findI, this]
theorem findI_none {l : List Int} {v : Int} {k : Nat} (hk : ¬ k < l.length) (hne : ∀ j, j < k → l.getD j 0 ≠ v) : findI l v = -1 := by
  have : l.findIdx? (· == v) = none := by
    rw [List.findIdx?_eq_none_iff]
    intro x hx
    obtain ⟨j, hj, rfl⟩ := List.getElem_of_mem hx
    have := hne j (by omega)
    rw [List.getD_eq_getElem?_getD, List.getElem?_eq_getElem (by omega)] at this
    simpa using this
  simp [findI, this]
theorem ne_snoc {l : List Int} {v : Int} {k : Nat} (hne : ∀ j, j < k → l.getD j 0 ≠ v) (h : (v == l[k]?.getD 0) = false) : ∀ j, j < k + 1 → l.getD j 0 ≠ v := by
  intro j hj
  rcases Nat.lt_succ_iff_lt_or_eq.1 hj with h1 | rfl
  · exact hne j h1
  · simp at h; simpa using fun e => h e.symm
theorem findI_ge {l : List Int} {v : Int} : decide (0 ≤ findI l v) = l.contains v := by
  unfold findI
  cases h : l.findIdx? (· == v) with
  | none => rw [List.findIdx?_eq_none_iff] at h; simp; intro hm; simpa using h v hm
  | some i => rw [List.findIdx?_eq_some_iff_getElem] at h; obtain ⟨h1, h2, _⟩ := h; simp at h2 ⊢; rw [← h2]; exact List.getElem_mem _

set_option maxHeartbeats 400000 in
theorem index_int (v : Value) (l : List Int) (x : Int) (w : World) (hs : Sl w v l) :
    Calls Try.prog 131 #[v, .int .i64 x] w fun e w' => e = .returned (.int .i64 (findI l x)) ∧ w = w' := by
  obtain ⟨A, c, rfl, hlc, hc, hl⟩ := hs.form
  generalize hL : l.length = L at *
  have HL := Lib.hid hL; clear hL
  go_enter Try.func131, Try.ntmps131
  go_wp2
  go_loop [5, 8] (fun _ t => ∃ k : Nat, k ≤ L ∧ t = .int .i64 k ∧ ∀ j, j < k → l.getD j 0 ≠ x) (fun _ t => L - (intOf t).toNat)
  case atStart => exact ⟨0, by omega, rfl, by omega⟩
  case round =>
    obtain ⟨k, hk, rfl, hne⟩ := hrel
    have Hne := Lib.hid hne; clear hne
    by_cases hlt : k < L
    · obtain ⟨b, off, rfl, hb, hcell, hi⟩ := hs.int_at hlt
      go_wp2
      · go_ret
        exact ⟨ret_int (findI_at (by rw [HL.out]; exact hlt) (by assumption) Hne.out).symm, rfl⟩
      · go_round
        case rel => exact ⟨k + 1, by omega, by go_num, ne_snoc Hne.out (by assumption)⟩
        case measure => simp [intOf]; omega
    · go_wp2
      go_ret
      exact ⟨ret_int (findI_none (by rw [HL.out]; exact hlt) Hne.out).symm, rfl⟩

theorem contains_int (v : Value) (l : List Int) (x : Int) (w : World) (hs : Sl w v l) :
    Calls Try.prog 106 #[v, .int .i64 x] w fun e w' => e = .returned (.bool (l.contains x)) ∧ w = w' := by
  go_enter Try.func106, Try.ntmps106
  go_wp2_with (go_at_call 131; refine (index_int _ _ _ _ hs).mono ?_; rintro e w' ⟨rfl, rfl⟩)
  go_ret
  exact ⟨ret_bool findI_ge, rfl⟩

theorem names_any (a : Int) (w : World) : Calls Try.prog 85 #[.int .i64 a] w fun e w' => e = .returned (.bool (names a)) ∧ Below w.heap.size w w' := by
  have hs := fun T => Sl.lit_int w T [1, 8, 9, 10, 11, 12] (by simp [I64]) (by simp)
  go_enter Try.func85, Try.ntmps85
  go_wp2_with (go_at_call 106; refine (contains_int _ _ _ _ (hs _)).mono ?_; rintro e w' ⟨rfl, rfl⟩)
  go_ret
  exact ⟨ret_bool (by simp [names]), (by repeat (first | exact Below.refl _ _ | assumption | refine Below.drew ?_ | refine Below.drewN_ ?_ _ | refine below_alloc ?_ _ | refine below_via (by assumption) ?_ | refine below_set ?_ (by simp <;> omega) _))⟩

theorem check_any (o : MOp) (w : World) : Calls Try.prog 26 #[.agg #[.int .i64 o.c, .int .i64 o.a]] w fun e w' => e = .returned (.int .i64 (checkOp o)) ∧ Below w.heap.size w w' := by
  go_enter Try.func26, Try.ntmps26
  go_wp2_with (first
    | (go_at_call 84; refine (is_any _ _).mono ?_; rintro e w' ⟨rfl, rfl⟩)
    | (go_at_call 86; refine (int_any _ _).mono ?_; rintro e w' ⟨rfl, rfl⟩)
    | (go_at_call 85; refine (names_any _ _).mono ?_; rintro e w' ⟨rfl, hb⟩; obtain ⟨hc, hf⟩ := bcell hb))
  all_goals (go_ret; exact ⟨ret_int (by simp_all [checkOp]), (by repeat (first | exact Below.refl _ _ | assumption | refine Below.drew ?_ | refine Below.drewN_ ?_ _ | refine below_alloc ?_ _ | refine below_via (by assumption) ?_ | refine below_set ?_ (by simp <;> omega) _))⟩)

theorem wrap_eq (a : Int) : wrap64 (wrap32 a) = wrapI a := by unfold wrap64 wrap32 wrapI; omega
theorem wrap_any (a : Int) (w : World) : Calls Try.prog 28 #[.int .i64 a] w fun e w' => e = .returned (.int .i64 (wrapI a)) ∧ w = w' := by
  go_enter Try.func28, Try.ntmps28
  go_wp2
  go_ret
  exact ⟨ret_int (by simp [wrap_eq]), rfl⟩

theorem wrap32_mod (a : Int) : wrap32 a % 4294967296 = a % 4294967296 := by unfold wrap32; omega
theorem wrap32_mod256 (a : Int) : wrap32 a % 256 = a % 256 := by unfold wrap32; omega
theorem four_any (a : Int) (w : World) : Calls Try.prog 115 #[.int .i64 a] w fun e w' => e = .returned (.string ⟨(fourOf a).toArray⟩) ∧ Below w.heap.size w w' := by
  have hcv := fun (x0 x1 x2 x3 : Int) => run_convert_bytes_arg (P := Try.prog) (w.alloc (.cells #[.int .u8 x0, .int .u8 x1, .int .u8 x2, .int .u8 x3] 5)) 106 5 Try.underlying106 Try.underlying5 w.heap.size 0 4 4 [x0, x1, x2, x3] rfl
    (by intro i hi; match i, hi with | 0, _ => simp | 1, _ => simp | 2, _ => simp | 3, _ => simp) 9 Try.underlying9
  go_enter Try.func115, Try.ntmps115
  go_wp2
  go_ret
  exact ⟨ret_str (by simp [fourOf, wrap32_mod, wrap32_mod256]), (by repeat (first | exact Below.refl _ _ | assumption | refine Below.drew ?_ | refine Below.drewN_ ?_ _ | refine below_alloc ?_ _ | refine below_via (by assumption) ?_ | refine below_set ?_ (by simp <;> omega) _))⟩
end Go.Proofs.Ytjojipeodionmaa
