import Derived.Test.YtjojipeodionmaaBl10
import Derived.Test.YtjojipeodionmaaRop1
import Derived.Deep.QuietTactic
import Derived.BigQuiet
namespace Go.Proofs.Ytjojipeodionmaa
open Go.RowKit

theorem rcells_any (v : Value) (l : List (List Int)) (w : World) (hs : Sl w v l) (h8 : l.length ≤ 8) :
    Calls Try.prog 36 #[v] w fun e w' => e = .returned (.int .i64 (cellsN l)) ∧ w = w' := by
  obtain ⟨A, c, rfl, hlc, hc, hl⟩ := hs.form
  generalize hL : l.length = L at *
  have HL := Lib.hid hL; clear hL
  go_enter Try.func36, Try.ntmps36
  go_wp2
  go_loop [3, 4] (fun s t => ∃ k : Nat, k ≤ L ∧ t = .int .i64 k ∧ s = .int .i64 (cellsN (l.take k)) ∧ cellsN (l.take k) ≤ k * 140737488355328) (fun _ t => L - (intOf t).toNat)
  case atStart => exact ⟨0, by omega, rfl, rfl, by simp [cellsN]⟩
  case round =>
    obtain ⟨k, hk, rfl, rfl, hsum⟩ := hrel
    by_cases hlt : k < L
    · obtain ⟨b, off, u, rfl, hb, hcell, hu⟩ := hs.sl_at hlt
      obtain ⟨A', c', rfl, hlc', hc', hl'⟩ := hu.form
      have hst := Lib.hid (cellsN_step (l := l) (k := k) (m := (l.getD k []).length) (by rw [HL.out]; exact hlt) rfl)
      generalize hm : (l.getD k []).length = m at *
      have Hm := Lib.hid hm; clear hm
      generalize hn : cellsN (l.take k) = n at *
      have Hn := Lib.hid hn; clear hn
      go_wp2
      go_round
      case rel => exact ⟨k + 1, by omega, by go_num, by rw [hst.out], by have := hst.out; omega⟩
      case measure => simp [intOf]; omega
    · go_wp2
      go_ret
      have : k = l.length := by rw [HL.out]; omega
      exact ⟨ret_int (by rw [this, List.take_length]), rfl⟩

theorem any_at {l : List (List Int)} {k j : Nat} (hk : k < l.length) (hj : j < (l.getD k []).length) (h : isInt ((l.getD k []).getD j 0) = false) : l.any badInts = true :=
  List.any_eq_true.2 ⟨l.getD k [], mem_getD hk, List.any_eq_true.2 ⟨(l.getD k []).getD j 0, mem_getD hj, by rw [h]; rfl⟩⟩
theorem any_none {l : List (List Int)} (h : ∀ i, i < l.length → badInts (l.getD i []) = false) : l.any badInts = false := by
  rw [List.any_eq_false]
  intro x hx
  obtain ⟨i, hi, rfl⟩ := List.getElem_of_mem hx
  have := h i hi
  rw [List.getD_eq_getElem?_getD, List.getElem?_eq_getElem hi] at this
  simpa using this
theorem bad_none {b : List Int} (h : ∀ i, i < b.length → isInt (b.getD i 0) = true) : badInts b = false := by
  unfold badInts
  rw [List.any_eq_false]
  intro x hx
  obtain ⟨i, hi, rfl⟩ := List.getElem_of_mem hx
  have := h i hi
  rw [List.getD_eq_getElem?_getD, List.getElem?_eq_getElem hi] at this
  simpa using this
theorem all_snoc {p : Nat → Prop} {k : Nat} (h : ∀ i, i < k → p i) (hk : p k) : ∀ i, i < k + 1 → p i := by
  intro i hi
  rcases Nat.lt_succ_iff_lt_or_eq.1 hi with h1 | rfl
  · exact h i h1
  · exact hk

theorem rcheckBlocks_any (v : Value) (l : List (List Int)) (w : World) (hs : Sl w v l) : Calls Try.prog 39 #[v] w fun e w' => e = .returned (.int .i64 (checkB l)) ∧ w = w' := by
  have hcs := fun h => Lib.hid (rcells_any v l w hs h)
  obtain ⟨L, hL⟩ : ∃ n, l.length = n := ⟨_, rfl⟩
  obtain ⟨A, c, rfl, hlc, hc, hL47⟩ := hs.form_n hL
  rw [hL] at hcs
  have HL := Lib.hid hL; clear hL
  by_cases h8 : L ≤ 8
  · have hd : decide ((8 : Int) < (L : Int)) = false := by simp; omega
    have hcs := hcs h8
    obtain ⟨n, hn⟩ : ∃ n, cellsN l = n := ⟨_, rfl⟩
    rw [hn] at hcs
    have Hn := Lib.hid hn; clear hn
    by_cases hn40 : 40 < n
    · have hd2 : decide ((40 : Int) < (n : Int)) = true := by simp; omega
      go_enter Try.func39, Try.ntmps39
      go_wp2_with (first
        | (go_at_call 36; refine (hcs.out).mono ?_; rintro e w' ⟨rfl, rfl⟩))
      go_ret
      exact ⟨ret_int (by unfold checkB; rw [HL.out, Hn.out, if_pos (.inr hn40)]), rfl⟩
    · have hd2 : decide ((40 : Int) < (n : Int)) = false := by simp; omega
      have hck : checkB l = if l.any badInts then 3 else 0 := by unfold checkB; rw [HL.out, Hn.out, if_neg (by omega)]
      obtain ⟨z, hz⟩ : ∃ z, checkB l = z := ⟨_, rfl⟩
      rw [hz] at hck ⊢
      clear hz
      have Hck := Lib.hid hck; clear hck
      go_enter Try.func39, Try.ntmps39
      go_wp2_with (first
        | (go_at_call 36; refine (hcs.out).mono ?_; rintro e w' ⟨rfl, rfl⟩))
      go_loop [3] (fun t => ∃ k : Nat, k ≤ L ∧ t = .int .i64 k ∧ ∀ i, i < k → badInts (l.getD i []) = false) (fun t => L - (intOf t).toNat)
      case atStart => exact ⟨0, by omega, rfl, by omega⟩
      case round =>
        obtain ⟨k, hk, rfl, hno⟩ := hrel
        have Hno := Lib.hid hno; clear hno
        by_cases hlt : k < L
        · obtain ⟨b, off, u, rfl, hb, hcell, hu⟩ := hs.sl_at hlt
          obtain ⟨M, hM⟩ : ∃ n, (l.getD k []).length = n := ⟨_, rfl⟩
          obtain ⟨A', c', rfl, hlc', hc', hM47⟩ := hu.form_n hM
          have HM := Lib.hid hM; clear hM
          go_wp2
          go_loop [4] (fun t => ∃ j : Nat, j ≤ M ∧ t = .int .i64 j ∧ ∀ i, i < j → isInt ((l.getD k []).getD i 0) = true) (fun t => M - (intOf t).toNat)
          case atStart => exact ⟨0, by omega, rfl, by omega⟩
          case round =>
            obtain ⟨j, hj, rfl, hyes⟩ := hrel
            have Hyes := Lib.hid hyes; clear hyes
            by_cases hlj : j < M
            · obtain ⟨b', off', rfl, hb', hcell', hi'⟩ := hu.int_at hlj
              obtain ⟨x, hxx⟩ : ∃ x, (l.getD k []).getD j 0 = x := ⟨_, rfl⟩
              rw [hxx] at hcell' hi'
              have Hxx := Lib.hid hxx; clear hxx
              cases hx : isInt x
              · have Hx := Lib.hid hx; clear hx
                go_wp2_with (first
                  | (go_at_call 41; refine (risInt_any _ _).mono ?_; rintro e w' ⟨rfl, rfl⟩; rw [Hx.out]))
                go_ret
                exact ⟨ret_int (by rw [Hck.out, any_at (j := j) (by rw [HL.out]; exact hlt) (by rw [HM.out]; exact hlj) (by rw [Hxx.out]; exact Hx.out)]; rfl), rfl⟩
              · have Hx := Lib.hid hx; clear hx
                go_wp2_with (first
                  | (go_at_call 41; refine (risInt_any _ _).mono ?_; rintro e w' ⟨rfl, rfl⟩; rw [Hx.out]))
                go_round
                case rel => exact ⟨j + 1, by omega, by go_num, all_snoc Hyes.out (by rw [Hxx.out]; exact Hx.out)⟩
                case measure => simp [intOf]; omega
            · go_wp2
              go_round
              case rel => exact ⟨k + 1, by omega, by go_num, all_snoc Hno.out (bad_none (fun i hi => Hyes.out i (by rw [HM.out] at hi; omega)))⟩
              case measure => simp [intOf]; omega
        · go_wp2
          go_ret
          exact ⟨ret_int (by rw [Hck.out, any_none (fun i hi => Hno.out i (by rw [HL.out] at hi; omega))]; rfl), rfl⟩
  · have hd : decide ((8 : Int) < (L : Int)) = true := by simp; omega
    clear hcs
    go_enter Try.func39, Try.ntmps39
    go_wp2
    go_ret
    exact ⟨ret_int (by unfold checkB; rw [HL.out, if_pos (.inl (by omega))]), rfl⟩
end Go.Proofs.Ytjojipeodionmaa
