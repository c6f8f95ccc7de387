import Derived.Test.YtjojipeodionmaaRbl1
namespace Go.Proofs.Ytjojipeodionmaa
open Go.RowKit

theorem rplace_any (v : Value) (l : List (List Int)) (ref at_ : Int) (w : World) (hs : Sl w v l) (hr : I64 ref) (ha : I64 at_) :
    Calls Try.prog 40 #[v, .int .i64 ref, .int .i64 at_] w fun e w' => e = .returned (.int .i64 (placeE l ref at_)) ∧ w = w' := by
  obtain ⟨L, hL⟩ : ∃ n, l.length = n := ⟨_, rfl⟩
  obtain ⟨A, c, rfl, hlc, hc, _⟩ := hs.form_n hL
  have HL := Lib.hid hL; clear hL
  obtain ⟨hr1, hr2⟩ := hr
  by_cases h0 : ref = 0
  · subst h0
    rw [placeE_none]
    go_enter Try.func40, Try.ntmps40
    go_wp2
    go_ret
    exact ⟨rfl, rfl⟩
  · have hd0 : (ref == 0) = false := by simpa using h0
    by_cases hin : ref < 0 ∨ (L : Int) < ref
    · have hp : placeE l ref at_ = 3 := placeE_out h0 (by rw [HL.out]; omega)
      rw [hp]; clear hp
      have hd1 : (decide (1 ≤ ref) && decide (ref ≤ (L : Int))) = false := by simp; omega
      have Hd1 := Lib.hid hd1; clear hd1
      clear hin
      go_enter Try.func40, Try.ntmps40
      go_wp2_with (first
        | (go_at_call 81; refine (rbetween_any _ _ _ _).mono ?_; rintro e w' ⟨rfl, rfl⟩; rw [Hd1.out]))
      go_ret
      exact ⟨rfl, rfl⟩
    · obtain ⟨k, rfl⟩ : ∃ k : Nat, ref = k + 1 := ⟨(ref - 1).toNat, by omega⟩
      have hk : k < L := by omega
      have hd1 : (decide ((1 : Int) ≤ k + 1) && decide ((k : Int) + 1 ≤ (L : Int))) = true := by simp; omega
      have Hd1 := Lib.hid hd1; clear hd1
      clear hd0 hin hr1 hr2
      have H0 := Lib.hid h0; clear h0
      obtain ⟨b, off, u, rfl, hb, hcell, hu⟩ := hs.sl_at hk
      have hblk : blk l (k + 1) = l.getD k [] := by unfold blk; congr 1; omega
      obtain ⟨M, hM⟩ : ∃ n, (l.getD k []).length = n := ⟨_, rfl⟩
      obtain ⟨A', c', rfl, hlc', hc', _⟩ := hu.form_n hM
      have HM := Lib.hid hM; clear hM
      by_cases ho : at_ < 0 ∨ (M : Int) ≤ at_
      · have hp : placeE l (k + 1) at_ = 3 := placeE_out H0.out (by rw [hblk, HM.out]; omega)
        rw [hp]; clear hp hblk
        have hd2 : (decide ((0 : Int) ≤ at_) && decide (at_ ≤ (M : Int) - 1)) = false := by simp; omega
        have Hd2 := Lib.hid hd2; clear hd2
        clear ho
        go_enter Try.func40, Try.ntmps40
        go_wp2_with (first
          | (go_at_call 81; refine (rbetween_any _ _ _ _).mono ?_; rintro e w' ⟨rfl, rfl⟩; first | rw [Hd1.out] | rw [Hd2.out]))
        go_ret
        exact ⟨rfl, rfl⟩
      · have hp : placeE l (k + 1) at_ = 0 := placeE_in (by omega) (by rw [HL.out]; omega) (by omega) (by rw [hblk, HM.out]; omega)
        rw [hp]; clear hp hblk
        have hd2 : (decide ((0 : Int) ≤ at_) && decide (at_ ≤ (M : Int) - 1)) = true := by simp; omega
        have Hd2 := Lib.hid hd2; clear hd2
        clear ho
        go_enter Try.func40, Try.ntmps40
        go_wp2_with (first
          | (go_at_call 81; refine (rbetween_any _ _ _ _).mono ?_; rintro e w' ⟨rfl, rfl⟩; first | rw [Hd1.out] | rw [Hd2.out]))
        go_ret
        exact ⟨rfl, rfl⟩

theorem take_same' {α : Type} {l1 l2 : List α} {k : Nat} {d : α} (h1 : k < l1.length) (h2 : k < l2.length) (he : l1.getD k d = l2.getD k d) (h : l1.take k = l2.take k) : l1.take (k + 1) = l2.take (k + 1) := by
  rw [take_snoc l1 k d h1, take_snoc l2 k d h2, he, h]
theorem take_ne' {α : Type} {l1 l2 : List α} {k : Nat} {d : α} (he : l1.getD k d ≠ l2.getD k d) : l1 ≠ l2 := by rintro rfl; exact he rfl

theorem rsameInts_any (v1 v2 : Value) (l1 l2 : List Int) (w : World) (hs1 : Sl w v1 l1) (hs2 : Sl w v2 l2) :
    Calls Try.prog 45 #[v1, v2] w fun e w' => e = .returned (.bool (decide (l1 = l2))) ∧ Below w.heap.size w w' := by
  obtain ⟨A1, c1, rfl, hlc1, hc1, hl1⟩ := hs1.form
  obtain ⟨A2, c2, rfl, hlc2, hc2, hl2⟩ := hs2.form
  by_cases hne : l1.length = l2.length
  · have ht : ((l1.length : Int) != (l2.length : Int)) = false := by simp; omega
    have hle : l2.length ≤ l1.length := by omega
    have hle2 : l1.length ≤ l2.length := by omega
    have Hne := Lib.hid hne; clear hne
    go_enter Try.func45, Try.ntmps45
    go_wp2
    go_loopw [5] (fun t wr => ∃ k : Nat, k ≤ l1.length ∧ t = .int .i64 k ∧ Below w.heap.size w wr ∧ l1.take k = l2.take k) (fun t _ => l1.length - (intOf t).toNat)
    case atStart => exact ⟨0, by omega, rfl, (by repeat (first | exact Below.refl _ _ | assumption | refine Below.drew ?_ | refine Below.drewN_ ?_ _ | refine below_alloc ?_ _ | refine below_via (by assumption) ?_ | refine below_set ?_ (by simp <;> omega) _)), by simp⟩
    case round =>
      obtain ⟨k, hk, rfl, hbl, hck⟩ := hrel
      have Hck := Lib.hid hck; clear hck
      by_cases hlt : k < l1.length
      · have hlt2 : k < l2.length := by omega
        obtain ⟨b1, off1, rfl, hb1, hc10, hi1⟩ := (hs1.via hbl).int_at hlt
        obtain ⟨b2, off2, rfl, hb2, hc20, hi2⟩ := (hs2.via hbl).int_at hlt2
        obtain ⟨x, hx⟩ : ∃ x, l1.getD k 0 = x := ⟨_, rfl⟩
        obtain ⟨y, hy⟩ : ∃ x, l2.getD k 0 = x := ⟨_, rfl⟩
        rw [hx] at hc10 hi1
        rw [hy] at hc20 hi2
        have Hx := Lib.hid hx; clear hx
        have Hy := Lib.hid hy; clear hy
        have hsz := hbl.size
        by_cases hxy : x = y
        · subst hxy
          have hn : (x != x) = false := by simp
          go_wp2
          go_quiet (fail)
          go_wp2
          go_roundw
          case rel => exact ⟨k + 1, by omega, by go_num, (by repeat (first | exact Below.refl _ _ | assumption | refine Below.drew ?_ | refine Below.drewN_ ?_ _ | refine below_alloc ?_ _ | refine below_via (by assumption) ?_ | refine below_set ?_ (by simp <;> omega) _)), take_same' (d := 0) hlt hlt2 (by rw [Hx.out, Hy.out]) Hck.out⟩
          case measure => simp [intOf]; omega
        · have hn : (x != y) = true := by simpa using hxy
          have Hxy := Lib.hid hxy; clear hxy
          go_wp2
          go_quiet (fail)
          go_wp2
          go_ret
          exact ⟨ret_bool (Eq.symm (decide_eq_false (take_ne' (k := k) (d := 0) (by rw [Hx.out, Hy.out]; exact Hxy.out)))), (by repeat (first | exact Below.refl _ _ | assumption | refine Below.drew ?_ | refine Below.drewN_ ?_ _ | refine below_alloc ?_ _ | refine below_via (by assumption) ?_ | refine below_set ?_ (by simp <;> omega) _))⟩
      · go_wp2
        go_ret
        refine ⟨ret_bool ?_, (by repeat (first | exact Below.refl _ _ | assumption | refine Below.drew ?_ | refine Below.drewN_ ?_ _ | refine below_alloc ?_ _ | refine below_via (by assumption) ?_ | refine below_set ?_ (by simp <;> omega) _))⟩
        have := Hck.out
        rw [List.take_of_length_le (by omega), List.take_of_length_le (by omega)] at this
        simpa using this
  · go_enter Try.func45, Try.ntmps45
    go_wp2
    go_ret
    exact ⟨ret_bool (by simp; rintro rfl; exact hne rfl), (by repeat (first | exact Below.refl _ _ | assumption | refine Below.drew ?_ | refine Below.drewN_ ?_ _ | refine below_alloc ?_ _ | refine below_via (by assumption) ?_ | refine below_set ?_ (by simp <;> omega) _))⟩

theorem keepc {W w' : World} {b1 o1 b2 o2 : Nat} {x y : Value} (h0 : W.cell? ⟨b1, o1, none⟩ = some x) (h1 : W.cell? ⟨b2, o2, none⟩ = some y) (hb1 : b1 < W.heap.size) (hb2 : b2 < W.heap.size) (h : Below W.heap.size W w') :
    Below W.heap.size W w' ∧ w'.cell? ⟨b1, o1, none⟩ = some x ∧ w'.cell? ⟨b2, o2, none⟩ = some y :=
  ⟨h, (h.cell (p := ⟨b1, o1, none⟩) hb1).trans h0, (h.cell (p := ⟨b2, o2, none⟩) hb2).trans h1⟩
theorem rsameBlocks_any (v1 v2 : Value) (l1 l2 : List (List Int)) (w : World) (hs1 : Sl w v1 l1) (hs2 : Sl w v2 l2) :
    Calls Try.prog 35 #[v1, v2] w fun e w' => e = .returned (.bool (decide (l1 = l2))) ∧ Below w.heap.size w w' := by
  obtain ⟨A1, c1, rfl, hlc1, hc1, hl1⟩ := hs1.form
  obtain ⟨A2, c2, rfl, hlc2, hc2, hl2⟩ := hs2.form
  by_cases hne : l1.length = l2.length
  · have ht : ((l1.length : Int) != (l2.length : Int)) = false := by simp; omega
    have hle : l2.length ≤ l1.length := by omega
    have hle2 : l1.length ≤ l2.length := by omega
    have Hne := Lib.hid hne; clear hne
    go_enter Try.func35, Try.ntmps35
    go_wp2
    go_loopw [5] (fun t wr => ∃ k : Nat, k ≤ l1.length ∧ t = .int .i64 k ∧ Below w.heap.size w wr ∧ l1.take k = l2.take k) (fun t _ => l1.length - (intOf t).toNat)
    case atStart => exact ⟨0, by omega, rfl, (by repeat (first | exact Below.refl _ _ | assumption | refine Below.drew ?_ | refine Below.drewN_ ?_ _ | refine below_alloc ?_ _ | refine below_via (by assumption) ?_ | refine below_set ?_ (by simp <;> omega) _)), by simp⟩
    case round =>
      obtain ⟨k, hk, rfl, hbl, hck⟩ := hrel
      have Hck := Lib.hid hck; clear hck
      by_cases hlt : k < l1.length
      · have hlt2 : k < l2.length := by omega
        obtain ⟨b1, off1, u1, rfl, hb1, hc10, hi1⟩ := (hs1.via hbl).sl_at hlt
        obtain ⟨b2, off2, u2, rfl, hb2, hc20, hi2⟩ := (hs2.via hbl).sl_at hlt2
        obtain ⟨x, hx⟩ : ∃ x, l1.getD k [] = x := ⟨_, rfl⟩
        obtain ⟨y, hy⟩ : ∃ x, l2.getD k [] = x := ⟨_, rfl⟩
        rw [hx] at hi1
        rw [hy] at hi2
        have Hx := Lib.hid hx; clear hx
        have Hy := Lib.hid hy; clear hy
        have hsz := hbl.size
        have hq := fun w1 (h : Below wr.heap.size wr w1) => Lib.hid (rsameInts_any u1 u2 x y w1 (hi1.via h) (hi2.via h))
        obtain ⟨A3, c3, rfl, _, _, _⟩ := hi1.form
        obtain ⟨A4, c4, rfl, _, _, _⟩ := hi2.form
        have hq0 := hq wr.drew (Below.refl _ _).drew
        cases hxy : decide (x = y)
        · have Hdc := Lib.hid hxy; clear hxy
          go_wp2
          go_region_held3 (fun w' => Below wr.heap.size wr w' ∧ w'.cell? ⟨b1, off1 + k, none⟩ = some (.slice A3 x.length c3) ∧ w'.cell? ⟨b2, off2 + k, none⟩ = some (.slice A4 y.length c4)) (exact keepc hc10 hc20 hb1 hb2 (by repeat (first | exact Below.refl _ _ | assumption | refine Below.drew ?_ | refine Below.drewN_ ?_ _ | refine below_alloc ?_ _ | refine below_via (by assumption) ?_ | refine below_set ?_ (by simp <;> omega) _)))
            (first
              | (go_at_call 45; refine (hq0.out).mono ?_; rintro e w' ⟨rfl, hb⟩; rw [Hdc.out])
              | fail)
          go_wp2
          go_ret
          exact ⟨ret_bool (Eq.symm (decide_eq_false (take_ne' (k := k) (d := []) (by rw [Hx.out, Hy.out]; exact of_decide_eq_false Hdc.out)))), below_via (And.left (by assumption)) hbl⟩
        · have Hdc := Lib.hid hxy; clear hxy
          go_wp2
          go_region_held3 (fun w' => Below wr.heap.size wr w' ∧ w'.cell? ⟨b1, off1 + k, none⟩ = some (.slice A3 x.length c3) ∧ w'.cell? ⟨b2, off2 + k, none⟩ = some (.slice A4 y.length c4)) (exact keepc hc10 hc20 hb1 hb2 (by repeat (first | exact Below.refl _ _ | assumption | refine Below.drew ?_ | refine Below.drewN_ ?_ _ | refine below_alloc ?_ _ | refine below_via (by assumption) ?_ | refine below_set ?_ (by simp <;> omega) _)))
            (first
              | (go_at_call 45; refine (hq0.out).mono ?_; rintro e w' ⟨rfl, hb⟩; rw [Hdc.out])
              | fail)
          go_wp2
          go_roundw
          case rel => exact ⟨k + 1, by omega, by go_num, below_via (And.left (by assumption)) hbl, take_same' (d := []) hlt hlt2 (by rw [Hx.out, Hy.out]; exact of_decide_eq_true Hdc.out) Hck.out⟩
          case measure => simp [intOf]; omega
      · go_wp2
        go_ret
        refine ⟨ret_bool ?_, (by repeat (first | exact Below.refl _ _ | assumption | refine Below.drew ?_ | refine Below.drewN_ ?_ _ | refine below_alloc ?_ _ | refine below_via (by assumption) ?_ | refine below_set ?_ (by simp <;> omega) _))⟩
        have := Hck.out
        rw [List.take_of_length_le (by omega), List.take_of_length_le (by omega)] at this
        simpa using this
  · go_enter Try.func35, Try.ntmps35
    go_wp2
    go_ret
    exact ⟨ret_bool (by simp; rintro rfl; exact hne rfl), (by repeat (first | exact Below.refl _ _ | assumption | refine Below.drew ?_ | refine Below.drewN_ ?_ _ | refine below_alloc ?_ _ | refine below_via (by assumption) ?_ | refine below_set ?_ (by simp <;> omega) _))⟩
end Go.Proofs.Ytjojipeodionmaa
