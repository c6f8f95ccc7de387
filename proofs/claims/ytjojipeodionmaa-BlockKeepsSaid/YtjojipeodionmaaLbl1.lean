import Derived.Test.YtjojipeodionmaaRbl4
namespace Go.Proofs.Ytjojipeodionmaa
open Go.RowKit

/-- A slice of one slice, just laid. -/
theorem Sl.one {α : Type} [Rep α] {w : World} {u : Value} {xs : List α} (h : Sl w u xs) (T : TypeId) : Sl (w.alloc (.cells #[u] T)) (.slice (some ⟨w.heap.size, 0, none⟩) 1 1) [xs] := by
  refine ⟨_, 1, rfl, Nat.le_refl _, by unfold maxLen; omega, by simp, fun _ => ⟨_, _, rfl, by simp, fun i x hx => ⟨[u], ⟨u, rfl, ?_⟩, fun j y hy => ?_⟩⟩⟩
  · have hi : i < 1 := by simpa using (List.getElem?_eq_some_iff.1 hx).1
    obtain rfl : i = 0 := by omega
    simp at hx
    subst hx
    exact h.alloc _
  · have hi : i < 1 := by simpa using (List.getElem?_eq_some_iff.1 hx).1
    obtain rfl : i = 0 := by omega
    match j with
    | 0 =>
      simp at hy
      subst hy
      have hb : (w.alloc (.cells #[u] T)).heap[w.heap.size]? = some (.cells #[u] T) := heap_alloc_new w _
      simp only [World.cell?, hb, Rep.k]
      simp
    | j + 1 => simp at hy

theorem blocksAre_any (v vw : Value) (l want : List (List Int)) (e x : Int) (w : World) (hs : Sl w v l) (hw : x = 0 → Sl w vw want) (hl : ∃ A n c, vw = .slice A n c) :
    Calls Try.prog 44 #[v, .int .i64 e, .int .i64 x, vw] w fun e' w' => e' = .returned (.bool (decide (e = x) && decide (l = if x = 0 then want else []))) ∧ Below w.heap.size w w' := by
  obtain ⟨A, c, rfl, _, _, _⟩ := hs.form
  by_cases hx : x = 0
  · subst hx
    have hw := hw rfl
    obtain ⟨A2, c2, rfl, _, _, _⟩ := hw.form
    rw [if_pos rfl]
    have hq := Lib.hid (rsameBlocks_any _ _ l want w hs hw)
    by_cases he : e = 0
    · subst he
      go_enter Try.func44, Try.ntmps44
      go_wp2_with (first
        | (go_at_call 35; refine (hq.out).mono ?_; rintro e w' ⟨rfl, hb⟩))
      go_ret
      exact ⟨ret_bool (by simp), hb⟩
    · have hd : (e == 0) = false := by simpa using he
      go_enter Try.func44, Try.ntmps44
      go_wp2
      go_ret
      exact ⟨ret_bool (by simp [he]), (by repeat (first | exact Below.refl _ _ | assumption | refine Below.drew ?_ | refine Below.drewN_ ?_ _ | refine below_alloc ?_ _ | refine below_via (by assumption) ?_ | refine below_set ?_ (by simp <;> omega) _))⟩
  · obtain ⟨A2, n2, c2, rfl⟩ := hl
    rw [if_neg hx]
    have hq := Lib.hid (rsameBlocks_any _ _ l [] w hs Sl.nil_)
    have hd : (x == 0) = false := by simpa using hx
    by_cases he : e = x
    · subst he
      have Hx := Lib.hid hx; clear hx
      go_enter Try.func44, Try.ntmps44
      go_wp2_with (first
        | (go_at_call 35; refine (hq.out).mono ?_; rintro e w' ⟨rfl, hb⟩))
      go_ret
      exact ⟨ret_bool (by simp), hb⟩
    · have hd2 : (e == x) = false := by simpa using he
      have He := Lib.hid he; clear he
      have Hx := Lib.hid hx; clear hx
      go_enter Try.func44, Try.ntmps44
      go_wp2
      go_ret
      exact ⟨ret_bool (by simp [He.out]), (by repeat (first | exact Below.refl _ _ | assumption | refine Below.drew ?_ | refine Below.drewN_ ?_ _ | refine below_alloc ?_ _ | refine below_via (by assumption) ?_ | refine below_set ?_ (by simp <;> omega) _))⟩

theorem has_any (v : Value) (l : List Int) (x : Int) (w : World) (hs : Sl w v l) : Calls Try.prog 46 #[v, .int .i64 x] w fun e w' => e = .returned (.bool (l.contains x)) ∧ w = w' := by
  obtain ⟨L, hL⟩ : ∃ n, l.length = n := ⟨_, rfl⟩
  obtain ⟨A, c, rfl, _, _, _⟩ := hs.form_n hL
  have HL := Lib.hid hL; clear hL
  obtain ⟨z, hz⟩ : ∃ z, l.contains x = z := ⟨_, rfl⟩
  rw [hz]
  have Hz := Lib.hid hz; clear hz
  go_enter Try.func46, Try.ntmps46
  go_wp2
  go_loop [5] (fun t => ∃ k : Nat, k ≤ L ∧ t = .int .i64 k ∧ ∀ j, j < k → l.getD j 0 ≠ x) (fun t => L - (intOf t).toNat)
  case atStart => exact ⟨0, by omega, rfl, by omega⟩
  case round =>
    obtain ⟨k, hk, rfl, hne⟩ := hrel
    have Hne := Lib.hid hne; clear hne
    by_cases hlt : k < L
    · obtain ⟨b, off, rfl, hb, hcell, hi⟩ := hs.int_at hlt
      obtain ⟨y, hy⟩ : ∃ y, l.getD k 0 = y := ⟨_, rfl⟩
      rw [hy] at hcell hi
      have Hy := Lib.hid hy; clear hy
      by_cases hyx : y = x
      · subst hyx
        go_wp2
        go_ret
        exact ⟨ret_bool (by rw [← Hz.out, contains_mem (by rw [HL.out]; exact hlt) Hy.out]), rfl⟩
      · have hd : (y == x) = false := by simpa using hyx
        have Hyx := Lib.hid hyx; clear hyx
        go_wp2
        go_round
        case rel => exact ⟨k + 1, by omega, by go_num, all_snoc Hne.out (by rw [Hy.out]; exact Hyx.out)⟩
        case measure => simp [intOf]; omega
    · go_wp2
      go_ret
      refine ⟨ret_bool ?_, rfl⟩
      rw [← Hz.out]
      symm
      rw [Bool.eq_false_iff]
      intro hc
      have hm : x ∈ l := by simpa using hc
      obtain ⟨i, hi, he⟩ := List.getElem_of_mem hm
      refine Hne.out i (by rw [HL.out] at hi; omega) ?_
      rw [List.getD_eq_getElem?_getD, List.getElem?_eq_getElem hi, he]; rfl

set_option maxHeartbeats 1000000 in
theorem blockBegun_any (w : World) : Calls Try.prog 31 #[] w fun e w' => e = .returned (.bool true) ∧ Below w.heap.size w w' := by
  have hs1 : ∀ w : World, Sl ((w.alloc (.cells #[.int .i64 7] 3)).alloc (.cells #[.slice (some ⟨w.heap.size, 0, none⟩) 1 1] 41)) (.slice (some ⟨w.heap.size + 1, 0, none⟩) 1 1) [[(7 : Int)]] := by
    intro w
    have := (Sl.lit_int w 3 [7] (by simp [I64]) (by simp)).one 41
    simpa using this
  have hs2 : ∀ w : World, Sl ((w.alloc (.cells #[.int .i64 0, .int .i64 5] 3)).alloc (.cells #[.slice (some ⟨w.heap.size, 0, none⟩) 2 2] 41)) (.slice (some ⟨w.heap.size + 1, 0, none⟩) 1 1) [[(0 : Int), 5]] := by
    intro w
    have := (Sl.lit_int w 3 [0, 5] (by simp [I64]) (by simp)).one 41
    simpa using this
  have hr1 : ∀ w : World, Sl (w.alloc (.cells #[.int .i64 2, .int .i64 0] 3)) (.slice (some ⟨w.heap.size, 0, none⟩) 2 2) [(2 : Int), 0] := fun w => Sl.lit_int w 3 [2, 0] (by simp [I64]) (by simp)
  have hr2 : ∀ w : World, Sl (w.alloc (.cells #[.int .i64 1, .int .i64 0] 3)) (.slice (some ⟨w.heap.size, 0, none⟩) 2 2) [(1 : Int), 0] := fun w => Sl.lit_int w 3 [1, 0] (by simp [I64]) (by simp)
  have c1 : newR [[7]] 2 = 2 ∧ newE [[7]] 2 = 0 ∧ newL [[7]] 2 = [[7], [0, 0]] := by decide
  have c2 : setE [[7], [0, 0]] 2 1 5 = 0 ∧ setL [[7], [0, 0]] 2 1 5 = [[7], [0, 5]] := by decide
  have c3 : getE [[7], [0, 5]] 2 1 = 0 ∧ getN [[7], [0, 5]] 2 1 = 5 := by decide
  have c4 : getE [[7], [0, 5]] 0 0 = 5 ∧ getN [[7], [0, 5]] 0 0 = 0 := by decide
  have c5 : keepE [[7], [0, 5]] [2, 0] = 0 ∧ keepL [[7], [0, 5]] [2, 0] = [[0, 5]] ∧ keepR [[7], [0, 5]] [2, 0] = [1, 0] := by decide
  have c6 : checkB [[7], [0, 5]] = 0 := by decide
  have n1 := fun w => Lib.hid (newB_any _ [[7]] 2 _ (hs1 w))
  simp only [c1.1, c1.2.1, c1.2.2] at n1
  have n2 := fun v w h => Lib.hid (setB_any v [[7], [0, 0]] 2 1 5 w h (by simp [I64]) (by simp [I64]) (by simp [I64]))
  simp only [c2.1, c2.2] at n2
  have n3 := fun v w h => Lib.hid (get_any v [[7], [0, 5]] 2 1 w h (by simp [I64]) (by simp [I64]))
  simp only [c3.1, c3.2] at n3
  have n4 := fun v w h => Lib.hid (get_any v [[7], [0, 5]] 0 0 w h (by simp [I64]) (by simp [I64]))
  simp only [c4.1, c4.2] at n4
  have n5 := fun v w (h : Sl w v [[7], [0, 5]]) => Lib.hid (keepB_any v _ [[7], [0, 5]] [2, 0] _ (h.alloc _) (hr1 w) (by simp))
  simp only [c5.1, c5.2.1, c5.2.2] at n5
  have n6 := fun v w h => Lib.hid (checkB_any v [[7], [0, 5]] w h)
  simp only [c6] at n6
  clear c1 c2 c3 c4 c5 c6
  go_enter Try.func31, Try.ntmps31
  go_wp2_with (first
    | (go_at_call 33; refine ((n1 w).out).mono ?_; rintro e w1 ⟨u1, rfl, hb1, ho1⟩; have hB1 : Below w.heap.size w w1 := below_via hb1 (by repeat (first | exact Below.refl _ _ | assumption | refine Below.drew ?_ | refine Below.drewN_ ?_ _ | refine below_alloc ?_ _ | refine below_via (by assumption) ?_ | refine below_set ?_ (by simp <;> omega) _)))
    | (go_at_call 38; refine ((n2 _ _ ho1.sl).out).mono ?_; rintro e w2 ⟨u2, rfl, hb2, ho2⟩; have hm2 := ho2.sl; have hB2 := below_via hb2 hB1)
    | fail)
  refine ((n3 _ _ hm2).out).mono ?_
  rintro e w3 ⟨rfl, hb3⟩
  have hm3 := hm2.via hb3
  have hB3 := below_via hb3 hB2
  clear hm2 hb1 hb2 hb3 hB1 hB2 ho1 ho2 n1 n2 n3
  go_wp2_with fail
  refine ((n4 _ _ hm3).out).mono ?_
  rintro e w4 ⟨rfl, hb4⟩
  have hm4 := hm3.via hb4
  have hB4 := below_via hb4 hB3
  clear hm3 hb4 hB3 n4
  go_wp2_with fail
  refine ((n5 _ _ hm4).out).mono ?_
  rintro e w5 ⟨u5, ur5, rfl, hb5, hk5, hr5⟩
  have hb50 : Below w4.heap.size w4 w5 := below_via hb5 (by repeat (first | exact Below.refl _ _ | assumption | refine Below.drew ?_ | refine Below.drewN_ ?_ _ | refine below_alloc ?_ _ | refine below_via (by assumption) ?_ | refine below_set ?_ (by simp <;> omega) _))
  have hm5 := hm4.via hb50
  have hB5 := below_via hb50 hB4
  clear hm4 hb5 hb50 hB4 n5
  go_wp2_with fail
  refine ((n6 _ _ hm5).out).mono ?_
  rintro e w6 ⟨rfl, hb6⟩
  have hk6 := hk5.via hb6
  have hr6 := hr5.via hb6
  have hB6 := below_via hb6 hB5
  clear hm5 hb6 hB5 n6 hk5 hr5
  have n7 := Lib.hid (rsameBlocks_any u5 _ _ _ _ ((hk6.alloc _).alloc _) (hs2 w6))
  have n8 := fun w7 h => Lib.hid (rsameInts_any ur5 _ _ _ _ ((hr6.via h).alloc _) (hr2 w7))
  clear hs1 hs2 hr1 hr2
  go_wp2_with fail
  refine (n7.out).mono ?_
  rintro e w7 ⟨rfl, hb7⟩
  have hb70 : Below w6.heap.size w6 w7 := below_via hb7 (by repeat (first | exact Below.refl _ _ | assumption | refine Below.drew ?_ | refine Below.drewN_ ?_ _ | refine below_alloc ?_ _ | refine below_via (by assumption) ?_ | refine below_set ?_ (by simp <;> omega) _))
  have n9 := n8 w7 hb70
  have hB7 := below_via hb70 hB6
  clear n7 n8 hb7
  go_wp2_with fail
  refine (n9.out).mono ?_
  rintro e w8 ⟨rfl, hb8⟩
  have hB8 : Below w.heap.size w w8 := below_via hb8 (below_alloc hB7 _)
  go_wp2
  go_ret
  exact ⟨rfl, hB8⟩
end Go.Proofs.Ytjojipeodionmaa
