/- FlowReach is true, whatever it is handed. -/
import Derived.Test.YtjojipeodionmaaFl8
namespace Go.Proofs.Ytjojipeodionmaa
open Go.RowKit

section
variable {l : List MOp} (hf : flowE l = 0)
theorem reach_in {a : Int} (h : a ∈ reachL l) : 0 ≤ a ∧ a ≤ l.length ∧ Rch l a.toNat := by
  unfold reachL at h
  rw [List.mem_filter, upto_mem, rchB_iff] at h
  exact ⟨h.1.1, by omega, h.2⟩
include hf
theorem reach_of {a : Int} (h0 : 0 ≤ a) (h : Rch l a.toNat) : a ∈ reachL l := by
  unfold reachL
  rw [List.mem_filter, upto_mem, rchB_iff]
  have := Rch.le hf h
  exact ⟨by omega, h⟩
theorem nextE_in {a : Int} (h0 : 0 ≤ a) (h1 : a < l.length) : nextE l a = 0 := by unfold nextE; rw [if_pos hf, if_neg (by omega)]
theorem backE_in {a : Int} (h0 : 0 ≤ a) (h1 : a ≤ l.length) : backE l a = 0 := by unfold backE; rw [if_pos hf, if_neg (by omega)]
theorem next_mem {a b : Int} (h0 : 0 ≤ a) (h1 : a < l.length) : b ∈ nextR l a ↔ goesOn (opAt l a.toNat) a b = true := by
  have he := nextE_in hf h0 h1
  obtain ⟨k, rfl⟩ := Int.eq_ofNat_of_zero_le h0
  have hk : (k : Int).toNat = k := by simp
  rw [nextR_of he, hk, ← after_next hf (by omega), after_mem]
theorem back_mem {a b : Int} (h0 : 0 ≤ b) (h1 : b ≤ l.length) : a ∈ backR l b ↔ (0 ≤ a ∧ a < l.length) ∧ goesOn (opAt l a.toNat) a b = true := by
  rw [backR_of (backE_in hf h0 h1)]
  unfold backL
  rw [List.mem_filter, upto_mem]
theorem reach_from {x : Int} (hx : x ∈ reachL l) (h0 : x ≠ 0) : ∃ p ∈ backR l x, p ∈ reachL l := by
  obtain ⟨h1, h2, h3⟩ := reach_in hx
  obtain ⟨k, rfl⟩ := Int.eq_ofNat_of_zero_le h1
  have hk : (k : Int).toNat = k := by simp
  rw [hk] at h3
  cases h3 with
  | refl => exact absurd rfl h0
  | @step p _ h4 h5 h6 =>
    have hp : ((p : Nat) : Int).toNat = p := by simp
    refine ⟨(p : Int), (back_mem hf h1 h2).2 ⟨by omega, by rw [hp]; exact h6⟩, reach_of hf (by omega) (by rw [hp]; exact h4)⟩
theorem next_reach {x y : Int} (hx : x ∈ reachL l) (h1 : x < l.length) (hy : y ∈ nextR l x) : y ∈ reachL l := by
  obtain ⟨h0, _, h3⟩ := reach_in hx
  have hg := (next_mem hf h0 h1).1 hy
  obtain ⟨k, rfl⟩ := Int.eq_ofNat_of_zero_le h0
  have hk : (k : Int).toNat = k := by simp
  rw [hk] at hg h3
  have hin := goes_in hf (by omega) hg
  refine reach_of hf hin.1 (.step h3 (by omega) ?_)
  rw [Int.toNat_of_nonneg hin.1]
  exact hg
end
theorem getD_in {xs : List Int} {k : Nat} (h : k < xs.length) : xs.getD k 0 ∈ xs := by rw [List.getD_eq_getElem?_getD, List.getElem?_eq_getElem h]; exact List.getElem_mem h
theorem contains_of {xs : List Int} {a : Int} (h : a ∈ xs) : xs.contains a = true := List.contains_iff_mem.2 h

set_option maxRecDepth 100000 in
set_option maxHeartbeats 4000000 in
theorem flowReach_any (A : Option Addr) (c : Nat) (l : List MOp) (w : World) (hs : Sl w (.slice A l.length c) l) :
    Calls Try.prog 14 #[.slice A l.length c] w fun e w' => e = .returned (.bool true) ∧ Below w.heap.size w w' := by
  have b1 := len_bd hs
  refine enter Try.func14 rfl Try.ntmps14 rfl ?_
  refine cw_seq ?_
  refine cw_region ?_
  refine rw_run tab_ok 1 [(0, _)] rfl ⟨rfl, trivial⟩ ?_
  refine rw_end ?_
  refine cw_seq ?_
  refine cw_region ?_
  refine rw_run tab_ok 1 [(0, _), (15, _)] rfl ⟨rfl, rfl, trivial⟩ ?_
  refine rw_op (ot_c rfl rfl rfl Try.call58 (fun w hw => reach_any A c l w (hw.ro hs))) rfl rfl (fun ⟨A3, c3⟩ _ => ?_)
  try dsimp only
  refine rw_run tab_ok 5 [(0, _), (3, _), (4, _)] rfl ⟨rfl, rfl, rfl, trivial⟩ ?_
  refine rw_end ?_
  refine cw_seq ?_
  refine cw_seq ?_
  refine cw_region ?_
  refine rw_op (ot_c0 rfl rfl rfl Try.call57 (fun w hw => flowBegun_any w)) rfl rfl (fun _ _ => ?_)
  refine rw_run tab_ok 1 [(0, _), (3, _), (4, _), (20, _)] rfl ⟨rfl, rfl, rfl, rfl, trivial⟩ ?_
  refine rw_end ?_
  refine cw_cond_f rfl ?_
  refine cw_skip (xw_then ?_)
  refine cw_seq ?_
  refine cw_seq ?_
  refine cw_region ?_
  refine rw_run tab_ok 2 [(0, _), (3, _), (22, _)] rfl ⟨rfl, rfl, rfl, trivial⟩ ?_
  refine rw_end ?_
  refine cw_condN rfl (fun hz => ?_) (fun hz => ?_)
  · rw [reachR_no hz]
    refine cw_seq ?_
    refine cw_region ?_
    refine rw_run tab_ok 1 [(23, _)] rfl ⟨rfl, trivial⟩ ?_
    refine rw_s (qs_len Try.underlying41 rfl rfl) rfl rfl ?_
    refine rw_run tab_ok 2 [(2, _)] rfl ⟨rfl, trivial⟩ ?_
    refine rw_end ?_
    refine cw_ret (xw_thenr ?_)
    refine xw_ret1 Try.results14 (rv_tmp rfl) ?_
    intro w hw
    exact ⟨rfl, hw.below⟩
  · have hf := hz
    have h40 := codeErr_len (flowE_zero hf).1
    have h0 : (0 : Int) ∈ reachL l := reach_of hf (Int.le_refl _) .refl
    have hLl : (reachL l).length ≤ l.length + 1 := filter_len _ _
    have hsort : (reachL l).Pairwise (· < ·) := (upto_sorted _).filter _
    rw [reachR_of hz]
    refine cw_skip (xw_then ?_)
    refine cw_seq ?_
    refine cw_seq ?_
    refine cw_region ?_
    refine rw_run tab_ok 1 [(0, _), (3, _), (26, _)] rfl ⟨rfl, rfl, rfl, trivial⟩ ?_
    refine rw_op (ot_c0 rfl rfl rfl Try.call46 (fun w hw => has_w _ _ (reachL l) 0 w (SF.at_ (SF.own rfl (by first | exact .a | exact .b | exact .c | exact .d | exact .e | exact .s .e | exact .s (.s .e) | exact .s (.s (.s .e)))) hw))) rfl rfl (fun _ _ => ?_)
    refine rw_run tab_ok 1 [(0, _), (3, _), (28, _)] rfl ⟨rfl, rfl, rfl, trivial⟩ ?_
    refine rw_end ?_
    refine cw_as (t := 28) (v' := .bool false) rfl (by rw [contains_of h0]; rfl) ?_
    refine cw_cond_f rfl ?_
    refine cw_skip (xw_then ?_)
    refine cw_seq ?_
    refine cw_seq ?_
    refine cw_region ?_
    refine rw_run tab_ok 1 [(0, _), (3, _), (5, _)] rfl ⟨rfl, rfl, rfl, trivial⟩ ?_
    refine rw_end ?_
    refine cw_block (cw_loop (fun i : Nat => i ≤ (reachL l).length) (fun i => (reachL l).length - i) (fun i => [(0, .slice A l.length c), (3, .slice A3 (reachL l).length c3), (5, .int .i64 (i : Int))]) (fun _ => [ROw (.slice A3 (reachL l).length c3) (reachL l)]) 0 (Nat.zero_le _) ⟨rfl, rfl, rfl, trivial⟩ (by first | exact fun _ h => h | exact fun _ h => h.msub (by repeat (first | exact .z | refine .s (by first | exact .a | exact .b | exact .c | exact .d | exact .e | exact .s .e | exact .s (.s .e) | exact .s (.s (.s .e))) ?_))) ?_)
    rintro i hi'
    have hi : i ≤ (reachL l).length := hi'
    refine cw_seq ?_
    refine cw_seq ?_
    refine cw_region ?_
    refine rw_run tab_ok 2 [(0, _), (3, _), (5, _), (29, _), (30, _)] rfl ⟨rfl, rfl, rfl, rfl, rfl, trivial⟩ ?_
    refine rw_s (qs_len Try.underlying41 rfl rfl) rfl rfl ?_
    refine rw_run tab_ok 1 [(0, _), (3, _), (5, _), (32, _)] rfl ⟨rfl, rfl, rfl, rfl, trivial⟩ ?_
    refine rw_end ?_
    refine cw_condD rfl (fun hlt => ?_) (fun hlt => ?_)
    · have hil : i < (reachL l).length := by omega
      have hx := getD_in hil
      obtain ⟨hx0, hx1, hxr⟩ := reach_in hx
      have hbe := backE_in hf hx0 hx1
      have hbl : (backR l ((reachL l).getD i 0)).length ≤ l.length := by rw [backR_of hbe]; exact filter_len _ _
      refine cw_skip (xw_then ?_)
      refine cw_seq ?_
      refine cw_block ?_
      refine cw_seq ?_
      refine cw_region ?_
      refine rw_run tab_ok 3 [(0, _), (3, _), (5, _), (36, _), (37, _), (38, _)] rfl ⟨rfl, rfl, rfl, rfl, rfl, rfl, trivial⟩ ?_
      refine rw_s (qs_idx Try.underlying41 Try.sizeOf3 (.own rfl (by first | exact .a | exact .b | exact .c | exact .d | exact .e | exact .s .e | exact .s (.s .e) | exact .s (.s (.s .e)))) (by omega) rfl rfl rfl) rfl rfl ?_
      refine rw_s (qs_ld (SF.int (.own rfl (by first | exact .a | exact .b | exact .c | exact .d | exact .e | exact .s .e | exact .s (.s .e) | exact .s (.s (.s .e)))) (by omega)) rfl rfl Try.isAgg3) rfl rfl ?_
      refine rw_op (ot_c rfl rfl rfl Try.call56 (fun w hw => back_any A c l ((reachL l).getD i 0) w (hw.ro hs))) rfl rfl (fun ⟨A6, c6⟩ _ => ?_)
      try dsimp only
      refine rw_run tab_ok 5 [(0, _), (3, _), (5, _), (6, _), (7, _)] rfl ⟨rfl, rfl, rfl, rfl, rfl, trivial⟩ ?_
      refine rw_end ?_
      refine cw_cut (fun _ : Unit => True) (fun _ => [(0, .slice A l.length c), (3, .slice A3 (reachL l).length c3), (5, .int .i64 (i : Int)), (6, .slice A6 (backR l ((reachL l).getD i 0)).length c6)]) (fun _ => [ROw (.slice A3 (reachL l).length c3) (reachL l), ROw (.slice A6 (backR l ((reachL l).getD i 0)).length c6) (backR l ((reachL l).getD i 0))]) ?_ ?_
      · refine cw_seq ?_
        refine cw_draw (.still 0 (.still 1 (.still 2 (.still 3 (.still 4 (.still 5 (.still 6 (.still 7 (.still 8 (.still 9 (.still 10 (.still 11 (.still 12 (.still 13 (.still 14 (.still 15 (.still 16 (.still 17 .done)))))))))))))))))) [] rfl (by kernel_rfl) (by kernel_rfl) ?_
        refine ro_run tab_ok (by first | exact Has.rfl | exact Has.s Has.rfl | exact Has.m (by repeat (first | exact .z | refine .s (by first | exact .a | exact .b | exact .c | exact .d | exact .e | exact .s .e | exact .s (.s .e) | exact .s (.s (.s .e))) ?_))) 3 [(0, _), (3, _), (5, _), (6, _), (46, _)] rfl ⟨rfl, rfl, rfl, rfl, rfl, trivial⟩ ?_
        refine ro_split (t := 46) rfl (fun h1 => ?_) (fun h1 => ?_)
        · rw [hbe] at h1
          cases h1
        · refine ro_run tab_ok (by first | exact Has.rfl | exact Has.s Has.rfl | exact Has.m (by repeat (first | exact .z | refine .s (by first | exact .a | exact .b | exact .c | exact .d | exact .e | exact .s .e | exact .s (.s .e) | exact .s (.s (.s .e))) ?_))) 3 [(0, _), (3, _), (5, _), (6, _), (46, _), (49, _)] rfl ⟨rfl, rfl, rfl, rfl, rfl, rfl, trivial⟩ ?_
          refine ro_split (t := 49) rfl (fun h2 => ?_) (fun h2 => ?_)
          · have h2 := of_decide_eq_true h2
            refine ro_run tab_ok (by first | exact Has.rfl | exact Has.s Has.rfl | exact Has.m (by repeat (first | exact .z | refine .s (by first | exact .a | exact .b | exact .c | exact .d | exact .e | exact .s .e | exact .s (.s .e) | exact .s (.s (.s .e))) ?_))) 2 [(0, _), (3, _), (5, _), (6, _), (46, _), (49, _), (50, _), (51, _)] rfl ⟨rfl, rfl, rfl, rfl, rfl, rfl, rfl, rfl, trivial⟩ ?_
            refine ro_s (qs_idx Try.underlying41 Try.sizeOf3 (.own rfl (by first | exact .a | exact .b | exact .c | exact .d | exact .e | exact .s .e | exact .s (.s .e) | exact .s (.s (.s .e)))) (by omega) rfl rfl rfl) rfl rfl rfl (by first | exact Has.rfl | exact Has.s Has.rfl | exact Has.m (by repeat (first | exact .z | refine .s (by first | exact .a | exact .b | exact .c | exact .d | exact .e | exact .s .e | exact .s (.s .e) | exact .s (.s (.s .e))) ?_))) ?_
            refine ro_s (qs_ld (SF.int (.own rfl (by first | exact .a | exact .b | exact .c | exact .d | exact .e | exact .s .e | exact .s (.s .e) | exact .s (.s (.s .e)))) (by omega)) rfl rfl Try.isAgg3) rfl rfl rfl (by first | exact Has.rfl | exact Has.s Has.rfl | exact Has.m (by repeat (first | exact .z | refine .s (by first | exact .a | exact .b | exact .c | exact .d | exact .e | exact .s .e | exact .s (.s .e) | exact .s (.s (.s .e))) ?_))) ?_
            refine ro_run tab_ok (by first | exact Has.rfl | exact Has.s Has.rfl | exact Has.m (by repeat (first | exact .z | refine .s (by first | exact .a | exact .b | exact .c | exact .d | exact .e | exact .s .e | exact .s (.s .e) | exact .s (.s (.s .e))) ?_))) 2 [(0, _), (3, _), (5, _), (6, _), (46, _), (49, _), (53, _), (54, _), (55, _)] rfl ⟨rfl, rfl, rfl, rfl, rfl, rfl, rfl, rfl, rfl, trivial⟩ ?_
            refine ro_s (qs_sub rfl rfl rfl (by omega)) rfl rfl rfl (by first | exact Has.rfl | exact Has.s Has.rfl | exact Has.m (by repeat (first | exact .z | refine .s (by first | exact .a | exact .b | exact .c | exact .d | exact .e | exact .s .e | exact .s (.s .e) | exact .s (.s (.s .e))) ?_))) ?_
            refine ro_s (qs_idxI Try.underlying41 Try.sizeOf3 (.own rfl (by first | exact .a | exact .b | exact .c | exact .d | exact .e | exact .s .e | exact .s (.s .e) | exact .s (.s (.s .e)))) (by omega) rfl rfl rfl) rfl rfl rfl (by first | exact Has.rfl | exact Has.s Has.rfl | exact Has.m (by repeat (first | exact .z | refine .s (by first | exact .a | exact .b | exact .c | exact .d | exact .e | exact .s .e | exact .s (.s .e) | exact .s (.s (.s .e))) ?_))) ?_
            refine ro_s (qs_ld (SF.int (.own rfl (by first | exact .a | exact .b | exact .c | exact .d | exact .e | exact .s .e | exact .s (.s .e) | exact .s (.s (.s .e)))) (by omega)) rfl rfl Try.isAgg3) rfl rfl rfl (by first | exact Has.rfl | exact Has.s Has.rfl | exact Has.m (by repeat (first | exact .z | refine .s (by first | exact .a | exact .b | exact .c | exact .d | exact .e | exact .s .e | exact .s (.s .e) | exact .s (.s (.s .e))) ?_))) ?_
            refine ro_run tab_ok (by first | exact Has.rfl | exact Has.s Has.rfl | exact Has.m (by repeat (first | exact .z | refine .s (by first | exact .a | exact .b | exact .c | exact .d | exact .e | exact .s .e | exact .s (.s .e) | exact .s (.s (.s .e))) ?_))) 3 [(0, _), (3, _), (5, _), (6, _), (61, _)] rfl ⟨rfl, rfl, rfl, rfl, rfl, trivial⟩ ?_
            refine ro_end ?_
            refine cw_condD rfl (fun h3 => ?_) (fun h3 => ?_)
            · have e1 : ((i : Int) - 1).toNat = i - 1 := by omega
              rw [e1] at h3
              have := List.pairwise_iff_getElem.1 hsort (i - 1) i (by omega) hil (by omega)
              rw [List.getD_eq_getElem?_getD, List.getElem?_eq_getElem hil, List.getD_eq_getElem?_getD, List.getElem?_eq_getElem (show i - 1 < _ by omega)] at h3
              simp only [Option.getD_some] at h3
              omega
            · refine cw_skip ?_
              refine xw_join () (trivial) ⟨rfl, rfl, rfl, rfl, trivial⟩ (by first | exact fun _ h => h | exact fun _ h => h.msub (by repeat (first | exact .z | refine .s (by first | exact .a | exact .b | exact .c | exact .d | exact .e | exact .s .e | exact .s (.s .e) | exact .s (.s (.s .e))) ?_)))
          · refine ro_run tab_ok (by first | exact Has.rfl | exact Has.s Has.rfl | exact Has.m (by repeat (first | exact .z | refine .s (by first | exact .a | exact .b | exact .c | exact .d | exact .e | exact .s .e | exact .s (.s .e) | exact .s (.s (.s .e))) ?_))) 12 [(0, _), (3, _), (5, _), (6, _), (61, _)] rfl ⟨rfl, rfl, rfl, rfl, rfl, trivial⟩ ?_
            refine ro_end ?_
            refine cw_cond_f rfl ?_
            refine cw_skip ?_
            refine xw_join () (trivial) ⟨rfl, rfl, rfl, rfl, trivial⟩ (by first | exact fun _ h => h | exact fun _ h => h.msub (by repeat (first | exact .z | refine .s (by first | exact .a | exact .b | exact .c | exact .d | exact .e | exact .s .e | exact .s (.s .e) | exact .s (.s (.s .e))) ?_)))
      · rintro _ _
        refine cw_seq ?_
        refine cw_region ?_
        refine rw_run tab_ok 2 [(0, _), (3, _), (5, _), (6, _), (62, _), (63, _)] rfl ⟨rfl, rfl, rfl, rfl, rfl, rfl, trivial⟩ ?_
        refine rw_s (qs_idx Try.underlying41 Try.sizeOf3 (.own rfl (by first | exact .a | exact .b | exact .c | exact .d | exact .e | exact .s .e | exact .s (.s .e) | exact .s (.s (.s .e)))) (by omega) rfl rfl rfl) rfl rfl ?_
        refine rw_s (qs_ld (SF.int (.own rfl (by first | exact .a | exact .b | exact .c | exact .d | exact .e | exact .s .e | exact .s (.s .e) | exact .s (.s (.s .e)))) (by omega)) rfl rfl Try.isAgg3) rfl rfl ?_
        refine rw_run tab_ok 2 [(0, _), (3, _), (5, _), (6, _), (8, _)] rfl ⟨rfl, rfl, rfl, rfl, rfl, trivial⟩ ?_
        refine rw_end ?_
        refine cw_seq ?_
        refine cw_seq ?_
        refine cw_region ?_
        refine rw_run tab_ok 1 [(0, _), (3, _), (5, _), (6, _), (8, _), (9, _)] rfl ⟨rfl, rfl, rfl, rfl, rfl, rfl, trivial⟩ ?_
        refine rw_end ?_
        refine cw_block (cw_loop (fun g : Nat × Bool => g.1 ≤ (backR l ((reachL l).getD i 0)).length ∧ (g.2 = true ↔ (reachL l).getD i 0 = 0 ∨ ∃ j, j < g.1 ∧ (backR l ((reachL l).getD i 0)).getD j 0 ∈ reachL l)) (fun g => (backR l ((reachL l).getD i 0)).length - g.1) (fun g => [(0, .slice A l.length c), (3, .slice A3 (reachL l).length c3), (5, .int .i64 (i : Int)), (6, .slice A6 (backR l ((reachL l).getD i 0)).length c6), (8, .bool g.2), (9, .int .i64 (g.1 : Int))]) (fun _ => [ROw (.slice A3 (reachL l).length c3) (reachL l), ROw (.slice A6 (backR l ((reachL l).getD i 0)).length c6) (backR l ((reachL l).getD i 0))]) (0, decide ((reachL l).getD i 0 = 0)) (⟨Nat.zero_le _, by simp⟩) ⟨rfl, rfl, rfl, rfl, rfl, rfl, trivial⟩ (by first | exact fun _ h => h | exact fun _ h => h.msub (by repeat (first | exact .z | refine .s (by first | exact .a | exact .b | exact .c | exact .d | exact .e | exact .s .e | exact .s (.s .e) | exact .s (.s (.s .e))) ?_))) ?_)
        rintro ⟨k, fr⟩ hk'
        try dsimp only
        obtain ⟨hk, hfr⟩ : k ≤ (backR l ((reachL l).getD i 0)).length ∧ (fr = true ↔ (reachL l).getD i 0 = 0 ∨ ∃ j, j < k ∧ (backR l ((reachL l).getD i 0)).getD j 0 ∈ reachL l) := hk'
        refine cw_seq ?_
        refine cw_seq ?_
        refine cw_region ?_
        refine rw_run tab_ok 2 [(0, _), (3, _), (5, _), (6, _), (8, _), (9, _), (67, _), (68, _)] rfl ⟨rfl, rfl, rfl, rfl, rfl, rfl, rfl, rfl, trivial⟩ ?_
        refine rw_s (qs_len Try.underlying41 rfl rfl) rfl rfl ?_
        refine rw_run tab_ok 1 [(0, _), (3, _), (5, _), (6, _), (8, _), (9, _), (70, _)] rfl ⟨rfl, rfl, rfl, rfl, rfl, rfl, rfl, trivial⟩ ?_
        refine rw_end ?_
        refine cw_condD rfl (fun hkl => ?_) (fun hkl => ?_)
        · have hkl2 : k < (backR l ((reachL l).getD i 0)).length := by omega
          have hy := getD_in hkl2
          obtain ⟨⟨hy0, hy1⟩, hyg⟩ := (back_mem hf hx0 hx1).1 hy
          have hne := nextE_in hf hy0 hy1
          have hxn := (next_mem hf hy0 hy1).2 hyg
          have hstep : ∀ b : Bool, (b = true ↔ fr = true ∨ (backR l ((reachL l).getD i 0)).getD k 0 ∈ reachL l) → (b = true ↔ (reachL l).getD i 0 = 0 ∨ ∃ j, j < k + 1 ∧ (backR l ((reachL l).getD i 0)).getD j 0 ∈ reachL l) := by
            intro b hb
            rw [hb, hfr]
            constructor
            · rintro ((h | ⟨j, hj, h⟩) | h)
              · exact .inl h
              · exact .inr ⟨j, by omega, h⟩
              · exact .inr ⟨k, by omega, h⟩
            · rintro (h | ⟨j, hj, h⟩)
              · exact .inl (.inl h)
              · by_cases e : j = k
                · subst e; exact .inr h
                · exact .inl (.inr ⟨j, by omega, h⟩)
          refine cw_skip (xw_then ?_)
          refine cw_seq ?_
          refine cw_block ?_
          refine cw_seq ?_
          refine cw_region ?_
          refine rw_run tab_ok 3 [(0, _), (3, _), (5, _), (6, _), (8, _), (9, _), (74, _), (75, _), (76, _)] rfl ⟨rfl, rfl, rfl, rfl, rfl, rfl, rfl, rfl, rfl, trivial⟩ ?_
          refine rw_s (qs_idx Try.underlying41 Try.sizeOf3 (.own rfl (by first | exact .a | exact .b | exact .c | exact .d | exact .e | exact .s .e | exact .s (.s .e) | exact .s (.s (.s .e)))) (by omega) rfl rfl rfl) rfl rfl ?_
          refine rw_s (qs_ld (SF.int (.own rfl (by first | exact .a | exact .b | exact .c | exact .d | exact .e | exact .s .e | exact .s (.s .e) | exact .s (.s (.s .e)))) (by omega)) rfl rfl Try.isAgg3) rfl rfl ?_
          refine rw_op (ot_c rfl rfl rfl Try.call55 (fun w hw => next_any A c l ((backR l ((reachL l).getD i 0)).getD k 0) w (hw.ro hs))) rfl rfl (fun ⟨A10, c10⟩ _ => ?_)
          try dsimp only
          refine rw_run tab_ok 5 [(0, _), (3, _), (5, _), (6, _), (8, _), (9, _), (10, _), (11, _)] rfl ⟨rfl, rfl, rfl, rfl, rfl, rfl, rfl, rfl, trivial⟩ ?_
          refine rw_end ?_
          refine cw_cut (fun b : Bool => (b = true ↔ fr = true ∨ (backR l ((reachL l).getD i 0)).getD k 0 ∈ reachL l)) (fun b => [(0, .slice A l.length c), (3, .slice A3 (reachL l).length c3), (5, .int .i64 (i : Int)), (6, .slice A6 (backR l ((reachL l).getD i 0)).length c6), (8, .bool b), (9, .int .i64 (k : Int)), (10, .slice A10 (nextR l ((backR l ((reachL l).getD i 0)).getD k 0)).length c10), (11, .int .i64 (nextE l ((backR l ((reachL l).getD i 0)).getD k 0)))]) (fun _ => [ROw (.slice A3 (reachL l).length c3) (reachL l), ROw (.slice A6 (backR l ((reachL l).getD i 0)).length c6) (backR l ((reachL l).getD i 0)), ROw (.slice A10 (nextR l ((backR l ((reachL l).getD i 0)).getD k 0)).length c10) (nextR l ((backR l ((reachL l).getD i 0)).getD k 0))]) ?_ ?_
          · refine cw_region ?_
            refine rw_run tab_ok 2 [(0, _), (3, _), (5, _), (6, _), (9, _), (10, _), (11, _), (83, _)] rfl ⟨rfl, rfl, rfl, rfl, rfl, rfl, rfl, rfl, trivial⟩ ?_
            refine rw_split (t := 83) rfl (fun h1 => ?_) (fun h1 => ?_)
            · refine rw_run tab_ok 8 [(0, _), (3, _), (5, _), (6, _), (8, _), (9, _), (10, _), (11, _)] rfl ⟨rfl, rfl, rfl, rfl, rfl, rfl, rfl, rfl, trivial⟩ ?_
              refine rw_join true (by simp [show fr = true from h1]) ⟨rfl, rfl, rfl, rfl, rfl, rfl, rfl, rfl, trivial⟩ (by first | exact fun _ h => h | exact fun _ h => h.msub (by repeat (first | exact .z | refine .s (by first | exact .a | exact .b | exact .c | exact .d | exact .e | exact .s .e | exact .s (.s .e) | exact .s (.s (.s .e))) ?_)))
            · refine rw_run tab_ok 3 [(0, _), (3, _), (5, _), (6, _), (9, _), (10, _), (11, _), (83, _), (84, _), (85, _), (86, _)] rfl ⟨rfl, rfl, rfl, rfl, rfl, rfl, rfl, rfl, rfl, rfl, rfl, trivial⟩ ?_
              refine rw_s (qs_idx Try.underlying41 Try.sizeOf3 (.own rfl (by first | exact .a | exact .b | exact .c | exact .d | exact .e | exact .s .e | exact .s (.s .e) | exact .s (.s (.s .e)))) (by omega) rfl rfl rfl) rfl rfl ?_
              refine rw_s (qs_ld (SF.int (.own rfl (by first | exact .a | exact .b | exact .c | exact .d | exact .e | exact .s .e | exact .s (.s .e) | exact .s (.s (.s .e)))) (by omega)) rfl rfl Try.isAgg3) rfl rfl ?_
              refine rw_op (ot_c0 rfl rfl rfl Try.call46 (fun w hw => has_w _ _ (reachL l) ((backR l ((reachL l).getD i 0)).getD k 0) w (SF.at_ (SF.own rfl (by first | exact .a | exact .b | exact .c | exact .d | exact .e | exact .s .e | exact .s (.s .e) | exact .s (.s (.s .e)))) hw))) rfl rfl (fun _ _ => ?_)
              refine rw_run tab_ok 2 [(0, _), (3, _), (5, _), (6, _), (8, _), (9, _), (10, _), (11, _)] rfl ⟨rfl, rfl, rfl, rfl, rfl, rfl, rfl, rfl, trivial⟩ ?_
              refine rw_join ((reachL l).contains ((backR l ((reachL l).getD i 0)).getD k 0)) (by rw [List.contains_iff_mem, show fr = false from h1]; simp) ⟨rfl, rfl, rfl, rfl, rfl, rfl, rfl, rfl, trivial⟩ (by first | exact fun _ h => h | exact fun _ h => h.msub (by repeat (first | exact .z | refine .s (by first | exact .a | exact .b | exact .c | exact .d | exact .e | exact .s .e | exact .s (.s .e) | exact .s (.s (.s .e))) ?_)))
          · rintro b hb
            rw [hne]
            refine cw_seq ?_
            refine cw_region ?_
            refine rw_run tab_ok 3 [(0, _), (3, _), (5, _), (6, _), (8, _), (9, _), (10, _), (93, _)] rfl ⟨rfl, rfl, rfl, rfl, rfl, rfl, rfl, rfl, trivial⟩ ?_
            refine rw_as (t := 93) (v' := .bool false) rfl rfl ?_
            refine rw_run tab_ok 3 [(0, _), (3, _), (5, _), (6, _), (8, _), (9, _), (93, _), (94, _), (95, _), (96, _)] rfl ⟨rfl, rfl, rfl, rfl, rfl, rfl, rfl, rfl, rfl, rfl, trivial⟩ ?_
            refine rw_s (qs_idx Try.underlying41 Try.sizeOf3 (.own rfl (by first | exact .a | exact .b | exact .c | exact .d | exact .e | exact .s .e | exact .s (.s .e) | exact .s (.s (.s .e)))) (by omega) rfl rfl rfl) rfl rfl ?_
            refine rw_s (qs_ld (SF.int (.own rfl (by first | exact .a | exact .b | exact .c | exact .d | exact .e | exact .s .e | exact .s (.s .e) | exact .s (.s (.s .e)))) (by omega)) rfl rfl Try.isAgg3) rfl rfl ?_
            refine rw_op (ot_c0 rfl rfl rfl Try.call46 (fun w hw => has_w _ _ (nextR l ((backR l ((reachL l).getD i 0)).getD k 0)) ((reachL l).getD i 0) w (SF.at_ (SF.own rfl (by first | exact .a | exact .b | exact .c | exact .d | exact .e | exact .s .e | exact .s (.s .e) | exact .s (.s (.s .e)))) hw))) rfl rfl (fun _ _ => ?_)
            refine rw_run tab_ok 2 [(0, _), (3, _), (5, _), (6, _), (8, _), (9, _), (101, _)] rfl ⟨rfl, rfl, rfl, rfl, rfl, rfl, rfl, trivial⟩ ?_
            refine rw_end ?_
            refine cw_as (t := 101) (v' := .bool false) rfl (by rw [contains_of hxn]; rfl) ?_
            refine cw_cond_f rfl ?_
            refine cw_skip (xw_blkn (xw_then ?_))
            refine cw_region ?_
            refine rw_run tab_ok 1 [(0, _), (3, _), (5, _), (6, _), (8, _), (71, _)] rfl ⟨rfl, rfl, rfl, rfl, rfl, rfl, trivial⟩ ?_
            refine rw_s (qs_add rfl rfl rfl (by omega)) rfl rfl ?_
            refine rw_run tab_ok 1 [(0, _), (3, _), (5, _), (6, _), (8, _), (9, _)] rfl ⟨rfl, rfl, rfl, rfl, rfl, rfl, trivial⟩ ?_
            refine rw_round (k + 1, b) (⟨by show k + 1 ≤ _; omega, hstep b hb⟩) (by show _ - _ < _ - _; omega) ⟨rfl, rfl, rfl, rfl, rfl, rfl, trivial⟩ (by first | exact fun _ h => h | exact fun _ h => h.msub (by repeat (first | exact .z | refine .s (by first | exact .a | exact .b | exact .c | exact .d | exact .e | exact .s .e | exact .s (.s .e) | exact .s (.s (.s .e))) ?_)))
        · obtain rfl : k = (backR l ((reachL l).getD i 0)).length := by omega
          have hfrt : fr = true := by
            rw [hfr]
            by_cases e : (reachL l).getD i 0 = 0
            · exact .inl e
            · obtain ⟨p, hp, hpr⟩ := reach_from hf hx e
              obtain ⟨j, hj, ej⟩ := List.getElem_of_mem hp
              refine .inr ⟨j, hj, ?_⟩
              rw [List.getD_eq_getElem?_getD (l := backR _ _), List.getElem?_eq_getElem hj, Option.getD_some, ej]
              exact hpr
          subst hfrt
          refine cw_exit (xw_thenx (xw_thenx (xw_blk (xw_then ?_))))
          refine cw_seq ?_
          refine cw_seq ?_
          refine cw_region ?_
          refine rw_run tab_ok 2 [(0, _), (3, _), (5, _), (103, _)] rfl ⟨rfl, rfl, rfl, rfl, trivial⟩ ?_
          refine rw_end ?_
          refine cw_as (t := 103) (v' := .bool false) rfl rfl ?_
          refine cw_cond_f rfl ?_
          refine cw_skip (xw_then ?_)
          refine cw_seq ?_
          refine cw_seq ?_
          refine cw_region ?_
          refine rw_run tab_ok 2 [(0, _), (3, _), (5, _), (104, _), (105, _)] rfl ⟨rfl, rfl, rfl, rfl, rfl, trivial⟩ ?_
          refine rw_s (qs_idx Try.underlying41 Try.sizeOf3 (.own rfl (by first | exact .a | exact .b | exact .c | exact .d | exact .e | exact .s .e | exact .s (.s .e) | exact .s (.s (.s .e)))) (by omega) rfl rfl rfl) rfl rfl ?_
          refine rw_s (qs_ld (SF.int (.own rfl (by first | exact .a | exact .b | exact .c | exact .d | exact .e | exact .s .e | exact .s (.s .e) | exact .s (.s (.s .e)))) (by omega)) rfl rfl Try.isAgg3) rfl rfl ?_
          refine rw_run tab_ok 1 [(0, _), (3, _), (5, _), (107, _), (108, _)] rfl ⟨rfl, rfl, rfl, rfl, rfl, trivial⟩ ?_
          refine rw_s (qs_len Try.underlying24 rfl rfl) rfl rfl ?_
          refine rw_run tab_ok 1 [(0, _), (3, _), (5, _), (110, _)] rfl ⟨rfl, rfl, rfl, rfl, trivial⟩ ?_
          refine rw_end ?_
          refine cw_condD rfl (fun hend => ?_) (fun hend => ?_)
          · refine cw_exit (xw_thenx (xw_blk (xw_then ?_)))
            refine cw_region ?_
            refine rw_run tab_ok 1 [(0, _), (3, _), (33, _)] rfl ⟨rfl, rfl, rfl, trivial⟩ ?_
            refine rw_s (qs_add rfl rfl rfl (by omega)) rfl rfl ?_
            refine rw_run tab_ok 1 [(0, _), (3, _), (5, _)] rfl ⟨rfl, rfl, rfl, trivial⟩ ?_
            refine rw_round (i + 1) (by show i + 1 ≤ _; omega) (by show _ - _ < _ - _; omega) ⟨rfl, rfl, rfl, trivial⟩ (by first | exact fun _ h => h | exact fun _ h => h.msub (by repeat (first | exact .z | refine .s (by first | exact .a | exact .b | exact .c | exact .d | exact .e | exact .s .e | exact .s (.s .e) | exact .s (.s (.s .e))) ?_)))
          · have hxl : (reachL l).getD i 0 < l.length := by omega
            have hne := nextE_in hf hx0 hxl
            refine cw_skip (xw_then ?_)
            refine cw_seq ?_
            refine cw_region ?_
            refine rw_run tab_ok 3 [(0, _), (3, _), (5, _), (112, _), (113, _), (114, _)] rfl ⟨rfl, rfl, rfl, rfl, rfl, rfl, trivial⟩ ?_
            refine rw_s (qs_idx Try.underlying41 Try.sizeOf3 (.own rfl (by first | exact .a | exact .b | exact .c | exact .d | exact .e | exact .s .e | exact .s (.s .e) | exact .s (.s (.s .e)))) (by omega) rfl rfl rfl) rfl rfl ?_
            refine rw_s (qs_ld (SF.int (.own rfl (by first | exact .a | exact .b | exact .c | exact .d | exact .e | exact .s .e | exact .s (.s .e) | exact .s (.s (.s .e)))) (by omega)) rfl rfl Try.isAgg3) rfl rfl ?_
            refine rw_op (ot_c rfl rfl rfl Try.call55 (fun w hw => next_any A c l ((reachL l).getD i 0) w (hw.ro hs))) rfl rfl (fun ⟨A12, c12⟩ _ => ?_)
            try dsimp only
            refine rw_run tab_ok 5 [(0, _), (3, _), (5, _), (7, _), (12, _)] rfl ⟨rfl, rfl, rfl, rfl, rfl, trivial⟩ ?_
            refine rw_end ?_
            refine cw_seq ?_
            refine cw_seq ?_
            refine cw_region ?_
            refine rw_run tab_ok 2 [(0, _), (3, _), (5, _), (12, _), (121, _)] rfl ⟨rfl, rfl, rfl, rfl, rfl, trivial⟩ ?_
            refine rw_end ?_
            refine cw_condN rfl (fun hn => ?_) (fun hn => ?_)
            · exact absurd hne hn
            · refine cw_skip (xw_then ?_)
              refine cw_seq ?_
              refine cw_region ?_
              refine rw_run tab_ok 1 [(0, _), (3, _), (5, _), (12, _), (13, _)] rfl ⟨rfl, rfl, rfl, rfl, rfl, trivial⟩ ?_
              refine rw_end ?_
              refine cw_block (cw_loop (fun j : Nat => j ≤ (nextR l ((reachL l).getD i 0)).length) (fun j => (nextR l ((reachL l).getD i 0)).length - j) (fun j => [(0, .slice A l.length c), (3, .slice A3 (reachL l).length c3), (5, .int .i64 (i : Int)), (12, .slice A12 (nextR l ((reachL l).getD i 0)).length c12), (13, .int .i64 (j : Int))]) (fun _ => [ROw (.slice A3 (reachL l).length c3) (reachL l), ROw (.slice A12 (nextR l ((reachL l).getD i 0)).length c12) (nextR l ((reachL l).getD i 0))]) 0 (Nat.zero_le _) ⟨rfl, rfl, rfl, rfl, rfl, trivial⟩ (by first | exact fun _ h => h | exact fun _ h => h.msub (by repeat (first | exact .z | refine .s (by first | exact .a | exact .b | exact .c | exact .d | exact .e | exact .s .e | exact .s (.s .e) | exact .s (.s (.s .e))) ?_))) ?_)
              rintro j hj'
              have hj : j ≤ (nextR l ((reachL l).getD i 0)).length := hj'
              have hnl : (nextR l ((reachL l).getD i 0)).length ≤ l.length + 1 := by unfold nextR; rw [if_pos hne]; exact filter_len _ _
              refine cw_seq ?_
              refine cw_seq ?_
              refine cw_region ?_
              refine rw_run tab_ok 2 [(0, _), (3, _), (5, _), (12, _), (13, _), (122, _), (123, _)] rfl ⟨rfl, rfl, rfl, rfl, rfl, rfl, rfl, trivial⟩ ?_
              refine rw_s (qs_len Try.underlying41 rfl rfl) rfl rfl ?_
              refine rw_run tab_ok 1 [(0, _), (3, _), (5, _), (12, _), (13, _), (125, _)] rfl ⟨rfl, rfl, rfl, rfl, rfl, rfl, trivial⟩ ?_
              refine rw_end ?_
              refine cw_condD rfl (fun hjl => ?_) (fun hjl => ?_)
              · have hjl2 : j < (nextR l ((reachL l).getD i 0)).length := by omega
                have hm := next_reach hf hx hxl (getD_in hjl2)
                refine cw_skip (xw_then ?_)
                refine cw_seq ?_
                refine cw_block ?_
                refine cw_seq ?_
                refine cw_region ?_
                refine rw_run tab_ok 3 [(0, _), (3, _), (5, _), (12, _), (13, _), (128, _), (129, _), (130, _)] rfl ⟨rfl, rfl, rfl, rfl, rfl, rfl, rfl, rfl, trivial⟩ ?_
                refine rw_s (qs_idx Try.underlying41 Try.sizeOf3 (.own rfl (by first | exact .a | exact .b | exact .c | exact .d | exact .e | exact .s .e | exact .s (.s .e) | exact .s (.s (.s .e)))) (by omega) rfl rfl rfl) rfl rfl ?_
                refine rw_s (qs_ld (SF.int (.own rfl (by first | exact .a | exact .b | exact .c | exact .d | exact .e | exact .s .e | exact .s (.s .e) | exact .s (.s (.s .e)))) (by omega)) rfl rfl Try.isAgg3) rfl rfl ?_
                refine rw_op (ot_c0 rfl rfl rfl Try.call46 (fun w hw => has_w _ _ (reachL l) ((nextR l ((reachL l).getD i 0)).getD j 0) w (SF.at_ (SF.own rfl (by first | exact .a | exact .b | exact .c | exact .d | exact .e | exact .s .e | exact .s (.s .e) | exact .s (.s (.s .e)))) hw))) rfl rfl (fun _ _ => ?_)
                refine rw_run tab_ok 1 [(0, _), (3, _), (5, _), (12, _), (13, _), (134, _)] rfl ⟨rfl, rfl, rfl, rfl, rfl, rfl, trivial⟩ ?_
                refine rw_end ?_
                refine cw_as (t := 134) (v' := .bool false) rfl (by rw [contains_of hm]; rfl) ?_
                refine cw_cond_f rfl ?_
                refine cw_skip (xw_blkn (xw_then ?_))
                refine cw_region ?_
                refine rw_run tab_ok 1 [(0, _), (3, _), (5, _), (12, _), (126, _)] rfl ⟨rfl, rfl, rfl, rfl, rfl, trivial⟩ ?_
                refine rw_s (qs_add rfl rfl rfl (by omega)) rfl rfl ?_
                refine rw_run tab_ok 1 [(0, _), (3, _), (5, _), (12, _), (13, _)] rfl ⟨rfl, rfl, rfl, rfl, rfl, trivial⟩ ?_
                refine rw_round (j + 1) (by show j + 1 ≤ _; omega) (by show _ - _ < _ - _; omega) ⟨rfl, rfl, rfl, rfl, rfl, trivial⟩ (by first | exact fun _ h => h | exact fun _ h => h.msub (by repeat (first | exact .z | refine .s (by first | exact .a | exact .b | exact .c | exact .d | exact .e | exact .s .e | exact .s (.s .e) | exact .s (.s (.s .e))) ?_)))
              · refine cw_exit (xw_thenx (xw_thenx (xw_blk (xw_blkn (xw_then ?_)))))
                refine cw_region ?_
                refine rw_run tab_ok 1 [(0, _), (3, _), (33, _)] rfl ⟨rfl, rfl, rfl, trivial⟩ ?_
                refine rw_s (qs_add rfl rfl rfl (by omega)) rfl rfl ?_
                refine rw_run tab_ok 1 [(0, _), (3, _), (5, _)] rfl ⟨rfl, rfl, rfl, trivial⟩ ?_
                refine rw_round (i + 1) (by show i + 1 ≤ _; omega) (by show _ - _ < _ - _; omega) ⟨rfl, rfl, rfl, trivial⟩ (by first | exact fun _ h => h | exact fun _ h => h.msub (by repeat (first | exact .z | refine .s (by first | exact .a | exact .b | exact .c | exact .d | exact .e | exact .s .e | exact .s (.s .e) | exact .s (.s (.s .e))) ?_)))
    · refine cw_exit (xw_thenx (xw_thenx (xw_blk (xw_then ?_))))
      refine cw_seq ?_
      refine cw_region ?_
      refine rw_run tab_ok 1 [(2, _)] rfl ⟨rfl, trivial⟩ ?_
      refine rw_end ?_
      refine cw_ret ?_
      refine xw_ret1 Try.results14 (rv_tmp rfl) ?_
      intro w hw
      exact ⟨rfl, hw.below⟩
theorem flowReach_law (v : Value) (l : List MOp) (w : World) (hs : Sl w v l) : Calls Try.prog 14 #[v] w fun e w' => e = .returned (.bool true) ∧ Below w.heap.size w w' := by
  obtain ⟨A, c, rfl, _⟩ := hs.form
  exact flowReach_any A c l w hs
end Go.Proofs.Ytjojipeodionmaa
