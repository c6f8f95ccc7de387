/- BlockKeeps is true, whatever it is handed. -/
import Derived.Test.YtjojipeodionmaaLb4
namespace Go.Proofs.Ytjojipeodionmaa
open Go.RowKit

theorem keptTo_pre (l : List (List Int)) (refs : List Int) {k m : Nat} (h : k ≤ m) : ∃ r, keptTo l refs m = keptTo l refs k ++ r := by
  induction m with
  | zero => obtain rfl : k = 0 := by omega
            exact ⟨[], by simp⟩
  | succ m ih =>
    rcases Nat.lt_or_ge k (m + 1) with h1 | h1
    · obtain ⟨r, hr⟩ := ih (by omega)
      exact ⟨r ++ (if refs.contains ((m : Int) + 1) then [l.getD m []] else []), by rw [keptTo, hr, List.append_assoc]⟩
    · obtain rfl : k = m + 1 := by omega
      exact ⟨[], by simp⟩
theorem keptN_at {l : List (List Int)} {refs : List Int} {r : Int} (hr : r ∈ refs) (h1 : 1 ≤ r) (h2 : r ≤ l.length) :
    1 ≤ keptN l refs r ∧ keptN l refs r ≤ (keptTo l refs l.length).length ∧ (keptTo l refs l.length).getD (keptN l refs r - 1).toNat [] = l.getD (r - 1).toNat [] := by
  obtain ⟨k, hk⟩ : ∃ k : Nat, r = (k : Int) + 1 := ⟨(r - 1).toNat, by omega⟩
  subst hk
  have hc : refs.contains ((k : Int) + 1) = true := by simpa using hr
  have hy := keptTo_yes (l := l) hc
  obtain ⟨q, hq⟩ := keptTo_pre l refs (k := k + 1) (m := l.length) (by omega)
  have hN : keptN l refs ((k : Int) + 1) = (keptTo l refs k).length + 1 := by
    unfold keptN
    rw [if_neg (by omega), show ((k : Int) + 1).toNat = k + 1 from by omega, hy]
    simp
  rw [hN, hq, hy]
  refine ⟨by omega, by simp; omega, ?_⟩
  rw [show ((keptTo l refs k).length + 1 - 1 : Int).toNat = (keptTo l refs k).length from by omega, show ((k : Int) + 1 - 1).toNat = k from by omega]
  simp [List.getD_eq_getElem?_getD]
theorem keptN_hit (l : List (List Int)) (refs : List Int) : ∀ (m j : Nat), j < (keptTo l refs m).length → ∃ r ∈ refs, 1 ≤ r ∧ r ≤ m ∧ keptN l refs r = j + 1
  | 0, j, h => by simp [keptTo] at h
  | m + 1, j, h => by
    by_cases hc : refs.contains ((m : Int) + 1) = true
    · rw [keptTo_yes hc, List.length_append, List.length_singleton] at h
      rcases Nat.lt_or_ge j (keptTo l refs m).length with h1 | h1
      · obtain ⟨r, h2, h3, h4, h5⟩ := keptN_hit l refs m j h1
        exact ⟨r, h2, h3, by omega, h5⟩
      · obtain rfl : j = (keptTo l refs m).length := by omega
        refine ⟨(m : Int) + 1, by simpa using hc, by omega, by omega, ?_⟩
        unfold keptN
        rw [if_neg (by omega), show ((m : Int) + 1).toNat = m + 1 from by omega, keptTo_yes hc]
        simp
    · have hc : refs.contains ((m : Int) + 1) = false := by simpa using hc
      rw [keptTo_no hc] at h
      obtain ⟨r, h2, h3, h4, h5⟩ := keptN_hit l refs m j h
      exact ⟨r, h2, h3, by omega, h5⟩
theorem keptTo_allin (m : List (List Int)) (T : List Int) (n : Nat) (hn : n ≤ m.length) (hT : ∀ j, j < n → T.contains ((j : Int) + 1) = true) : ∀ k, k ≤ n → keptTo m T k = m.take k
  | 0, _ => by simp [keptTo]
  | k + 1, hk => by rw [keptTo_yes (hT k (by omega)), keptTo_allin m T n hn hT k (by omega), take_snoc m k [] (by omega)]
theorem cells_kept (l : List (List Int)) (refs : List Int) : ∀ m, m ≤ l.length → cellsN (keptTo l refs m) ≤ cellsN (l.take m)
  | 0, _ => by simp [keptTo, cellsN]
  | m + 1, h => by
    have ih := cells_kept l refs m (by omega)
    rw [cellsN_take l m (by omega)]
    by_cases hc : refs.contains ((m : Int) + 1) = true
    · rw [keptTo_yes hc, cellsN_snoc]; omega
    · rw [keptTo_no (by simpa using hc)]; omega
theorem mem_kept (l : List (List Int)) (refs : List Int) : ∀ m, m ≤ l.length → ∀ b ∈ keptTo l refs m, b ∈ l
  | 0, _, b, h => by simp [keptTo] at h
  | m + 1, hm, b, h => by
    by_cases hc : refs.contains ((m : Int) + 1) = true
    · rw [keptTo_yes hc] at h
      rcases List.mem_append.1 h with h | h
      · exact mem_kept l refs m (by omega) b h
      · simp only [List.mem_singleton] at h; rw [h]; exact mem_getD (by omega)
    · rw [keptTo_no (by simpa using hc)] at h
      exact mem_kept l refs m (by omega) b h
theorem checkB_kept {l : List (List Int)} (refs : List Int) (h : checkB l = 0) : checkB (keptTo l refs l.length) = 0 := by
  obtain ⟨h4, h5, h6⟩ := checkB_zero h
  refine checkB_of (by have := keptTo_len l refs l.length; omega) (by have := cells_kept l refs l.length (Nat.le_refl _); rw [List.take_length] at this; omega) ?_
  rw [Bool.eq_false_iff] at h6 ⊢
  intro ha
  obtain ⟨x, hx, hp⟩ := List.any_eq_true.1 ha
  exact h6 (List.any_eq_true.2 ⟨x, mem_kept l refs _ (Nat.le_refl _) x hx, hp⟩)
section
variable {l : List (List Int)} {refs : List Int} (h : keepE l refs = 0)
include h
theorem keepL_eq : keepL l refs = keptTo l refs l.length := by unfold keepL; rw [if_pos h]
theorem keepR_eq : keepR l refs = refs.map (keptN l refs) := by unfold keepR; rw [if_pos h]
theorem keepR_get {i : Nat} (hi : i < refs.length) : (keepR l refs).getD i 0 = keptN l refs (refs.getD i 0) := by
  rw [keepR_eq h, List.getD_eq_getElem?_getD, List.getElem?_map, List.getElem?_eq_getElem hi, List.getD_eq_getElem?_getD, List.getElem?_eq_getElem hi]; rfl
theorem keep_hit {j : Nat} (hj : j < (keepL l refs).length) : (keepR l refs).contains ((j : Int) + 1) = true := by
  rw [keepL_eq h] at hj
  obtain ⟨r, h1, _, _, h2⟩ := keptN_hit l refs _ j hj
  rw [keepR_eq h, List.contains_iff_mem, List.mem_map]
  exact ⟨r, h1, h2⟩
theorem keepR_in : ∀ t ∈ keepR l refs, 0 ≤ t ∧ t ≤ (keepL l refs).length := by
  intro t ht
  rw [keepR_eq h, List.mem_map] at ht
  obtain ⟨r, hr, rfl⟩ := ht
  have hin := (keepE_in h).2 r hr
  rw [keepL_eq h]
  by_cases h0 : r = 0
  · subst h0; simp [keptN]
  · have := keptN_at (l := l) hr (by omega) hin.2
    omega
theorem keep_again : keepE (keepL l refs) (keepR l refs) = 0 ∧ keepL (keepL l refs) (keepR l refs) = keepL l refs ∧ keepR (keepL l refs) (keepR l refs) = keepR l refs := by
  have hE : keepE (keepL l refs) (keepR l refs) = 0 := by
    unfold keepE
    rw [if_pos (by rw [keepL_eq h]; exact checkB_kept refs (keepE_in h).1), if_neg]
    intro ha
    obtain ⟨x, hx, hb⟩ := List.any_eq_true.1 ha
    have := keepR_in h x hx
    simp at hb
    omega
  have hT : ∀ k, k ≤ (keepL l refs).length → keptTo (keepL l refs) (keepR l refs) k = (keepL l refs).take k := keptTo_allin _ _ _ (Nat.le_refl _) (fun j hj => keep_hit h hj)
  refine ⟨hE, ?_, ?_⟩
  · rw [keepL_eq hE, hT _ (Nat.le_refl _), List.take_length]
  · rw [keepR_eq hE]
    conv => rhs; rw [← List.map_id (keepR l refs)]
    apply List.map_congr_left
    intro t ht
    have := keepR_in h t ht
    unfold keptN
    by_cases h0 : t = 0
    · rw [if_pos h0, h0]; rfl
    · rw [if_neg h0, hT _ (by omega), List.length_take, Nat.min_eq_left (by omega)]
      simp only [id_eq]
      omega
end

set_option maxRecDepth 100000 in
set_option maxHeartbeats 2000000 in
theorem blockKeeps_any (A Ar : Option Addr) (c cr : Nat) (l : List (List Int)) (refs : List Int) (w : World) (hs : Sl w (.slice A l.length c) l) (hrs : Sl w (.slice Ar refs.length cr) refs) (hby : refs.length * 8 ≤ 140737488355328) :
    Calls Try.prog 9 #[.slice A l.length c, .slice Ar refs.length cr] w fun e w' => e = .returned (.bool true) ∧ Below w.heap.size w w' := by
  have b1 := len_bd hs
  have b3 := len_bd hrs
  refine enter Try.func9 rfl Try.ntmps9 rfl ?_
  refine cw_seq ?_
  refine cw_region ?_
  refine rw_run tab_ok 1 [(0, _), (1, _)] rfl ⟨rfl, rfl, trivial⟩ ?_
  refine rw_end ?_
  refine cw_seq ?_
  refine cw_region ?_
  refine rw_run tab_ok 2 [(0, _), (1, _), (13, _), (14, _)] rfl ⟨rfl, rfl, rfl, rfl, trivial⟩ ?_
  refine rw_op (ot_c rfl rfl rfl Try.call34 (fun w hw => keepB2 A Ar c cr l refs w (hw.ro hs) (hw.ro hrs) hby)) rfl rfl (fun ⟨⟨Ak, ck⟩, At, ct⟩ _ => ?_)
  dsimp only
  refine rw_run tab_ok 7 [(0, _), (1, _), (5, _), (6, _), (7, _)] rfl ⟨rfl, rfl, rfl, rfl, rfl, trivial⟩ ?_
  refine rw_end ?_
  refine cw_seq ?_
  refine cw_seq ?_
  refine cw_region ?_
  refine rw_op (ot_c0 rfl rfl rfl Try.call31 (fun w hw => blockBegun_any w)) rfl rfl (fun _ _ => ?_)
  refine rw_run tab_ok 1 [(0, _), (1, _), (5, _), (6, _), (7, _), (20, _)] rfl ⟨rfl, rfl, rfl, rfl, rfl, rfl, trivial⟩ ?_
  refine rw_end ?_
  refine cw_cond_f rfl ?_
  refine cw_skip (xw_then ?_)
  refine cw_seq ?_
  refine cw_seq ?_
  refine cw_region ?_
  refine rw_run tab_ok 2 [(0, _), (1, _), (5, _), (6, _), (22, _)] rfl ⟨rfl, rfl, rfl, rfl, rfl, trivial⟩ ?_
  refine rw_end ?_
  refine cw_condN rfl (fun hz => ?_) (fun hz => ?_)
  · have e1 : keepL l refs = [] := by unfold keepL; rw [if_neg hz]
    have e2 : keepR l refs = [] := by unfold keepR; rw [if_neg hz]
    refine cw_seq ?_
    refine cw_region ?_
    refine rw_run tab_ok 1 [(6, _), (23, _)] rfl ⟨rfl, rfl, trivial⟩ ?_
    refine rw_s (qs_len Try.underlying39 rfl rfl) rfl rfl ?_
    refine rw_run tab_ok 2 [(6, _), (26, _)] rfl ⟨rfl, rfl, trivial⟩ ?_
    refine rw_as (t := 26) (v' := .bool true) rfl (by simp [e1]) ?_
    refine rw_run tab_ok 1 [(26, _), (27, _)] rfl ⟨rfl, rfl, trivial⟩ ?_
    refine rw_s (qs_len Try.underlying41 rfl rfl) rfl rfl ?_
    refine rw_run tab_ok 3 [(4, _)] rfl ⟨rfl, trivial⟩ ?_
    refine rw_end ?_
    refine cw_ret (xw_thenr ?_)
    refine xw_ret1 Try.results9 (rv_tmp rfl) ?_
    intro w hw
    exact ⟨ret_bool (by simp [e2]), hw.below⟩
  · have hrl : (keepR l refs).length = refs.length := by rw [keepR_eq hz]; simp
    have hkl : (keepL l refs).length ≤ l.length := by rw [keepL_eq hz]; exact keptTo_len _ _ _
    obtain ⟨hc0, hin⟩ := keepE_in hz
    have h8 := (checkB_zero hc0).1
    obtain ⟨ha1, ha2, ha3⟩ := keep_again hz
    refine cw_skip (xw_then ?_)
    refine cw_seq ?_
    refine cw_seq ?_
    refine cw_region ?_
    refine rw_run tab_ok 1 [(0, _), (1, _), (5, _), (6, _), (31, _)] rfl ⟨rfl, rfl, rfl, rfl, rfl, trivial⟩ ?_
    refine rw_s (qs_len Try.underlying41 rfl rfl) rfl rfl ?_
    refine rw_run tab_ok 1 [(0, _), (1, _), (5, _), (6, _), (32, _), (33, _)] rfl ⟨rfl, rfl, rfl, rfl, rfl, rfl, trivial⟩ ?_
    refine rw_s (qs_len Try.underlying41 rfl rfl) rfl rfl ?_
    refine rw_run tab_ok 1 [(0, _), (1, _), (5, _), (6, _), (35, _)] rfl ⟨rfl, rfl, rfl, rfl, rfl, trivial⟩ ?_
    refine rw_end ?_
    refine cw_condN rfl (fun hlen => ?_) (fun hlen => ?_)
    · exact absurd (by omega) hlen
    · refine cw_skip (xw_then ?_)
      refine cw_seq ?_
      refine cw_seq ?_
      refine cw_region ?_
      refine rw_run tab_ok 1 [(0, _), (1, _), (5, _), (6, _), (8, _)] rfl ⟨rfl, rfl, rfl, rfl, rfl, trivial⟩ ?_
      refine rw_end ?_
      refine cw_block (cw_loop (fun i : Nat => i ≤ refs.length) (fun i => refs.length - i) (fun i => [(0, .slice A l.length c), (1, .slice Ar refs.length cr), (5, .slice Ak (keepL l refs).length ck), (6, .slice At (keepR l refs).length ct), (8, .int .i64 (i : Int))]) (fun _ => [ROw (.slice At (keepR l refs).length ct) (keepR l refs), ROw (.slice Ak (keepL l refs).length ck) (keepL l refs)]) 0 (Nat.zero_le _) ⟨rfl, rfl, rfl, rfl, rfl, trivial⟩ (by first | exact fun _ h => h | exact fun _ h => h.msub (by repeat (first | exact .z | refine .s (by first | exact .a | exact .b | exact .c | exact .d | exact .e | exact .s .e | exact .s (.s .e) | exact .s (.s (.s .e))) ?_))) ?_)
      rintro i hi'
      have hi : i ≤ refs.length := hi'
      refine cw_seq ?_
      refine cw_seq ?_
      refine cw_region ?_
      refine rw_run tab_ok 2 [(0, _), (1, _), (5, _), (6, _), (8, _), (36, _), (37, _)] rfl ⟨rfl, rfl, rfl, rfl, rfl, rfl, rfl, trivial⟩ ?_
      refine rw_s (qs_len Try.underlying41 rfl rfl) rfl rfl ?_
      refine rw_run tab_ok 1 [(0, _), (1, _), (5, _), (6, _), (8, _), (39, _)] rfl ⟨rfl, rfl, rfl, rfl, rfl, rfl, trivial⟩ ?_
      refine rw_end ?_
      refine cw_condD rfl (fun hlt => ?_) (fun hlt => ?_)
      · have hil : i < refs.length := by omega
        have hil2 : i < (keepR l refs).length := by omega
        have hg := keepR_get hz hil
        have hm : refs.getD i 0 ∈ refs := mem_getD hil
        have hri := hin _ hm
        refine cw_skip (xw_then ?_)
        refine cw_seq ?_
        refine cw_block ?_
        refine cw_seq ?_
        refine cw_seq ?_
        refine cw_region ?_
        refine rw_run tab_ok 2 [(0, _), (1, _), (5, _), (6, _), (8, _), (42, _), (43, _)] rfl ⟨rfl, rfl, rfl, rfl, rfl, rfl, rfl, trivial⟩ ?_
        refine rw_s (qs_idx Try.underlying41 Try.sizeOf3 (.ro hrs) (by omega) rfl rfl rfl) rfl rfl ?_
        refine rw_s (qs_ld (SF.int (.ro hrs) (by omega)) rfl rfl Try.isAgg3) rfl rfl ?_
        refine rw_run tab_ok 2 [(0, _), (1, _), (5, _), (6, _), (8, _), (47, _)] rfl ⟨rfl, rfl, rfl, rfl, rfl, rfl, trivial⟩ ?_
        refine rw_split (t := 47) rfl (fun h1 => ?_) (fun h1 => ?_)
        · have h1 := of_decide_eq_true h1
          have hg0 : (keepR l refs).getD i 0 = 0 := by rw [hg, h1]; simp [keptN]
          refine rw_run tab_ok 15 [(0, _), (1, _), (5, _), (6, _), (8, _), (62, _)] rfl ⟨rfl, rfl, rfl, rfl, rfl, rfl, trivial⟩ ?_
          refine rw_end ?_
          refine cw_cond_t rfl ?_
          refine cw_seq ?_
          refine cw_seq ?_
          refine cw_region ?_
          refine rw_run tab_ok 2 [(0, _), (1, _), (5, _), (6, _), (8, _), (63, _), (64, _)] rfl ⟨rfl, rfl, rfl, rfl, rfl, rfl, rfl, trivial⟩ ?_
          refine rw_s (qs_idx Try.underlying41 Try.sizeOf3 (.ro hrs) (by omega) rfl rfl rfl) rfl rfl ?_
          refine rw_s (qs_ld (SF.int (.ro hrs) (by omega)) rfl rfl Try.isAgg3) rfl rfl ?_
          refine rw_run tab_ok 2 [(0, _), (1, _), (5, _), (6, _), (8, _), (68, _)] rfl ⟨rfl, rfl, rfl, rfl, rfl, rfl, trivial⟩ ?_
          refine rw_as (t := 68) (v' := .bool false) rfl (by rw [decide_eq_true h1]; rfl) ?_
          refine rw_run tab_ok 2 [(0, _), (1, _), (5, _), (6, _), (8, _), (68, _), (69, _), (70, _)] rfl ⟨rfl, rfl, rfl, rfl, rfl, rfl, rfl, rfl, trivial⟩ ?_
          refine rw_s (qs_idx Try.underlying41 Try.sizeOf3 (.own rfl (by first | exact .a | exact .b | exact .c | exact .d | exact .e | exact .s .e | exact .s (.s .e) | exact .s (.s (.s .e)))) (by omega) rfl rfl rfl) rfl rfl ?_
          refine rw_s (qs_ld (SF.int (.own rfl (by first | exact .a | exact .b | exact .c | exact .d | exact .e | exact .s .e | exact .s (.s .e) | exact .s (.s (.s .e)))) (by omega)) rfl rfl Try.isAgg3) rfl rfl ?_
          refine rw_run tab_ok 2 [(0, _), (1, _), (5, _), (6, _), (8, _), (74, _)] rfl ⟨rfl, rfl, rfl, rfl, rfl, rfl, trivial⟩ ?_
          refine rw_end ?_
          refine cw_condN rfl (fun h2 => ?_) (fun h2 => ?_)
          · exact absurd hg0 h2
          · refine cw_skip (xw_then ?_)
            refine cw_exit (xw_thenx (xw_blk (xw_then ?_)))
            refine cw_region ?_
            refine rw_run tab_ok 1 [(0, _), (1, _), (5, _), (6, _), (40, _)] rfl ⟨rfl, rfl, rfl, rfl, rfl, trivial⟩ ?_
            refine rw_s (qs_add rfl rfl rfl (by omega)) rfl rfl ?_
            refine rw_run tab_ok 1 [(0, _), (1, _), (5, _), (6, _), (8, _)] rfl ⟨rfl, rfl, rfl, rfl, rfl, trivial⟩ ?_
            refine rw_round (i + 1) (by show i + 1 ≤ _; omega) (by show _ - _ < _ - _; omega) ⟨rfl, rfl, rfl, rfl, rfl, trivial⟩ (by first | exact fun _ h => h | exact fun _ h => h.msub (by repeat (first | exact .z | refine .s (by first | exact .a | exact .b | exact .c | exact .d | exact .e | exact .s .e | exact .s (.s .e) | exact .s (.s (.s .e))) ?_)))
        · have h1 := of_decide_eq_false h1
          obtain ⟨hn1, hn2, hn3⟩ := keptN_at (l := l) hm (by omega) hri.2
          rw [← hg, ← keepL_eq hz] at *
          refine rw_run tab_ok 2 [(0, _), (1, _), (5, _), (6, _), (8, _), (47, _), (48, _), (49, _)] rfl ⟨rfl, rfl, rfl, rfl, rfl, rfl, rfl, rfl, trivial⟩ ?_
          refine rw_s (qs_idx Try.underlying41 Try.sizeOf3 (.own rfl (by first | exact .a | exact .b | exact .c | exact .d | exact .e | exact .s .e | exact .s (.s .e) | exact .s (.s (.s .e)))) (by omega) rfl rfl rfl) rfl rfl ?_
          refine rw_s (qs_ld (SF.int (.own rfl (by first | exact .a | exact .b | exact .c | exact .d | exact .e | exact .s .e | exact .s (.s .e) | exact .s (.s (.s .e)))) (by omega)) rfl rfl Try.isAgg3) rfl rfl ?_
          refine rw_run tab_ok 3 [(0, _), (1, _), (5, _), (6, _), (8, _), (54, _)] rfl ⟨rfl, rfl, rfl, rfl, rfl, rfl, trivial⟩ ?_
          refine rw_as (t := 54) (v' := .bool false) rfl (by rw [decide_eq_false (by omega)]) ?_
          refine rw_run tab_ok 2 [(0, _), (1, _), (5, _), (6, _), (8, _), (54, _), (55, _), (56, _)] rfl ⟨rfl, rfl, rfl, rfl, rfl, rfl, rfl, rfl, trivial⟩ ?_
          refine rw_s (qs_idx Try.underlying41 Try.sizeOf3 (.own rfl (by first | exact .a | exact .b | exact .c | exact .d | exact .e | exact .s .e | exact .s (.s .e) | exact .s (.s (.s .e)))) (by omega) rfl rfl rfl) rfl rfl ?_
          refine rw_s (qs_ld (SF.int (.own rfl (by first | exact .a | exact .b | exact .c | exact .d | exact .e | exact .s .e | exact .s (.s .e) | exact .s (.s (.s .e)))) (by omega)) rfl rfl Try.isAgg3) rfl rfl ?_
          refine rw_run tab_ok 1 [(0, _), (1, _), (5, _), (6, _), (8, _), (54, _), (58, _), (59, _)] rfl ⟨rfl, rfl, rfl, rfl, rfl, rfl, rfl, rfl, trivial⟩ ?_
          refine rw_s (qs_len Try.underlying39 rfl rfl) rfl rfl ?_
          refine rw_run tab_ok 2 [(0, _), (1, _), (5, _), (6, _), (8, _), (62, _)] rfl ⟨rfl, rfl, rfl, rfl, rfl, rfl, trivial⟩ ?_
          refine rw_end ?_
          refine cw_condD rfl (fun h2 => ?_) (fun h2 => ?_)
          · exact absurd h2 (by omega)
          · have hk1 : ((keepR l refs).getD i 0 - 1).toNat < (keepL l refs).length := by omega
            have hk2 : (refs.getD i 0 - 1).toNat < l.length := by omega
            obtain ⟨A2, c2, hb, hc2⟩ := hs.sub hk2
            refine cw_skip (xw_then ?_)
            refine cw_rin ((keepR l refs).getD i 0 - 1).toNat (by first | exact .a | exact .b | exact .c | exact .d | exact .e | exact .s .e | exact .s (.s .e) | exact .s (.s (.s .e))) hk1 (fun A3 c3 => ?_)
            refine cw_seq ?_
            refine cw_draw (.still 0 (.still 1 (.still 2 (.still 3 (.still 4 (.still 5 (.still 6 (.still 7 (.still 8 (.still 9 (.still 10 (.still 11 (.still 12 (.still 13 (.still 14 (.still 15 (.pick 16 (.still 17 .done) .stop))))))))))))))))) [] rfl (by kernel_rfl) (by kernel_rfl) ?_
            refine ro_run tab_ok (by first | exact Has.rfl | exact Has.s Has.rfl | exact Has.m (by repeat (first | exact .z | refine .s (by first | exact .a | exact .b | exact .c | exact .d | exact .e | exact .s .e | exact .s (.s .e) | exact .s (.s (.s .e))) ?_))) 3 [(0, _), (1, _), (5, _), (6, _), (8, _), (75, _), (76, _), (77, _)] rfl ⟨rfl, rfl, rfl, rfl, rfl, rfl, rfl, rfl, trivial⟩ ?_
            refine ro_s (qs_idx Try.underlying41 Try.sizeOf3 (.own rfl (by first | exact .a | exact .b | exact .c | exact .d | exact .e | exact .s .e | exact .s (.s .e) | exact .s (.s (.s .e)))) (by omega) rfl rfl rfl) rfl rfl rfl (by first | exact Has.rfl | exact Has.s Has.rfl | exact Has.m (by repeat (first | exact .z | refine .s (by first | exact .a | exact .b | exact .c | exact .d | exact .e | exact .s .e | exact .s (.s .e) | exact .s (.s (.s .e))) ?_))) ?_
            refine ro_s (qs_ld (SF.int (.own rfl (by first | exact .a | exact .b | exact .c | exact .d | exact .e | exact .s .e | exact .s (.s .e) | exact .s (.s (.s .e)))) (by omega)) rfl rfl Try.isAgg3) rfl rfl rfl (by first | exact Has.rfl | exact Has.s Has.rfl | exact Has.m (by repeat (first | exact .z | refine .s (by first | exact .a | exact .b | exact .c | exact .d | exact .e | exact .s .e | exact .s (.s .e) | exact .s (.s (.s .e))) ?_))) ?_
            refine ro_s (qs_sub rfl rfl rfl (by omega)) rfl rfl rfl (by first | exact Has.rfl | exact Has.s Has.rfl | exact Has.m (by repeat (first | exact .z | refine .s (by first | exact .a | exact .b | exact .c | exact .d | exact .e | exact .s .e | exact .s (.s .e) | exact .s (.s (.s .e))) ?_))) ?_
            refine ro_s (qs_idxI Try.underlying39 Try.sizeOf41 (.rino rfl (by first | exact .a | exact .b | exact .c | exact .d | exact .e | exact .s .e | exact .s (.s .e) | exact .s (.s (.s .e)))) (by omega) rfl rfl rfl) rfl rfl rfl (by first | exact Has.rfl | exact Has.s Has.rfl | exact Has.m (by repeat (first | exact .z | refine .s (by first | exact .a | exact .b | exact .c | exact .d | exact .e | exact .s .e | exact .s (.s .e) | exact .s (.s (.s .e))) ?_))) ?_
            refine ro_s (qs_ldrin (by first | exact .a | exact .b | exact .c | exact .d | exact .e | exact .s .e | exact .s (.s .e) | exact .s (.s (.s .e))) Try.isAgg41 rfl rfl) rfl rfl rfl (by first | exact Has.rfl | exact Has.s Has.rfl | exact Has.m (by repeat (first | exact .z | refine .s (by first | exact .a | exact .b | exact .c | exact .d | exact .e | exact .s .e | exact .s (.s .e) | exact .s (.s (.s .e))) ?_))) ?_
            refine ro_run tab_ok (by first | exact Has.rfl | exact Has.s Has.rfl | exact Has.m (by repeat (first | exact .z | refine .s (by first | exact .a | exact .b | exact .c | exact .d | exact .e | exact .s .e | exact .s (.s .e) | exact .s (.s (.s .e))) ?_))) 3 [(0, _), (1, _), (5, _), (6, _), (8, _), (82, _), (83, _), (84, _), (85, _)] rfl ⟨rfl, rfl, rfl, rfl, rfl, rfl, rfl, rfl, rfl, trivial⟩ ?_
            refine ro_s (qs_idx Try.underlying41 Try.sizeOf3 (.ro hrs) (by omega) rfl rfl rfl) rfl rfl rfl (by first | exact Has.rfl | exact Has.s Has.rfl | exact Has.m (by repeat (first | exact .z | refine .s (by first | exact .a | exact .b | exact .c | exact .d | exact .e | exact .s .e | exact .s (.s .e) | exact .s (.s (.s .e))) ?_))) ?_
            refine ro_s (qs_ld (SF.int (.ro hrs) (by omega)) rfl rfl Try.isAgg3) rfl rfl rfl (by first | exact Has.rfl | exact Has.s Has.rfl | exact Has.m (by repeat (first | exact .z | refine .s (by first | exact .a | exact .b | exact .c | exact .d | exact .e | exact .s .e | exact .s (.s .e) | exact .s (.s (.s .e))) ?_))) ?_
            refine ro_s (qs_sub rfl rfl rfl (by omega)) rfl rfl rfl (by first | exact Has.rfl | exact Has.s Has.rfl | exact Has.m (by repeat (first | exact .z | refine .s (by first | exact .a | exact .b | exact .c | exact .d | exact .e | exact .s .e | exact .s (.s .e) | exact .s (.s (.s .e))) ?_))) ?_
            refine ro_s (qs_idxI Try.underlying39 Try.sizeOf41 (.ro hs) (by omega) rfl rfl rfl) rfl rfl rfl (by first | exact Has.rfl | exact Has.s Has.rfl | exact Has.m (by repeat (first | exact .z | refine .s (by first | exact .a | exact .b | exact .c | exact .d | exact .e | exact .s .e | exact .s (.s .e) | exact .s (.s (.s .e))) ?_))) ?_
            refine ro_s (qs_ld (hc2 _) rfl rfl Try.isAgg41) rfl rfl rfl (by first | exact Has.rfl | exact Has.s Has.rfl | exact Has.m (by repeat (first | exact .z | refine .s (by first | exact .a | exact .b | exact .c | exact .d | exact .e | exact .s .e | exact .s (.s .e) | exact .s (.s (.s .e))) ?_))) ?_
            refine ro_op (ot_c0 rfl rfl rfl Try.call45 (fun w hw => rsameInts_any _ _ ((keepL l refs).getD ((keepR l refs).getD i 0 - 1).toNat []) (l.getD (refs.getD i 0 - 1).toNat []) w (SF.at_ (SF.rin rfl (by first | exact .a | exact .b | exact .c | exact .d | exact .e | exact .s .e | exact .s (.s .e) | exact .s (.s (.s .e)))) hw) (hw.ro hb))) rfl rfl rfl (.inr fun _ => (by first | exact Has.rfl | exact Has.s Has.rfl | exact Has.m (by repeat (first | exact .z | refine .s (by first | exact .a | exact .b | exact .c | exact .d | exact .e | exact .s .e | exact .s (.s .e) | exact .s (.s (.s .e))) ?_)))) (fun _ _ => ?_) ro_stop
            refine ro_run tab_ok (by first | exact Has.rfl | exact Has.s Has.rfl | exact Has.m (by repeat (first | exact .z | refine .s (by first | exact .a | exact .b | exact .c | exact .d | exact .e | exact .s .e | exact .s (.s .e) | exact .s (.s (.s .e))) ?_))) 1 [(0, _), (1, _), (5, _), (6, _), (8, _), (92, _)] rfl ⟨rfl, rfl, rfl, rfl, rfl, rfl, trivial⟩ ?_
            refine ro_end ?_
            refine cw_condN rfl (fun h3 => ?_) (fun h3 => ?_)
            · exact absurd hn3 h3
            · refine cw_mem (fun w h => Cw.rin h) ?_
              refine cw_skip (xw_blkn (xw_then ?_))
              refine cw_region ?_
              refine rw_run tab_ok 1 [(0, _), (1, _), (5, _), (6, _), (40, _)] rfl ⟨rfl, rfl, rfl, rfl, rfl, trivial⟩ ?_
              refine rw_s (qs_add rfl rfl rfl (by omega)) rfl rfl ?_
              refine rw_run tab_ok 1 [(0, _), (1, _), (5, _), (6, _), (8, _)] rfl ⟨rfl, rfl, rfl, rfl, rfl, trivial⟩ ?_
              refine rw_round (i + 1) (by show i + 1 ≤ _; omega) (by show _ - _ < _ - _; omega) ⟨rfl, rfl, rfl, rfl, rfl, trivial⟩ (by first | exact fun _ h => h | exact fun _ h => h.msub (by repeat (first | exact .z | refine .s (by first | exact .a | exact .b | exact .c | exact .d | exact .e | exact .s .e | exact .s (.s .e) | exact .s (.s (.s .e))) ?_)))
      · refine cw_exit (xw_thenx (xw_thenx (xw_blk (xw_then ?_))))
        refine cw_seq ?_
        refine cw_seq ?_
        refine cw_region ?_
        refine rw_run tab_ok 1 [(5, _), (6, _), (9, _)] rfl ⟨rfl, rfl, rfl, trivial⟩ ?_
        refine rw_end ?_
        refine cw_block (cw_loop (fun r : Nat => r ≤ (keepL l refs).length) (fun r => (keepL l refs).length - r) (fun r => [(5, .slice Ak (keepL l refs).length ck), (6, .slice At (keepR l refs).length ct), (9, .int .i64 ((r : Int) + 1))]) (fun _ => [ROw (.slice At (keepR l refs).length ct) (keepR l refs), ROw (.slice Ak (keepL l refs).length ck) (keepL l refs)]) 0 (Nat.zero_le _) ⟨rfl, rfl, rfl, trivial⟩ (by first | exact fun _ h => h | exact fun _ h => h.msub (by repeat (first | exact .z | refine .s (by first | exact .a | exact .b | exact .c | exact .d | exact .e | exact .s .e | exact .s (.s .e) | exact .s (.s (.s .e))) ?_))) ?_)
        rintro r hr'
        have hr : r ≤ (keepL l refs).length := hr'
        refine cw_seq ?_
        refine cw_seq ?_
        refine cw_region ?_
        refine rw_run tab_ok 2 [(5, _), (6, _), (9, _), (93, _), (94, _)] rfl ⟨rfl, rfl, rfl, rfl, rfl, trivial⟩ ?_
        refine rw_s (qs_len Try.underlying39 rfl rfl) rfl rfl ?_
        refine rw_run tab_ok 1 [(5, _), (6, _), (9, _), (96, _)] rfl ⟨rfl, rfl, rfl, rfl, trivial⟩ ?_
        refine rw_end ?_
        refine cw_condD rfl (fun hlt => ?_) (fun hlt => ?_)
        · have hh := keep_hit hz (show r < _ by omega)
          refine cw_skip (xw_then ?_)
          refine cw_seq ?_
          refine cw_block ?_
          refine cw_seq ?_
          refine cw_region ?_
          refine rw_run tab_ok 2 [(5, _), (6, _), (9, _), (99, _), (100, _)] rfl ⟨rfl, rfl, rfl, rfl, rfl, trivial⟩ ?_
          refine rw_op (ot_c0 rfl rfl rfl Try.call46 ((fun w hw => cbelow ((fun w hw => has_any _ (keepR l refs) ((r : Int) + 1) w (SF.at_ (SF.own rfl (by first | exact .a | exact .b | exact .c | exact .d | exact .e | exact .s .e | exact .s (.s .e) | exact .s (.s (.s .e)))) hw)) w hw)))) rfl rfl (fun _ _ => ?_)
          refine rw_run tab_ok 1 [(5, _), (6, _), (9, _), (102, _)] rfl ⟨rfl, rfl, rfl, rfl, trivial⟩ ?_
          refine rw_end ?_
          refine cw_as (t := 102) (v' := .bool false) rfl (by rw [hh]; rfl) ?_
          refine cw_cond_f rfl ?_
          refine cw_skip (xw_blkn (xw_then ?_))
          refine cw_region ?_
          refine rw_run tab_ok 1 [(5, _), (6, _), (97, _)] rfl ⟨rfl, rfl, rfl, trivial⟩ ?_
          refine rw_s (qs_add rfl rfl rfl (by omega)) rfl rfl ?_
          refine rw_run tab_ok 1 [(5, _), (6, _), (9, _)] rfl ⟨rfl, rfl, rfl, trivial⟩ ?_
          refine rw_round (r + 1) (by show r + 1 ≤ _; omega) (by show _ - _ < _ - _; omega) ⟨rfl, rfl, rfl, trivial⟩ (by first | exact fun _ h => h | exact fun _ h => h.msub (by repeat (first | exact .z | refine .s (by first | exact .a | exact .b | exact .c | exact .d | exact .e | exact .s .e | exact .s (.s .e) | exact .s (.s (.s .e))) ?_)))
        · refine cw_exit (xw_thenx (xw_thenx (xw_blk (xw_then ?_))))
          refine cw_seq ?_
          refine cw_region ?_
          refine rw_run tab_ok 2 [(5, _), (6, _), (104, _), (105, _)] rfl ⟨rfl, rfl, rfl, rfl, trivial⟩ ?_
          refine rw_op (ot_c rfl rfl rfl Try.call34 (fun w hw => keepB2 _ _ _ _ (keepL l refs) (keepR l refs) w (SF.at_ (SF.own rfl (by first | exact .a | exact .b | exact .c | exact .d | exact .e | exact .s .e | exact .s (.s .e) | exact .s (.s (.s .e)))) hw) (SF.at_ (SF.own rfl (by first | exact .a | exact .b | exact .c | exact .d | exact .e | exact .s .e | exact .s (.s .e) | exact .s (.s (.s .e)))) hw) (by rw [hrl]; exact hby))) rfl rfl (fun ⟨⟨A8, c8⟩, A9, c9⟩ _ => ?_)
          dsimp only
          refine rw_run tab_ok 7 [(5, _), (6, _), (7, _), (10, _), (11, _)] rfl ⟨rfl, rfl, rfl, rfl, rfl, trivial⟩ ?_
          refine rw_end ?_
          refine cw_seq ?_
          refine cw_region ?_
          refine rw_run tab_ok 3 [(5, _), (6, _), (10, _), (11, _), (112, _)] rfl ⟨rfl, rfl, rfl, rfl, rfl, trivial⟩ ?_
          refine rw_as (t := 112) (v' := .bool true) rfl (by rw [ha1]; rfl) ?_
          refine rw_run tab_ok 2 [(6, _), (11, _), (112, _), (113, _), (114, _)] rfl ⟨rfl, rfl, rfl, rfl, rfl, trivial⟩ ?_
          refine rw_op (ot_c0 rfl rfl rfl Try.call35 (fun w hw => rsameBlocks_any _ _ (keepL (keepL l refs) (keepR l refs)) (keepL l refs) w (SF.at_ (SF.own rfl (by first | exact .a | exact .b | exact .c | exact .d | exact .e | exact .s .e | exact .s (.s .e) | exact .s (.s (.s .e)))) hw) (SF.at_ (SF.own rfl (by first | exact .a | exact .b | exact .c | exact .d | exact .e | exact .s .e | exact .s (.s .e) | exact .s (.s (.s .e)))) hw))) rfl rfl (fun _ _ => ?_)
          refine rw_run tab_ok 2 [(6, _), (11, _), (117, _)] rfl ⟨rfl, rfl, rfl, trivial⟩ ?_
          refine rw_as (t := 117) (v' := .bool true) rfl (by rw [decide_eq_true ha2]) ?_
          refine rw_run tab_ok 2 [(117, _), (118, _), (119, _)] rfl ⟨rfl, rfl, rfl, trivial⟩ ?_
          refine rw_op (ot_c0 rfl rfl rfl Try.call45 (fun w hw => rsameInts_any _ _ (keepR (keepL l refs) (keepR l refs)) (keepR l refs) w (SF.at_ (SF.own rfl (by first | exact .a | exact .b | exact .c | exact .d | exact .e | exact .s .e | exact .s (.s .e) | exact .s (.s (.s .e)))) hw) (SF.at_ (SF.own rfl (by first | exact .a | exact .b | exact .c | exact .d | exact .e | exact .s .e | exact .s (.s .e) | exact .s (.s (.s .e)))) hw))) rfl rfl (fun _ _ => ?_)
          refine rw_run tab_ok 2 [(4, _)] rfl ⟨rfl, trivial⟩ ?_
          refine rw_end ?_
          refine cw_ret ?_
          refine xw_ret1 Try.results9 (rv_tmp rfl) ?_
          intro w hw
          exact ⟨ret_bool (by rw [decide_eq_true ha3]), hw.below⟩
theorem blockKeeps_law (v vr : Value) (l : List (List Int)) (refs : List Int) (w : World) (hs : Sl w v l) (hrs : Sl w vr refs) (hby : refs.length * 8 ≤ 140737488355328) :
    Calls Try.prog 9 #[v, vr] w fun e w' => e = .returned (.bool true) ∧ Below w.heap.size w w' := by
  obtain ⟨A, c, rfl, _⟩ := hs.form
  obtain ⟨Ar, cr, rfl, _⟩ := hrs.form
  exact blockKeeps_any A Ar c cr l refs w hs hrs hby
end Go.Proofs.Ytjojipeodionmaa
