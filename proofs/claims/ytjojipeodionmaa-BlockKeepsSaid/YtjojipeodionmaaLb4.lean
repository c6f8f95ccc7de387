/- BlockBack is true, whatever it is handed. -/
import Derived.Test.YtjojipeodionmaaLb3
namespace Go.Proofs.Ytjojipeodionmaa
open Go.RowKit

theorem put_get {l : List (List Int)} {ref at_ n : Int} (hr : 1 ≤ ref ∧ ref ≤ l.length) (ha : 0 ≤ at_ ∧ at_ < (blk l ref).length) (i k : Nat) (hi : i < l.length) (hk : k < (l.getD i []).length) :
    ((put l ref at_ n).getD i []).getD k 0 = if (i : Int) + 1 = ref ∧ (k : Int) = at_ then n else (l.getD i []).getD k 0 := by
  unfold put blk at *
  by_cases h1 : (ref - 1).toNat = i
  · subst h1
    rw [List.getD_eq_getElem?_getD (l := l.set _ _), List.getElem?_set_self hi]
    simp only [Option.getD_some]
    by_cases h2 : at_.toNat = k
    · subst h2
      rw [List.getD_eq_getElem?_getD (l := List.set _ _ _), List.getElem?_set_self (by omega), if_pos ⟨by omega, by omega⟩]
      rfl
    · rw [List.getD_eq_getElem?_getD (l := List.set _ _ _), List.getElem?_set_ne h2, if_neg (by omega), List.getD_eq_getElem?_getD (l := l.getD _ [])]
  · rw [List.getD_eq_getElem?_getD (l := l.set _ _), List.getElem?_set_ne h1, if_neg (by omega), ← List.getD_eq_getElem?_getD (l := l)]
theorem put_len {l : List (List Int)} {ref at_ n : Int} (i : Nat) : (put l ref at_ n).length = l.length ∧ ((put l ref at_ n).getD i []).length = (l.getD i []).length := by
  unfold put blk
  refine ⟨by simp, ?_⟩
  by_cases h1 : (ref - 1).toNat = i
  · subst h1
    by_cases h2 : (ref - 1).toNat < l.length
    · rw [List.getD_eq_getElem?_getD (l := l.set _ _), List.getElem?_set_self h2]; simp
    · rw [List.set_eq_of_length_le (by omega)]
  · rw [List.getD_eq_getElem?_getD (l := l.set _ _), List.getElem?_set_ne h1, ← List.getD_eq_getElem?_getD (l := l)]
theorem cellsN_set {l : List (List Int)} (i : Nat) (b : List Int) (hb : b.length = (l.getD i []).length) : cellsN (l.set i b) = cellsN l := by
  unfold cellsN
  induction l generalizing i with
  | nil => rfl
  | cons a l ih =>
    match i with
    | 0 => simp at hb; simp [hb]
    | i + 1 =>
      have := ih i (by simpa using hb)
      simp only [List.set_cons_succ, List.map_cons, List.sum_cons]
      rw [this]
theorem any_set {α : Type} (p : α → Bool) (l : List α) (i : Nat) (b : α) (h : l.any p = false) (hb : p b = false) : (l.set i b).any p = false := by
  rw [Bool.eq_false_iff] at *
  intro ha
  obtain ⟨x, hx, hp⟩ := List.any_eq_true.1 ha
  rcases List.mem_or_eq_of_mem_set hx with h1 | h1
  · exact h (List.any_eq_true.2 ⟨x, h1, hp⟩)
  · subst h1; exact hb hp
theorem checkB_set {l : List (List Int)} {ref at_ n : Int} (h : setE l ref at_ n = 0) : checkB (setL l ref at_ n) = 0 := by
  obtain ⟨h0, h1, h2, h3⟩ := setL_get h
  obtain ⟨h4, h5, h6⟩ := checkB_zero h0
  rw [h3]
  refine checkB_of (by rw [(put_len 0).1]; exact h4) (by unfold put; rw [cellsN_set _ _ (by unfold blk; simp)]; exact h5) ?_
  unfold put
  refine any_set _ _ _ _ h6 ?_
  unfold badInts
  refine any_set _ _ _ _ ?_ (by simp [h2])
  by_cases h7 : (ref - 1).toNat < l.length
  · rw [Bool.eq_false_iff] at h6 ⊢
    intro ha
    exact h6 (List.any_eq_true.2 ⟨blk l ref, mem_getD h7, ha⟩)
  · unfold blk; rw [List.getD_eq_getElem?_getD, List.getElem?_eq_none (by omega)]; rfl
/-- What is got of a block that is there. -/
theorem get_at {m : List (List Int)} {i k : Nat} (h0 : checkB m = 0) (hi : i < m.length) (hk : k < (m.getD i []).length) : getE m ((i : Int) + 1) (k : Int) = 0 ∧ getN m ((i : Int) + 1) (k : Int) = (m.getD i []).getD k 0 := by
  have hb : blk m ((i : Int) + 1) = m.getD i [] := by unfold blk; congr 1; omega
  have hE : getE m ((i : Int) + 1) (k : Int) = 0 := by
    unfold getE placeE
    rw [if_pos h0, if_neg (by omega), hb, if_neg (by omega)]
  refine ⟨hE, ?_⟩
  unfold getN
  rw [if_pos hE, hb, Int.toNat_natCast]
theorem set_got {l : List (List Int)} {ref at_ n : Int} (h : setE l ref at_ n = 0) {i k : Nat} (hi : i < l.length) (hk : k < (l.getD i []).length) :
    getE (setL l ref at_ n) ((i : Int) + 1) (k : Int) = 0 ∧ getN (setL l ref at_ n) ((i : Int) + 1) (k : Int) = if (i : Int) + 1 = ref ∧ (k : Int) = at_ then n else (l.getD i []).getD k 0 := by
  obtain ⟨h0, h1, h2, h3⟩ := setL_get h
  have hp := placeE_zero h1
  have hc := checkB_set h
  have hl : i < (setL l ref at_ n).length := by rw [h3, (put_len 0).1]; exact hi
  have hkl : k < ((setL l ref at_ n).getD i []).length := by rw [h3, (put_len i).2]; exact hk
  obtain ⟨e1, e2⟩ := get_at hc hl hkl
  refine ⟨e1, ?_⟩
  rw [e2, h3]
  exact put_get (by omega) (by omega) i k hi hk
theorem new_got {l : List (List Int)} {size : Int} (h : newE l size = 0) {k : Nat} (hk : (k : Int) < size) : getE (newL l size) ((l.length : Int) + 1) (k : Int) = 0 ∧ getN (newL l size) ((l.length : Int) + 1) (k : Int) = 0 := by
  have hL : newL l size = l ++ [List.replicate size.toNat 0] := by unfold newL; rw [if_pos h]
  have hg : (newL l size).getD l.length [] = List.replicate size.toNat 0 := by rw [hL, List.getD_eq_getElem?_getD, List.getElem?_append_right (Nat.le_refl _)]; simp
  have h1 : k < ((newL l size).getD l.length []).length := by rw [hg]; simp; omega
  obtain ⟨e1, e2⟩ := get_at (checkB_new h) (by rw [hL]; simp) h1
  refine ⟨e1, ?_⟩
  rw [e2, hg, List.getD_eq_getElem?_getD, List.getElem?_replicate]
  split <;> rfl
theorem new_end {l : List (List Int)} {size : Int} (h : newE l size = 0) : getE (newL l size) ((l.length : Int) + 1) size = 3 := by
  have hL : newL l size = l ++ [List.replicate size.toNat 0] := by unfold newL; rw [if_pos h]
  have hb : blk (newL l size) ((l.length : Int) + 1) = List.replicate size.toNat 0 := by
    unfold blk
    rw [hL, show ((l.length : Int) + 1 - 1).toNat = l.length from by omega, List.getD_eq_getElem?_getD, List.getElem?_append_right (Nat.le_refl _)]; simp
  have h0 := (newE_zero h).2.1
  unfold getE placeE
  rw [if_pos (checkB_new h), if_neg (by omega), hb, if_pos (.inr (.inr (.inr (by simp; omega))))]

set_option maxRecDepth 100000 in
set_option maxHeartbeats 2000000 in
theorem blockBack_any (A : Option Addr) (c : Nat) (l : List (List Int)) (ref at_ n size : Int) (w : World) (hs : Sl w (.slice A l.length c) l) (ir : I64 ref) (ia : I64 at_) (i_n : I64 n) (iz : I64 size) :
    Calls Try.prog 8 #[.slice A l.length c, .int .i64 ref, .int .i64 at_, .int .i64 n, .int .i64 size] w fun e w' => e = .returned (.bool true) ∧ Below w.heap.size w w' := by
  have b1 := len_bd hs
  refine enter Try.func8 rfl Try.ntmps8 rfl ?_
  refine cw_seq ?_
  refine cw_region ?_
  refine rw_run tab_ok 1 [(0, _), (1, _), (2, _), (3, _), (4, _)] rfl ⟨rfl, rfl, rfl, rfl, rfl, trivial⟩ ?_
  refine rw_end ?_
  refine cw_seq ?_
  refine cw_seq ?_
  refine cw_region ?_
  refine rw_op (ot_c0 rfl rfl rfl Try.call31 (fun w hw => blockBegun_any w)) rfl rfl (fun _ _ => ?_)
  refine rw_run tab_ok 1 [(0, _), (1, _), (2, _), (3, _), (4, _), (26, _)] rfl ⟨rfl, rfl, rfl, rfl, rfl, rfl, trivial⟩ ?_
  refine rw_end ?_
  refine cw_cond_f rfl ?_
  refine cw_skip (xw_then ?_)
  refine cw_seq ?_
  refine cw_region ?_
  refine rw_run tab_ok 4 [(0, _), (1, _), (2, _), (3, _), (4, _), (28, _), (29, _), (30, _), (31, _)] rfl ⟨rfl, rfl, rfl, rfl, rfl, rfl, rfl, rfl, rfl, trivial⟩ ?_
  refine rw_op (ot_cO rfl rfl rfl Try.call38 (fun w hw => setB_any _ l ref at_ n w (hw.ro hs) ir ia i_n)) rfl rfl (fun ⟨Ab, cb⟩ _ => ?_)
  dsimp only
  refine rw_run tab_ok 5 [(0, _), (1, _), (2, _), (3, _), (4, _), (11, _), (12, _)] rfl ⟨rfl, rfl, rfl, rfl, rfl, rfl, rfl, trivial⟩ ?_
  refine rw_end ?_
  refine cw_cut (fun _ : Unit => True) (fun _ => [(0, .slice A l.length c), (4, .int .i64 size)]) (fun _ => []) ?_ ?_
  · refine cw_seq ?_
    refine cw_region ?_
    refine rw_run tab_ok 2 [(0, _), (1, _), (2, _), (3, _), (4, _), (11, _), (36, _)] rfl ⟨rfl, rfl, rfl, rfl, rfl, rfl, rfl, trivial⟩ ?_
    refine rw_end ?_
    refine cw_condD rfl (fun hz => ?_) (fun hz => ?_)
    · have h8 := (checkB_zero (setL_get hz).1)
      refine cw_seq ?_
      refine cw_region ?_
      refine rw_run tab_ok 1 [(0, _), (1, _), (2, _), (3, _), (4, _), (11, _), (13, _)] rfl ⟨rfl, rfl, rfl, rfl, rfl, rfl, rfl, trivial⟩ ?_
      refine rw_end ?_
      refine cw_block (cw_loop (fun i : Nat => i ≤ l.length) (fun i => l.length - i) (fun i => [(0, .slice A l.length c), (1, .int .i64 ref), (2, .int .i64 at_), (3, .int .i64 n), (4, .int .i64 size), (11, .slice Ab (setL l ref at_ n).length cb), (13, .int .i64 (i : Int))]) (fun _ => [ROw (.slice Ab (setL l ref at_ n).length cb) (setL l ref at_ n)]) 0 (Nat.zero_le _) ⟨rfl, rfl, rfl, rfl, rfl, rfl, rfl, trivial⟩ (by first | exact fun _ h => h | exact fun _ h => h.msub (by repeat (first | exact .z | refine .s (by first | exact .a | exact .b | exact .c | exact .d | exact .e | exact .s .e | exact .s (.s .e) | exact .s (.s (.s .e))) ?_))) ?_)
      rintro i hi'
      have hi : i ≤ l.length := hi'
      refine cw_seq ?_
      refine cw_seq ?_
      refine cw_region ?_
      refine rw_run tab_ok 2 [(0, _), (1, _), (2, _), (3, _), (4, _), (11, _), (13, _), (37, _), (38, _)] rfl ⟨rfl, rfl, rfl, rfl, rfl, rfl, rfl, rfl, rfl, trivial⟩ ?_
      refine rw_s (qs_len Try.underlying39 rfl rfl) rfl rfl ?_
      refine rw_run tab_ok 1 [(0, _), (1, _), (2, _), (3, _), (4, _), (11, _), (13, _), (40, _)] rfl ⟨rfl, rfl, rfl, rfl, rfl, rfl, rfl, rfl, trivial⟩ ?_
      refine rw_end ?_
      refine cw_condD rfl (fun hlt => ?_) (fun hlt => ?_)
      · have hil : i < l.length := by omega
        obtain ⟨A2, c2, hb, hc2⟩ := hs.sub hil
        have b2 := len_bd hb
        have hcell := cellsN_mem (mem_getD (d := ([] : List Int)) hil)
        refine cw_skip (xw_then ?_)
        refine cw_seq ?_
        refine cw_block ?_
        refine cw_seq ?_
        refine cw_region ?_
        refine rw_run tab_ok 1 [(0, _), (1, _), (2, _), (3, _), (4, _), (11, _), (13, _), (14, _)] rfl ⟨rfl, rfl, rfl, rfl, rfl, rfl, rfl, rfl, trivial⟩ ?_
        refine rw_end ?_
        refine cw_block (cw_loop (fun k : Nat => k ≤ (l.getD i []).length) (fun k => (l.getD i []).length - k) (fun k => [(0, .slice A l.length c), (1, .int .i64 ref), (2, .int .i64 at_), (3, .int .i64 n), (4, .int .i64 size), (11, .slice Ab (setL l ref at_ n).length cb), (13, .int .i64 (i : Int)), (14, .int .i64 (k : Int))]) (fun _ => [ROw (.slice Ab (setL l ref at_ n).length cb) (setL l ref at_ n)]) 0 (Nat.zero_le _) ⟨rfl, rfl, rfl, rfl, rfl, rfl, rfl, rfl, trivial⟩ (by first | exact fun _ h => h | exact fun _ h => h.msub (by repeat (first | exact .z | refine .s (by first | exact .a | exact .b | exact .c | exact .d | exact .e | exact .s .e | exact .s (.s .e) | exact .s (.s (.s .e))) ?_))) ?_)
        rintro k hk'
        have hk : k ≤ (l.getD i []).length := hk'
        refine cw_seq ?_
        refine cw_seq ?_
        refine cw_region ?_
        refine rw_run tab_ok 3 [(0, _), (1, _), (2, _), (3, _), (4, _), (11, _), (13, _), (14, _), (43, _), (44, _), (45, _)] rfl ⟨rfl, rfl, rfl, rfl, rfl, rfl, rfl, rfl, rfl, rfl, rfl, trivial⟩ ?_
        refine rw_s (qs_idx Try.underlying39 Try.sizeOf41 (.ro hs) (by omega) rfl rfl rfl) rfl rfl ?_
        refine rw_s (qs_ld (hc2 _) rfl rfl Try.isAgg41) rfl rfl ?_
        refine rw_s (qs_len Try.underlying41 rfl rfl) rfl rfl ?_
        refine rw_run tab_ok 1 [(0, _), (1, _), (2, _), (3, _), (4, _), (11, _), (13, _), (14, _), (49, _)] rfl ⟨rfl, rfl, rfl, rfl, rfl, rfl, rfl, rfl, rfl, trivial⟩ ?_
        refine rw_end ?_
        refine cw_condD rfl (fun hlk => ?_) (fun hlk => ?_)
        · have hkl : k < (l.getD i []).length := by omega
          obtain ⟨hgE, hgN⟩ := set_got hz hil hkl
          refine cw_skip (xw_then ?_)
          refine cw_seq ?_
          refine cw_block ?_
          refine cw_seq ?_
          refine cw_region ?_
          refine rw_run tab_ok 2 [(0, _), (1, _), (2, _), (3, _), (4, _), (11, _), (13, _), (14, _), (52, _), (53, _)] rfl ⟨rfl, rfl, rfl, rfl, rfl, rfl, rfl, rfl, rfl, rfl, trivial⟩ ?_
          refine rw_s (qs_idx Try.underlying39 Try.sizeOf41 (.ro hs) (by omega) rfl rfl rfl) rfl rfl ?_
          refine rw_s (qs_ld (hc2 _) rfl rfl Try.isAgg41) rfl rfl ?_
          refine rw_run tab_ok 1 [(0, _), (1, _), (2, _), (3, _), (4, _), (11, _), (13, _), (14, _), (55, _), (56, _)] rfl ⟨rfl, rfl, rfl, rfl, rfl, rfl, rfl, rfl, rfl, rfl, trivial⟩ ?_
          refine rw_s (qs_idx Try.underlying41 Try.sizeOf3 (.ro hb) (by omega) rfl rfl rfl) rfl rfl ?_
          refine rw_s (qs_ld (SF.int (.ro hb) (by omega)) rfl rfl Try.isAgg3) rfl rfl ?_
          refine rw_run tab_ok 1 [(0, _), (1, _), (2, _), (3, _), (4, _), (11, _), (13, _), (14, _), (15, _)] rfl ⟨rfl, rfl, rfl, rfl, rfl, rfl, rfl, rfl, rfl, trivial⟩ ?_
          refine rw_end ?_
          refine cw_cut (fun _ : Unit => True) (fun _ => [(0, .slice A l.length c), (1, .int .i64 ref), (2, .int .i64 at_), (3, .int .i64 n), (4, .int .i64 size), (11, .slice Ab (setL l ref at_ n).length cb), (13, .int .i64 (i : Int)), (14, .int .i64 (k : Int)), (15, .int .i64 (if (i : Int) + 1 = ref ∧ (k : Int) = at_ then n else (l.getD i []).getD k 0))]) (fun _ => [ROw (.slice Ab (setL l ref at_ n).length cb) (setL l ref at_ n)]) ?_ ?_
          · refine cw_seq ?_
            refine cw_region ?_
            refine rw_run tab_ok 1 [(0, _), (1, _), (2, _), (3, _), (4, _), (11, _), (13, _), (14, _), (15, _), (59, _)] rfl ⟨rfl, rfl, rfl, rfl, rfl, rfl, rfl, rfl, rfl, rfl, trivial⟩ ?_
            refine rw_s (qs_add rfl rfl rfl (by omega)) rfl rfl ?_
            refine rw_run tab_ok 3 [(0, _), (1, _), (2, _), (3, _), (4, _), (11, _), (13, _), (14, _), (15, _), (63, _)] rfl ⟨rfl, rfl, rfl, rfl, rfl, rfl, rfl, rfl, rfl, rfl, trivial⟩ ?_
            refine rw_split (t := 63) rfl (fun h1 => ?_) (fun h1 => ?_)
            · have h1 := of_decide_eq_true h1
              refine rw_run tab_ok 4 [(0, _), (1, _), (2, _), (3, _), (4, _), (11, _), (13, _), (14, _), (15, _), (67, _)] rfl ⟨rfl, rfl, rfl, rfl, rfl, rfl, rfl, rfl, rfl, rfl, trivial⟩ ?_
              refine rw_end ?_
              refine cw_condD rfl (fun h2 => ?_) (fun h2 => ?_)
              · have e : n = if (i : Int) + 1 = ref ∧ (k : Int) = at_ then n else (l.getD i []).getD k 0 := by rw [if_pos ⟨h1, h2⟩]
                refine cw_as (t := 3) (v' := .int .i64 (if (i : Int) + 1 = ref ∧ (k : Int) = at_ then n else (l.getD i []).getD k 0)) rfl (by rw [← e]) ?_
                refine cw_region ?_
                refine rw_run tab_ok 2 [(0, _), (1, _), (2, _), (3, _), (4, _), (11, _), (13, _), (14, _), (15, _)] rfl ⟨rfl, rfl, rfl, rfl, rfl, rfl, rfl, rfl, rfl, trivial⟩ ?_
                rw [← e]
                refine rw_join () (trivial) ⟨rfl, rfl, rfl, rfl, rfl, rfl, rfl, rfl, rfl, trivial⟩ (by first | exact fun _ h => h | exact fun _ h => h.msub (by repeat (first | exact .z | refine .s (by first | exact .a | exact .b | exact .c | exact .d | exact .e | exact .s .e | exact .s (.s .e) | exact .s (.s (.s .e))) ?_)))
              · have e : (l.getD i []).getD k 0 = if (i : Int) + 1 = ref ∧ (k : Int) = at_ then n else (l.getD i []).getD k 0 := by rw [if_neg fun h => h2 h.2]
                refine cw_as (t := 15) (v' := .int .i64 (if (i : Int) + 1 = ref ∧ (k : Int) = at_ then n else (l.getD i []).getD k 0)) rfl (by rw [← e]) ?_
                refine cw_skip ?_
                refine xw_join () (trivial) ⟨rfl, rfl, rfl, rfl, rfl, rfl, rfl, rfl, rfl, trivial⟩ (by first | exact fun _ h => h | exact fun _ h => h.msub (by repeat (first | exact .z | refine .s (by first | exact .a | exact .b | exact .c | exact .d | exact .e | exact .s .e | exact .s (.s .e) | exact .s (.s (.s .e))) ?_)))
            · have h1 := of_decide_eq_false h1
              have e : (l.getD i []).getD k 0 = if (i : Int) + 1 = ref ∧ (k : Int) = at_ then n else (l.getD i []).getD k 0 := by rw [if_neg fun h => h1 h.1]
              refine rw_as (t := 15) (v' := .int .i64 (if (i : Int) + 1 = ref ∧ (k : Int) = at_ then n else (l.getD i []).getD k 0)) rfl (by rw [← e]) ?_
              refine rw_run tab_ok 4 [(0, _), (1, _), (2, _), (3, _), (4, _), (11, _), (13, _), (14, _), (15, _), (67, _)] rfl ⟨rfl, rfl, rfl, rfl, rfl, rfl, rfl, rfl, rfl, rfl, trivial⟩ ?_
              refine rw_end ?_
              refine cw_cond_f rfl ?_
              refine cw_skip ?_
              refine xw_join () (trivial) ⟨rfl, rfl, rfl, rfl, rfl, rfl, rfl, rfl, rfl, trivial⟩ (by first | exact fun _ h => h | exact fun _ h => h.msub (by repeat (first | exact .z | refine .s (by first | exact .a | exact .b | exact .c | exact .d | exact .e | exact .s .e | exact .s (.s .e) | exact .s (.s (.s .e))) ?_)))
          · rintro _ _
            refine cw_seq ?_
            refine cw_region ?_
            refine rw_run tab_ok 2 [(0, _), (1, _), (2, _), (3, _), (4, _), (11, _), (13, _), (14, _), (15, _), (70, _), (71, _)] rfl ⟨rfl, rfl, rfl, rfl, rfl, rfl, rfl, rfl, rfl, rfl, rfl, trivial⟩ ?_
            refine rw_s (qs_add rfl rfl rfl (by omega)) rfl rfl ?_
            refine rw_run tab_ok 1 [(0, _), (1, _), (2, _), (3, _), (4, _), (11, _), (13, _), (14, _), (15, _), (70, _), (72, _), (73, _)] rfl ⟨rfl, rfl, rfl, rfl, rfl, rfl, rfl, rfl, rfl, rfl, rfl, rfl, trivial⟩ ?_
            refine rw_op (ot_c0 rfl rfl rfl Try.call37 (fun w hw => get_any _ (setL l ref at_ n) ((i : Int) + 1) (k : Int) w (SF.at_ (SF.own rfl (by first | exact .a | exact .b | exact .c | exact .d | exact .e | exact .s .e | exact .s (.s .e) | exact .s (.s (.s .e)))) hw) (by unfold I64; omega) (by unfold I64; omega))) rfl rfl (fun _ _ => ?_)
            refine rw_run tab_ok 5 [(0, _), (1, _), (2, _), (3, _), (4, _), (11, _), (13, _), (14, _), (15, _), (16, _), (17, _)] rfl ⟨rfl, rfl, rfl, rfl, rfl, rfl, rfl, rfl, rfl, rfl, rfl, trivial⟩ ?_
            refine rw_end ?_
            refine cw_seq ?_
            refine cw_region ?_
            refine rw_run tab_ok 3 [(0, _), (1, _), (2, _), (3, _), (4, _), (11, _), (13, _), (14, _), (15, _), (16, _), (79, _)] rfl ⟨rfl, rfl, rfl, rfl, rfl, rfl, rfl, rfl, rfl, rfl, rfl, trivial⟩ ?_
            refine rw_as (t := 79) (v' := .bool false) rfl (by simp [hgE]) ?_
            refine rw_run tab_ok 4 [(0, _), (1, _), (2, _), (3, _), (4, _), (11, _), (13, _), (14, _), (83, _)] rfl ⟨rfl, rfl, rfl, rfl, rfl, rfl, rfl, rfl, rfl, trivial⟩ ?_
            refine rw_end ?_
            refine cw_condN rfl (fun hne => ?_) (fun hne => ?_)
            · exact absurd hgN hne
            · refine cw_skip (xw_blkn (xw_then ?_))
              refine cw_region ?_
              refine rw_run tab_ok 1 [(0, _), (1, _), (2, _), (3, _), (4, _), (11, _), (13, _), (50, _)] rfl ⟨rfl, rfl, rfl, rfl, rfl, rfl, rfl, rfl, trivial⟩ ?_
              refine rw_s (qs_add rfl rfl rfl (by omega)) rfl rfl ?_
              refine rw_run tab_ok 1 [(0, _), (1, _), (2, _), (3, _), (4, _), (11, _), (13, _), (14, _)] rfl ⟨rfl, rfl, rfl, rfl, rfl, rfl, rfl, rfl, trivial⟩ ?_
              refine rw_round (k + 1) (by show k + 1 ≤ _; omega) (by show _ - _ < _ - _; omega) ⟨rfl, rfl, rfl, rfl, rfl, rfl, rfl, rfl, trivial⟩ (by first | exact fun _ h => h | exact fun _ h => h.msub (by repeat (first | exact .z | refine .s (by first | exact .a | exact .b | exact .c | exact .d | exact .e | exact .s .e | exact .s (.s .e) | exact .s (.s (.s .e))) ?_)))
        · refine cw_exit (xw_thenx (xw_thenx (xw_blk (xw_blkn (xw_then ?_)))))
          refine cw_region ?_
          refine rw_run tab_ok 1 [(0, _), (1, _), (2, _), (3, _), (4, _), (11, _), (41, _)] rfl ⟨rfl, rfl, rfl, rfl, rfl, rfl, rfl, trivial⟩ ?_
          refine rw_s (qs_add rfl rfl rfl (by omega)) rfl rfl ?_
          refine rw_run tab_ok 1 [(0, _), (1, _), (2, _), (3, _), (4, _), (11, _), (13, _)] rfl ⟨rfl, rfl, rfl, rfl, rfl, rfl, rfl, trivial⟩ ?_
          refine rw_round (i + 1) (by show i + 1 ≤ _; omega) (by show _ - _ < _ - _; omega) ⟨rfl, rfl, rfl, rfl, rfl, rfl, rfl, trivial⟩ (by first | exact fun _ h => h | exact fun _ h => h.msub (by repeat (first | exact .z | refine .s (by first | exact .a | exact .b | exact .c | exact .d | exact .e | exact .s .e | exact .s (.s .e) | exact .s (.s (.s .e))) ?_)))
      · refine cw_exit (xw_thenx (xw_thenx (xw_blk ?_)))
        refine xw_join () (trivial) ⟨rfl, rfl, trivial⟩ (by first | exact fun _ h => h | exact fun _ h => h.msub (by repeat (first | exact .z | refine .s (by first | exact .a | exact .b | exact .c | exact .d | exact .e | exact .s .e | exact .s (.s .e) | exact .s (.s (.s .e))) ?_)))
    · have e : setL l ref at_ n = [] := by unfold setL; rw [if_neg hz]
      refine cw_seq ?_
      refine cw_region ?_
      refine rw_run tab_ok 1 [(0, _), (4, _), (84, _)] rfl ⟨rfl, rfl, rfl, trivial⟩ ?_
      refine rw_s (qs_len Try.underlying39 rfl rfl) rfl rfl ?_
      refine rw_run tab_ok 1 [(0, _), (4, _), (86, _)] rfl ⟨rfl, rfl, rfl, trivial⟩ ?_
      refine rw_end ?_
      refine cw_condD rfl (fun hgt => ?_) (fun hgt => ?_)
      · rw [e] at hgt
        exact absurd hgt (by decide)
      · refine cw_skip ?_
        refine xw_join () (trivial) ⟨rfl, rfl, trivial⟩ (by first | exact fun _ h => h | exact fun _ h => h.msub (by repeat (first | exact .z | refine .s (by first | exact .a | exact .b | exact .c | exact .d | exact .e | exact .s .e | exact .s (.s .e) | exact .s (.s (.s .e))) ?_)))
  · rintro _ _
    refine cw_seq ?_
    refine cw_region ?_
    refine rw_run tab_ok 2 [(0, _), (4, _), (88, _), (89, _)] rfl ⟨rfl, rfl, rfl, rfl, trivial⟩ ?_
    refine rw_op (ot_cO rfl rfl rfl Try.call33 (fun w hw => newB_any _ l size w (hw.ro hs))) rfl rfl (fun ⟨Am, cm⟩ _ => ?_)
    dsimp only
    refine rw_run tab_ok 7 [(0, _), (4, _), (12, _), (18, _), (19, _)] rfl ⟨rfl, rfl, rfl, rfl, rfl, trivial⟩ ?_
    refine rw_end ?_
    refine cw_seq ?_
    refine cw_seq ?_
    refine cw_region ?_
    refine rw_run tab_ok 2 [(0, _), (4, _), (18, _), (19, _), (95, _)] rfl ⟨rfl, rfl, rfl, rfl, rfl, trivial⟩ ?_
    refine rw_end ?_
    refine cw_condN rfl (fun hz => ?_) (fun hz => ?_)
    · have e1 : newL l size = [] := by unfold newL; rw [if_neg hz]
      have e2 : newR l size = 0 := by unfold newR; rw [if_neg hz]
      refine cw_seq ?_
      refine cw_region ?_
      refine rw_run tab_ok 1 [(19, _), (96, _)] rfl ⟨rfl, rfl, trivial⟩ ?_
      refine rw_s (qs_len Try.underlying39 rfl rfl) rfl rfl ?_
      refine rw_run tab_ok 2 [(19, _), (99, _)] rfl ⟨rfl, rfl, trivial⟩ ?_
      refine rw_as (t := 99) (v' := .bool true) rfl (by simp [e1]) ?_
      refine rw_run tab_ok 4 [(10, _)] rfl ⟨rfl, trivial⟩ ?_
      refine rw_end ?_
      refine cw_ret (xw_thenr ?_)
      refine xw_ret1 Try.results8 (rv_tmp rfl) ?_
      intro w hw
      exact ⟨ret_bool (by simp [e2]), hw.below⟩
    · have hR : newR l size = (l.length : Int) + 1 := by unfold newR; rw [if_pos hz]
      obtain ⟨h0, hsz, h8, h40⟩ := newE_zero hz
      have h8' := (checkB_zero h0).1
      obtain ⟨sz, rfl⟩ := Int.eq_ofNat_of_zero_le hsz
      have hend := new_end hz
      have hck := checkB_new hz
      have hmL : (newL l (sz : Int)).length = l.length + 1 := by unfold newL; rw [if_pos hz]; simp
      rw [hR]
      refine cw_skip (xw_then ?_)
      refine cw_seq ?_
      refine cw_seq ?_
      refine cw_region ?_
      refine rw_run tab_ok 1 [(0, _), (4, _), (18, _), (19, _), (20, _)] rfl ⟨rfl, rfl, rfl, rfl, rfl, trivial⟩ ?_
      refine rw_end ?_
      refine cw_block (cw_loop (fun k : Nat => k ≤ sz) (fun k => sz - k) (fun k => [(0, .slice A l.length c), (4, .int .i64 (sz : Int)), (18, .slice Am (newL l (sz : Int)).length cm), (19, .int .i64 ((l.length : Int) + 1)), (20, .int .i64 (k : Int))]) (fun _ => [ROw (.slice Am (newL l (sz : Int)).length cm) (newL l (sz : Int))]) 0 (Nat.zero_le _) ⟨rfl, rfl, rfl, rfl, rfl, trivial⟩ (by first | exact fun _ h => h | exact fun _ h => h.msub (by repeat (first | exact .z | refine .s (by first | exact .a | exact .b | exact .c | exact .d | exact .e | exact .s .e | exact .s (.s .e) | exact .s (.s (.s .e))) ?_))) ?_)
      rintro k hk'
      have hk : k ≤ sz := hk'
      refine cw_seq ?_
      refine cw_seq ?_
      refine cw_region ?_
      refine rw_run tab_ok 3 [(0, _), (4, _), (18, _), (19, _), (20, _), (105, _)] rfl ⟨rfl, rfl, rfl, rfl, rfl, rfl, trivial⟩ ?_
      refine rw_end ?_
      refine cw_condD rfl (fun hlk => ?_) (fun hlk => ?_)
      · obtain ⟨hgE, hgN⟩ := new_got hz hlk
        refine cw_skip (xw_then ?_)
        refine cw_seq ?_
        refine cw_block ?_
        refine cw_seq ?_
        refine cw_region ?_
        refine rw_run tab_ok 3 [(0, _), (4, _), (18, _), (19, _), (20, _), (109, _), (110, _), (111, _)] rfl ⟨rfl, rfl, rfl, rfl, rfl, rfl, rfl, rfl, trivial⟩ ?_
        refine rw_op (ot_c0 rfl rfl rfl Try.call37 (fun w hw => get_any _ (newL l (sz : Int)) ((l.length : Int) + 1) (k : Int) w (SF.at_ (SF.own rfl (by first | exact .a | exact .b | exact .c | exact .d | exact .e | exact .s .e | exact .s (.s .e) | exact .s (.s (.s .e)))) hw) (by unfold I64; omega) (by unfold I64; omega))) rfl rfl (fun _ _ => ?_)
        refine rw_run tab_ok 5 [(0, _), (4, _), (18, _), (19, _), (20, _), (21, _), (22, _)] rfl ⟨rfl, rfl, rfl, rfl, rfl, rfl, rfl, trivial⟩ ?_
        refine rw_end ?_
        refine cw_seq ?_
        refine cw_region ?_
        refine rw_run tab_ok 3 [(0, _), (4, _), (18, _), (19, _), (20, _), (21, _), (117, _)] rfl ⟨rfl, rfl, rfl, rfl, rfl, rfl, rfl, trivial⟩ ?_
        refine rw_as (t := 117) (v' := .bool false) rfl (by simp [hgE]) ?_
        refine rw_run tab_ok 3 [(0, _), (4, _), (18, _), (19, _), (20, _), (120, _)] rfl ⟨rfl, rfl, rfl, rfl, rfl, rfl, trivial⟩ ?_
        refine rw_end ?_
        refine cw_condN rfl (fun hne => ?_) (fun hne => ?_)
        · exact absurd hgN hne
        · refine cw_skip (xw_blkn (xw_then ?_))
          refine cw_region ?_
          refine rw_run tab_ok 1 [(0, _), (4, _), (18, _), (19, _), (106, _)] rfl ⟨rfl, rfl, rfl, rfl, rfl, trivial⟩ ?_
          refine rw_s (qs_add rfl rfl rfl (by omega)) rfl rfl ?_
          refine rw_run tab_ok 1 [(0, _), (4, _), (18, _), (19, _), (20, _)] rfl ⟨rfl, rfl, rfl, rfl, rfl, trivial⟩ ?_
          refine rw_round (k + 1) (by show k + 1 ≤ _; omega) (by show _ - _ < _ - _; omega) ⟨rfl, rfl, rfl, rfl, rfl, trivial⟩ (by first | exact fun _ h => h | exact fun _ h => h.msub (by repeat (first | exact .z | refine .s (by first | exact .a | exact .b | exact .c | exact .d | exact .e | exact .s .e | exact .s (.s .e) | exact .s (.s (.s .e))) ?_)))
      · refine cw_exit (xw_thenx (xw_thenx (xw_blk (xw_then ?_))))
        refine cw_seq ?_
        refine cw_region ?_
        refine rw_run tab_ok 3 [(0, _), (18, _), (19, _), (122, _), (123, _), (124, _)] rfl ⟨rfl, rfl, rfl, rfl, rfl, rfl, trivial⟩ ?_
        refine rw_op (ot_c0 rfl rfl rfl Try.call37 (fun w hw => get_any _ (newL l (sz : Int)) ((l.length : Int) + 1) (sz : Int) w (SF.at_ (SF.own rfl (by first | exact .a | exact .b | exact .c | exact .d | exact .e | exact .s .e | exact .s (.s .e) | exact .s (.s (.s .e)))) hw) (by unfold I64; omega) (by unfold I64; omega))) rfl rfl (fun _ _ => ?_)
        refine rw_run tab_ok 5 [(0, _), (18, _), (19, _), (24, _)] rfl ⟨rfl, rfl, rfl, rfl, trivial⟩ ?_
        refine rw_end ?_
        refine cw_seq ?_
        refine cw_region ?_
        refine rw_run tab_ok 3 [(0, _), (18, _), (19, _), (130, _)] rfl ⟨rfl, rfl, rfl, rfl, trivial⟩ ?_
        refine rw_as (t := 130) (v' := .bool true) rfl (by simp [hend]) ?_
        refine rw_run tab_ok 2 [(18, _), (130, _), (131, _), (132, _)] rfl ⟨rfl, rfl, rfl, rfl, trivial⟩ ?_
        refine rw_s (qs_len Try.underlying39 rfl rfl) rfl rfl ?_
        refine rw_s (qs_add rfl rfl rfl (by omega)) rfl rfl ?_
        refine rw_run tab_ok 3 [(18, _), (137, _)] rfl ⟨rfl, rfl, trivial⟩ ?_
        refine rw_as (t := 137) (v' := .bool true) rfl (by simp) ?_
        refine rw_run tab_ok 1 [(137, _), (138, _)] rfl ⟨rfl, rfl, trivial⟩ ?_
        refine rw_op (ot_c0 rfl rfl rfl Try.call32 (fun w hw => checkB_any _ (newL l (sz : Int)) w (SF.at_ (SF.own rfl (by first | exact .a | exact .b | exact .c | exact .d | exact .e | exact .s .e | exact .s (.s .e) | exact .s (.s (.s .e)))) hw))) rfl rfl (fun _ _ => ?_)
        refine rw_run tab_ok 3 [(10, _)] rfl ⟨rfl, trivial⟩ ?_
        refine rw_end ?_
        refine cw_ret ?_
        refine xw_ret1 Try.results8 (rv_tmp rfl) ?_
        intro w hw
        exact ⟨ret_bool (by simp [hck]), hw.below⟩
theorem blockBack_law (v : Value) (l : List (List Int)) (ref at_ n size : Int) (w : World) (hs : Sl w v l) (ir : I64 ref) (ia : I64 at_) (i_n : I64 n) (iz : I64 size) :
    Calls Try.prog 8 #[v, .int .i64 ref, .int .i64 at_, .int .i64 n, .int .i64 size] w fun e w' => e = .returned (.bool true) ∧ Below w.heap.size w w' := by
  obtain ⟨A, c, rfl, _⟩ := hs.form
  exact blockBack_any A c l ref at_ n size w hs ir ia i_n iz
end Go.Proofs.Ytjojipeodionmaa
