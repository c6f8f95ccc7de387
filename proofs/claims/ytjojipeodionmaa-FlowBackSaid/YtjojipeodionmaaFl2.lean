/- Flow: ready, where an op goes on. -/
import Derived.Test.YtjojipeodionmaaFl1
namespace Go.Proofs.Ytjojipeodionmaa
open Go.RowKit

set_option maxRecDepth 100000 in
theorem indexfOp (A : Option Addr) (c : Nat) (l : List MOp) (f : FuncId) (cap : Array Value) (p : MOp → Bool) (w : World) (hs : Sl w (.slice A l.length c) l) (hcall : ∀ a w, (callFunc f a).run Try.prog w = .ok (.enter f a) w)
    (hf : ∀ w1, Below w.heap.size w w1 → ∀ k, k < l.length → Calls Try.prog f ([Value.agg #[.int .i64 (opAt l k).c, .int .i64 (opAt l k).a]] ++ cap.toList).toArray w1 fun e w' => e = .returned (.bool (p (opAt l k))) ∧ Below w1.heap.size w1 w') :
    Calls Try.prog 138 #[.slice A l.length c, .func (.func f) #[] cap] w fun e w' => ∃ r : Int, decide (0 ≤ r) = l.any p ∧ e = .returned (.int .i64 r) ∧ Cw w.heap.size w [] w' := by
  have b1 := len_bd hs
  refine enter Try.func138 rfl Try.ntmps138 rfl ?_
  refine cw_seq ?_
  refine cw_region ?_
  refine rw_run tab_ok 1 [(0, _), (1, _)] rfl ⟨rfl, rfl, trivial⟩ ?_
  refine rw_end ?_
  refine cw_seq ?_
  refine cw_seq ?_
  refine cw_region ?_
  refine rw_run tab_ok 1 [(0, _), (1, _), (6, _)] rfl ⟨rfl, rfl, rfl, trivial⟩ ?_
  refine rw_s (qs_len Try.underlying24 rfl rfl) rfl rfl ?_
  refine rw_run tab_ok 1 [(0, _), (1, _), (7, _), (8, _)] rfl ⟨rfl, rfl, rfl, rfl, trivial⟩ ?_
  refine rw_end ?_
  refine cw_block (cw_loop (fun k : Nat => k ≤ l.length ∧ (l.take k).any p = false) (fun k => l.length - k) (fun k => [(0, .slice A l.length c), (1, .func (.func f) #[] cap), (7, .int .i64 (l.length : Int)), (8, .int .i64 (k : Int))]) (fun _ => []) 0 (⟨Nat.zero_le _, rfl⟩) ⟨rfl, rfl, rfl, rfl, trivial⟩ (by first | exact fun _ h => h | exact fun _ h => h.msub (by repeat (first | exact .z | refine .s (by first | exact .a | exact .b | exact .c | exact .d | exact .e | exact .s .e | exact .s (.s .e) | exact .s (.s (.s .e))) ?_))) ?_)
  rintro k hk'
  obtain ⟨hk, hno⟩ : k ≤ l.length ∧ (l.take k).any p = false := hk'
  refine cw_seq ?_
  refine cw_region ?_
  refine rw_run tab_ok 1 [(0, _), (1, _), (7, _), (8, _), (9, _)] rfl ⟨rfl, rfl, rfl, rfl, rfl, trivial⟩ ?_
  refine rw_end ?_
  refine cw_seq ?_
  refine cw_condD rfl (fun hlt => ?_) (fun hlt => ?_)
  · have hkl : k < l.length := by omega
    have hsn := any_take_snoc (p := p) default hkl
    refine cw_skip (xw_then ?_)
    refine cw_seq ?_
    refine cw_block ?_
    refine cw_seq ?_
    refine cw_region ?_
    refine rw_run tab_ok 2 [(0, _), (1, _), (5, _), (7, _), (8, _)] rfl ⟨rfl, rfl, rfl, rfl, rfl, trivial⟩ ?_
    refine rw_end ?_
    refine cw_seq ?_
    refine cw_region ?_
    refine rw_run tab_ok 3 [(0, _), (1, _), (5, _), (7, _), (8, _), (11, _), (12, _), (13, _)] rfl ⟨rfl, rfl, rfl, rfl, rfl, rfl, rfl, rfl, trivial⟩ ?_
    refine rw_s (qs_idx Try.underlying24 Try.sizeOf23 (.ro hs) (by omega) rfl rfl rfl) rfl rfl ?_
    refine rw_s (qs_ldA (cs := [_, _]) (SF.op (.ro hs) (by omega)) rfl rfl Try.isAgg23 Try.sizeOf23) rfl rfl ?_
    refine rw_op (ot_c0K rfl rfl rfl hcall (fun w hw => hf w hw.below k hkl)) rfl rfl (fun _ _ => ?_)
    refine rw_end ?_
    refine cw_cond rfl (fun hp => ?_) (fun hp => ?_)
    · have hp : p (opAt l k) = true := hp
      refine cw_seq ?_
      refine cw_region ?_
      refine rw_run tab_ok 2 [(4, _)] rfl ⟨rfl, trivial⟩ ?_
      refine rw_end ?_
      refine cw_ret (xw_blkr (xw_thenr (xw_thenr (xw_blkr (xw_thenr ?_)))))
      refine xw_ret1 Try.results138 (rv_tmp rfl) ?_
      intro w hw
      refine ⟨(k : Int), ?_, rfl, hw⟩
      have h2 : l.any p = true := List.any_eq_true.2 ⟨_, opAt_mem hkl, hp⟩
      rw [h2]
      exact decide_eq_true (by omega)
    · have hp : p (opAt l k) = false := hp
      refine cw_skip (xw_blkn (xw_then ?_))
      refine cw_region ?_
      refine rw_s (qs_add rfl rfl rfl (by omega)) rfl rfl ?_
      refine rw_run tab_ok 1 [(0, _), (1, _), (7, _), (8, _)] rfl ⟨rfl, rfl, rfl, rfl, trivial⟩ ?_
      refine rw_round (k + 1) ((by refine ⟨by omega, ?_⟩; rw [hsn, hno]; exact hp)) (by show _ - _ < _ - _; omega) ⟨rfl, rfl, rfl, rfl, trivial⟩ (by first | exact fun _ h => h | exact fun _ h => h.msub (by repeat (first | exact .z | refine .s (by first | exact .a | exact .b | exact .c | exact .d | exact .e | exact .s .e | exact .s (.s .e) | exact .s (.s (.s .e))) ?_)))
  · obtain rfl : k = l.length := by omega
    refine cw_exit (xw_thenx (xw_thenx (xw_blk (xw_then ?_))))
    refine cw_seq ?_
    refine cw_region ?_
    refine rw_run tab_ok 1 [(4, _)] rfl ⟨rfl, trivial⟩ ?_
    refine rw_end ?_
    refine cw_ret ?_
    refine xw_ret1 Try.results138 (rv_tmp rfl) ?_
    intro w hw
    refine ⟨-1, ?_, rfl, hw⟩
    rw [List.take_length] at hno
    rw [hno]
    rfl
set_option maxRecDepth 100000 in
theorem containsfOp (A : Option Addr) (c : Nat) (l : List MOp) (f : FuncId) (cap : Array Value) (p : MOp → Bool) (w : World) (hs : Sl w (.slice A l.length c) l) (hcall : ∀ a w, (callFunc f a).run Try.prog w = .ok (.enter f a) w)
    (hf : ∀ w1, Below w.heap.size w w1 → ∀ k, k < l.length → Calls Try.prog f ([Value.agg #[.int .i64 (opAt l k).c, .int .i64 (opAt l k).a]] ++ cap.toList).toArray w1 fun e w' => e = .returned (.bool (p (opAt l k))) ∧ Below w1.heap.size w1 w') :
    Calls Try.prog 125 #[.slice A l.length c, .func (.func f) #[] cap] w fun e w' => e = .returned (.bool (l.any p)) ∧ Below w.heap.size w w' := by
  refine enter Try.func125 rfl Try.ntmps125 rfl ?_
  refine cw_seq ?_
  refine cw_region ?_
  refine rw_run tab_ok 1 [(0, _), (1, _)] rfl ⟨rfl, rfl, trivial⟩ ?_
  refine rw_end ?_
  refine cw_seq ?_
  refine cw_region ?_
  refine rw_run tab_ok 2 [(5, _), (6, _)] rfl ⟨rfl, rfl, trivial⟩ ?_
  refine rw_op (ot_c rfl rfl rfl Try.call138 (fun w hw => indexfOp A c l f cap p w (hw.ro hs) hcall (fun w1 h1 => hf w1 (hw.below.trans (h1.mono hw.le))))) rfl rfl (fun r hr => ?_)
  refine rw_run tab_ok 2 [(4, _)] rfl ⟨rfl, trivial⟩ ?_
  refine rw_end ?_
  refine cw_ret ?_
  refine xw_ret1 Try.results125 (rv_tmp rfl) ?_
  intro w hw
  exact ⟨ret_bool hr, hw.below⟩

set_option maxRecDepth 100000 in
theorem far_any (o : MOp) (g n : Nat) (A : Option Addr) (c : Nat) (w : World) (hg : g < w.heap.size) (hc : w.cell? ⟨g, 0, none⟩ = some (.slice A n c)) :
    Calls Try.prog 128 #[.agg #[.int .i64 o.c, .int .i64 o.a], .pointer (some ⟨g, 0, none⟩)] w fun e w' => e = .returned (.bool (isFar n o)) ∧ Below w.heap.size w w' := by
  refine enter Try.func128 rfl Try.ntmps128 rfl ?_
  refine cw_seq ?_
  refine cw_region ?_
  refine rw_op (ot_box rfl rfl rfl) rfl rfl (fun g1 _ => ?_)
  refine rw_run tab_ok 1 [(1, _), (2, _)] rfl ⟨rfl, rfl, trivial⟩ ?_
  refine rw_end ?_
  refine cw_seq ?_
  refine cw_region ?_
  refine rw_run tab_ok 1 [(1, _), (2, _), (4, _)] rfl ⟨rfl, rfl, rfl, trivial⟩ ?_
  refine rw_s (qs_ldb (by first | exact .a | exact .b | exact .c | exact .d | exact .e | exact .s .e | exact .s (.s .e) | exact .s (.s (.s .e))) Try.isAgg3 rfl rfl (by rfl)) rfl rfl ?_
  refine rw_run tab_ok 2 [(1, _), (2, _), (7, _)] rfl ⟨rfl, rfl, rfl, trivial⟩ ?_
  refine rw_split (t := 7) rfl (fun h1 => ?_) (fun h1 => ?_)
  · refine rw_run tab_ok 6 [(1, _), (2, _), (12, _), (13, _)] rfl ⟨rfl, rfl, rfl, rfl, trivial⟩ ?_
    refine rw_s (qs_ldb (by first | exact .a | exact .b | exact .c | exact .d | exact .e | exact .s .e | exact .s (.s .e) | exact .s (.s (.s .e))) Try.isAgg3 rfl rfl (by rfl)) rfl rfl ?_
    refine rw_run tab_ok 2 [(1, _), (2, _), (12, _), (16, _)] rfl ⟨rfl, rfl, rfl, rfl, trivial⟩ ?_
    refine rw_split (t := 16) rfl (fun h2 => ?_) (fun h2 => ?_)
    · refine rw_run tab_ok 8 [(3, _)] rfl ⟨rfl, trivial⟩ ?_
      refine rw_end ?_
      refine cw_ret ?_
      refine xw_ret1 Try.results128 (rv_tmp rfl) ?_
      intro w hw
      exact ⟨ret_bool (by unfold isFar; rw [h1, h2]; rfl), hw.below⟩
    · refine rw_run tab_ok 1 [(1, _), (12, _), (16, _), (17, _)] rfl ⟨rfl, rfl, rfl, rfl, trivial⟩ ?_
      refine rw_s (qs_ldb (by first | exact .a | exact .b | exact .c | exact .d | exact .e | exact .s .e | exact .s (.s .e) | exact .s (.s (.s .e))) Try.isAgg3 rfl rfl (by rfl)) rfl rfl ?_
      refine rw_s (qs_ld (fun w hw => (hw.below.cell hg).trans hc) rfl rfl Try.isAgg24) rfl rfl ?_
      refine rw_s (qs_len Try.underlying24 rfl rfl) rfl rfl ?_
      refine rw_run tab_ok 4 [(3, _)] rfl ⟨rfl, trivial⟩ ?_
      refine rw_end ?_
      refine cw_ret ?_
      refine xw_ret1 Try.results128 (rv_tmp rfl) ?_
      intro w hw
      exact ⟨ret_bool (by unfold isFar; rw [h1, h2]; rfl), hw.below⟩
  · refine rw_run tab_ok 1 [(1, _), (2, _), (7, _), (8, _)] rfl ⟨rfl, rfl, rfl, rfl, trivial⟩ ?_
    refine rw_s (qs_ldb (by first | exact .a | exact .b | exact .c | exact .d | exact .e | exact .s .e | exact .s (.s .e) | exact .s (.s (.s .e))) Try.isAgg3 rfl rfl (by rfl)) rfl rfl ?_
    refine rw_run tab_ok 3 [(1, _), (2, _), (12, _)] rfl ⟨rfl, rfl, rfl, trivial⟩ ?_
    refine rw_split (t := 12) rfl (fun h3 => ?_) (fun h3 => ?_)
    · refine rw_run tab_ok 1 [(1, _), (2, _), (12, _), (13, _)] rfl ⟨rfl, rfl, rfl, rfl, trivial⟩ ?_
      refine rw_s (qs_ldb (by first | exact .a | exact .b | exact .c | exact .d | exact .e | exact .s .e | exact .s (.s .e) | exact .s (.s (.s .e))) Try.isAgg3 rfl rfl (by rfl)) rfl rfl ?_
      refine rw_run tab_ok 2 [(1, _), (2, _), (12, _), (16, _)] rfl ⟨rfl, rfl, rfl, rfl, trivial⟩ ?_
      refine rw_split (t := 16) rfl (fun h2 => ?_) (fun h2 => ?_)
      · refine rw_run tab_ok 8 [(3, _)] rfl ⟨rfl, trivial⟩ ?_
        refine rw_end ?_
        refine cw_ret ?_
        refine xw_ret1 Try.results128 (rv_tmp rfl) ?_
        intro w hw
        exact ⟨ret_bool (by unfold isFar; rw [h1, h2, h3]; rfl), hw.below⟩
      · refine rw_run tab_ok 1 [(1, _), (12, _), (16, _), (17, _)] rfl ⟨rfl, rfl, rfl, rfl, trivial⟩ ?_
        refine rw_s (qs_ldb (by first | exact .a | exact .b | exact .c | exact .d | exact .e | exact .s .e | exact .s (.s .e) | exact .s (.s (.s .e))) Try.isAgg3 rfl rfl (by rfl)) rfl rfl ?_
        refine rw_s (qs_ld (fun w hw => (hw.below.cell hg).trans hc) rfl rfl Try.isAgg24) rfl rfl ?_
        refine rw_s (qs_len Try.underlying24 rfl rfl) rfl rfl ?_
        refine rw_run tab_ok 4 [(3, _)] rfl ⟨rfl, trivial⟩ ?_
        refine rw_end ?_
        refine cw_ret ?_
        refine xw_ret1 Try.results128 (rv_tmp rfl) ?_
        intro w hw
        exact ⟨ret_bool (by unfold isFar; rw [h1, h2, h3]; rfl), hw.below⟩
    · refine rw_run tab_ok 12 [(3, _)] rfl ⟨rfl, trivial⟩ ?_
      refine rw_end ?_
      refine cw_ret ?_
      refine xw_ret1 Try.results128 (rv_tmp rfl) ?_
      intro w hw
      exact ⟨ret_bool (by unfold isFar; rw [h1, h3]; rfl), hw.below⟩

set_option maxRecDepth 100000 in
theorem ready_any (A : Option Addr) (c : Nat) (l : List MOp) (w : World) (hs : Sl w (.slice A l.length c) l) :
    Calls Try.prog 104 #[.slice A l.length c] w fun e w' => e = .returned (.int .i64 (flowE l)) ∧ Below w.heap.size w w' := by
  refine enter Try.func104 rfl Try.ntmps104 rfl ?_
  refine cw_seq ?_
  refine cw_region ?_
  refine rw_op (ot_box rfl rfl rfl) rfl rfl (fun g1 _ => ?_)
  refine rw_run tab_ok 1 [(1, _)] rfl ⟨rfl, trivial⟩ ?_
  refine rw_end ?_
  refine cw_seq ?_
  refine cw_seq ?_
  refine cw_region ?_
  refine rw_s (qs_ldb (by first | exact .a | exact .b | exact .c | exact .d | exact .e | exact .s .e | exact .s (.s .e) | exact .s (.s (.s .e))) Try.isAgg24 rfl rfl (by rfl)) rfl rfl ?_
  refine rw_op (ot_c0 rfl rfl rfl Try.call76 (fun w hw => code_any _ l w (hw.ro hs))) rfl rfl (fun _ _ => ?_)
  refine rw_run tab_ok 1 [(1, _), (3, _)] rfl ⟨rfl, rfl, trivial⟩ ?_
  refine rw_end ?_
  refine cw_seq ?_
  refine cw_region ?_
  refine rw_run tab_ok 2 [(1, _), (3, _), (8, _)] rfl ⟨rfl, rfl, rfl, trivial⟩ ?_
  refine rw_end ?_
  refine cw_condN rfl (fun hz => ?_) (fun hz => ?_)
  · refine cw_seq ?_
    refine cw_region ?_
    refine rw_run tab_ok 2 [(2, _)] rfl ⟨rfl, trivial⟩ ?_
    refine rw_end ?_
    refine cw_ret (xw_thenr ?_)
    refine xw_ret1 Try.results104 (rv_tmp rfl) ?_
    intro w hw
    exact ⟨reti (by unfold flowE; rw [if_neg hz]), hw.below⟩
  · refine cw_skip (xw_then ?_)
    refine cw_seq ?_
    refine cw_seq ?_
    refine cw_region ?_
    refine rw_s (qs_ldb (by first | exact .a | exact .b | exact .c | exact .d | exact .e | exact .s .e | exact .s (.s .e) | exact .s (.s (.s .e))) Try.isAgg24 rfl rfl (by rfl)) rfl rfl ?_
    refine rw_s (qs_len Try.underlying24 rfl rfl) rfl rfl ?_
    refine rw_run tab_ok 1 [(1, _), (12, _)] rfl ⟨rfl, rfl, trivial⟩ ?_
    refine rw_end ?_
    refine cw_condD rfl (fun h0 => ?_) (fun h0 => ?_)
    · refine cw_seq ?_
      refine cw_region ?_
      refine rw_run tab_ok 1 [(2, _)] rfl ⟨rfl, trivial⟩ ?_
      refine rw_end ?_
      refine cw_ret (xw_thenr ?_)
      refine xw_ret1 Try.results104 (rv_tmp rfl) ?_
      intro w hw
      exact ⟨reti (by unfold flowE; rw [if_pos hz, if_pos (by omega)]), hw.below⟩
    · refine cw_skip (xw_then ?_)
      refine cw_seq ?_
      refine cw_region ?_
      refine rw_run tab_ok 2 [(1, _), (4, _)] rfl ⟨rfl, rfl, trivial⟩ ?_
      refine rw_end ?_
      refine cw_seq ?_
      refine cw_seq ?_
      refine cw_region ?_
      refine rw_s (qs_ldb (by first | exact .a | exact .b | exact .c | exact .d | exact .e | exact .s .e | exact .s (.s .e) | exact .s (.s (.s .e))) Try.isAgg24 rfl rfl (by rfl)) rfl rfl ?_
      refine rw_run tab_ok 1 [(14, _), (15, _)] rfl ⟨rfl, rfl, trivial⟩ ?_
      refine rw_op (ot_c0 rfl rfl rfl Try.call125 (fun w hw => containsfOp A c l _ _ (isFar l.length) w (hw.ro hs) Try.call128 (fun w1 h1 k hk => far_any (opAt l k) g1 l.length A c w1 (Nat.lt_of_lt_of_le (box_lt hw (by first | exact .a | exact .b | exact .c | exact .d | exact .e | exact .s .e | exact .s (.s .e) | exact .s (.s (.s .e)))) h1.size) ((h1.cell (box_lt hw (by first | exact .a | exact .b | exact .c | exact .d | exact .e | exact .s .e | exact .s (.s .e) | exact .s (.s (.s .e))))).trans (box_cell (by first | exact .a | exact .b | exact .c | exact .d | exact .e | exact .s .e | exact .s (.s .e) | exact .s (.s (.s .e))) rfl w hw))))) rfl rfl (fun _ _ => ?_)
      refine rw_end ?_
      refine cw_cond rfl (fun hf => ?_) (fun hf => ?_)
      · have hf : l.any (isFar l.length) = true := hf
        refine cw_seq ?_
        refine cw_region ?_
        refine rw_run tab_ok 1 [(2, _)] rfl ⟨rfl, trivial⟩ ?_
        refine rw_end ?_
        refine cw_ret (xw_thenr ?_)
        refine xw_ret1 Try.results104 (rv_tmp rfl) ?_
        intro w hw
        exact ⟨reti (by unfold flowE; rw [if_pos hz, if_neg (by omega), if_pos hf]), hw.below⟩
      · have hf : l.any (isFar l.length) = false := hf
        refine cw_skip (xw_then ?_)
        refine cw_seq ?_
        refine cw_region ?_
        refine rw_run tab_ok 1 [(2, _)] rfl ⟨rfl, trivial⟩ ?_
        refine rw_end ?_
        refine cw_ret ?_
        refine xw_ret1 Try.results104 (rv_tmp rfl) ?_
        intro w hw
        exact ⟨reti (by unfold flowE; rw [if_pos hz, if_neg (by omega), hf]; rfl), hw.below⟩

/-- The document's. -/
def flE (l : List MOp) : Int := if codeErr l = 0 then (if l.length = 0 then 5 else 0) else codeErr l
def flAt (l : List MOp) (i : Nat) : Int := if flE l = 0 then (if (l.take i).any (isFar l.length) then 3 else 0) else flE l
theorem flAt_zero (l : List MOp) : flAt l 0 = flE l := by
  unfold flAt
  split
  · rename_i h; rw [h]; rfl
  · rfl
theorem flAt_is {l : List MOp} {i : Nat} (h : flAt l i = 0) : flE l = 0 ∧ (l.take i).any (isFar l.length) = false := by
  unfold flAt at h
  split at h
  · rename_i h0
    refine ⟨h0, ?_⟩
    split at h
    · cases h
    · rename_i h1; simpa using h1
  · rename_i h0; exact absurd h h0
theorem flAt_end {l : List MOp} {i : Nat} (h : i = l.length ∨ flAt l i ≠ 0) : flAt l i = flowE l := by
  unfold flowE
  by_cases h0 : flE l = 0
  · have h1 : codeErr l = 0 ∧ ¬ l.length = 0 := by
      unfold flE at h0
      split at h0
      · rename_i e
        split at h0
        · cases h0
        · rename_i e2; exact ⟨e, e2⟩
      · rename_i e; exact absurd h0 e
    rw [if_pos h1.1, if_neg h1.2]
    unfold flAt at h ⊢
    rw [if_pos h0] at h ⊢
    rcases h with h | h
    · subst h; rw [List.take_length]
    · split at h
      · rename_i h2
        rw [if_pos h2, if_pos]
        obtain ⟨x, hx, hb⟩ := List.any_eq_true.1 h2
        exact List.any_eq_true.2 ⟨x, List.mem_of_mem_take hx, hb⟩
      · exact absurd rfl h
  · unfold flAt
    rw [if_neg h0]
    unfold flE at h0 ⊢
    split
    · rename_i e
      rw [if_pos e] at h0
      split
      · rfl
      · rename_i e2; rw [if_neg e2] at h0; exact absurd rfl h0
    · rfl
theorem flAt_step {l : List MOp} {i : Nat} {b : Bool} (hi : i < l.length) (h : flAt l i = 0) (hb : isFar l.length (opAt l i) = b) : flAt l (i + 1) = if b then 3 else 0 := by
  obtain ⟨h1, h2⟩ := flAt_is h
  unfold flAt
  rw [if_pos h1, any_take_snoc default hi, h2, Bool.false_or]
  unfold opAt at hb
  rw [hb]
theorem far_of {n : Nat} {o : MOp} {x b : Bool} (hx : (decide (o.c = 10) || decide (o.c = 11)) = x) (hb : (!(decide (0 ≤ o.a) && decide (o.a ≤ (n : Int) - 1))) = b) : isFar n o = (x && b) := by
  unfold isFar
  rw [hx, ← hb]
  congr 1
  rw [Bool.eq_iff_iff]
  simp
  omega
set_option maxRecDepth 100000 in
theorem rcheckFlow_any (A : Option Addr) (c : Nat) (l : List MOp) (w : World) (hs : Sl w (.slice A l.length c) l) :
    Calls Try.prog 59 #[.slice A l.length c] w fun e w' => e = .returned (.int .i64 (flowE l)) ∧ Below w.heap.size w w' := by
  have b1 := len_bd hs
  refine enter Try.func59 rfl Try.ntmps59 rfl ?_
  refine cw_seq ?_
  refine cw_region ?_
  refine rw_run tab_ok 1 [(0, _)] rfl ⟨rfl, trivial⟩ ?_
  refine rw_end ?_
  refine cw_seq ?_
  refine cw_region ?_
  refine rw_run tab_ok 1 [(0, _), (5, _)] rfl ⟨rfl, rfl, trivial⟩ ?_
  refine rw_op (ot_c0 rfl rfl rfl Try.call22 (fun w hw => rcheckCode_any _ l w (hw.ro hs))) rfl rfl (fun _ _ => ?_)
  refine rw_run tab_ok 1 [(0, _), (3, _)] rfl ⟨rfl, rfl, trivial⟩ ?_
  refine rw_end ?_
  refine cw_cut (fun g : Int => g = flE l) (fun g => [(0, .slice A l.length c), (3, .int .i64 g)]) (fun _ => []) ?_ ?_
  · refine cw_seq ?_
    refine cw_region ?_
    refine rw_run tab_ok 3 [(0, _), (3, _), (9, _)] rfl ⟨rfl, rfl, rfl, trivial⟩ ?_
    refine rw_split (t := 9) rfl (fun h0 => ?_) (fun h0 => ?_)
    · refine rw_run tab_ok 1 [(0, _), (3, _), (9, _), (10, _)] rfl ⟨rfl, rfl, rfl, rfl, trivial⟩ ?_
      refine rw_s (qs_len Try.underlying24 rfl rfl) rfl rfl ?_
      refine rw_run tab_ok 2 [(0, _), (3, _), (13, _)] rfl ⟨rfl, rfl, rfl, trivial⟩ ?_
      refine rw_end ?_
      refine cw_condD rfl (fun hl => ?_) (fun hl => ?_)
      · refine cw_region ?_
        refine rw_run tab_ok 1 [(0, _), (3, _)] rfl ⟨rfl, rfl, trivial⟩ ?_
        refine rw_join 5 (by unfold flE; rw [if_pos (of_decide_eq_true h0), if_pos (by omega)]) ⟨rfl, rfl, trivial⟩ (by first | exact fun _ h => h | exact fun _ h => h.msub (by repeat (first | exact .z | refine .s (by first | exact .a | exact .b | exact .c | exact .d | exact .e | exact .s .e | exact .s (.s .e) | exact .s (.s (.s .e))) ?_)))
      · refine cw_skip ?_
        refine xw_join (codeErr l) (by unfold flE; rw [if_pos (of_decide_eq_true h0), if_neg (by omega)]; exact of_decide_eq_true h0) ⟨rfl, rfl, trivial⟩ (by first | exact fun _ h => h | exact fun _ h => h.msub (by repeat (first | exact .z | refine .s (by first | exact .a | exact .b | exact .c | exact .d | exact .e | exact .s .e | exact .s (.s .e) | exact .s (.s (.s .e))) ?_)))
    · refine rw_run tab_ok 4 [(0, _), (3, _), (13, _)] rfl ⟨rfl, rfl, rfl, trivial⟩ ?_
      refine rw_end ?_
      refine cw_cond_f rfl ?_
      refine cw_skip ?_
      refine xw_join (codeErr l) (by unfold flE; rw [if_neg (of_decide_eq_false h0)]) ⟨rfl, rfl, trivial⟩ (by first | exact fun _ h => h | exact fun _ h => h.msub (by repeat (first | exact .z | refine .s (by first | exact .a | exact .b | exact .c | exact .d | exact .e | exact .s .e | exact .s (.s .e) | exact .s (.s (.s .e))) ?_)))
  · rintro g rfl
    refine cw_seq ?_
    refine cw_seq ?_
    refine cw_region ?_
    refine rw_run tab_ok 1 [(0, _), (3, _), (4, _)] rfl ⟨rfl, rfl, rfl, trivial⟩ ?_
    refine rw_end ?_
    refine cw_block (cw_loop (fun g : Nat × Int => g.1 ≤ l.length ∧ g.2 = flAt l g.1) (fun g => l.length - g.1) (fun g => [(0, .slice A l.length c), (3, .int .i64 g.2), (4, .int .i64 (g.1 : Int))]) (fun _ => []) (0, flE l) (⟨Nat.zero_le _, (flAt_zero l).symm⟩) ⟨rfl, rfl, rfl, trivial⟩ (by first | exact fun _ h => h | exact fun _ h => h.msub (by repeat (first | exact .z | refine .s (by first | exact .a | exact .b | exact .c | exact .d | exact .e | exact .s .e | exact .s (.s .e) | exact .s (.s (.s .e))) ?_))) ?_)
    rintro ⟨i, z⟩ hi'
    try dsimp only
    obtain ⟨hi, rfl⟩ : i ≤ l.length ∧ z = flAt l i := hi'
    refine cw_seq ?_
    refine cw_seq ?_
    refine cw_region ?_
    refine rw_run tab_ok 2 [(0, _), (3, _), (4, _), (14, _), (15, _)] rfl ⟨rfl, rfl, rfl, rfl, rfl, trivial⟩ ?_
    refine rw_s (qs_len Try.underlying24 rfl rfl) rfl rfl ?_
    refine rw_run tab_ok 2 [(0, _), (3, _), (4, _), (18, _)] rfl ⟨rfl, rfl, rfl, rfl, trivial⟩ ?_
    refine rw_split (t := 18) rfl (fun hlt => ?_) (fun hlt => ?_)
    · have hlt := of_decide_eq_true hlt
      have hil : i < l.length := by omega
      refine rw_run tab_ok 3 [(0, _), (3, _), (4, _), (21, _)] rfl ⟨rfl, rfl, rfl, rfl, trivial⟩ ?_
      refine rw_end ?_
      refine cw_condD rfl (fun hz => ?_) (fun hz => ?_)
      · refine cw_skip (xw_then ?_)
        refine cw_seq ?_
        refine cw_block ?_
        refine cw_seq ?_
        refine cw_region ?_
        refine rw_run tab_ok 2 [(0, _), (3, _), (4, _), (24, _), (25, _)] rfl ⟨rfl, rfl, rfl, rfl, rfl, trivial⟩ ?_
        refine rw_s (qs_idx Try.underlying24 Try.sizeOf23 (.ro hs) (by omega) rfl rfl rfl) rfl rfl ?_
        refine rw_run tab_ok 1 [(0, _), (3, _), (4, _), (27, _)] rfl ⟨rfl, rfl, rfl, rfl, trivial⟩ ?_
        refine rw_s (qs_ld (SF.opc (.ro hs) (by omega)) rfl rfl Try.isAgg3) rfl rfl ?_
        refine rw_run tab_ok 2 [(0, _), (3, _), (4, _), (30, _)] rfl ⟨rfl, rfl, rfl, rfl, trivial⟩ ?_
        refine rw_split (t := 30) rfl (fun h1 => ?_) (fun h1 => ?_)
        · refine rw_run tab_ok 10 [(0, _), (3, _), (4, _), (38, _), (39, _), (40, _)] rfl ⟨rfl, rfl, rfl, rfl, rfl, rfl, trivial⟩ ?_
          refine rw_s (qs_idx Try.underlying24 Try.sizeOf23 (.ro hs) (by omega) rfl rfl rfl) rfl rfl ?_
          refine rw_run tab_ok 1 [(0, _), (3, _), (4, _), (38, _), (42, _)] rfl ⟨rfl, rfl, rfl, rfl, rfl, trivial⟩ ?_
          refine rw_s (qs_ld (SF.opa (.ro hs) (by omega)) rfl rfl Try.isAgg3) rfl rfl ?_
          refine rw_run tab_ok 1 [(0, _), (3, _), (4, _), (38, _), (43, _), (44, _)] rfl ⟨rfl, rfl, rfl, rfl, rfl, rfl, trivial⟩ ?_
          refine rw_s (qs_len Try.underlying24 rfl rfl) rfl rfl ?_
          refine rw_s (qs_sub rfl rfl rfl (by omega)) rfl rfl ?_
          refine rw_op (ot_c0 rfl rfl rfl Try.call81 ((fun w hw => cbelow ((fun w hw => rbetween_any _ _ _ w) w hw)))) rfl rfl (fun _ _ => ?_)
          refine rw_run tab_ok 2 [(0, _), (3, _), (4, _), (49, _)] rfl ⟨rfl, rfl, rfl, rfl, trivial⟩ ?_
          refine rw_end ?_
          refine cw_cond rfl (fun hb => ?_) (fun hb => ?_)
          · have hfar := far_of (n := l.length) (o := opAt l i) (x := true) (by rw [h1]; rfl) hb
            refine cw_region ?_
            refine rw_run tab_ok 1 [(0, _), (3, _), (4, _)] rfl ⟨rfl, rfl, rfl, trivial⟩ ?_
            refine rw_endx (xw_blkn (xw_then ?_))
            refine cw_region ?_
            refine rw_run tab_ok 1 [(0, _), (3, _), (22, _)] rfl ⟨rfl, rfl, rfl, trivial⟩ ?_
            refine rw_s (qs_add rfl rfl rfl (by omega)) rfl rfl ?_
            refine rw_run tab_ok 1 [(0, _), (3, _), (4, _)] rfl ⟨rfl, rfl, rfl, trivial⟩ ?_
            refine rw_round (i + 1, 3) (⟨by show i + 1 ≤ _; omega, (flAt_step hil hz hfar).symm⟩) (by show _ - _ < _ - _; omega) ⟨rfl, rfl, rfl, trivial⟩ (by first | exact fun _ h => h | exact fun _ h => h.msub (by repeat (first | exact .z | refine .s (by first | exact .a | exact .b | exact .c | exact .d | exact .e | exact .s .e | exact .s (.s .e) | exact .s (.s (.s .e))) ?_)))
          · have hfar := far_of (n := l.length) (o := opAt l i) (x := true) (by rw [h1]; rfl) hb
            refine cw_skip (xw_blkn (xw_then ?_))
            refine cw_region ?_
            refine rw_run tab_ok 1 [(0, _), (3, _), (22, _)] rfl ⟨rfl, rfl, rfl, trivial⟩ ?_
            refine rw_s (qs_add rfl rfl rfl (by omega)) rfl rfl ?_
            refine rw_run tab_ok 1 [(0, _), (3, _), (4, _)] rfl ⟨rfl, rfl, rfl, trivial⟩ ?_
            refine rw_round (i + 1, flAt l i) (⟨by show i + 1 ≤ _; omega, by show flAt l i = flAt l (i + 1); rw [hz, flAt_step hil hz hfar]; rfl⟩) (by show _ - _ < _ - _; omega) ⟨rfl, rfl, rfl, trivial⟩ (by first | exact fun _ h => h | exact fun _ h => h.msub (by repeat (first | exact .z | refine .s (by first | exact .a | exact .b | exact .c | exact .d | exact .e | exact .s .e | exact .s (.s .e) | exact .s (.s (.s .e))) ?_)))
        · refine rw_run tab_ok 2 [(0, _), (3, _), (4, _), (30, _), (31, _), (32, _)] rfl ⟨rfl, rfl, rfl, rfl, rfl, rfl, trivial⟩ ?_
          refine rw_s (qs_idx Try.underlying24 Try.sizeOf23 (.ro hs) (by omega) rfl rfl rfl) rfl rfl ?_
          refine rw_run tab_ok 1 [(0, _), (3, _), (4, _), (30, _), (34, _)] rfl ⟨rfl, rfl, rfl, rfl, rfl, trivial⟩ ?_
          refine rw_s (qs_ld (SF.opc (.ro hs) (by omega)) rfl rfl Try.isAgg3) rfl rfl ?_
          refine rw_run tab_ok 3 [(0, _), (3, _), (4, _), (38, _)] rfl ⟨rfl, rfl, rfl, rfl, trivial⟩ ?_
          refine rw_split (t := 38) rfl (fun h2 => ?_) (fun h2 => ?_)
          · refine rw_run tab_ok 2 [(0, _), (3, _), (4, _), (38, _), (39, _), (40, _)] rfl ⟨rfl, rfl, rfl, rfl, rfl, rfl, trivial⟩ ?_
            refine rw_s (qs_idx Try.underlying24 Try.sizeOf23 (.ro hs) (by omega) rfl rfl rfl) rfl rfl ?_
            refine rw_run tab_ok 1 [(0, _), (3, _), (4, _), (38, _), (42, _)] rfl ⟨rfl, rfl, rfl, rfl, rfl, trivial⟩ ?_
            refine rw_s (qs_ld (SF.opa (.ro hs) (by omega)) rfl rfl Try.isAgg3) rfl rfl ?_
            refine rw_run tab_ok 1 [(0, _), (3, _), (4, _), (38, _), (43, _), (44, _)] rfl ⟨rfl, rfl, rfl, rfl, rfl, rfl, trivial⟩ ?_
            refine rw_s (qs_len Try.underlying24 rfl rfl) rfl rfl ?_
            refine rw_s (qs_sub rfl rfl rfl (by omega)) rfl rfl ?_
            refine rw_op (ot_c0 rfl rfl rfl Try.call81 ((fun w hw => cbelow ((fun w hw => rbetween_any _ _ _ w) w hw)))) rfl rfl (fun _ _ => ?_)
            refine rw_run tab_ok 2 [(0, _), (3, _), (4, _), (49, _)] rfl ⟨rfl, rfl, rfl, rfl, trivial⟩ ?_
            refine rw_end ?_
            refine cw_cond rfl (fun hb => ?_) (fun hb => ?_)
            · have hfar := far_of (n := l.length) (o := opAt l i) (x := true) (by rw [h1, h2]; rfl) hb
              refine cw_region ?_
              refine rw_run tab_ok 1 [(0, _), (3, _), (4, _)] rfl ⟨rfl, rfl, rfl, trivial⟩ ?_
              refine rw_endx (xw_blkn (xw_then ?_))
              refine cw_region ?_
              refine rw_run tab_ok 1 [(0, _), (3, _), (22, _)] rfl ⟨rfl, rfl, rfl, trivial⟩ ?_
              refine rw_s (qs_add rfl rfl rfl (by omega)) rfl rfl ?_
              refine rw_run tab_ok 1 [(0, _), (3, _), (4, _)] rfl ⟨rfl, rfl, rfl, trivial⟩ ?_
              refine rw_round (i + 1, 3) (⟨by show i + 1 ≤ _; omega, (flAt_step hil hz hfar).symm⟩) (by show _ - _ < _ - _; omega) ⟨rfl, rfl, rfl, trivial⟩ (by first | exact fun _ h => h | exact fun _ h => h.msub (by repeat (first | exact .z | refine .s (by first | exact .a | exact .b | exact .c | exact .d | exact .e | exact .s .e | exact .s (.s .e) | exact .s (.s (.s .e))) ?_)))
            · have hfar := far_of (n := l.length) (o := opAt l i) (x := true) (by rw [h1, h2]; rfl) hb
              refine cw_skip (xw_blkn (xw_then ?_))
              refine cw_region ?_
              refine rw_run tab_ok 1 [(0, _), (3, _), (22, _)] rfl ⟨rfl, rfl, rfl, trivial⟩ ?_
              refine rw_s (qs_add rfl rfl rfl (by omega)) rfl rfl ?_
              refine rw_run tab_ok 1 [(0, _), (3, _), (4, _)] rfl ⟨rfl, rfl, rfl, trivial⟩ ?_
              refine rw_round (i + 1, flAt l i) (⟨by show i + 1 ≤ _; omega, by show flAt l i = flAt l (i + 1); rw [hz, flAt_step hil hz hfar]; rfl⟩) (by show _ - _ < _ - _; omega) ⟨rfl, rfl, rfl, trivial⟩ (by first | exact fun _ h => h | exact fun _ h => h.msub (by repeat (first | exact .z | refine .s (by first | exact .a | exact .b | exact .c | exact .d | exact .e | exact .s .e | exact .s (.s .e) | exact .s (.s (.s .e))) ?_)))
          · have hfar : isFar l.length (opAt l i) = false := by unfold isFar; rw [h1, h2]; rfl
            refine rw_run tab_ok 11 [(0, _), (3, _), (4, _), (49, _)] rfl ⟨rfl, rfl, rfl, rfl, trivial⟩ ?_
            refine rw_end ?_
            refine cw_cond_f rfl ?_
            refine cw_skip (xw_blkn (xw_then ?_))
            refine cw_region ?_
            refine rw_run tab_ok 1 [(0, _), (3, _), (22, _)] rfl ⟨rfl, rfl, rfl, trivial⟩ ?_
            refine rw_s (qs_add rfl rfl rfl (by omega)) rfl rfl ?_
            refine rw_run tab_ok 1 [(0, _), (3, _), (4, _)] rfl ⟨rfl, rfl, rfl, trivial⟩ ?_
            refine rw_round (i + 1, flAt l i) (⟨by show i + 1 ≤ _; omega, by show flAt l i = flAt l (i + 1); rw [hz, flAt_step hil hz hfar]; rfl⟩) (by show _ - _ < _ - _; omega) ⟨rfl, rfl, rfl, trivial⟩ (by first | exact fun _ h => h | exact fun _ h => h.msub (by repeat (first | exact .z | refine .s (by first | exact .a | exact .b | exact .c | exact .d | exact .e | exact .s .e | exact .s (.s .e) | exact .s (.s (.s .e))) ?_)))
      · refine cw_exit (xw_thenx (xw_thenx (xw_blk (xw_then ?_))))
        refine cw_seq ?_
        refine cw_region ?_
        refine rw_run tab_ok 2 [(2, _)] rfl ⟨rfl, trivial⟩ ?_
        refine rw_end ?_
        refine cw_ret ?_
        refine xw_ret1 Try.results59 (rv_tmp rfl) ?_
        intro w hw
        exact ⟨reti (flAt_end (.inr hz)), hw.below⟩
    · have hlt := of_decide_eq_false hlt
      refine rw_run tab_ok 3 [(0, _), (3, _), (4, _), (21, _)] rfl ⟨rfl, rfl, rfl, rfl, trivial⟩ ?_
      refine rw_end ?_
      refine cw_cond_f rfl ?_
      refine cw_exit (xw_thenx (xw_thenx (xw_blk (xw_then ?_))))
      refine cw_seq ?_
      refine cw_region ?_
      refine rw_run tab_ok 2 [(2, _)] rfl ⟨rfl, trivial⟩ ?_
      refine rw_end ?_
      refine cw_ret ?_
      refine xw_ret1 Try.results59 (rv_tmp rfl) ?_
      intro w hw
      exact ⟨reti (flAt_end (.inl (by omega))), hw.below⟩
end Go.Proofs.Ytjojipeodionmaa
