/- Flow: Next and Back. -/
import Derived.Test.YtjojipeodionmaaFl3
namespace Go.Proofs.Ytjojipeodionmaa
open Go.RowKit

theorem nextE_ok {l : List MOp} {pc : Int} (h : nextE l pc = 0) : flowE l = 0 ∧ 0 ≤ pc ∧ pc < l.length := by
  unfold nextE at h
  split at h
  · rename_i h0
    split at h
    · cases h
    · exact ⟨h0, by omega, by omega⟩
  · rename_i h0; exact absurd h h0
theorem backE_ok {l : List MOp} {pc : Int} (h : backE l pc = 0) : flowE l = 0 ∧ 0 ≤ pc ∧ pc ≤ l.length := by
  unfold backE at h
  split at h
  · rename_i h0
    split at h
    · cases h
    · exact ⟨h0, by omega, by omega⟩
  · rename_i h0; exact absurd h h0
theorem nextR_of {l : List MOp} {k : Nat} (h : nextE l k = 0) : nextR l k = nextL l k := by unfold nextR; rw [if_pos h]; rfl
theorem nextR_no {l : List MOp} {pc : Int} (h : ¬ nextE l pc = 0) : nextR l pc = [] := by unfold nextR; rw [if_neg h]
theorem backR_of {l : List MOp} {pc : Int} (h : backE l pc = 0) : backR l pc = backL l pc := by unfold backR; rw [if_pos h]
theorem backR_no {l : List MOp} {pc : Int} (h : ¬ backE l pc = 0) : backR l pc = [] := by unfold backR; rw [if_neg h]

theorem after_as (A : Option Addr) (c : Nat) (l : List MOp) (pc : Nat) (w : World) (hs : Sl w (.slice A l.length c) l) (hp : pc < l.length) {L : List Int} (e : afterL (opAt l pc) pc = L) :
    Calls Try.prog 105 #[.slice A l.length c, .int .i64 (pc : Int)] w fun e w' => ∃ g : Option Addr × Nat, True ∧ e = .returned (.slice g.1 L.length g.2) ∧ Cw w.heap.size w [ROw (.slice g.1 L.length g.2) L] w' := e ▸ after_any A c l pc w hs hp
set_option maxRecDepth 100000 in
theorem next_any (A : Option Addr) (c : Nat) (l : List MOp) (pc : Int) (w : World) (hs : Sl w (.slice A l.length c) l) :
    Calls Try.prog 55 #[.slice A l.length c, .int .i64 pc] w fun e w' => ∃ g : Option Addr × Nat, True ∧ e = .returned (.tuple #[.slice g.1 (nextR l pc).length g.2, .int .i64 (nextE l pc)]) ∧ Cw w.heap.size w [ROw (.slice g.1 (nextR l pc).length g.2) (nextR l pc)] w' := by
  have b1 := len_bd hs
  refine enter Try.func55 rfl Try.ntmps55 rfl ?_
  refine cw_seq ?_
  refine cw_region ?_
  refine rw_run tab_ok 2 [(0, _), (1, _)] rfl ⟨rfl, rfl, trivial⟩ ?_
  refine rw_end ?_
  refine cw_seq ?_
  refine cw_region ?_
  refine rw_run tab_ok 1 [(0, _), (1, _), (7, _)] rfl ⟨rfl, rfl, rfl, trivial⟩ ?_
  refine rw_op (ot_c0 rfl rfl rfl Try.call104 (fun w hw => ready_any A c l w (hw.ro hs))) rfl rfl (fun _ _ => ?_)
  refine rw_run tab_ok 1 [(0, _), (1, _), (6, _)] rfl ⟨rfl, rfl, rfl, trivial⟩ ?_
  refine rw_end ?_
  refine cw_cut (fun g : Int => g = nextE l pc) (fun g => [(0, .slice A l.length c), (1, .int .i64 pc), (6, .int .i64 g)]) (fun _ => []) ?_ ?_
  · refine cw_seq ?_
    refine cw_region ?_
    refine rw_run tab_ok 3 [(0, _), (1, _), (6, _), (11, _)] rfl ⟨rfl, rfl, rfl, rfl, trivial⟩ ?_
    refine rw_split (t := 11) rfl (fun h0 => ?_) (fun h0 => ?_)
    · have h0 := of_decide_eq_true h0
      refine rw_run tab_ok 3 [(0, _), (1, _), (6, _), (11, _), (14, _)] rfl ⟨rfl, rfl, rfl, rfl, rfl, trivial⟩ ?_
      refine rw_split (t := 14) rfl (fun h1 => ?_) (fun h1 => ?_)
      · have h1 := of_decide_eq_true h1
        refine rw_run tab_ok 6 [(0, _), (1, _), (6, _), (20, _)] rfl ⟨rfl, rfl, rfl, rfl, trivial⟩ ?_
        refine rw_end ?_
        refine cw_cond_t rfl ?_
        refine cw_region ?_
        refine rw_run tab_ok 1 [(0, _), (1, _), (6, _)] rfl ⟨rfl, rfl, rfl, trivial⟩ ?_
        refine rw_join 3 (by unfold nextE; rw [if_pos h0, if_pos (.inl h1)]) ⟨rfl, rfl, rfl, trivial⟩ (by first | exact fun _ h => h | exact fun _ h => h.msub (by repeat (first | exact .z | refine .s (by first | exact .a | exact .b | exact .c | exact .d | exact .e | exact .s .e | exact .s (.s .e) | exact .s (.s (.s .e))) ?_)))
      · have h1 := of_decide_eq_false h1
        refine rw_run tab_ok 2 [(0, _), (1, _), (6, _), (11, _), (14, _), (15, _), (16, _)] rfl ⟨rfl, rfl, rfl, rfl, rfl, rfl, rfl, trivial⟩ ?_
        refine rw_s (qs_len Try.underlying24 rfl rfl) rfl rfl ?_
        refine rw_run tab_ok 3 [(0, _), (1, _), (6, _), (20, _)] rfl ⟨rfl, rfl, rfl, rfl, trivial⟩ ?_
        refine rw_end ?_
        refine cw_condD rfl (fun h2 => ?_) (fun h2 => ?_)
        · refine cw_region ?_
          refine rw_run tab_ok 1 [(0, _), (1, _), (6, _)] rfl ⟨rfl, rfl, rfl, trivial⟩ ?_
          refine rw_join 3 (by unfold nextE; rw [if_pos h0, if_pos (.inr h2)]) ⟨rfl, rfl, rfl, trivial⟩ (by first | exact fun _ h => h | exact fun _ h => h.msub (by repeat (first | exact .z | refine .s (by first | exact .a | exact .b | exact .c | exact .d | exact .e | exact .s .e | exact .s (.s .e) | exact .s (.s (.s .e))) ?_)))
        · refine cw_skip ?_
          refine xw_join (flowE l) (by unfold nextE; rw [if_pos h0, if_neg (by omega)]; exact h0) ⟨rfl, rfl, rfl, trivial⟩ (by first | exact fun _ h => h | exact fun _ h => h.msub (by repeat (first | exact .z | refine .s (by first | exact .a | exact .b | exact .c | exact .d | exact .e | exact .s .e | exact .s (.s .e) | exact .s (.s (.s .e))) ?_)))
    · have h0 := of_decide_eq_false h0
      refine rw_run tab_ok 9 [(0, _), (1, _), (6, _), (20, _)] rfl ⟨rfl, rfl, rfl, rfl, trivial⟩ ?_
      refine rw_end ?_
      refine cw_cond_f rfl ?_
      refine cw_skip ?_
      refine xw_join (flowE l) (by unfold nextE; rw [if_neg h0]) ⟨rfl, rfl, rfl, trivial⟩ (by first | exact fun _ h => h | exact fun _ h => h.msub (by repeat (first | exact .z | refine .s (by first | exact .a | exact .b | exact .c | exact .d | exact .e | exact .s .e | exact .s (.s .e) | exact .s (.s (.s .e))) ?_)))
  · rintro g rfl
    refine cw_seq ?_
    refine cw_seq ?_
    refine cw_region ?_
    refine rw_run tab_ok 2 [(0, _), (1, _), (6, _), (22, _)] rfl ⟨rfl, rfl, rfl, rfl, trivial⟩ ?_
    refine rw_end ?_
    refine cw_condN rfl (fun hz => ?_) (fun hz => ?_)
    · have e := nextR_no hz
      refine cw_seq ?_
      refine cw_region ?_
      refine rw_run tab_ok 3 [(4, _), (5, _)] rfl ⟨rfl, rfl, trivial⟩ ?_
      refine rw_end ?_
      refine cw_ret (xw_thenr ?_)
      refine xw_ret2 Try.results55 (rv_tmp rfl) (rv_tmp rfl) ?_
      intro w hw
      refine ⟨(none, 0), trivial, by rw [e]; rfl, ?_⟩
      rw [e]
      exact (Cw.nilO Int hw).msub (by repeat (first | exact .z | refine .s (by first | exact .a | exact .b | exact .c | exact .d | exact .e | exact .s .e | exact .s (.s .e) | exact .s (.s (.s .e))) ?_))
    · obtain ⟨hf, h1, h2⟩ := nextE_ok hz
      obtain ⟨k, rfl⟩ := Int.eq_ofNat_of_zero_le h1
      have hk : k < l.length := by omega
      have e : afterL (opAt l k) k = nextR l k := by rw [nextR_of hz, after_next hf hk]
      refine cw_skip (xw_then ?_)
      refine cw_seq ?_
      refine cw_region ?_
      refine rw_run tab_ok 2 [(24, _), (25, _)] rfl ⟨rfl, rfl, trivial⟩ ?_
      refine rw_op (ot_c rfl rfl rfl Try.call105 (fun w hw => after_as A c l k w (hw.ro hs) hk e)) rfl rfl (fun ⟨A1, c1⟩ _ => ?_)
      try dsimp only
      refine rw_run tab_ok 2 [(4, _), (5, _)] rfl ⟨rfl, rfl, trivial⟩ ?_
      refine rw_end ?_
      refine cw_ret ?_
      refine xw_ret2 Try.results55 (rv_tmp rfl) (rv_tmp rfl) ?_
      intro w hw
      exact ⟨(A1, c1), trivial, by rw [hz], hw.msub (by repeat (first | exact .z | refine .s (by first | exact .a | exact .b | exact .c | exact .d | exact .e | exact .s .e | exact .s (.s .e) | exact .s (.s (.s .e))) ?_))⟩
set_option maxRecDepth 100000 in
theorem back_any (A : Option Addr) (c : Nat) (l : List MOp) (pc : Int) (w : World) (hs : Sl w (.slice A l.length c) l) :
    Calls Try.prog 56 #[.slice A l.length c, .int .i64 pc] w fun e w' => ∃ g : Option Addr × Nat, True ∧ e = .returned (.tuple #[.slice g.1 (backR l pc).length g.2, .int .i64 (backE l pc)]) ∧ Cw w.heap.size w [ROw (.slice g.1 (backR l pc).length g.2) (backR l pc)] w' := by
  have b1 := len_bd hs
  refine enter Try.func56 rfl Try.ntmps56 rfl ?_
  refine cw_seq ?_
  refine cw_region ?_
  refine rw_run tab_ok 2 [(0, _), (1, _)] rfl ⟨rfl, rfl, trivial⟩ ?_
  refine rw_end ?_
  refine cw_seq ?_
  refine cw_region ?_
  refine rw_run tab_ok 1 [(0, _), (1, _), (9, _)] rfl ⟨rfl, rfl, rfl, trivial⟩ ?_
  refine rw_op (ot_c0 rfl rfl rfl Try.call104 (fun w hw => ready_any A c l w (hw.ro hs))) rfl rfl (fun _ _ => ?_)
  refine rw_run tab_ok 1 [(0, _), (1, _), (6, _)] rfl ⟨rfl, rfl, rfl, trivial⟩ ?_
  refine rw_end ?_
  refine cw_cut (fun g : Int => g = backE l pc) (fun g => [(0, .slice A l.length c), (1, .int .i64 pc), (6, .int .i64 g)]) (fun _ => []) ?_ ?_
  · refine cw_seq ?_
    refine cw_region ?_
    refine rw_run tab_ok 3 [(0, _), (1, _), (6, _), (13, _)] rfl ⟨rfl, rfl, rfl, rfl, trivial⟩ ?_
    refine rw_split (t := 13) rfl (fun h0 => ?_) (fun h0 => ?_)
    · have h0 := of_decide_eq_true h0
      refine rw_run tab_ok 3 [(0, _), (1, _), (6, _), (13, _), (16, _)] rfl ⟨rfl, rfl, rfl, rfl, rfl, trivial⟩ ?_
      refine rw_split (t := 16) rfl (fun h1 => ?_) (fun h1 => ?_)
      · have h1 := of_decide_eq_true h1
        refine rw_run tab_ok 6 [(0, _), (1, _), (6, _), (22, _)] rfl ⟨rfl, rfl, rfl, rfl, trivial⟩ ?_
        refine rw_end ?_
        refine cw_cond_t rfl ?_
        refine cw_region ?_
        refine rw_run tab_ok 1 [(0, _), (1, _), (6, _)] rfl ⟨rfl, rfl, rfl, trivial⟩ ?_
        refine rw_join 3 (by unfold backE; rw [if_pos h0, if_pos (.inl h1)]) ⟨rfl, rfl, rfl, trivial⟩ (by first | exact fun _ h => h | exact fun _ h => h.msub (by repeat (first | exact .z | refine .s (by first | exact .a | exact .b | exact .c | exact .d | exact .e | exact .s .e | exact .s (.s .e) | exact .s (.s (.s .e))) ?_)))
      · have h1 := of_decide_eq_false h1
        refine rw_run tab_ok 2 [(0, _), (1, _), (6, _), (13, _), (16, _), (17, _), (18, _)] rfl ⟨rfl, rfl, rfl, rfl, rfl, rfl, rfl, trivial⟩ ?_
        refine rw_s (qs_len Try.underlying24 rfl rfl) rfl rfl ?_
        refine rw_run tab_ok 3 [(0, _), (1, _), (6, _), (22, _)] rfl ⟨rfl, rfl, rfl, rfl, trivial⟩ ?_
        refine rw_end ?_
        refine cw_condD rfl (fun h2 => ?_) (fun h2 => ?_)
        · refine cw_region ?_
          refine rw_run tab_ok 1 [(0, _), (1, _), (6, _)] rfl ⟨rfl, rfl, rfl, trivial⟩ ?_
          refine rw_join 3 (by unfold backE; rw [if_pos h0, if_pos (.inr h2)]) ⟨rfl, rfl, rfl, trivial⟩ (by first | exact fun _ h => h | exact fun _ h => h.msub (by repeat (first | exact .z | refine .s (by first | exact .a | exact .b | exact .c | exact .d | exact .e | exact .s .e | exact .s (.s .e) | exact .s (.s (.s .e))) ?_)))
        · refine cw_skip ?_
          refine xw_join (flowE l) (by unfold backE; rw [if_pos h0, if_neg (by omega)]; exact h0) ⟨rfl, rfl, rfl, trivial⟩ (by first | exact fun _ h => h | exact fun _ h => h.msub (by repeat (first | exact .z | refine .s (by first | exact .a | exact .b | exact .c | exact .d | exact .e | exact .s .e | exact .s (.s .e) | exact .s (.s (.s .e))) ?_)))
    · have h0 := of_decide_eq_false h0
      refine rw_run tab_ok 9 [(0, _), (1, _), (6, _), (22, _)] rfl ⟨rfl, rfl, rfl, rfl, trivial⟩ ?_
      refine rw_end ?_
      refine cw_cond_f rfl ?_
      refine cw_skip ?_
      refine xw_join (flowE l) (by unfold backE; rw [if_neg h0]) ⟨rfl, rfl, rfl, trivial⟩ (by first | exact fun _ h => h | exact fun _ h => h.msub (by repeat (first | exact .z | refine .s (by first | exact .a | exact .b | exact .c | exact .d | exact .e | exact .s .e | exact .s (.s .e) | exact .s (.s (.s .e))) ?_)))
  · rintro g rfl
    refine cw_seq ?_
    refine cw_seq ?_
    refine cw_region ?_
    refine rw_run tab_ok 2 [(0, _), (1, _), (6, _), (24, _)] rfl ⟨rfl, rfl, rfl, rfl, trivial⟩ ?_
    refine rw_end ?_
    refine cw_condN rfl (fun hz => ?_) (fun hz => ?_)
    · have e := backR_no hz
      refine cw_seq ?_
      refine cw_region ?_
      refine rw_run tab_ok 3 [(4, _), (5, _)] rfl ⟨rfl, rfl, trivial⟩ ?_
      refine rw_end ?_
      refine cw_ret (xw_thenr ?_)
      refine xw_ret2 Try.results56 (rv_tmp rfl) (rv_tmp rfl) ?_
      intro w hw
      refine ⟨(none, 0), trivial, by rw [e]; rfl, ?_⟩
      rw [e]
      exact (Cw.nilO Int hw).msub (by repeat (first | exact .z | refine .s (by first | exact .a | exact .b | exact .c | exact .d | exact .e | exact .s .e | exact .s (.s .e) | exact .s (.s (.s .e))) ?_))
    · have h40 := codeErr_len (flowE_zero (backE_ok hz).1).1
      refine cw_skip (xw_then ?_)
      refine cw_seq ?_
      refine cw_region ?_
      refine rw_run tab_ok 1 [(0, _), (1, _), (7, _)] rfl ⟨rfl, rfl, rfl, trivial⟩ ?_
      refine rw_end ?_
      refine cw_seq ?_
      refine cw_seq ?_
      refine cw_region ?_
      refine rw_run tab_ok 1 [(0, _), (1, _), (7, _), (26, _)] rfl ⟨rfl, rfl, rfl, rfl, trivial⟩ ?_
      refine rw_s (qs_len Try.underlying24 rfl rfl) rfl rfl ?_
      refine rw_run tab_ok 1 [(0, _), (1, _), (7, _), (27, _), (28, _)] rfl ⟨rfl, rfl, rfl, rfl, rfl, trivial⟩ ?_
      refine rw_end ?_
      refine cw_mem (fun w h => Cw.nilO Int h) ?_
      refine cw_block (cw_loop (fun g : Nat × Option Addr × Nat => g.1 ≤ l.length) (fun g => l.length - g.1) (fun g => [(0, .slice A l.length c), (1, .int .i64 pc), (7, .slice g.2.1 ((upto g.1).filter (fun i : Int => goesOn (opAt l i.toNat) i pc)).length g.2.2), (27, .int .i64 (l.length : Int)), (28, .int .i64 (g.1 : Int))]) (fun g => [ROw (.slice g.2.1 ((upto g.1).filter (fun i : Int => goesOn (opAt l i.toNat) i pc)).length g.2.2) ((upto g.1).filter (fun i : Int => goesOn (opAt l i.toNat) i pc))]) (0, none, 0) (Nat.zero_le _) ⟨rfl, rfl, rfl, rfl, rfl, trivial⟩ (by first | exact fun _ h => h | exact fun _ h => h.msub (by repeat (first | exact .z | refine .s (by first | exact .a | exact .b | exact .c | exact .d | exact .e | exact .s .e | exact .s (.s .e) | exact .s (.s (.s .e))) ?_))) ?_)
      rintro ⟨k, A1, c1⟩ hk'
      try dsimp only
      have hk : k ≤ l.length := hk'
      have hfl := filter_len (fun i : Int => goesOn (opAt l i.toNat) i pc) k
      refine cw_seq ?_
      refine cw_region ?_
      refine rw_run tab_ok 1 [(0, _), (1, _), (7, _), (27, _), (28, _), (29, _)] rfl ⟨rfl, rfl, rfl, rfl, rfl, rfl, trivial⟩ ?_
      refine rw_end ?_
      refine cw_seq ?_
      refine cw_condD rfl (fun hlt => ?_) (fun hlt => ?_)
      · have hkl : k < l.length := by omega
        refine cw_skip (xw_then ?_)
        refine cw_seq ?_
        refine cw_block ?_
        refine cw_seq ?_
        refine cw_region ?_
        refine rw_run tab_ok 2 [(0, _), (1, _), (7, _), (8, _), (27, _), (28, _)] rfl ⟨rfl, rfl, rfl, rfl, rfl, rfl, trivial⟩ ?_
        refine rw_end ?_
        refine cw_seq ?_
        refine cw_region ?_
        refine rw_run tab_ok 2 [(0, _), (1, _), (7, _), (8, _), (27, _), (28, _), (31, _), (32, _)] rfl ⟨rfl, rfl, rfl, rfl, rfl, rfl, rfl, rfl, trivial⟩ ?_
        refine rw_op (ot_c rfl rfl rfl Try.call105 (fun w hw => after_any A c l k w (hw.ro hs) hkl)) rfl rfl (fun ⟨A2, c2⟩ _ => ?_)
        try dsimp only
        refine rw_run tab_ok 1 [(0, _), (1, _), (7, _), (8, _), (27, _), (28, _), (33, _), (34, _)] rfl ⟨rfl, rfl, rfl, rfl, rfl, rfl, rfl, rfl, trivial⟩ ?_
        refine rw_op (ot_c0 rfl rfl rfl Try.call106 ((fun w hw => cbelow ((fun w hw => contains_int _ (afterL (opAt l k) k) pc w (SF.at_ (SF.own rfl (by first | exact .a | exact .b | exact .c | exact .d | exact .e | exact .s .e | exact .s (.s .e) | exact .s (.s (.s .e)))) hw)) w hw)))) rfl rfl (fun _ _ => ?_)
        refine rw_end ?_
        refine cw_cond rfl (fun hg => ?_) (fun hg => ?_)
        · have hg : (fun i : Int => goesOn (opAt l i.toNat) i pc) (k : Int) = true := (after_contains (opAt l k) k pc).symm.trans hg
          refine cw_region ?_
          refine rw_run tab_ok 2 [(0, _), (1, _), (27, _), (28, _), (36, _), (37, _)] rfl ⟨rfl, rfl, rfl, rfl, rfl, rfl, trivial⟩ ?_
          refine rw_op (ot_bsl (cs := [_]) Try.underlying41 Try.sizeOf3 Try.zeroValue3 rfl rfl rfl rfl rfl) rfl rfl (fun g1 _ => ?_)
          refine rw_op (ot_app1 (α := Int) (bytes := 8) (k : Int) [] (filter_yes hg) Try.underlying41 (info_ex Try.inI) rfl (perm2 (by first | exact .a | exact .b | exact .c | exact .d | exact .e | exact .s .e | exact .s (.s .e) | exact .s (.s (.s .e))) (by first | exact .a | exact .b | exact .c | exact .d | exact .e | exact .s .e | exact .s (.s .e) | exact .s (.s (.s .e)))) (hel_int (by unfold I64; omega)) (by omega) (by omega) rfl rfl rfl) rfl rfl (fun ⟨A4, c4⟩ _ => ?_)
          try dsimp only
          refine rw_run tab_ok 1 [(0, _), (1, _), (7, _), (27, _), (28, _)] rfl ⟨rfl, rfl, rfl, rfl, rfl, trivial⟩ ?_
          refine rw_endx (xw_blkn (xw_then ?_))
          refine cw_region ?_
          refine rw_s (qs_add rfl rfl rfl (by omega)) rfl rfl ?_
          refine rw_run tab_ok 1 [(0, _), (1, _), (7, _), (27, _), (28, _)] rfl ⟨rfl, rfl, rfl, rfl, rfl, trivial⟩ ?_
          refine rw_round (k + 1, A4, c4) (by show k + 1 ≤ _; omega) (by show _ - _ < _ - _; omega) ⟨rfl, rfl, rfl, rfl, rfl, trivial⟩ (by first | exact fun _ h => h | exact fun _ h => h.msub (by repeat (first | exact .z | refine .s (by first | exact .a | exact .b | exact .c | exact .d | exact .e | exact .s .e | exact .s (.s .e) | exact .s (.s (.s .e))) ?_)))
        · have hg : ¬ (fun i : Int => goesOn (opAt l i.toNat) i pc) (k : Int) = true := by rw [show (fun i : Int => goesOn (opAt l i.toNat) i pc) (k : Int) = false from (after_contains (opAt l k) k pc).symm.trans hg]; decide
          refine cw_skip (xw_blkn (xw_then ?_))
          refine cw_region ?_
          refine rw_s (qs_add rfl rfl rfl (by omega)) rfl rfl ?_
          refine rw_run tab_ok 1 [(0, _), (1, _), (7, _), (27, _), (28, _)] rfl ⟨rfl, rfl, rfl, rfl, rfl, trivial⟩ ?_
          rw [← filter_no hg]
          refine rw_round (k + 1, A1, c1) (by show k + 1 ≤ _; omega) (by show _ - _ < _ - _; omega) ⟨rfl, rfl, rfl, rfl, rfl, trivial⟩ (by first | exact fun _ h => h | exact fun _ h => h.msub (by repeat (first | exact .z | refine .s (by first | exact .a | exact .b | exact .c | exact .d | exact .e | exact .s .e | exact .s (.s .e) | exact .s (.s (.s .e))) ?_)))
      · obtain rfl : k = l.length := by omega
        refine cw_exit (xw_thenx (xw_thenx (xw_blk (xw_then ?_))))
        refine cw_seq ?_
        refine cw_region ?_
        refine rw_run tab_ok 3 [(4, _), (5, _)] rfl ⟨rfl, rfl, trivial⟩ ?_
        refine rw_end ?_
        refine cw_ret ?_
        refine xw_ret2 Try.results56 (rv_tmp rfl) (rv_tmp rfl) ?_
        intro w hw
        have e := backR_of hz
        refine ⟨(A1, c1), trivial, by rw [e, hz]; rfl, ?_⟩
        rw [e]
        exact hw.msub (by repeat (first | exact .z | refine .s (by first | exact .a | exact .b | exact .c | exact .d | exact .e | exact .s .e | exact .s (.s .e) | exact .s (.s (.s .e))) ?_))
end Go.Proofs.Ytjojipeodionmaa
