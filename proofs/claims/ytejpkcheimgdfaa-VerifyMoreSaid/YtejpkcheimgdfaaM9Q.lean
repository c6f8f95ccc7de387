/- Texts of one proof, one behind the other: lemmas alone. -/
import Derived.Test.YtejpkcheimgdfaaM6Q
import Derived.Test.YtejpkcheimgdfaaM8Q
import Derived.Test.YtejpkcheimgdfaaM7Q
import Derived.Test.YtejpkcheimgdfaaM1Q
import Derived.Test.YtejpkcheimgdfaaRows
import Derived.ProofKit
import Derived.Deep.Slices
import Derived.SizedLaws
import Derived.OpenShut
import Derived.ShutString
import Derived.ChangeOld
import Derived.Test.YtejpkcheimgdfaaM2Q
import Derived.Test.YtejpkcheimgdfaaM3Q

-- Fl4
/- Flow: Next and Back. -/
namespace Go.Proofs.Ytejpkcheimgdfaa
open Go.RowKit

theorem nextE_ok {l : List MOp} {pc : Int} (h : nextE l pc = 0) : flowE l = 0 ∧ 0 ≤ pc ∧ pc < l.length := by
  unfold nextE at h
  split at h
  · rename_i h0
    split at h
    · cases h
    · exact ⟨h0, by omega, by omega⟩
  · rename_i h0; exact absurd h h0
theorem backE_ok {l : List MOp} {pc : Int} (h : backE l pc = 0) : flowE l = 0 ∧ 0 ≤ pc ∧ pc ≤ l.length := by
  unfold backE at h
  split at h
  · rename_i h0
    split at h
    · cases h
    · exact ⟨h0, by omega, by omega⟩
  · rename_i h0; exact absurd h h0
theorem nextR_of {l : List MOp} {k : Nat} (h : nextE l k = 0) : nextR l k = nextL l k := by unfold nextR; rw [if_pos h]; rfl
theorem nextR_no {l : List MOp} {pc : Int} (h : ¬ nextE l pc = 0) : nextR l pc = [] := by unfold nextR; rw [if_neg h]
theorem backR_of {l : List MOp} {pc : Int} (h : backE l pc = 0) : backR l pc = backL l pc := by unfold backR; rw [if_pos h]
theorem backR_no {l : List MOp} {pc : Int} (h : ¬ backE l pc = 0) : backR l pc = [] := by unfold backR; rw [if_neg h]

theorem after_as (A : Option Addr) (c : Nat) (l : List MOp) (pc : Nat) (w : World) (hs : Sl w (.slice A l.length c) l) (hp : pc < l.length) {L : List Int} (e : afterL (opAt l pc) pc = L) :
    Calls Try.prog 61 #[.slice A l.length c, .int .i64 (pc : Int)] w fun e w' => ∃ g : Option Addr × Nat, True ∧ e = .returned (.slice g.1 L.length g.2) ∧ Cw w.heap.size w [ROw (.slice g.1 L.length g.2) L] w' := e ▸ after_any A c l pc w hs hp
set_option maxRecDepth 100000 in
theorem next_any (A : Option Addr) (c : Nat) (l : List MOp) (pc : Int) (w : World) (hs : Sl w (.slice A l.length c) l) :
    Calls Try.prog 33 #[.slice A l.length c, .int .i64 pc] w fun e w' => ∃ g : Option Addr × Nat, True ∧ e = .returned (.tuple #[.slice g.1 (nextR l pc).length g.2, .int .i64 (nextE l pc)]) ∧ Cw w.heap.size w [ROw (.slice g.1 (nextR l pc).length g.2) (nextR l pc)] w' := by
  have b1 := len_bd hs
  refine enter Try.func33 rfl Try.ntmps33 rfl ?_
  refine cw_seq ?_
  refine cw_region ?_
  refine rw_run tab_ok 2 [(0, _), (1, _)] rfl ⟨rfl, rfl, trivial⟩ ?_
  refine rw_end ?_
  refine cw_seq ?_
  refine cw_region ?_
  refine rw_run tab_ok 1 [(0, _), (1, _), (7, _)] rfl ⟨rfl, rfl, rfl, trivial⟩ ?_
  refine rw_op (ot_c0 rfl rfl rfl Try.call57 (fun w hw => ready_any A c l w (hw.ro hs))) rfl rfl (fun _ _ => ?_)
  refine rw_run tab_ok 1 [(0, _), (1, _), (6, _)] rfl ⟨rfl, rfl, rfl, trivial⟩ ?_
  refine rw_end ?_
  refine cw_cut (fun g : Int => g = nextE l pc) (fun g => [(0, .slice A l.length c), (1, .int .i64 pc), (6, .int .i64 g)]) (fun _ => []) ?_ ?_
  · refine cw_seq ?_
    refine cw_region ?_
    refine rw_run tab_ok 3 [(0, _), (1, _), (6, _), (11, _)] rfl ⟨rfl, rfl, rfl, rfl, trivial⟩ ?_
    refine rw_split (t := 11) rfl (fun h0 => ?_) (fun h0 => ?_)
    · have h0 := of_decide_eq_true h0
      refine rw_run tab_ok 3 [(0, _), (1, _), (6, _), (11, _), (14, _)] rfl ⟨rfl, rfl, rfl, rfl, rfl, trivial⟩ ?_
      refine rw_split (t := 14) rfl (fun h1 => ?_) (fun h1 => ?_)
      · have h1 := of_decide_eq_true h1
        refine rw_run tab_ok 6 [(0, _), (1, _), (6, _), (20, _)] rfl ⟨rfl, rfl, rfl, rfl, trivial⟩ ?_
        refine rw_end ?_
        refine cw_cond_t rfl ?_
        refine cw_region ?_
        refine rw_run tab_ok 1 [(0, _), (1, _), (6, _)] rfl ⟨rfl, rfl, rfl, trivial⟩ ?_
        refine rw_join 3 (by unfold nextE; rw [if_pos h0, if_pos (.inl h1)]) ⟨rfl, rfl, rfl, trivial⟩ me
      · have h1 := of_decide_eq_false h1
        refine rw_run tab_ok 2 [(0, _), (1, _), (6, _), (11, _), (14, _), (15, _), (16, _)] rfl ⟨rfl, rfl, rfl, rfl, rfl, rfl, rfl, trivial⟩ ?_
        refine rw_s (qs_len Try.underlying52 rfl rfl) rfl rfl ?_
        refine rw_run tab_ok 3 [(0, _), (1, _), (6, _), (20, _)] rfl ⟨rfl, rfl, rfl, rfl, trivial⟩ ?_
        refine rw_end ?_
        refine cw_condD rfl (fun h2 => ?_) (fun h2 => ?_)
        · refine cw_region ?_
          refine rw_run tab_ok 1 [(0, _), (1, _), (6, _)] rfl ⟨rfl, rfl, rfl, trivial⟩ ?_
          refine rw_join 3 (by unfold nextE; rw [if_pos h0, if_pos (.inr h2)]) ⟨rfl, rfl, rfl, trivial⟩ me
        · refine cw_skip ?_
          refine xw_join (flowE l) (by unfold nextE; rw [if_pos h0, if_neg (by omega)]; exact h0) ⟨rfl, rfl, rfl, trivial⟩ me
    · have h0 := of_decide_eq_false h0
      refine rw_run tab_ok 9 [(0, _), (1, _), (6, _), (20, _)] rfl ⟨rfl, rfl, rfl, rfl, trivial⟩ ?_
      refine rw_end ?_
      refine cw_cond_f rfl ?_
      refine cw_skip ?_
      refine xw_join (flowE l) (by unfold nextE; rw [if_neg h0]) ⟨rfl, rfl, rfl, trivial⟩ me
  · rintro g rfl
    refine cw_seq ?_
    refine cw_seq ?_
    refine cw_region ?_
    refine rw_run tab_ok 2 [(0, _), (1, _), (6, _), (22, _)] rfl ⟨rfl, rfl, rfl, rfl, trivial⟩ ?_
    refine rw_end ?_
    refine cw_condN rfl (fun hz => ?_) (fun hz => ?_)
    · have e := nextR_no hz
      refine cw_seq ?_
      refine cw_region ?_
      refine rw_run tab_ok 3 [(4, _), (5, _)] rfl ⟨rfl, rfl, trivial⟩ ?_
      refine rw_end ?_
      refine cw_ret (xw_thenr ?_)
      refine xw_ret2 Try.results33 (rv_tmp rfl) (rv_tmp rfl) ?_
      intro w hw
      refine ⟨(none, 0), trivial, by rw [e]; rfl, ?_⟩
      rw [e]
      exact (Cw.nilO Int hw).msub ms
    · obtain ⟨hf, h1, h2⟩ := nextE_ok hz
      obtain ⟨k, rfl⟩ := Int.eq_ofNat_of_zero_le h1
      have hk : k < l.length := by omega
      have e : afterL (opAt l k) k = nextR l k := by rw [nextR_of hz, after_next hf hk]
      refine cw_skip (xw_then ?_)
      refine cw_seq ?_
      refine cw_region ?_
      refine rw_run tab_ok 2 [(24, _), (25, _)] rfl ⟨rfl, rfl, trivial⟩ ?_
      refine rw_op (ot_c rfl rfl rfl Try.call61 (fun w hw => after_as A c l k w (hw.ro hs) hk e)) rfl rfl (fun ⟨A1, c1⟩ _ => ?_)
      try dsimp only
      refine rw_run tab_ok 2 [(4, _), (5, _)] rfl ⟨rfl, rfl, trivial⟩ ?_
      refine rw_end ?_
      refine cw_ret ?_
      refine xw_ret2 Try.results33 (rv_tmp rfl) (rv_tmp rfl) ?_
      intro w hw
      exact ⟨(A1, c1), trivial, by rw [hz], hw.msub ms⟩
set_option maxRecDepth 100000 in
theorem back_any (A : Option Addr) (c : Nat) (l : List MOp) (pc : Int) (w : World) (hs : Sl w (.slice A l.length c) l) :
    Calls Try.prog 56 #[.slice A l.length c, .int .i64 pc] w fun e w' => ∃ g : Option Addr × Nat, True ∧ e = .returned (.tuple #[.slice g.1 (backR l pc).length g.2, .int .i64 (backE l pc)]) ∧ Cw w.heap.size w [ROw (.slice g.1 (backR l pc).length g.2) (backR l pc)] w' := by
  have b1 := len_bd hs
  refine enter Try.func56 rfl Try.ntmps56 rfl ?_
  refine cw_seq ?_
  refine cw_region ?_
  refine rw_run tab_ok 2 [(0, _), (1, _)] rfl ⟨rfl, rfl, trivial⟩ ?_
  refine rw_end ?_
  refine cw_seq ?_
  refine cw_region ?_
  refine rw_run tab_ok 1 [(0, _), (1, _), (9, _)] rfl ⟨rfl, rfl, rfl, trivial⟩ ?_
  refine rw_op (ot_c0 rfl rfl rfl Try.call57 (fun w hw => ready_any A c l w (hw.ro hs))) rfl rfl (fun _ _ => ?_)
  refine rw_run tab_ok 1 [(0, _), (1, _), (6, _)] rfl ⟨rfl, rfl, rfl, trivial⟩ ?_
  refine rw_end ?_
  refine cw_cut (fun g : Int => g = backE l pc) (fun g => [(0, .slice A l.length c), (1, .int .i64 pc), (6, .int .i64 g)]) (fun _ => []) ?_ ?_
  · refine cw_seq ?_
    refine cw_region ?_
    refine rw_run tab_ok 3 [(0, _), (1, _), (6, _), (13, _)] rfl ⟨rfl, rfl, rfl, rfl, trivial⟩ ?_
    refine rw_split (t := 13) rfl (fun h0 => ?_) (fun h0 => ?_)
    · have h0 := of_decide_eq_true h0
      refine rw_run tab_ok 3 [(0, _), (1, _), (6, _), (13, _), (16, _)] rfl ⟨rfl, rfl, rfl, rfl, rfl, trivial⟩ ?_
      refine rw_split (t := 16) rfl (fun h1 => ?_) (fun h1 => ?_)
      · have h1 := of_decide_eq_true h1
        refine rw_run tab_ok 6 [(0, _), (1, _), (6, _), (22, _)] rfl ⟨rfl, rfl, rfl, rfl, trivial⟩ ?_
        refine rw_end ?_
        refine cw_cond_t rfl ?_
        refine cw_region ?_
        refine rw_run tab_ok 1 [(0, _), (1, _), (6, _)] rfl ⟨rfl, rfl, rfl, trivial⟩ ?_
        refine rw_join 3 (by unfold backE; rw [if_pos h0, if_pos (.inl h1)]) ⟨rfl, rfl, rfl, trivial⟩ me
      · have h1 := of_decide_eq_false h1
        refine rw_run tab_ok 2 [(0, _), (1, _), (6, _), (13, _), (16, _), (17, _), (18, _)] rfl ⟨rfl, rfl, rfl, rfl, rfl, rfl, rfl, trivial⟩ ?_
        refine rw_s (qs_len Try.underlying52 rfl rfl) rfl rfl ?_
        refine rw_run tab_ok 3 [(0, _), (1, _), (6, _), (22, _)] rfl ⟨rfl, rfl, rfl, rfl, trivial⟩ ?_
        refine rw_end ?_
        refine cw_condD rfl (fun h2 => ?_) (fun h2 => ?_)
        · refine cw_region ?_
          refine rw_run tab_ok 1 [(0, _), (1, _), (6, _)] rfl ⟨rfl, rfl, rfl, trivial⟩ ?_
          refine rw_join 3 (by unfold backE; rw [if_pos h0, if_pos (.inr h2)]) ⟨rfl, rfl, rfl, trivial⟩ me
        · refine cw_skip ?_
          refine xw_join (flowE l) (by unfold backE; rw [if_pos h0, if_neg (by omega)]; exact h0) ⟨rfl, rfl, rfl, trivial⟩ me
    · have h0 := of_decide_eq_false h0
      refine rw_run tab_ok 9 [(0, _), (1, _), (6, _), (22, _)] rfl ⟨rfl, rfl, rfl, rfl, trivial⟩ ?_
      refine rw_end ?_
      refine cw_cond_f rfl ?_
      refine cw_skip ?_
      refine xw_join (flowE l) (by unfold backE; rw [if_neg h0]) ⟨rfl, rfl, rfl, trivial⟩ me
  · rintro g rfl
    refine cw_seq ?_
    refine cw_seq ?_
    refine cw_region ?_
    refine rw_run tab_ok 2 [(0, _), (1, _), (6, _), (24, _)] rfl ⟨rfl, rfl, rfl, rfl, trivial⟩ ?_
    refine rw_end ?_
    refine cw_condN rfl (fun hz => ?_) (fun hz => ?_)
    · have e := backR_no hz
      refine cw_seq ?_
      refine cw_region ?_
      refine rw_run tab_ok 3 [(4, _), (5, _)] rfl ⟨rfl, rfl, trivial⟩ ?_
      refine rw_end ?_
      refine cw_ret (xw_thenr ?_)
      refine xw_ret2 Try.results56 (rv_tmp rfl) (rv_tmp rfl) ?_
      intro w hw
      refine ⟨(none, 0), trivial, by rw [e]; rfl, ?_⟩
      rw [e]
      exact (Cw.nilO Int hw).msub ms
    · have h40 := codeErr_len (flowE_zero (backE_ok hz).1).1
      refine cw_skip (xw_then ?_)
      refine cw_seq ?_
      refine cw_region ?_
      refine rw_run tab_ok 1 [(0, _), (1, _), (7, _)] rfl ⟨rfl, rfl, rfl, trivial⟩ ?_
      refine rw_end ?_
      refine cw_seq ?_
      refine cw_seq ?_
      refine cw_region ?_
      refine rw_run tab_ok 1 [(0, _), (1, _), (7, _), (26, _)] rfl ⟨rfl, rfl, rfl, rfl, trivial⟩ ?_
      refine rw_s (qs_len Try.underlying52 rfl rfl) rfl rfl ?_
      refine rw_run tab_ok 1 [(0, _), (1, _), (7, _), (27, _), (28, _)] rfl ⟨rfl, rfl, rfl, rfl, rfl, trivial⟩ ?_
      refine rw_end ?_
      refine cw_mem (fun w h => Cw.nilO Int h) ?_
      refine cw_block (cw_loop (fun g : Nat × Option Addr × Nat => g.1 ≤ l.length) (fun g => l.length - g.1) (fun g => [(0, .slice A l.length c), (1, .int .i64 pc), (7, .slice g.2.1 ((upto g.1).filter (fun i : Int => goesOn (opAt l i.toNat) i pc)).length g.2.2), (27, .int .i64 (l.length : Int)), (28, .int .i64 (g.1 : Int))]) (fun g => [ROw (.slice g.2.1 ((upto g.1).filter (fun i : Int => goesOn (opAt l i.toNat) i pc)).length g.2.2) ((upto g.1).filter (fun i : Int => goesOn (opAt l i.toNat) i pc))]) (0, none, 0) (Nat.zero_le _) ⟨rfl, rfl, rfl, rfl, rfl, trivial⟩ me ?_)
      rintro ⟨k, A1, c1⟩ hk'
      try dsimp only
      have hk : k ≤ l.length := hk'
      have hfl := filter_len (fun i : Int => goesOn (opAt l i.toNat) i pc) k
      refine cw_seq ?_
      refine cw_region ?_
      refine rw_run tab_ok 1 [(0, _), (1, _), (7, _), (27, _), (28, _), (29, _)] rfl ⟨rfl, rfl, rfl, rfl, rfl, rfl, trivial⟩ ?_
      refine rw_end ?_
      refine cw_seq ?_
      refine cw_condD rfl (fun hlt => ?_) (fun hlt => ?_)
      · have hkl : k < l.length := by omega
        refine cw_skip (xw_then ?_)
        refine cw_seq ?_
        refine cw_block ?_
        refine cw_seq ?_
        refine cw_region ?_
        refine rw_run tab_ok 2 [(0, _), (1, _), (7, _), (8, _), (27, _), (28, _)] rfl ⟨rfl, rfl, rfl, rfl, rfl, rfl, trivial⟩ ?_
        refine rw_end ?_
        refine cw_seq ?_
        refine cw_region ?_
        refine rw_run tab_ok 2 [(0, _), (1, _), (7, _), (8, _), (27, _), (28, _), (31, _), (32, _)] rfl ⟨rfl, rfl, rfl, rfl, rfl, rfl, rfl, rfl, trivial⟩ ?_
        refine rw_op (ot_c rfl rfl rfl Try.call61 (fun w hw => after_any A c l k w (hw.ro hs) hkl)) rfl rfl (fun ⟨A2, c2⟩ _ => ?_)
        try dsimp only
        refine rw_run tab_ok 1 [(0, _), (1, _), (7, _), (8, _), (27, _), (28, _), (33, _), (34, _)] rfl ⟨rfl, rfl, rfl, rfl, rfl, rfl, rfl, rfl, trivial⟩ ?_
        refine rw_op (ot_c0 rfl rfl rfl Try.call81 ((fun w hw => cbelow ((fun w hw => contains_int _ (afterL (opAt l k) k) pc w (SF.at_ (SF.own rfl fc) hw)) w hw)))) rfl rfl (fun _ _ => ?_)
        refine rw_end ?_
        refine cw_cond rfl (fun hg => ?_) (fun hg => ?_)
        · have hg : (fun i : Int => goesOn (opAt l i.toNat) i pc) (k : Int) = true := (after_contains (opAt l k) k pc).symm.trans hg
          refine cw_region ?_
          refine rw_run tab_ok 2 [(0, _), (1, _), (27, _), (28, _), (36, _), (37, _)] rfl ⟨rfl, rfl, rfl, rfl, rfl, rfl, trivial⟩ ?_
          refine rw_op (ot_bsl (cs := [_]) Try.underlying35 Try.sizeOf3 Try.zeroValue3 rfl rfl rfl rfl rfl) rfl rfl (fun g1 _ => ?_)
          refine rw_op (ot_app1 (α := Int) (bytes := 8) (k : Int) [] (filter_yes hg) Try.underlying35 (info_ex Try.inI) rfl (perm2 fc fc) (hel_int (by unfold I64; omega)) (by omega) (by omega) rfl rfl rfl) rfl rfl (fun ⟨A4, c4⟩ _ => ?_)
          try dsimp only
          refine rw_run tab_ok 1 [(0, _), (1, _), (7, _), (27, _), (28, _)] rfl ⟨rfl, rfl, rfl, rfl, rfl, trivial⟩ ?_
          refine rw_endx (xw_blkn (xw_then ?_))
          refine cw_region ?_
          refine rw_s (qs_add rfl rfl rfl (by omega)) rfl rfl ?_
          refine rw_run tab_ok 1 [(0, _), (1, _), (7, _), (27, _), (28, _)] rfl ⟨rfl, rfl, rfl, rfl, rfl, trivial⟩ ?_
          refine rw_round (k + 1, A4, c4) (by show k + 1 ≤ _; omega) (by show _ - _ < _ - _; omega) ⟨rfl, rfl, rfl, rfl, rfl, trivial⟩ me
        · have hg : ¬ (fun i : Int => goesOn (opAt l i.toNat) i pc) (k : Int) = true := by rw [show (fun i : Int => goesOn (opAt l i.toNat) i pc) (k : Int) = false from (after_contains (opAt l k) k pc).symm.trans hg]; decide
          refine cw_skip (xw_blkn (xw_then ?_))
          refine cw_region ?_
          refine rw_s (qs_add rfl rfl rfl (by omega)) rfl rfl ?_
          refine rw_run tab_ok 1 [(0, _), (1, _), (7, _), (27, _), (28, _)] rfl ⟨rfl, rfl, rfl, rfl, rfl, trivial⟩ ?_
          rw [← filter_no hg]
          refine rw_round (k + 1, A1, c1) (by show k + 1 ≤ _; omega) (by show _ - _ < _ - _; omega) ⟨rfl, rfl, rfl, rfl, rfl, trivial⟩ me
      · obtain rfl : k = l.length := by omega
        refine cw_exit (xw_thenx (xw_thenx (xw_blk (xw_then ?_))))
        refine cw_seq ?_
        refine cw_region ?_
        refine rw_run tab_ok 3 [(4, _), (5, _)] rfl ⟨rfl, rfl, trivial⟩ ?_
        refine rw_end ?_
        refine cw_ret ?_
        refine xw_ret2 Try.results56 (rv_tmp rfl) (rv_tmp rfl) ?_
        intro w hw
        have e := backR_of hz
        refine ⟨(A1, c1), trivial, by rw [e, hz]; rfl, ?_⟩
        rw [e]
        exact hw.msub ms
end Go.Proofs.Ytejpkcheimgdfaa

-- Fl5
/- Flow: all that may be come to; Reach. -/
namespace Go.Proofs.Ytejpkcheimgdfaa
open Go.RowKit

/-- How many are not met. -/
def unmet (m : List Bool) : Nat := (List.range m.length).countP fun i => !m.getD i false
theorem countP_lt {p q : Nat → Bool} : ∀ {l : List Nat} {x0 : Nat}, (∀ x ∈ l, p x = true → q x = true) → x0 ∈ l → q x0 = true → p x0 = false → l.countP p < l.countP q
  | [], _, _, h, _, _ => by simp at h
  | a :: l, x0, h, hx, h1, h2 => by
    rw [List.countP_cons, List.countP_cons]
    rcases List.mem_cons.1 hx with e | hx
    · subst e
      have := List.countP_mono_left (l := l) fun x hx => h x (List.mem_cons_of_mem _ hx)
      simp only [h1, h2, if_true, Bool.false_eq_true, if_false]
      omega
    · have := countP_lt (fun x hx => h x (List.mem_cons_of_mem _ hx)) hx h1 h2
      have h5 : (if p a = true then 1 else 0) ≤ (if q a = true then 1 else 0) := by
        by_cases ha : p a = true
        · rw [if_pos ha, if_pos (h a (by simp) ha)]; exact Nat.le_refl _
        · rw [if_neg ha]; exact Nat.zero_le _
      omega
/-- m is met where m0 is. -/
def Met (m0 m : List Bool) : Prop := m.length = m0.length ∧ ∀ i, m0.getD i false = true → m.getD i false = true
theorem Met.refl (m : List Bool) : Met m m := ⟨rfl, fun _ h => h⟩
theorem Met.trans {a b c : List Bool} (h1 : Met a b) (h2 : Met b c) : Met a c := ⟨h2.1.trans h1.1, fun i h => h2.2 i (h1.2 i h)⟩
theorem Met.unmet {a b : List Bool} (h : Met a b) : unmet b ≤ unmet a := by
  unfold Proofs.Ytejpkcheimgdfaa.unmet
  rw [h.1]
  refine List.countP_mono_left fun x _ hx => ?_
  cases e : a.getD x false
  · rfl
  · rw [h.2 x e] at hx; exact hx
theorem set_getD (m : List Bool) (k i : Nat) (hk : k < m.length) : (m.set k true).getD i false = if i = k then true else m.getD i false := by
  rw [List.getD_eq_getElem?_getD, List.getD_eq_getElem?_getD, List.getElem?_set]
  by_cases h : k = i
  · subst h; rw [if_pos rfl, if_pos hk, if_pos rfl]; rfl
  · rw [if_neg h, if_neg (fun e => h e.symm)]
theorem Met.set {m : List Bool} {k : Nat} (hk : k < m.length) : Met m (m.set k true) := ⟨by simp, fun i h => by rw [set_getD m k i hk]; split; rfl; exact h⟩
theorem unmet_set {m : List Bool} {k : Nat} (hk : k < m.length) (h : m.getD k false = false) : Proofs.Ytejpkcheimgdfaa.unmet (m.set k true) < Proofs.Ytejpkcheimgdfaa.unmet m := by
  unfold Proofs.Ytejpkcheimgdfaa.unmet
  rw [List.length_set]
  refine countP_lt (x0 := k) (fun x _ hx => ?_) (List.mem_range.2 hk) (by rw [h]; rfl) (by rw [set_getD m k k hk, if_pos rfl]; rfl)
  rw [set_getD m k x hk] at hx
  split at hx
  · cases hx
  · exact hx
/-- What a visit does. -/
structure VP (l : List MOp) (m0 : List Bool) (pc : Nat) (m : List Bool) : Prop where
  met : Met m0 m
  self : m.getD pc false = true
  new : ∀ i, m.getD i false = true → m0.getD i false = false → RchF l pc i ∧ (i < l.length → ∀ q : Nat, goesOn (opAt l i) i q = true → m.getD q false = true)
/-- .. with the first j of those where it goes on visited. -/
structure LP (l : List MOp) (m0 : List Bool) (pc : Nat) (L : List Int) (j : Nat) (m : List Bool) : Prop where
  le : j ≤ L.length
  met : Met m0 m
  self : m.getD pc false = true
  new : ∀ i, m.getD i false = true → m0.getD i false = false → RchF l pc i ∧ (i ≠ pc → i < l.length → ∀ q : Nat, goesOn (opAt l i) i q = true → m.getD q false = true)
  old : ∀ i, i < j → m.getD (L.getD i 0).toNat false = true
section
variable {l : List MOp} {m0 m m2 : List Bool} {pc j : Nat}
theorem VP.old_ (h : m.getD pc false = true) : VP l m pc m := ⟨.refl _, h, fun i h1 h2 => by rw [h1] at h2; cases h2⟩
theorem LP.start (hp : pc < m0.length) (h : m0.getD pc false = false) (L : List Int) : LP l m0 pc L 0 (m0.set pc true) := by
  refine ⟨Nat.zero_le _, .set hp, by rw [set_getD _ _ _ hp, if_pos rfl], fun i h1 h2 => ?_, fun i h => absurd h (by omega)⟩
  rw [set_getD _ _ _ hp] at h1
  split at h1
  · rename_i e; subst e; exact ⟨.refl, fun h => absurd rfl h⟩
  · rw [h2] at h1; cases h1
theorem LP.next (h : LP l m0 pc (afterL (opAt l pc) pc) j m) (hp : pc < l.length) (hj : j < (afterL (opAt l pc) pc).length) (h0 : 0 ≤ (afterL (opAt l pc) pc).getD j 0) (hv : VP l m ((afterL (opAt l pc) pc).getD j 0).toNat m2) : LP l m0 pc (afterL (opAt l pc) pc) (j + 1) m2 := by
  have hm := h.met.trans hv.met
  refine ⟨hj, hm, hv.met.2 _ h.self, fun i h1 h2 => ?_, fun i hi => ?_⟩
  · cases e : m.getD i false
    · obtain ⟨h3, h4⟩ := hv.new i h1 e
      refine ⟨?_, fun _ => h4⟩
      refine RchF.trans (.step .refl hp ?_) h3
      have : (afterL (opAt l pc) pc).getD j 0 ∈ afterL (opAt l pc) pc := by rw [List.getD_eq_getElem?_getD, List.getElem?_eq_getElem hj]; exact List.getElem_mem hj
      have := (after_mem _ _ _).1 this
      rw [Int.toNat_of_nonneg h0]
      exact this
    · obtain ⟨h3, h4⟩ := h.new i e h2
      exact ⟨h3, fun a b q c => hv.met.2 _ (h4 a b q c)⟩
  · by_cases e : i = j
    · subst e; exact hv.self
    · exact hv.met.2 _ (h.old i (by omega))
theorem LP.end_ (h : LP l m0 pc (afterL (opAt l pc) pc) (afterL (opAt l pc) pc).length m) : VP l m0 pc m := by
  refine ⟨h.met, h.self, fun i h1 h2 => ?_⟩
  obtain ⟨h3, h4⟩ := h.new i h1 h2
  refine ⟨h3, fun hi q hg => ?_⟩
  by_cases e : i = pc
  · subst e
    have hm := (after_mem _ _ _).2 hg
    obtain ⟨k, hk, ek⟩ := List.getElem_of_mem hm
    have := h.old k hk
    rw [List.getD_eq_getElem?_getD (l := afterL _ _), List.getElem?_eq_getElem hk, Option.getD_some, ek, Int.toNat_natCast] at this
    exact this
  · exact h4 e hi q hg
theorem VP.last (hp : pc < m0.length) (h : m0.getD pc false = false) (hl : ¬ pc < l.length) : VP l m0 pc (m0.set pc true) := by
  have h := LP.start (l := l) hp h []
  refine ⟨h.met, h.self, fun i h1 h2 => ?_⟩
  obtain ⟨h3, h4⟩ := h.new i h1 h2
  exact ⟨h3, fun hi => by by_cases e : i = pc; exact absurd (e ▸ hi) hl; exact h4 e hi⟩
/-- All is met that may be come to. -/
theorem VP.all {n : Nat} (h : VP l (List.replicate n false) 0 m) (_ : n = l.length + 1) (_ : flowE l = 0) (q : Nat) : m.getD q false = true ↔ Rch l q := by
  have h0 : ∀ i, (List.replicate n false).getD i false = false := fun i => by rw [List.getD_eq_getElem?_getD, List.getElem?_replicate]; split <;> rfl
  constructor
  · exact fun hq => (h.new q hq (h0 q)).1
  · intro hr
    induction hr with
    | refl => exact h.self
    | step h1 h2 h3 ih => exact (h.new _ ih (h0 _)).2 h2 _ h3
theorem Rch.le (hf : flowE l = 0) {q : Nat} (h : Rch l q) : q ≤ l.length := by
  cases h with
  | refl => omega
  | step h1 h2 h3 => have := goes_in hf h2 h3; omega
end

set_option maxRecDepth 100000 in
set_option maxHeartbeats 1000000 in
theorem visit_any {B : Nat} {w0 : World} {l : List MOp} {A : Option Addr} {c : Nat} (hs : SlB w0 B (.slice A l.length c) l) (hf : flowE l = 0) (gm gc gv : Nat) (Am : Option Addr) (cm : Nat) (k : Nat) : ∀ (H : List Res) (m : List Bool) (pc : Nat) (z : Int) (w : World), z = pc → m.length = l.length + 1 → pc ≤ l.length → unmet m = k →
    Cw B w0 (RBox gm [.slice Am (l.length + 1) cm] 87 :: RBox gc [.slice A l.length c] 52 :: RBox gv [.func (.func 83) #[] #[.pointer (some ⟨gm, 0, none⟩), .pointer (some ⟨gc, 0, none⟩), .pointer (some ⟨gv, 0, none⟩)]] 106 :: ROw (.slice Am (l.length + 1) cm) m :: H) w →
    Calls Try.prog 83 #[.int .i64 z, .pointer (some ⟨gm, 0, none⟩), .pointer (some ⟨gc, 0, none⟩), .pointer (some ⟨gv, 0, none⟩)] w fun e w' => ∃ m2 : List Bool, VP l m pc m2 ∧ e = .returned (.tuple #[]) ∧
      Cw B w0 (RBox gm [.slice Am (l.length + 1) cm] 87 :: RBox gc [.slice A l.length c] 52 :: RBox gv [.func (.func 83) #[] #[.pointer (some ⟨gm, 0, none⟩), .pointer (some ⟨gc, 0, none⟩), .pointer (some ⟨gv, 0, none⟩)]] 106 :: ROw (.slice Am (l.length + 1) cm) m2 :: H) w' := by
  induction k using Nat.strongRecOn with
  | ind k ih =>
  intro H m pc z w hz hml hpc hk hw
  subst hz
  have b1 := len_bd hs
  refine enter_own Try.func83 rfl Try.ntmps83 rfl hw ?_
  refine cw_seq ?_
  refine cw_seq ?_
  refine cw_region ?_
  refine rw_s (qs_ldb fc Try.isAgg87 rfl rfl (by rfl)) rfl rfl ?_
  refine rw_run tab_ok 1 [(0, _), (1, _), (2, _), (3, _), (7, _), (8, _)] rfl ⟨rfl, rfl, rfl, rfl, rfl, rfl, trivial⟩ ?_
  refine rw_s (qs_idx Try.underlying87 Try.sizeOf4 (.own hml fc) (by omega) rfl rfl rfl) rfl rfl ?_
  refine rw_s (qs_ld (SF.bool (.own hml fc) (by omega)) rfl rfl Try.isAgg4) rfl rfl ?_
  refine rw_end ?_
  refine cw_cond rfl (fun hm => ?_) (fun hm => ?_)
  · have hm : m.getD pc false = true := hm
    refine cw_ret (xw_thenr ?_)
    refine xw_ret0 Try.results83  ?_
    intro w hw
    exact ⟨m, .old_ hm, rfl, hw⟩
  · have hm : m.getD pc false = false := hm
    have hst := LP.start (l := l) (pc := pc) (by omega) hm (afterL (opAt l pc) pc)
    have hun := unmet_set (k := pc) (by omega) hm
    refine cw_skip (xw_then ?_)
    refine cw_seq ?_
    refine cw_region ?_
    refine rw_s (qs_ldb fc Try.isAgg87 rfl rfl (by rfl)) rfl rfl ?_
    refine rw_run tab_ok 1 [(0, _), (2, _), (3, _), (11, _), (12, _)] rfl ⟨rfl, rfl, rfl, rfl, rfl, trivial⟩ ?_
    refine rw_s (qs_idx Try.underlying87 Try.sizeOf4 (.own hml fc) (by omega) rfl rfl rfl) rfl rfl ?_
    refine rw_op (ot_stB (xs' := m.set pc true) rfl fc (by omega) Try.sizeOf4 rfl rfl rfl) rfl rfl (fun _ _ => ?_)
    refine rw_end ?_
    refine cw_seq ?_
    refine cw_region ?_
    refine rw_run tab_ok 1 [(0, _), (2, _), (3, _), (14, _)] rfl ⟨rfl, rfl, rfl, rfl, trivial⟩ ?_
    refine rw_s (qs_ldb fc Try.isAgg52 rfl rfl (by rfl)) rfl rfl ?_
    refine rw_s (qs_len Try.underlying52 rfl rfl) rfl rfl ?_
    refine rw_run tab_ok 1 [(0, _), (2, _), (3, _), (17, _)] rfl ⟨rfl, rfl, rfl, rfl, trivial⟩ ?_
    refine rw_end ?_
    refine cw_condD rfl (fun hlt => ?_) (fun hlt => ?_)
    · have hp : pc < l.length := by omega
      have ha2 := after_len (opAt l pc) pc
      refine cw_seq ?_
      refine cw_region ?_
      refine rw_s (qs_ldb fc Try.isAgg52 rfl rfl (by rfl)) rfl rfl ?_
      refine rw_run tab_ok 1 [(3, _), (18, _), (19, _)] rfl ⟨rfl, rfl, rfl, trivial⟩ ?_
      refine rw_op (ot_c rfl rfl rfl Try.call61 (fun w hw => after_any A c l pc w (hw.ro hs) hp)) rfl rfl (fun ⟨A2, c2⟩ _ => ?_)
      try dsimp only
      refine rw_s (qs_len Try.underlying35 rfl rfl) rfl rfl ?_
      refine rw_run tab_ok 1 [(3, _), (20, _), (21, _), (22, _)] rfl ⟨rfl, rfl, rfl, rfl, trivial⟩ ?_
      refine rw_end ?_
      refine cw_block (cw_loop (fun g : Nat × List Bool => LP l m pc (afterL (opAt l pc) pc) g.1 g.2) (fun g => (afterL (opAt l pc) pc).length - g.1) (fun g => [(3, .pointer (some ⟨gv, 0, none⟩)), (20, .slice A2 (afterL (opAt l pc) pc).length c2), (21, .int .i64 ((afterL (opAt l pc) pc).length : Int)), (22, .int .i64 (g.1 : Int))]) (fun g => [ROw (.slice A2 (afterL (opAt l pc) pc).length c2) (afterL (opAt l pc) pc), RBox gm [.slice Am (l.length + 1) cm] 87, RBox gc [.slice A l.length c] 52, RBox gv [.func (.func 83) #[] #[.pointer (some ⟨gm, 0, none⟩), .pointer (some ⟨gc, 0, none⟩), .pointer (some ⟨gv, 0, none⟩)]] 106, ROw (.slice Am (l.length + 1) cm) g.2] ++ H) (0, m.set pc true) (hst) ⟨rfl, rfl, rfl, rfl, trivial⟩ (fun _ h => h.msub ms) ?_)
      rintro ⟨j, m1⟩ hj'
      try dsimp only
      have hj : LP l m pc (afterL (opAt l pc) pc) j m1 := hj'
      have hjle := hj.le
      refine cw_seq ?_
      refine cw_region ?_
      refine rw_run tab_ok 1 [(3, _), (20, _), (21, _), (22, _), (23, _)] rfl ⟨rfl, rfl, rfl, rfl, rfl, trivial⟩ ?_
      refine rw_end ?_
      refine cw_seq ?_
      refine cw_condD rfl (fun hjl => ?_) (fun hjl => ?_)
      · have hjl2 : j < (afterL (opAt l pc) pc).length := by omega
        have hmem : (afterL (opAt l pc) pc).getD j 0 ∈ afterL (opAt l pc) pc := by rw [List.getD_eq_getElem?_getD, List.getElem?_eq_getElem hjl2]; exact List.getElem_mem hjl2
        have hin := goes_in hf hp ((after_mem _ _ _).1 hmem)
        have hu1 := hj.met
        have hun2 : unmet m1 < k := by
          have h1 : Met (m.set pc true) m1 := ⟨by rw [hu1.1, List.length_set], fun i hi => by
            rw [set_getD _ _ _ (by omega)] at hi
            split at hi
            · rename_i e; rw [e]; exact hj.self
            · exact hu1.2 i hi⟩
          have := h1.unmet
          omega
        refine cw_skip (xw_then ?_)
        refine cw_seq ?_
        refine cw_block ?_
        refine cw_seq ?_
        refine cw_region ?_
        refine rw_s (qs_idx Try.underlying35 Try.sizeOf3 (.own rfl fc) (by omega) rfl rfl rfl) rfl rfl ?_
        refine rw_s (qs_ld (SF.int (.own rfl fc) (by omega)) rfl rfl Try.isAgg3) rfl rfl ?_
        refine rw_run tab_ok 1 [(3, _), (6, _), (20, _), (21, _), (22, _)] rfl ⟨rfl, rfl, rfl, rfl, rfl, trivial⟩ ?_
        refine rw_end ?_
        refine cw_region ?_
        refine rw_s (qs_ldb fc Try.isAgg106 rfl rfl (by rfl)) rfl rfl ?_
        refine rw_run tab_ok 1 [(3, _), (20, _), (21, _), (22, _), (26, _), (27, _)] rfl ⟨rfl, rfl, rfl, rfl, rfl, rfl, trivial⟩ ?_
        refine rw_op (ot_callK rfl rfl rfl Try.call83 (fun w hw => ih _ hun2 (ROw (.slice A2 (afterL (opAt l pc) pc).length c2) (afterL (opAt l pc) pc) :: H) m1 ((afterL (opAt l pc) pc).getD j 0).toNat _ w (Int.toNat_of_nonneg hin.1).symm (by rw [hu1.1]; exact hml) (by omega) rfl (hw.msub ms))) rfl rfl (fun m2 hv => ?_)
        refine rw_endx (xw_blkn (xw_then ?_))
        refine cw_region ?_
        refine rw_s (qs_add rfl rfl rfl (by omega)) rfl rfl ?_
        refine rw_run tab_ok 1 [(3, _), (20, _), (21, _), (22, _)] rfl ⟨rfl, rfl, rfl, rfl, trivial⟩ ?_
        refine rw_round (j + 1, m2) (hj.next hp hjl2 hin.1 hv) (by show _ - _ < _ - _; omega) ⟨rfl, rfl, rfl, rfl, trivial⟩ (fun _ h => h.msub ms)
      · obtain rfl : j = (afterL (opAt l pc) pc).length := by omega
        refine cw_exit (xw_thenx (xw_thenx (xw_blk ?_)))
        refine xw_end0 Try.results83  ?_
        intro w hw
        exact ⟨m1, hj.end_, rfl, hw.msub ms⟩
    · refine cw_skip ?_
      refine xw_end0 Try.results83  ?_
      intro w hw
      exact ⟨m.set pc true, .last (by omega) hm (by omega), rfl, hw.msub ms⟩
end Go.Proofs.Ytejpkcheimgdfaa

-- Fl6
/- Flow: All, Reach; the document's. -/
namespace Go.Proofs.Ytejpkcheimgdfaa
open Go.RowKit

theorem reachR_of {l : List MOp} (h : flowE l = 0) : reachR l = reachL l := by unfold reachR; rw [if_pos h]
theorem reachR_no {l : List MOp} (h : ¬ flowE l = 0) : reachR l = [] := by unfold reachR; rw [if_neg h]
set_option maxRecDepth 100000 in
set_option maxHeartbeats 1000000 in
theorem all_any (A : Option Addr) (c : Nat) (l : List MOp) (w : World) (hs : Sl w (.slice A l.length c) l) (hf : flowE l = 0) :
    Calls Try.prog 58 #[.slice A l.length c] w fun e w' => ∃ g : Option Addr × Nat, True ∧ e = .returned (.slice g.1 (reachL l).length g.2) ∧ Cw w.heap.size w [ROw (.slice g.1 (reachL l).length g.2) (reachL l)] w' := by
  have b1 := len_bd hs
  have h40 := codeErr_len (flowE_zero hf).1
  refine enter Try.func58 rfl Try.ntmps58 rfl ?_
  refine cw_seq ?_
  refine cw_region ?_
  refine rw_op (ot_box rfl rfl rfl) rfl rfl (fun g1 _ => ?_)
  refine rw_run tab_ok 1 [(1, _)] rfl ⟨rfl, trivial⟩ ?_
  refine rw_end ?_
  refine cw_seq ?_
  refine cw_region ?_
  refine rw_s (qs_ldb fc Try.isAgg52 rfl rfl (by rfl)) rfl rfl ?_
  refine rw_s (qs_len Try.underlying52 rfl rfl) rfl rfl ?_
  refine rw_s (qs_add rfl rfl rfl (by omega)) rfl rfl ?_
  refine rw_op (ot_make (α := Bool) (m := l.length + 1) false Try.underlying87 Try.inB rfl (fun w => ⟨rfl, fun _ h => h⟩) rfl (by omega) rfl rfl rfl) rfl rfl (fun gm0 _ => ?_)
  refine rw_op (ot_alloc Try.zeroValue87 rfl rfl) rfl rfl (fun g2 _ => ?_)
  refine rw_op (ot_stb _ fc Try.sizeOf87 rfl rfl rfl rfl rfl (by rfl) rfl (by rfl)) rfl rfl (fun _ _ => ?_)
  refine rw_end ?_
  refine cw_seq ?_
  refine cw_region ?_
  refine rw_op (ot_alloc Try.zeroValue106 rfl rfl) rfl rfl (fun g3 _ => ?_)
  refine rw_end ?_
  refine cw_seq ?_
  refine cw_region ?_
  refine rw_run tab_ok 1 [(1, _), (3, _), (4, _), (11, _)] rfl ⟨rfl, rfl, rfl, rfl, trivial⟩ ?_
  refine rw_op (ot_stb _ fc Try.sizeOf106 rfl rfl rfl rfl rfl (by rfl) rfl (by rfl)) rfl rfl (fun _ _ => ?_)
  refine rw_end ?_
  refine cw_seq ?_
  refine cw_region ?_
  refine rw_s (qs_ldb fc Try.isAgg106 rfl rfl (by rfl)) rfl rfl ?_
  refine rw_op (ot_callK rfl rfl rfl Try.call83 (fun w hw => visit_any hs hf g2 g1 g3 (some ⟨gm0, 0, none⟩) (l.length + 1) _ [] (List.replicate (l.length + 1) false) 0 0 w rfl (by simp) (Nat.zero_le _) rfl (hw.msub ms))) rfl rfl (fun m hv => ?_)
  refine rw_end ?_
  refine cw_seq ?_
  refine cw_region ?_
  refine rw_run tab_ok 1 [(1, _), (3, _), (5, _)] rfl ⟨rfl, rfl, rfl, trivial⟩ ?_
  refine rw_end ?_
  refine cw_seq ?_
  refine cw_seq ?_
  refine cw_region ?_
  refine rw_s (qs_ldb fc Try.isAgg52 rfl rfl (by rfl)) rfl rfl ?_
  refine rw_s (qs_len Try.underlying52 rfl rfl) rfl rfl ?_
  refine rw_s (qs_add rfl rfl rfl (by omega)) rfl rfl ?_
  refine rw_run tab_ok 1 [(3, _), (5, _), (16, _), (17, _)] rfl ⟨rfl, rfl, rfl, rfl, trivial⟩ ?_
  refine rw_end ?_
  have hml : m.length = l.length + 1 := by rw [hv.met.1]; simp
  have hall := hv.all rfl hf
  refine cw_mem (fun w h => Cw.nilO Int h) ?_
  refine cw_block (cw_loop (fun g : Nat × Option Addr × Nat => g.1 ≤ l.length + 1) (fun g => l.length + 1 - g.1) (fun g => [(3, .pointer (some ⟨g2, 0, none⟩)), (5, .slice g.2.1 ((upto g.1).filter (rchB l)).length g.2.2), (16, .int .i64 (((l.length + 1 : Nat)) : Int)), (17, .int .i64 (g.1 : Int))]) (fun g => [ROw (.slice g.2.1 ((upto g.1).filter (rchB l)).length g.2.2) ((upto g.1).filter (rchB l)), RBox g2 [.slice (some ⟨gm0, 0, none⟩) (l.length + 1) (l.length + 1)] 87, ROw (.slice (some ⟨gm0, 0, none⟩) (l.length + 1) (l.length + 1)) m]) (0, none, 0) (Nat.zero_le _) ⟨rfl, rfl, rfl, rfl, trivial⟩ me ?_)
  rintro ⟨k, A1, c1⟩ hk'
  try dsimp only
  have hk : k ≤ l.length + 1 := hk'
  have hfl := filter_len (rchB l) k
  refine cw_seq ?_
  refine cw_region ?_
  refine rw_run tab_ok 1 [(3, _), (5, _), (16, _), (17, _), (18, _)] rfl ⟨rfl, rfl, rfl, rfl, rfl, trivial⟩ ?_
  refine rw_end ?_
  refine cw_seq ?_
  refine cw_condD rfl (fun hlt => ?_) (fun hlt => ?_)
  · refine cw_skip (xw_then ?_)
    refine cw_seq ?_
    refine cw_block ?_
    refine cw_seq ?_
    refine cw_region ?_
    refine rw_run tab_ok 2 [(3, _), (5, _), (6, _), (16, _), (17, _)] rfl ⟨rfl, rfl, rfl, rfl, rfl, trivial⟩ ?_
    refine rw_end ?_
    refine cw_seq ?_
    refine cw_region ?_
    refine rw_s (qs_ldb fc Try.isAgg87 rfl rfl (by rfl)) rfl rfl ?_
    refine rw_run tab_ok 1 [(3, _), (5, _), (6, _), (16, _), (17, _), (20, _), (21, _)] rfl ⟨rfl, rfl, rfl, rfl, rfl, rfl, rfl, trivial⟩ ?_
    refine rw_s (qs_idx Try.underlying87 Try.sizeOf4 (.own hml fc) (by omega) rfl rfl rfl) rfl rfl ?_
    refine rw_s (qs_ld (SF.bool (.own hml fc) (by omega)) rfl rfl Try.isAgg4) rfl rfl ?_
    refine rw_end ?_
    refine cw_cond rfl (fun hg => ?_) (fun hg => ?_)
    · have hg : (rchB l) (k : Int) = true := rchB_iff.2 ((hall k).1 hg)
      refine cw_region ?_
      refine rw_run tab_ok 2 [(3, _), (16, _), (17, _), (24, _), (25, _)] rfl ⟨rfl, rfl, rfl, rfl, rfl, trivial⟩ ?_
      refine rw_op (ot_bsl (cs := [_]) Try.underlying35 Try.sizeOf3 Try.zeroValue3 rfl rfl rfl rfl rfl) rfl rfl (fun g4 _ => ?_)
      refine rw_op (ot_app1 (α := Int) (bytes := 8) (k : Int) [] (filter_yes hg) Try.underlying35 (info_ex Try.inI) rfl (perm2 fc fc) (hel_int (by unfold I64; omega)) (by omega) (by omega) rfl rfl rfl) rfl rfl (fun ⟨A4, c4⟩ _ => ?_)
      try dsimp only
      refine rw_run tab_ok 1 [(3, _), (5, _), (16, _), (17, _)] rfl ⟨rfl, rfl, rfl, rfl, trivial⟩ ?_
      refine rw_endx (xw_blkn (xw_then ?_))
      refine cw_region ?_
      refine rw_s (qs_add rfl rfl rfl (by omega)) rfl rfl ?_
      refine rw_run tab_ok 1 [(3, _), (5, _), (16, _), (17, _)] rfl ⟨rfl, rfl, rfl, rfl, trivial⟩ ?_
      refine rw_round (k + 1, A4, c4) (by show k + 1 ≤ _; omega) (by show _ - _ < _ - _; omega) ⟨rfl, rfl, rfl, rfl, trivial⟩ me
    · have hg : ¬ (rchB l) (k : Int) = true := fun e => by rw [(hall k).2 (rchB_iff.1 e)] at hg; cases hg
      refine cw_skip (xw_blkn (xw_then ?_))
      refine cw_region ?_
      refine rw_s (qs_add rfl rfl rfl (by omega)) rfl rfl ?_
      refine rw_run tab_ok 1 [(3, _), (5, _), (16, _), (17, _)] rfl ⟨rfl, rfl, rfl, rfl, trivial⟩ ?_
      rw [← filter_no hg]
      refine rw_round (k + 1, A1, c1) (by show k + 1 ≤ _; omega) (by show _ - _ < _ - _; omega) ⟨rfl, rfl, rfl, rfl, trivial⟩ me
  · obtain rfl : k = l.length + 1 := by omega
    refine cw_exit (xw_thenx (xw_thenx (xw_blk (xw_then ?_))))
    refine cw_seq ?_
    refine cw_region ?_
    refine rw_run tab_ok 2 [(2, _)] rfl ⟨rfl, trivial⟩ ?_
    refine rw_end ?_
    refine cw_ret ?_
    refine xw_ret1 Try.results58 (rv_tmp rfl) ?_
    intro w hw
    exact ⟨(A1, c1), trivial, rfl, hw.msub ms⟩
set_option maxRecDepth 100000 in
theorem reach_any (A : Option Addr) (c : Nat) (l : List MOp) (w : World) (hs : Sl w (.slice A l.length c) l) :
    Calls Try.prog 31 #[.slice A l.length c] w fun e w' => ∃ g : Option Addr × Nat, True ∧ e = .returned (.tuple #[.slice g.1 (reachR l).length g.2, .int .i64 (flowE l)]) ∧ Cw w.heap.size w [ROw (.slice g.1 (reachR l).length g.2) (reachR l)] w' := by
  have b1 := len_bd hs
  refine enter Try.func31 rfl Try.ntmps31 rfl ?_
  refine cw_seq ?_
  refine cw_region ?_
  refine rw_run tab_ok 2 [(0, _)] rfl ⟨rfl, trivial⟩ ?_
  refine rw_end ?_
  refine cw_seq ?_
  refine cw_seq ?_
  refine cw_region ?_
  refine rw_run tab_ok 1 [(0, _), (5, _)] rfl ⟨rfl, rfl, trivial⟩ ?_
  refine rw_op (ot_c0 rfl rfl rfl Try.call57 (fun w hw => ready_any A c l w (hw.ro hs))) rfl rfl (fun _ _ => ?_)
  refine rw_run tab_ok 1 [(0, _), (4, _)] rfl ⟨rfl, rfl, trivial⟩ ?_
  refine rw_end ?_
  refine cw_seq ?_
  refine cw_region ?_
  refine rw_run tab_ok 2 [(0, _), (4, _), (8, _)] rfl ⟨rfl, rfl, rfl, trivial⟩ ?_
  refine rw_end ?_
  refine cw_condN rfl (fun hz => ?_) (fun hz => ?_)
  · have e := reachR_no hz
    refine cw_seq ?_
    refine cw_region ?_
    refine rw_run tab_ok 3 [(2, _), (3, _)] rfl ⟨rfl, rfl, trivial⟩ ?_
    refine rw_end ?_
    refine cw_ret (xw_thenr ?_)
    refine xw_ret2 Try.results31 (rv_tmp rfl) (rv_tmp rfl) ?_
    intro w hw
    refine ⟨(none, 0), trivial, by rw [e]; rfl, ?_⟩
    rw [e]
    exact (Cw.nilO Int hw).msub ms
  · have e := reachR_of hz
    rw [e, hz]
    refine cw_skip (xw_then ?_)
    refine cw_seq ?_
    refine cw_region ?_
    refine rw_run tab_ok 1 [(10, _)] rfl ⟨rfl, trivial⟩ ?_
    refine rw_op (ot_c rfl rfl rfl Try.call58 (fun w hw => all_any A c l w (hw.ro hs) hz)) rfl rfl (fun ⟨A1, c1⟩ _ => ?_)
    try dsimp only
    refine rw_run tab_ok 2 [(2, _), (3, _)] rfl ⟨rfl, rfl, trivial⟩ ?_
    refine rw_end ?_
    refine cw_ret ?_
    refine xw_ret2 Try.results31 (rv_tmp rfl) (rv_tmp rfl) ?_
    intro w hw
    exact ⟨(A1, c1), trivial, rfl, hw.msub ms⟩

/-- Some that may be come to. -/
def MRo (l : List MOp) (m : List Bool) : Prop := m.length = l.length + 1 ∧ m.getD 0 false = true ∧ ∀ i, m.getD i false = true → Rch l i
def ClosedR (l : List MOp) (m : List Bool) : Prop := ∀ p q, p < l.length → q ≤ l.length → m.getD p false = true → goesOn (opAt l p) p q = true → m.getD q false = true
structure RI (l : List MOp) (m : List Bool) (p q : Nat) (m2 : List Bool) (b : Bool) : Prop where
  ro : MRo l m2
  met : Met m m2
  lt : b = true → unmet m2 < unmet m
  eq : b = false → m2 = m ∧ ∀ p' q' : Nat, (p' < p ∨ p' = p ∧ q' < q) → p' < l.length → q' ≤ l.length → m.getD p' false = true → goesOn (opAt l p') p' q' = true → m.getD q' false = true
section
variable {l : List MOp} {m m2 : List Bool} {p q : Nat} {b : Bool}
theorem RI.start (h : MRo l m) : RI l m 0 0 m false := ⟨h, .refl _, (fun h => by cases h), fun _ => ⟨rfl, fun p' q' h => by omega⟩⟩
theorem RI.row (h : RI l m p (l.length + 1) m2 b) : RI l m (p + 1) 0 m2 b := ⟨h.ro, h.met, h.lt, fun e => ⟨(h.eq e).1, fun p' q' h1 h2 h3 => (h.eq e).2 p' q' (by omega) h2 h3⟩⟩
theorem RI.skip (h : RI l m p q m2 b) (hn : m2.getD p false = true → goesOn (opAt l p) p q = true → m2.getD q false = true) : RI l m p (q + 1) m2 b := by
  refine ⟨h.ro, h.met, h.lt, fun e => ⟨(h.eq e).1, fun p' q' h1 h2 h3 h4 h5 => ?_⟩⟩
  obtain ⟨e1, e2⟩ := h.eq e
  subst e1
  by_cases h6 : p' = p ∧ q' = q
  · obtain ⟨rfl, rfl⟩ := h6; exact hn h4 h5
  · exact e2 p' q' (by omega) h2 h3 h4 h5
theorem RI.set (h : RI l m p q m2 b) (hp : p < l.length) (hq : q ≤ l.length) (h1 : m2.getD p false = true) (h2 : m2.getD q false = false) (h3 : goesOn (opAt l p) p q = true) : RI l m p (q + 1) (m2.set q true) true := by
  have hl := h.ro.1
  have hu := unmet_set (m := m2) (k := q) (by omega) h2
  have hu2 := h.met.unmet
  refine ⟨⟨by simp [hl], ?_, fun i hi => ?_⟩, h.met.trans (.set (by omega)), fun _ => by omega, fun e => by cases e⟩
  · rw [set_getD _ _ _ (by omega)]; split; rfl; exact h.ro.2.1
  · rw [set_getD _ _ _ (by omega)] at hi
    split at hi
    · rename_i e; subst e; exact .step (h.ro.2.2 p h1) hp h3
    · exact h.ro.2.2 i hi
theorem RI.done (h : RI l m l.length 0 m2 b) : MRo l m2 ∧ (b = false → ClosedR l m2) ∧ unmet m2 + b.toNat < unmet m + true.toNat := by
  refine ⟨h.ro, fun e p q hp hq h1 h2 => ?_, ?_⟩
  · obtain ⟨e1, e2⟩ := h.eq e
    subst e1
    exact e2 p q (.inl hp) hp hq h1 h2
  · cases b
    · rw [(h.eq rfl).1]; simp
    · have := h.lt rfl; simpa using this
theorem MRo.all (h : MRo l m) (hc : ClosedR l m) (hf : flowE l = 0) (q : Nat) : m.getD q false = true ↔ Rch l q := by
  refine ⟨h.2.2 q, fun hr => ?_⟩
  induction hr with
  | refl => exact h.2.1
  | step h1 h2 h3 ih => exact hc _ _ h2 (by have := goes_in hf h2 h3; omega) ih h3
theorem MRo.first (l : List MOp) : MRo l ((List.replicate (l.length + 1) false).set 0 true) := by
  refine ⟨by simp, by rw [set_getD _ _ _ (by simp), if_pos rfl], fun i hi => ?_⟩
  rw [set_getD _ _ _ (by simp)] at hi
  split at hi
  · rename_i e; subst e; exact .refl
  · rw [List.getD_eq_getElem?_getD, List.getElem?_replicate] at hi
    split at hi <;> cases hi
end
end Go.Proofs.Ytejpkcheimgdfaa

-- VT4
/- Verify: the entries are the places that may be come to; plain facts, no program in sight. -/
namespace Go.Proofs.Ytejpkcheimgdfaa

theorem flow_ok {fs : List MFunc} (h : checkP fs = 0) {k : Nat} (hk : k < fs.length) : flowE (fnAt fs k).code = 0 := by
  obtain ⟨_, _, hall⟩ := checkP_zero h
  obtain ⟨_, _, h3, h4, h5, h6, h7⟩ := oneE_all (hall _ (fnAt_mem hk))
  obtain ⟨_, hn⟩ := fn_ok h hk
  unfold flowE
  rw [if_pos h6, if_neg (by omega), if_neg]
  intro ha
  rw [List.any_eq_true] at ha
  obtain ⟨o, ho, hfar⟩ := ha
  have hf := h7 _ ho
  unfold isFar at hfar
  simp only [Bool.and_eq_true, Bool.or_eq_true, decide_eq_true_eq] at hfar
  unfold fitsO at hf
  rw [if_neg (by omega), if_pos (by omega)] at hf
  have := within_iff.1 hf
  omega
theorem entU_mem {s : FSt} {n : Nat} {e : MEntry} (h : e ∈ entU s n) : ∃ k : Nat, k < n ∧ s.met.getD k false = true ∧ e = ⟨k, s.at_.getD k []⟩ := by
  unfold entU at h
  obtain ⟨k, h1, h2⟩ := List.mem_filterMap.1 h
  split at h2
  · rename_i hm
    exact ⟨k, List.mem_range.1 h1, hm, (Option.some.inj h2).symm⟩
  · cases h2
theorem entU_pcs (s : FSt) (n : Nat) : (entU s n).map (·.pc) = (upto n).filter fun a => s.met.getD a.toNat false := by
  induction n with
  | zero => rfl
  | succ n ih =>
    rw [entU_succ, upto_snoc, List.filter_append, ← ih]
    by_cases h : s.met.getD n false = true
    · rw [if_pos h, List.map_append]
      congr 1
      rw [List.filter_cons_of_pos (by simpa using h)]
      rfl
    · rw [if_neg h, List.filter_cons_of_neg (by simpa using h)]
      simp
theorem met_rch {fs : List MFunc} {f : MFunc} (hok : FnOk fs f) (hty : FnTy fs f) (hn : 0 < f.code.length) {s : FSt} (h : entS fs f = some s) (i : Nat) : s.met.getD i false = true ↔ Rch f.code i := by
  obtain ⟨hF, hst, hle⟩ := (entS_least hok hty hn).1 s h
  constructor
  · intro hm
    have hst2 : StM fs f (fun i => @ite _ (Rch f.code i) (Classical.propDecidable _) (MO s i) none) := by
      refine ⟨by rw [if_pos .refl]; exact hst.m0, fun k t ht => ?_⟩
      split at ht
      · rename_i hr
        obtain ⟨h1, h2, v, h3, h4⟩ := hst.ok k t ht
        refine ⟨h1, h2, v, h3, fun q hq => ?_⟩
        obtain ⟨s', h5, h6⟩ := h4 q hq
        have hq0 := hok.to_ k h1 q hq
        have hg := (after_mem _ _ _).1 hq
        refine ⟨s', ?_, h6⟩
        rw [if_pos (.step hr h1 (by rw [show ((q.toNat : Nat) : Int) = q from by omega]; exact hg))]
        exact h5
      · cases ht
    obtain ⟨u, h1, _⟩ := hle _ hst2 i _ (MO_some.2 ⟨hm, rfl⟩)
    split at h1
    · assumption
    · cases h1
  · intro hr
    induction hr with
    | refl => exact (MO_some.1 hst.m0).1
    | @step q r _ h2 h3 ih =>
      obtain ⟨_, _, v, _, h4⟩ := hst.ok q _ (MO_some.2 ⟨ih, rfl⟩)
      obtain ⟨s', h5, _⟩ := h4 (r : Int) ((after_mem _ _ _).2 h3)
      rw [Int.toNat_natCast] at h5
      exact (MO_some.1 h5).1
theorem fits_pcs {fs : List MFunc} {f : MFunc} (hok : FnOk fs f) (hty : FnTy fs f) (hn : 0 < f.code.length) {s : FSt} (h : entS fs f = some s) : (entU s f.code.length).map (·.pc) = reachL f.code := by
  obtain ⟨hF, _, _⟩ := (entS_least hok hty hn).1 s h
  rw [entU_pcs]
  unfold reachL
  refine rising_eq ((upto_sorted _).filter _) ((upto_sorted _).filter _) fun a => ?_
  rw [List.mem_filter, upto_mem, List.mem_filter, upto_mem, rchB_iff, ← met_rch hok hty hn h]
  constructor
  · rintro ⟨h1, h2⟩
    exact ⟨by omega, h2⟩
  · rintro ⟨h1, h2⟩
    have := met_lt hF h2
    exact ⟨by omega, h2⟩
theorem fits_head {fs : List MFunc} {f : MFunc} (hok : FnOk fs f) (hty : FnTy fs f) (hn : 0 < f.code.length) {s : FSt} (h : entS fs f = some s) : ∃ r, entU s f.code.length = ⟨0, []⟩ :: r := by
  obtain ⟨hF, hst, _⟩ := (entS_least hok hty hn).1 s h
  obtain ⟨h1, h2⟩ := MO_some.1 hst.m0
  obtain ⟨n, hn⟩ : ∃ n, f.code.length = n + 1 := ⟨f.code.length - 1, by omega⟩
  unfold entU
  rw [hn, List.range_succ_eq_map, List.filterMap_cons, if_pos h1, h2]
  exact ⟨_, rfl⟩
/-- Each entry: its op has what it takes, and what it leaves stands for what is wanted after it. -/
theorem fits_entry {fs : List MFunc} {f : MFunc} (hok : FnOk fs f) (hty : FnTy fs f) (hn : 0 < f.code.length) {s : FSt} (h : entS fs f = some s) {k : Nat} (hm : s.met.getD k false = true) :
    k < f.code.length ∧ (s.at_.getD k []).length ≤ 8 ∧ ∃ v, tryO fs f (opAt f.code k) (s.at_.getD k []) = some v ∧ ∀ q ∈ afterL (opAt f.code k) k, (0 ≤ q ∧ q < f.code.length) ∧ s.met.getD q.toNat false = true ∧ Le v (s.at_.getD q.toNat []) := by
  obtain ⟨hF, hst, _⟩ := (entS_least hok hty hn).1 s h
  obtain ⟨h1, _, v, h3, h4⟩ := hst.ok k _ (MO_some.2 ⟨hm, rfl⟩)
  refine ⟨h1, hF.st k, v, h3, fun q hq => ?_⟩
  obtain ⟨s', h5, h6⟩ := h4 q hq
  obtain ⟨h7, h8⟩ := MO_some.1 h5
  subst h8
  have h9 := met_lt hF h7
  have := hok.to_ k h1 q hq
  exact ⟨by omega, h7, h6⟩
end Go.Proofs.Ytejpkcheimgdfaa

-- Fl7
/- Flow: what must be in any case; FlowTells, FlowBack. -/
namespace Go.Proofs.Ytejpkcheimgdfaa
open Go.RowKit

def threeL : List MOp := [⟨10, 2⟩, ⟨13, 0⟩, ⟨2, 0⟩]
theorem three_rch (q : Nat) : Rch threeL q ↔ q = 0 ∨ q = 2 ∨ q = 3 := by
  have e0 : Rch threeL 0 := .refl
  have e2 : Rch threeL 2 := .step e0 (by decide) (by decide)
  have e3 : Rch threeL 3 := .step e2 (by decide) (by decide)
  constructor
  · intro h
    induction h with
    | refl => exact .inl rfl
    | @step p r h1 h2 h3 ih =>
      have h2 : p < 3 := h2
      rcases ih with rfl | rfl | rfl
      · have : decide ((r : Int) = 2) = true := h3
        have := of_decide_eq_true this
        omega
      · have : decide ((r : Int) = (2 : Nat) + 1) = true := h3
        have := of_decide_eq_true this
        omega
      · omega
  · rintro (rfl | rfl | rfl)
    · exact e0
    · exact e2
    · exact e3
theorem three_reach : reachR threeL = [0, 2, 3] := by
  have hf : flowE threeL = 0 := by decide
  rw [reachR_of hf]
  refine rising_eq ((upto_sorted _).filter _) (by decide) fun a => ?_
  unfold reachL
  rw [List.mem_filter, upto_mem, rchB_iff, three_rch]
  simp only [List.mem_cons, List.not_mem_nil, or_false]
  have : threeL.length = 3 := rfl
  omega
set_option maxRecDepth 100000 in
set_option maxHeartbeats 1000000 in
theorem flowBegun_any (w : World) : Calls Try.prog 30 #[] w fun e w' => e = .returned (.bool true) ∧ Below w.heap.size w w' := by
  have e1 : nextE loopL 6 = 0 := by decide
  have e2 : nextR loopL 6 = [7, 8] := by decide
  have e3 : flowE threeL = 0 := by decide
  have e4 : backE loopL 1 = 0 := by decide
  have e5 : backR loopL 1 = [0, 7] := by decide
  refine enter Try.func30 rfl Try.ntmps30 rfl ?_
  refine cw_seq ?_
  refine cw_region ?_
  refine rw_run tab_ok 1 [] rfl trivial ?_
  refine rw_end ?_
  refine cw_seq ?_
  refine cw_region ?_
  refine rw_op (ot_c rfl rfl rfl Try.call55 (fun w hw => loop_any w)) rfl rfl (fun gl _ => ?_)
  refine rw_op (ot_c rfl rfl rfl Try.call33 (fun w hw => next_any (some ⟨gl, 0, none⟩) 10 loopL 6 w (SF.at_ (SF.own rfl fc) hw))) rfl rfl (fun ⟨A1, c1⟩ _ => ?_)
  try dsimp only
  refine rw_run tab_ok 5 [(1, _), (2, _)] rfl ⟨rfl, rfl, trivial⟩ ?_
  refine rw_end ?_
  refine cw_seq ?_
  refine cw_region ?_
  refine rw_s (qs_bst (cs := [_, _]) plT61 Try.zeroValue61 rfl rfl (by rfl)) rfl rfl ?_
  refine rw_s (qs_bst (cs := [_, _]) plT61 Try.zeroValue61 rfl rfl (by rfl)) rfl rfl ?_
  refine rw_s (qs_bst (cs := [_, _]) plT61 Try.zeroValue61 rfl rfl (by rfl)) rfl rfl ?_
  refine rw_op (ot_bsl (cs := [_, _, _, _, _, _]) Try.underlying52 Try.sizeOf61 Try.zeroValue61 rfl rfl rfl rfl rfl) rfl rfl (fun g1 _ => ?_)
  refine rw_mem (fun w h => row_ow (α := MOp) (m := 3) threeL rfl (i64s_of _ (by decide)) rfl (by decide) h) ?_
  refine rw_op (ot_c rfl rfl rfl Try.call31 (fun w hw => reach_any _ 3 threeL w (SF.at_ (SF.own rfl fc) hw))) rfl rfl (fun ⟨A2, c2⟩ _ => ?_)
  try dsimp only
  refine rw_run tab_ok 5 [(1, _), (2, _), (3, _), (4, _)] rfl ⟨rfl, rfl, rfl, rfl, trivial⟩ ?_
  refine rw_end ?_
  refine cw_seq ?_
  refine cw_region ?_
  refine rw_op (ot_c rfl rfl rfl Try.call55 (fun w hw => loop_any w)) rfl rfl (fun gl2 _ => ?_)
  refine rw_op (ot_c rfl rfl rfl Try.call56 (fun w hw => back_any (some ⟨gl2, 0, none⟩) 10 loopL 1 w (SF.at_ (SF.own rfl fc) hw))) rfl rfl (fun ⟨A3, c3⟩ _ => ?_)
  try dsimp only
  refine rw_run tab_ok 5 [(1, _), (2, _), (3, _), (4, _), (5, _), (6, _)] rfl ⟨rfl, rfl, rfl, rfl, rfl, rfl, trivial⟩ ?_
  refine rw_end ?_
  refine cw_seq ?_
  refine cw_region ?_
  refine rw_run tab_ok 3 [(1, _), (3, _), (4, _), (5, _), (6, _), (27, _)] rfl ⟨rfl, rfl, rfl, rfl, rfl, rfl, trivial⟩ ?_
  refine rw_as (t := 27) (v' := .bool true) rfl (by rw [e1]; rfl) ?_
  refine rw_run tab_ok 4 [(1, _), (3, _), (5, _), (6, _), (31, _)] rfl ⟨rfl, rfl, rfl, rfl, rfl, trivial⟩ ?_
  refine rw_as (t := 31) (v' := .bool true) rfl (by rw [e3]; rfl) ?_
  refine rw_run tab_ok 4 [(1, _), (3, _), (5, _), (35, _)] rfl ⟨rfl, rfl, rfl, rfl, trivial⟩ ?_
  refine rw_as (t := 35) (v' := .bool true) rfl (by rw [e4]; rfl) ?_
  refine rw_run tab_ok 1 [(3, _), (5, _), (35, _), (36, _)] rfl ⟨rfl, rfl, rfl, rfl, trivial⟩ ?_
  refine rw_op (ot_bsl (cs := [_, _]) Try.underlying35 Try.sizeOf3 Try.zeroValue3 rfl rfl rfl rfl rfl) rfl rfl (fun g2 _ => ?_)
  refine rw_mem (fun w h => row_ow (α := Int) (m := 2) [7, 8] rfl (two_i64 (by decide) (by decide)) rfl (by decide) h) ?_
  refine rw_op (ot_c0 rfl rfl rfl Try.call28 (fun w hw => sameInts_w _ _ _ _ (nextR loopL 6) [7, 8] w (SF.at_ (SF.own rfl fc) hw) (SF.at_ (SF.own rfl fc) hw))) rfl rfl (fun _ _ => ?_)
  refine rw_run tab_ok 2 [(3, _), (5, _), (40, _)] rfl ⟨rfl, rfl, rfl, trivial⟩ ?_
  refine rw_as (t := 40) (v' := .bool true) rfl (by rw [e2]; rfl) ?_
  refine rw_run tab_ok 1 [(5, _), (40, _), (41, _)] rfl ⟨rfl, rfl, rfl, trivial⟩ ?_
  refine rw_op (ot_bsl (cs := [_, _, _]) Try.underlying35 Try.sizeOf3 Try.zeroValue3 rfl rfl rfl rfl rfl) rfl rfl (fun g3 _ => ?_)
  refine rw_mem (fun w h => row_ow (α := Int) (m := 3) [0, 2, 3] rfl (by intro x hx; simp at hx; show I64 x; unfold I64; omega) rfl (by decide) h) ?_
  refine rw_op (ot_c0 rfl rfl rfl Try.call28 (fun w hw => sameInts_w _ _ _ _ (reachR threeL) [0, 2, 3] w (SF.at_ (SF.own rfl fc) hw) (SF.at_ (SF.own rfl fc) hw))) rfl rfl (fun _ _ => ?_)
  refine rw_run tab_ok 2 [(5, _), (45, _)] rfl ⟨rfl, rfl, trivial⟩ ?_
  refine rw_as (t := 45) (v' := .bool true) rfl (by rw [three_reach]; rfl) ?_
  refine rw_run tab_ok 1 [(45, _), (46, _)] rfl ⟨rfl, rfl, trivial⟩ ?_
  refine rw_op (ot_bsl (cs := [_, _]) Try.underlying35 Try.sizeOf3 Try.zeroValue3 rfl rfl rfl rfl rfl) rfl rfl (fun g4 _ => ?_)
  refine rw_mem (fun w h => row_ow (α := Int) (m := 2) [0, 7] rfl (two_i64 (by decide) (by decide)) rfl (by decide) h) ?_
  refine rw_op (ot_c0 rfl rfl rfl Try.call28 (fun w hw => sameInts_w _ _ _ _ (backR loopL 1) [0, 7] w (SF.at_ (SF.own rfl fc) hw) (SF.at_ (SF.own rfl fc) hw))) rfl rfl (fun _ _ => ?_)
  refine rw_run tab_ok 2 [(0, _)] rfl ⟨rfl, trivial⟩ ?_
  refine rw_end ?_
  refine cw_ret ?_
  refine xw_ret1 Try.results30 (rv_tmp rfl) ?_
  intro w hw
  exact ⟨ret_bool (by rw [e5]; rfl), hw.below⟩
set_option maxRecDepth 100000 in
theorem intsAre_any (A1 A2 : Option Addr) (c1 c2 : Nat) (xs ys : List Int) (a : Int) (w : World) (h1 : Sl w (.slice A1 xs.length c1) xs) (h2 : Sl w (.slice A2 ys.length c2) ys) (he : xs = ys) (hz : a ≠ 0 → xs = []) :
    Calls Try.prog 27 #[.slice A1 xs.length c1, .int .i64 a, .int .i64 a, .slice A2 ys.length c2] w fun e w' => e = .returned (.bool true) ∧ Below w.heap.size w w' := by
  refine enter Try.func27 rfl Try.ntmps27 rfl ?_
  refine cw_seq ?_
  refine cw_region ?_
  refine rw_run tab_ok 1 [(0, _), (1, _), (2, _), (3, _)] rfl ⟨rfl, rfl, rfl, rfl, trivial⟩ ?_
  refine rw_end ?_
  refine cw_seq ?_
  refine cw_seq ?_
  refine cw_region ?_
  refine rw_run tab_ok 2 [(0, _), (1, _), (2, _), (3, _), (10, _)] rfl ⟨rfl, rfl, rfl, rfl, rfl, trivial⟩ ?_
  refine rw_end ?_
  refine cw_condN rfl (fun h => ?_) (fun h => ?_)
  · refine cw_region ?_
    refine rw_run tab_ok 1 [(0, _), (1, _), (2, _), (3, _)] rfl ⟨rfl, rfl, rfl, rfl, trivial⟩ ?_
    refine rw_end ?_
    refine cw_seq ?_
    refine cw_region ?_
    refine rw_run tab_ok 4 [(0, _), (3, _), (14, _)] rfl ⟨rfl, rfl, rfl, trivial⟩ ?_
    refine rw_as (t := 14) (v' := .bool true) rfl (by rw [decide_eq_true (by rfl)]) ?_
    refine rw_run tab_ok 2 [(14, _), (15, _), (16, _)] rfl ⟨rfl, rfl, rfl, trivial⟩ ?_
    refine rw_op (ot_c0 rfl rfl rfl Try.call28 (fun w hw => sameInts_w _ none _ 0 xs [] w (hw.ro h1) Sl.nil_)) rfl rfl (fun _ _ => ?_)
    refine rw_run tab_ok 2 [(8, _)] rfl ⟨rfl, trivial⟩ ?_
    refine rw_end ?_
    refine cw_ret ?_
    refine xw_ret1 Try.results27 (rv_tmp rfl) ?_
    intro w hw
    exact ⟨ret_bool (by rw [hz h]; rfl), hw.below⟩
  · refine cw_skip (xw_then ?_)
    refine cw_seq ?_
    refine cw_region ?_
    refine rw_run tab_ok 4 [(0, _), (3, _), (14, _)] rfl ⟨rfl, rfl, rfl, trivial⟩ ?_
    refine rw_as (t := 14) (v' := .bool true) rfl (by rw [decide_eq_true (by rfl)]) ?_
    refine rw_run tab_ok 2 [(14, _), (15, _), (16, _)] rfl ⟨rfl, rfl, rfl, trivial⟩ ?_
    refine rw_op (ot_c0 rfl rfl rfl Try.call28 (fun w hw => sameInts_w _ _ _ _ xs ys w (hw.ro h1) (hw.ro h2))) rfl rfl (fun _ _ => ?_)
    refine rw_run tab_ok 2 [(8, _)] rfl ⟨rfl, trivial⟩ ?_
    refine rw_end ?_
    refine cw_ret ?_
    refine xw_ret1 Try.results27 (rv_tmp rfl) ?_
    intro w hw
    exact ⟨ret_bool (decide_eq_true he), hw.below⟩
end Go.Proofs.Ytejpkcheimgdfaa

-- V21
/- Verify: its law Fits. -/
namespace Go.Proofs.Ytejpkcheimgdfaa
open Go.RowKit

theorem funcS_ok {fs : List MFunc} {z : Int} {l : List MEntry} (h : funcS fs z = (l, 0)) : checkP fs = 0 ∧ 0 ≤ z ∧ z < (fs.length : Int) ∧ ∃ s, entS fs (fnAt fs z.toNat) = some s ∧ l = entU s (fnAt fs z.toNat).code.length := by
  unfold funcS at h
  by_cases h0 : checkP fs = 0
  · rw [if_neg (by simpa using h0)] at h
    by_cases h1 : z < 0 ∨ (fs.length : Int) ≤ z
    · rw [if_pos h1] at h; cases h
    · rw [if_neg h1] at h
      refine ⟨h0, by omega, by omega, ?_⟩
      cases e : entS fs (fnAt fs z.toNat) with
      | none =>
        have : entriesS fs (fnAt fs z.toNat) = ([], false) := by unfold entriesS; rw [e]
        rw [this] at h
        cases h
      | some s =>
        have : entriesS fs (fnAt fs z.toNat) = (entU s (fnAt fs z.toNat).code.length, true) := by unfold entriesS; rw [e]
        rw [this, if_pos rfl] at h
        exact ⟨s, rfl, (Prod.mk.inj h).1.symm⟩
  · rw [if_pos h0] at h
    exact absurd (Prod.mk.inj h).2 h0
theorem funcS_bad {fs : List MFunc} {z : Int} {l : List MEntry} {u : Int} (h : funcS fs z = (l, u)) (hu : u ≠ 0) : l = [] := by
  unfold funcS at h
  repeat (first | (obtain ⟨h1, h2⟩ := Prod.mk.inj h; first | exact h1.symm | exact absurd h2.symm hu) | split at h)
def nilE : HEnt := ⟨0, .slice none 0 0⟩
theorem RelE.at2 {es : List HEnt} {L : List (Value × List Int)} {xs : List MEntry} (h : RelE es L xs) {i : Nat} (hi : i < es.length) : ∃ x ∈ xs, xs[i]? = some x ∧ (es.getD i nilE).pc = x.pc ∧ InP L (es.getD i nilE).v x.stack := by
  have hl := h.len
  obtain ⟨h1, h2⟩ := h.el i hi (by omega)
  refine ⟨xs[i], List.getElem_mem _, List.getElem?_eq_getElem _, ?_, ?_⟩
  · rw [List.getD_eq_getElem?_getD, List.getElem?_eq_getElem hi]; exact h1
  · rw [List.getD_eq_getElem?_getD, List.getElem?_eq_getElem hi]; exact h2
set_option maxRecDepth 100000 in
set_option maxHeartbeats 4000000 in
theorem verifyFits_any (A : Option Addr) (c : Nat) (fs : List MFunc) (z : Int) (w : World) (hs : Sl w (.slice A fs.length c) fs) :
    Calls Try.prog 7 #[.agg #[.slice A fs.length c], .int .i64 z] w fun e w' => e = .returned (.bool true) ∧ Below w.heap.size w w' := by
  have b1 := len_bd hs
  obtain ⟨⟨FL, FU⟩, hF⟩ : ∃ F, funcS fs z = F := ⟨_, rfl⟩
  have hvf : ∀ w1, Sl w1 (.slice A fs.length c) fs → Calls Try.prog 18 #[.agg #[.slice A fs.length c], .int .i64 z] w1 fun e w' => ∃ g : (Option Addr × Nat) × List HEnt × List (Value × List Int), RelE g.2.1 g.2.2 FL ∧ e = .returned (.tuple #[.slice g.1.1 g.2.1.length g.1.2, .int .i64 FU]) ∧
      Cw w1.heap.size w1 [ROw (.slice g.1.1 g.2.1.length g.1.2) g.2.1, RPool g.2.2] w' := fun w1 h => by
    have := vfunc_own A c fs z w1 h
    rw [hF] at this
    exact this
  refine enter Try.func7 rfl Try.ntmps7 rfl ?_
  refine cw_seq ?_
  refine cw_region ?_
  refine rw_op (ot_box rfl rfl rfl) rfl rfl (fun g1 _ => ?_)
  refine rw_run tab_ok 1 [(1, _), (2, _)] rfl ⟨rfl, rfl, trivial⟩ ?_
  refine rw_end ?_
  refine cw_seq ?_
  refine cw_region ?_
  refine rw_s (qs_ldbA (vs := [_]) fc Try.isAgg24 Try.sizeOf24 rfl rfl (by rfl) rfl) rfl rfl ?_
  refine rw_run tab_ok 1 [(1, _), (2, _), (20, _), (21, _)] rfl ⟨rfl, rfl, rfl, rfl, trivial⟩ ?_
  refine rw_op (ot_c rfl rfl rfl Try.call18 (fun w hw => hvf w (hw.ro hs))) rfl rfl (fun ⟨⟨A5, c5⟩, es, L⟩ hre => ?_)
  try dsimp only
  refine rw_run tab_ok 5 [(1, _), (2, _), (5, _), (6, _)] rfl ⟨rfl, rfl, rfl, rfl, trivial⟩ ?_
  refine rw_end ?_
  refine cw_seq ?_
  refine cw_seq ?_
  refine cw_region ?_
  have hre : RelE es L FL := hre
  have hlen := hre.len
  refine rw_op (ot_c0 rfl rfl rfl Try.call23 (fun w hw => verifyBegun_any w)) rfl rfl (fun _ _ => ?_)
  refine rw_run tab_ok 2 [(1, _), (2, _), (5, _), (6, _), (27, _)] rfl ⟨rfl, rfl, rfl, rfl, rfl, trivial⟩ ?_
  refine rw_op (ot_c0 rfl rfl rfl Try.call30 (fun w hw => flowBegun_any w)) rfl rfl (fun _ _ => ?_)
  refine rw_run tab_ok 2 [(1, _), (2, _), (5, _), (6, _), (30, _)] rfl ⟨rfl, rfl, rfl, rfl, rfl, trivial⟩ ?_
  refine rw_end ?_
  refine cw_cond_f rfl ?_
  refine cw_skip (xw_then ?_)
  refine cw_seq ?_
  refine cw_seq ?_
  refine cw_region ?_
  refine rw_run tab_ok 2 [(1, _), (2, _), (5, _), (32, _)] rfl ⟨rfl, rfl, rfl, rfl, trivial⟩ ?_
  refine rw_end ?_
  refine cw_condN rfl (fun he => ?_) (fun he => ?_)
  · have hFL := funcS_bad hF he
    refine cw_seq ?_
    refine cw_region ?_
    refine rw_run tab_ok 1 [(33, _)] rfl ⟨rfl, trivial⟩ ?_
    refine rw_s (qs_len Try.underlying36 rfl rfl) rfl rfl ?_
    refine rw_run tab_ok 2 [(4, _)] rfl ⟨rfl, trivial⟩ ?_
    refine rw_end ?_
    refine cw_ret (xw_thenr ?_)
    refine xw_ret1 Try.results7 (rv_tmp rfl) ?_
    intro w hw
    exact ⟨ret_bool (by rw [hlen, hFL]; rfl), hw.below⟩
  · obtain rfl : FU = 0 := by simpa using he
    obtain ⟨hc0, hz0, hzl, s, hent, hFL⟩ := funcS_ok hF
    obtain ⟨k, hk⟩ : ∃ k : Nat, z = (k : Int) := ⟨z.toNat, by omega⟩
    subst hk
    rw [Int.toNat_natCast] at hent hFL
    have hkl : k < fs.length := by omega
    obtain ⟨hok, hn0⟩ := fn_ok hc0 hkl
    have hty := fn_ty hc0 hkl
    have hfl := flow_ok hc0 hkl
    obtain ⟨A1, c1, A2, c2, hl, hc, hi, hcell⟩ := hs.fn hkl
    have hrf := (hty.res k hkl).1
    have hres : ∀ j, j < fs.length → 0 ≤ (fnAt fs j).result := fun j hj => (hty.res j hj).1
    generalize fnAt fs k = f at hl hc hi hcell hok hty hn0 hrf hent hFL hfl ⊢
    have hn40 := hok.n40
    have hpcs := fits_pcs hok hty hn0 hent
    obtain ⟨r, hhd⟩ := fits_head hok hty hn0 hent
    obtain ⟨hFk, _, _⟩ := (entS_least hok hty hn0).1 s hent
    have hmem : ∀ e ∈ FL, ∃ j : Nat, j < f.code.length ∧ s.met.getD j false = true ∧ e = ⟨j, s.at_.getD j []⟩ := fun e h => entU_mem (by rw [← hFL]; exact h)
    have hment := fun j => fits_entry hok hty hn0 hent (k := j)
    have hbk : ∀ j : Nat, s.met.getD j false = true → (j : Int) ∈ FL.map (·.pc) := fun j h => by
      have := met_lt hFk h
      rw [hFL, entU_pcs, List.mem_filter, upto_mem]
      exact ⟨by omega, by simpa using h⟩
    rw [← hFL] at hpcs hhd
    have hful := entU_len s f.code.length
    rw [← hFL] at hful
    have hrch : ∀ w1, Sl w1 (.slice A2 f.code.length c2) f.code → Calls Try.prog 31 #[.slice A2 f.code.length c2] w1 fun e w' => ∃ g : Option Addr × Nat, True ∧ e = .returned (.tuple #[.slice g.1 (FL.map (·.pc)).length g.2, .int .i64 0]) ∧ Cw w1.heap.size w1 [ROw (.slice g.1 (FL.map (·.pc)).length g.2) (FL.map (·.pc))] w' := fun w1 h => by
      have := reach_any A2 c2 f.code w1 h
      rw [reachR_of hfl, ← hpcs, hfl] at this
      exact this
    obtain ⟨R, hRe⟩ : ∃ R, FL.map (·.pc) = R := ⟨_, rfl⟩
    have hRl : R.length = FL.length := by rw [← hRe, List.length_map]
    rw [hRe] at hrch
    refine cw_skip (xw_then ?_)
    refine cw_seq ?_
    refine cw_region ?_
    refine rw_run tab_ok 1 [(1, _), (2, _), (5, _), (36, _)] rfl ⟨rfl, rfl, rfl, rfl, trivial⟩ ?_
    refine rw_s (qs_ldb fc Try.isAgg22 rfl rfl (by rfl)) rfl rfl ?_
    refine rw_run tab_ok 1 [(1, _), (2, _), (5, _), (37, _), (38, _)] rfl ⟨rfl, rfl, rfl, rfl, rfl, trivial⟩ ?_
    refine rw_s (qs_idx (k := k) Try.underlying22 Try.sizeOf54 (.ro hs) (by omega) rfl rfl rfl) rfl rfl ?_
    refine rw_run tab_ok 1 [(1, _), (2, _), (5, _), (40, _)] rfl ⟨rfl, rfl, rfl, rfl, trivial⟩ ?_
    refine rw_s (qs_ld (fun w hw => hcell _ w hw 3 _ rfl) rfl rfl Try.isAgg52) rfl rfl ?_
    refine rw_run tab_ok 1 [(1, _), (2, _), (5, _), (7, _)] rfl ⟨rfl, rfl, rfl, rfl, trivial⟩ ?_
    refine rw_end ?_
    refine cw_seq ?_
    refine cw_region ?_
    refine rw_run tab_ok 1 [(1, _), (2, _), (5, _), (7, _), (43, _)] rfl ⟨rfl, rfl, rfl, rfl, rfl, trivial⟩ ?_
    refine rw_op (ot_c rfl rfl rfl Try.call31 (fun w hw => hrch w (hw.ro hc))) rfl rfl (fun ⟨A6, c6⟩ _ => ?_)
    try dsimp only
    refine rw_run tab_ok 5 [(1, _), (2, _), (5, _), (6, _), (7, _), (8, _)] rfl ⟨rfl, rfl, rfl, rfl, rfl, rfl, trivial⟩ ?_
    refine rw_end ?_
    refine cw_seq ?_
    refine cw_seq ?_
    refine cw_region ?_
    refine rw_run tab_ok 3 [(1, _), (2, _), (5, _), (7, _), (8, _), (49, _)] rfl ⟨rfl, rfl, rfl, rfl, rfl, rfl, trivial⟩ ?_
    refine rw_as (t := 49) (v' := .bool false) rfl (rfl) ?_
    refine rw_run tab_ok 1 [(1, _), (2, _), (5, _), (7, _), (8, _), (49, _), (50, _)] rfl ⟨rfl, rfl, rfl, rfl, rfl, rfl, rfl, trivial⟩ ?_
    refine rw_s (qs_len Try.underlying35 rfl rfl) rfl rfl ?_
    refine rw_run tab_ok 1 [(1, _), (2, _), (5, _), (7, _), (8, _), (49, _), (51, _), (52, _)] rfl ⟨rfl, rfl, rfl, rfl, rfl, rfl, rfl, rfl, trivial⟩ ?_
    refine rw_s (qs_len Try.underlying36 rfl rfl) rfl rfl ?_
    refine rw_run tab_ok 3 [(1, _), (2, _), (5, _), (7, _), (8, _), (56, _)] rfl ⟨rfl, rfl, rfl, rfl, rfl, rfl, trivial⟩ ?_
    refine rw_as (t := 56) (v' := .bool false) rfl (by rw [show R.length = es.length from by omega]; simp) ?_
    refine rw_run tab_ok 1 [(1, _), (2, _), (5, _), (7, _), (8, _), (56, _), (57, _)] rfl ⟨rfl, rfl, rfl, rfl, rfl, rfl, rfl, trivial⟩ ?_
    have hFl0 : 0 < FL.length := by rw [hhd]; simp
    have hel0 : 0 < es.length := by omega
    obtain ⟨x0, hx0m, hx0, hp0, hin0⟩ := hre.at2 hel0
    obtain rfl : x0 = ⟨0, []⟩ := by rw [hhd] at hx0; exact (Option.some.inj hx0).symm
    refine rw_fact (fun w h => hin0.form h fc) ?_
    rintro ⟨A7, c7, hv0⟩
    refine rw_s (qs_idx (k := 0) Try.underlying36 Try.sizeOf57 (SF.own rfl fc) (by omega) rfl rfl rfl) rfl rfl ?_
    refine rw_run tab_ok 1 [(1, _), (2, _), (5, _), (7, _), (8, _), (56, _), (59, _)] rfl ⟨rfl, rfl, rfl, rfl, rfl, rfl, rfl, trivial⟩ ?_
    refine rw_s (qs_ld (v := .slice A7 ([] : List Int).length c7) (by rw [← hv0]; exact SF.cell (SF.own rfl fc) hel0 nilE (j := 1) rfl) rfl rfl Try.isAgg35) rfl rfl ?_
    refine rw_s (qs_len Try.underlying35 rfl rfl) rfl rfl ?_
    refine rw_run tab_ok 2 [(1, _), (2, _), (5, _), (7, _), (8, _), (63, _)] rfl ⟨rfl, rfl, rfl, rfl, rfl, rfl, trivial⟩ ?_
    refine rw_end ?_
    refine cw_as (t := 63) (v' := .bool false) rfl (by simp) ?_
    refine cw_cond_f rfl ?_
    refine cw_skip (xw_then ?_)
    refine cw_seq ?_
    refine cw_region ?_
    refine rw_run tab_ok 1 [(1, _), (2, _), (5, _), (7, _), (8, _), (64, _)] rfl ⟨rfl, rfl, rfl, rfl, rfl, rfl, trivial⟩ ?_
    refine rw_s (qs_len Try.underlying52 rfl rfl) rfl rfl ?_
    refine rw_op (ot_make (α := Hdr) nilH Try.underlying58 Try.inInts rfl (fun w => ⟨⟨rfl, rfl⟩, fun _ h => h⟩) rfl (by omega) rfl rfl rfl) rfl rfl (fun ga _ => ?_)
    refine rw_run tab_ok 1 [(1, _), (2, _), (5, _), (7, _), (8, _), (9, _)] rfl ⟨rfl, rfl, rfl, rfl, rfl, rfl, trivial⟩ ?_
    refine rw_end ?_
    refine cw_seq ?_
    refine cw_seq ?_
    refine cw_region ?_
    refine rw_run tab_ok 1 [(1, _), (2, _), (5, _), (7, _), (8, _), (9, _), (10, _)] rfl ⟨rfl, rfl, rfl, rfl, rfl, rfl, rfl, trivial⟩ ?_
    refine rw_end ?_
    have hRat : ∀ i x, FL[i]? = some x → R.getD i 0 = x.pc := fun i x h => by
      rw [← hRe, List.getD_eq_getElem?_getD, List.getElem?_map, h]
      rfl
    have hRi : ∀ x ∈ R, I64 x := fun x hx => by
      rw [← hRe] at hx
      obtain ⟨e, he, rfl⟩ := List.mem_map.1 hx
      obtain ⟨j, hj, _, rfl⟩ := hmem e he
      exact ⟨by show _ ≤ (j : Int); omega, by show (j : Int) ≤ _; omega⟩
    refine cw_cutk (fun hd : List Hdr => hd.length = f.code.length ∧ ∀ j : Nat, s.met.getD j false = true → InP L (hd.getD j nilH).v (s.at_.getD j [])) (fun _ => [(1, .int .i64 (k : Int)), (2, .pointer (some ⟨g1, 0, none⟩)), (5, .slice A5 es.length c5), (7, .slice A2 f.code.length c2), (9, .slice (some ⟨ga, 0, none⟩) f.code.length f.code.length)]) (fun hd => [RBox g1 [.slice A fs.length c] 24, ROw (.slice A5 es.length c5) es, RPool L, ROw (.slice (some ⟨ga, 0, none⟩) f.code.length f.code.length) hd]) ?_ ?_
    · refine cw_block (cw_loop (fun g : Nat × List Hdr => (g.1 ≤ es.length ∧ g.2.length = f.code.length) ∧ ∀ j : Nat, (j : Int) ∈ R.take g.1 → InP L (g.2.getD j nilH).v (s.at_.getD j [])) (fun g => es.length - g.1) (fun g => [(1, .int .i64 (k : Int)), (2, .pointer (some ⟨g1, 0, none⟩)), (5, .slice A5 es.length c5), (7, .slice A2 f.code.length c2), (8, .slice A6 R.length c6), (9, .slice (some ⟨ga, 0, none⟩) f.code.length f.code.length), (10, .int .i64 (g.1 : Int))]) (fun g => [RBox g1 [.slice A fs.length c] 24, ROw (.slice A5 es.length c5) es, RPool L, ROw (.slice A6 R.length c6) R, ROw (.slice (some ⟨ga, 0, none⟩) f.code.length f.code.length) g.2]) (0, List.replicate f.code.length nilH) (⟨⟨Nat.zero_le _, by simp⟩, fun j h => by simp at h⟩) ⟨rfl, rfl, rfl, rfl, rfl, rfl, rfl, trivial⟩ (fun _ h => h.msub ms) ?_)
      rintro ⟨i, hd⟩ hj
      try dsimp only
      obtain ⟨⟨hi0, hdl⟩, hin⟩ : (i ≤ es.length ∧ hd.length = f.code.length) ∧ ∀ j : Nat, (j : Int) ∈ R.take i → InP L (hd.getD j nilH).v (s.at_.getD j []) := hj
      refine cw_seq ?_
      refine cw_seq ?_
      refine cw_region ?_
      refine rw_run tab_ok 2 [(1, _), (2, _), (5, _), (7, _), (8, _), (9, _), (10, _), (67, _), (68, _)] rfl ⟨rfl, rfl, rfl, rfl, rfl, rfl, rfl, rfl, rfl, trivial⟩ ?_
      refine rw_s (qs_len Try.underlying36 rfl rfl) rfl rfl ?_
      refine rw_run tab_ok 1 [(1, _), (2, _), (5, _), (7, _), (8, _), (9, _), (10, _), (70, _)] rfl ⟨rfl, rfl, rfl, rfl, rfl, rfl, rfl, rfl, trivial⟩ ?_
      refine rw_end ?_
      refine cw_condD rfl (fun hlt => ?_) (fun hlt => ?_)
      · have hil : i < es.length := by omega
        obtain ⟨x, hxm, hx, hpx, hinx⟩ := hre.at2 hil
        obtain ⟨j, hjn, hjm, rfl⟩ := hmem x hxm
        have hRx := hRat i _ hx
        have hinx : InP L (es.getD i nilE).v (s.at_.getD j []) := hinx
        refine cw_fact (fun w h => hinx.form h fc) ?_
        rintro ⟨A8, c8, hv8⟩
        have hpj : (es.getD i nilE).pc = (j : Int) := hpx
        have hRx : R.getD i 0 = (j : Int) := hRx
        refine cw_skip (xw_then ?_)
        refine cw_seq ?_
        refine cw_block ?_
        refine cw_seq ?_
        refine cw_seq ?_
        refine cw_draw (.still 0 (.still 1 (.still 2 (.still 3 (.still 4 (.still 5 (.still 6 (.still 7 (.still 8 (.still 9 (.still 10 (.still 11 (.still 12 (.still 13 (.still 14 (.still 15 (.still 16 (.still 17 (.still 18 (.still 19 .done)))))))))))))))))))) [] rfl (by kernel_rfl) (by kernel_rfl) ?_
        refine ro_run tab_ok ha 2 [(1, _), (2, _), (5, _), (7, _), (8, _), (9, _), (10, _), (73, _), (74, _)] rfl ⟨rfl, rfl, rfl, rfl, rfl, rfl, rfl, rfl, rfl, trivial⟩ ?_
        refine ro_s2 rfl (qs_idx Try.underlying36 Try.sizeOf57 (SF.own rfl fc) (by omega) rfl rfl rfl) rfl rfl ha ?_
        refine ro_run tab_ok ha 1 [(1, _), (2, _), (5, _), (7, _), (8, _), (9, _), (10, _), (76, _)] rfl ⟨rfl, rfl, rfl, rfl, rfl, rfl, rfl, rfl, trivial⟩ ?_
        refine ro_s2 rfl (qs_ld (v := .int .i64 (j : Int)) (by rw [← hpj]; exact SF.cell (SF.own rfl fc) hil nilE (j := 0) rfl) rfl rfl Try.isAgg3) rfl rfl ha ?_
        refine ro_run tab_ok ha 2 [(1, _), (2, _), (5, _), (7, _), (8, _), (9, _), (10, _), (77, _), (78, _), (79, _)] rfl ⟨rfl, rfl, rfl, rfl, rfl, rfl, rfl, rfl, rfl, rfl, trivial⟩ ?_
        refine ro_s2 rfl (qs_idx Try.underlying35 Try.sizeOf3 (SF.own rfl fc) (by omega) rfl rfl rfl) rfl rfl ha ?_
        refine ro_s2 rfl (qs_ld (SF.int (SF.own rfl fc) (by omega)) rfl rfl Try.isAgg3) rfl rfl ha ?_
        refine ro_run tab_ok ha 2 [(1, _), (2, _), (5, _), (7, _), (8, _), (9, _), (10, _), (83, _)] rfl ⟨rfl, rfl, rfl, rfl, rfl, rfl, rfl, rfl, trivial⟩ ?_
        refine ro_as (t := 83) (v' := .bool false) rfl (by rw [hRx]; simp) ?_
        refine ro_run tab_ok ha 2 [(1, _), (2, _), (5, _), (7, _), (8, _), (9, _), (10, _), (83, _), (84, _), (85, _)] rfl ⟨rfl, rfl, rfl, rfl, rfl, rfl, rfl, rfl, rfl, rfl, trivial⟩ ?_
        refine ro_s2 rfl (qs_idx Try.underlying36 Try.sizeOf57 (SF.own rfl fc) (by omega) rfl rfl rfl) rfl rfl ha ?_
        refine ro_run tab_ok ha 1 [(1, _), (2, _), (5, _), (7, _), (8, _), (9, _), (10, _), (83, _), (87, _)] rfl ⟨rfl, rfl, rfl, rfl, rfl, rfl, rfl, rfl, rfl, trivial⟩ ?_
        refine ro_s2 rfl (qs_ld (v := .int .i64 (j : Int)) (by rw [← hpj]; exact SF.cell (SF.own rfl fc) hil nilE (j := 0) rfl) rfl rfl Try.isAgg3) rfl rfl ha ?_
        refine ro_run tab_ok ha 1 [(1, _), (2, _), (5, _), (7, _), (8, _), (9, _), (10, _), (83, _), (88, _), (89, _)] rfl ⟨rfl, rfl, rfl, rfl, rfl, rfl, rfl, rfl, rfl, rfl, trivial⟩ ?_
        refine ro_s2 rfl (qs_len Try.underlying52 rfl rfl) rfl rfl ha ?_
        refine ro_run tab_ok ha 2 [(1, _), (2, _), (5, _), (7, _), (8, _), (9, _), (10, _), (92, _)] rfl ⟨rfl, rfl, rfl, rfl, rfl, rfl, rfl, rfl, trivial⟩ ?_
        refine ro_end ?_
        refine cw_condD rfl (fun hjn2 => ?_) (fun hjn2 => ?_)
        · omega
        · refine cw_skip (xw_then ?_)
          refine cw_draw (.still 0 (.still 1 (.still 2 (.still 3 (.still 4 (.still 5 (.still 6 (.still 7 (.still 8 (.still 9 (.still 10 (.still 11 (.pick 12 .done .stop))))))))))))) [12] rfl (by kernel_rfl) (by kernel_rfl) ?_
          refine ro_run tab_ok ha 3 [(1, _), (2, _), (5, _), (7, _), (8, _), (9, _), (10, _), (93, _), (94, _), (95, _)] rfl ⟨rfl, rfl, rfl, rfl, rfl, rfl, rfl, rfl, rfl, rfl, trivial⟩ ?_
          refine ro_s2 rfl (qs_idx Try.underlying36 Try.sizeOf57 (SF.own rfl fc) (by omega) rfl rfl rfl) rfl rfl ha ?_
          refine ro_run tab_ok ha 1 [(1, _), (2, _), (5, _), (7, _), (8, _), (9, _), (10, _), (93, _), (97, _)] rfl ⟨rfl, rfl, rfl, rfl, rfl, rfl, rfl, rfl, rfl, trivial⟩ ?_
          refine ro_s2 rfl (qs_ld (v := .int .i64 (j : Int)) (by rw [← hpj]; exact SF.cell (SF.own rfl fc) hil nilE (j := 0) rfl) rfl rfl Try.isAgg3) rfl rfl ha ?_
          refine ro_run tab_ok ha 2 [(1, _), (2, _), (5, _), (7, _), (8, _), (9, _), (10, _), (93, _), (98, _), (99, _), (100, _)] rfl ⟨rfl, rfl, rfl, rfl, rfl, rfl, rfl, rfl, rfl, rfl, rfl, trivial⟩ ?_
          refine ro_s2 rfl (qs_idx Try.underlying36 Try.sizeOf57 (SF.own rfl fc) (by omega) rfl rfl rfl) rfl rfl ha ?_
          refine ro_run tab_ok ha 1 [(1, _), (2, _), (5, _), (7, _), (8, _), (9, _), (10, _), (93, _), (98, _), (102, _)] rfl ⟨rfl, rfl, rfl, rfl, rfl, rfl, rfl, rfl, rfl, rfl, trivial⟩ ?_
          refine ro_s2 rfl (qs_ld (v := .slice A8 (s.at_.getD j []).length c8) (by rw [← hv8]; exact SF.cell (SF.own rfl fc) hil nilE (j := 1) rfl) rfl rfl Try.isAgg35) rfl rfl ha ?_
          refine ro_s2 rfl (qs_idxP Try.underlying58 Try.sizeOf35 rfl hjn rfl rfl rfl) rfl rfl ha ?_
          refine ro_op2 rfl (ot_stE0 (α := Hdr) ⟨.slice A8 (s.at_.getD j []).length c8⟩ nilH rfl fc hjn rfl Try.sizeOf35 rfl rfl rfl rfl rfl rfl rfl rfl) rfl rfl (.inl rfl) (fun _ _ => ?_) ro_stop
          refine ro_endx (xw_blkn (xw_then ?_))
          refine cw_region ?_
          refine rw_run tab_ok 1 [(1, _), (2, _), (5, _), (7, _), (8, _), (9, _), (71, _)] rfl ⟨rfl, rfl, rfl, rfl, rfl, rfl, rfl, trivial⟩ ?_
          refine rw_s (qs_add rfl rfl rfl (by omega)) rfl rfl ?_
          refine rw_run tab_ok 1 [(1, _), (2, _), (5, _), (7, _), (8, _), (9, _), (10, _)] rfl ⟨rfl, rfl, rfl, rfl, rfl, rfl, rfl, trivial⟩ ?_
          have hset2 : ∀ j' : Nat, (j' : Int) ∈ R.take (i + 1) → InP L ((hd.set j ⟨.slice A8 (s.at_.getD j []).length c8⟩).getD j' nilH).v (s.at_.getD j' []) := fun j' h => by
            rw [getD_set (by omega)]
            split
            · rename_i e; subst e; exact hv8 ▸ hinx
            · rename_i e
              refine hin j' ?_
              rw [List.take_succ_eq_append_getElem (by omega), List.mem_append, List.mem_singleton] at h
              rcases h with h | h
              · exact h
              · rw [List.getD_eq_getElem?_getD, List.getElem?_eq_getElem (by omega)] at hRx
                have hRx : R[i] = (j : Int) := hRx
                omega
          refine rw_round (i + 1, hd.set j ⟨.slice A8 (s.at_.getD j []).length c8⟩) (⟨⟨hil, by simp [hdl]⟩, hset2⟩) (by show _ - _ < _ - _; omega) ⟨rfl, rfl, rfl, rfl, rfl, rfl, rfl, trivial⟩ (fun _ h => h.msub ms)
      · obtain rfl : i = es.length := by omega
        rw [show es.length = R.length from by omega, List.take_length] at hin
        refine cw_exit (xw_thenx (xw_thenx (xw_blk ?_)))
        refine xw_join hd (⟨hdl, fun j h => hin j (hRe ▸ hbk j h)⟩) ⟨rfl, rfl, rfl, rfl, rfl, trivial⟩ (fun _ h => h.msub ms)
    · rintro hd ⟨hdl, hin⟩
      refine cw_seq ?_
      refine cw_seq ?_
      refine cw_region ?_
      refine rw_run tab_ok 1 [(1, _), (2, _), (5, _), (7, _), (9, _), (11, _)] rfl ⟨rfl, rfl, rfl, rfl, rfl, rfl, trivial⟩ ?_
      refine rw_end ?_
      refine cw_block (cw_loop (fun i : Nat => i ≤ es.length) (fun i => es.length - i) (fun i => [(1, .int .i64 (k : Int)), (2, .pointer (some ⟨g1, 0, none⟩)), (5, .slice A5 es.length c5), (7, .slice A2 f.code.length c2), (9, .slice (some ⟨ga, 0, none⟩) f.code.length f.code.length), (11, .int .i64 (i : Int))]) (fun _ => [RBox g1 [.slice A fs.length c] 24, ROw (.slice A5 es.length c5) es, RPool L, ROw (.slice (some ⟨ga, 0, none⟩) f.code.length f.code.length) hd]) 0 (Nat.zero_le _) ⟨rfl, rfl, rfl, rfl, rfl, rfl, trivial⟩ (fun _ h => h.msub ms) ?_)
      rintro i hi'
      have hi0 : i ≤ es.length := hi'
      refine cw_seq ?_
      refine cw_seq ?_
      refine cw_region ?_
      refine rw_run tab_ok 2 [(1, _), (2, _), (5, _), (7, _), (9, _), (11, _), (105, _), (106, _)] rfl ⟨rfl, rfl, rfl, rfl, rfl, rfl, rfl, rfl, trivial⟩ ?_
      refine rw_s (qs_len Try.underlying36 rfl rfl) rfl rfl ?_
      refine rw_run tab_ok 1 [(1, _), (2, _), (5, _), (7, _), (9, _), (11, _), (108, _)] rfl ⟨rfl, rfl, rfl, rfl, rfl, rfl, rfl, trivial⟩ ?_
      refine rw_end ?_
      refine cw_condD rfl (fun hlt => ?_) (fun hlt => ?_)
      · have hil : i < es.length := by omega
        obtain ⟨x, hxm, hx, hpx, hinx⟩ := hre.at2 hil
        obtain ⟨j, hjn, hjm, rfl⟩ := hmem x hxm
        have hpj : (es.getD i nilE).pc = (j : Int) := hpx
        have hinx : InP L (es.getD i nilE).v (s.at_.getD j []) := hinx
        obtain ⟨_, h8, v, hv, hnx⟩ := hment j hjm
        refine cw_fact (fun w h => hinx.form h fc) ?_
        rintro ⟨A8, c8, hv8⟩
        have hinx8 := hinx
        rw [hv8] at hinx8
        refine cw_skip (xw_then ?_)
        refine cw_seq ?_
        refine cw_block ?_
        refine cw_seq ?_
        refine cw_draw (.still 0 (.still 1 (.still 2 (.still 3 (.still 4 (.still 5 (.still 6 (.still 7 (.still 8 (.still 9 (.still 10 (.still 11 (.still 12 (.still 13 (.still 14 (.still 15 (.still 16 (.still 17 (.still 18 (.pick 19 (.still 20 (.still 21 (.still 22 (.still 23 (.still 24 .done))))) .stop)))))))))))))))))))) [] rfl (by kernel_rfl) (by kernel_rfl) ?_
        refine ro_s2 rfl (qs_ldbA (vs := [_]) fc Try.isAgg24 Try.sizeOf24 rfl rfl (by rfl) rfl) rfl rfl ha ?_
        refine ro_run tab_ok ha 1 [(1, _), (2, _), (5, _), (7, _), (9, _), (11, _), (112, _), (113, _)] rfl ⟨rfl, rfl, rfl, rfl, rfl, rfl, rfl, rfl, trivial⟩ ?_
        refine ro_s2 rfl (qs_ldb fc Try.isAgg22 rfl rfl (by rfl)) rfl rfl ha ?_
        refine ro_run tab_ok ha 1 [(1, _), (2, _), (5, _), (7, _), (9, _), (11, _), (112, _), (114, _), (115, _)] rfl ⟨rfl, rfl, rfl, rfl, rfl, rfl, rfl, rfl, rfl, trivial⟩ ?_
        refine ro_s2 rfl (qs_idx (k := k) Try.underlying22 Try.sizeOf54 (.ro hs) (by omega) rfl rfl rfl) rfl rfl ha ?_
        refine ro_s2 rfl (qs_ldA (hcell _) rfl rfl Try.isAgg54 Try.sizeOf54) rfl rfl ha ?_
        refine ro_run tab_ok ha 3 [(1, _), (2, _), (5, _), (7, _), (9, _), (11, _), (112, _), (117, _), (118, _), (119, _), (120, _)] rfl ⟨rfl, rfl, rfl, rfl, rfl, rfl, rfl, rfl, rfl, rfl, rfl, trivial⟩ ?_
        refine ro_s2 rfl (qs_idx Try.underlying36 Try.sizeOf57 (SF.own rfl fc) (by omega) rfl rfl rfl) rfl rfl ha ?_
        refine ro_run tab_ok ha 1 [(1, _), (2, _), (5, _), (7, _), (9, _), (11, _), (112, _), (117, _), (118, _), (122, _)] rfl ⟨rfl, rfl, rfl, rfl, rfl, rfl, rfl, rfl, rfl, rfl, trivial⟩ ?_
        refine ro_s2 rfl (qs_ld (v := .int .i64 (j : Int)) (by rw [← hpj]; exact SF.cell (SF.own rfl fc) hil nilE (j := 0) rfl) rfl rfl Try.isAgg3) rfl rfl ha ?_
        refine ro_s2 rfl (qs_idx Try.underlying52 Try.sizeOf61 (.ro hc) (by omega) rfl rfl rfl) rfl rfl ha ?_
        refine ro_s2 rfl (qs_ldA (cs := [_, _]) (SF.op (.ro hc) (by omega)) rfl rfl Try.isAgg61 Try.sizeOf61) rfl rfl ha ?_
        refine ro_run tab_ok ha 2 [(1, _), (2, _), (5, _), (7, _), (9, _), (11, _), (112, _), (117, _), (125, _), (126, _), (127, _)] rfl ⟨rfl, rfl, rfl, rfl, rfl, rfl, rfl, rfl, rfl, rfl, rfl, trivial⟩ ?_
        refine ro_s2 rfl (qs_idx Try.underlying36 Try.sizeOf57 (SF.own rfl fc) (by omega) rfl rfl rfl) rfl rfl ha ?_
        refine ro_run tab_ok ha 1 [(1, _), (2, _), (5, _), (7, _), (9, _), (11, _), (112, _), (117, _), (125, _), (129, _)] rfl ⟨rfl, rfl, rfl, rfl, rfl, rfl, rfl, rfl, rfl, rfl, trivial⟩ ?_
        refine ro_s2 rfl (qs_ld (v := .slice A8 (s.at_.getD j []).length c8) (by rw [← hv8]; exact SF.cell (SF.own rfl fc) hil nilE (j := 1) rfl) rfl rfl Try.isAgg35) rfl rfl ha ?_
        refine ro_op2 rfl (ot_c rfl rfl rfl Try.call32 (fun w hw => rtry_any fs f (opAt f.code j) (s.at_.getD j []) A A1 A2 A8 c c1 c2 c8 w (hw.ro hs) (hw.ro hl) (hinx8.sl hw fc) (hok.op j hjn) hres hrf (by omega))) rfl rfl (.inr fun _ => ha) (fun ⟨⟨A9, c9⟩, T⟩ hT => ?_) ro_stop
        try dsimp only
        refine ro_run tab_ok ha 5 [(1, _), (2, _), (5, _), (7, _), (9, _), (11, _), (12, _), (13, _)] rfl ⟨rfl, rfl, rfl, rfl, rfl, rfl, rfl, rfl, trivial⟩ ?_
        refine ro_end ?_
        refine cw_seq ?_
        refine cw_region ?_
        refine rw_run tab_ok 3 [(1, _), (2, _), (5, _), (7, _), (9, _), (11, _), (12, _), (13, _), (135, _), (136, _), (137, _)] rfl ⟨rfl, rfl, rfl, rfl, rfl, rfl, rfl, rfl, rfl, rfl, rfl, trivial⟩ ?_
        obtain rfl : T = v := hT v hv
        have hT8 := tryO_len hv
        rw [hv]
        obtain ⟨LL, hLL⟩ : ∃ LL, afterL (opAt f.code j) j = LL := ⟨_, rfl⟩
        have hl2 := afterL_len (opAt f.code j) j
        rw [hLL] at hnx hl2
        have hnext : ∀ w1, Sl w1 (.slice A2 f.code.length c2) f.code → Calls Try.prog 33 #[.slice A2 f.code.length c2, .int .i64 (j : Int)] w1 fun e w' => ∃ g : Option Addr × Nat, True ∧ e = .returned (.tuple #[.slice g.1 LL.length g.2, .int .i64 0]) ∧ Cw w1.heap.size w1 [ROw (.slice g.1 LL.length g.2) LL] w' := fun w1 h => by
          have := next_any A2 c2 f.code j w1 h
          have he : nextE f.code j = 0 := by unfold nextE; rw [if_pos hfl, if_neg (by omega)]
          rw [nextR_of he, he, ← after_next hfl hjn, hLL] at this
          exact this
        refine rw_s (qs_idx Try.underlying36 Try.sizeOf57 (SF.own rfl fc) (by omega) rfl rfl rfl) rfl rfl ?_
        refine rw_run tab_ok 1 [(1, _), (2, _), (5, _), (7, _), (9, _), (11, _), (12, _), (13, _), (135, _), (139, _)] rfl ⟨rfl, rfl, rfl, rfl, rfl, rfl, rfl, rfl, rfl, rfl, trivial⟩ ?_
        refine rw_s (qs_ld (v := .int .i64 (j : Int)) (by rw [← hpj]; exact SF.cell (SF.own rfl fc) hil nilE (j := 0) rfl) rfl rfl Try.isAgg3) rfl rfl ?_
        refine rw_op (ot_c rfl rfl rfl Try.call33 (fun w hw => hnext w (hw.ro hc))) rfl rfl (fun ⟨A10, c10⟩ _ => ?_)
        try dsimp only
        refine rw_run tab_ok 5 [(1, _), (2, _), (5, _), (7, _), (9, _), (11, _), (12, _), (13, _), (14, _), (15, _)] rfl ⟨rfl, rfl, rfl, rfl, rfl, rfl, rfl, rfl, rfl, rfl, trivial⟩ ?_
        refine rw_end ?_
        refine cw_seq ?_
        refine cw_seq ?_
        refine cw_region ?_
        refine rw_run tab_ok 3 [(1, _), (2, _), (5, _), (7, _), (9, _), (11, _), (12, _), (14, _), (15, _), (146, _)] rfl ⟨rfl, rfl, rfl, rfl, rfl, rfl, rfl, rfl, rfl, rfl, trivial⟩ ?_
        refine rw_as (t := 146) (v' := .bool false) rfl (rfl) ?_
        refine rw_run tab_ok 3 [(1, _), (2, _), (5, _), (7, _), (9, _), (11, _), (12, _), (14, _), (149, _)] rfl ⟨rfl, rfl, rfl, rfl, rfl, rfl, rfl, rfl, rfl, trivial⟩ ?_
        refine rw_end ?_
        refine cw_as (t := 149) (v' := .bool false) rfl (rfl) ?_
        refine cw_cond_f rfl ?_
        refine cw_skip (xw_then ?_)
        refine cw_seq ?_
        refine cw_region ?_
        refine rw_run tab_ok 1 [(1, _), (2, _), (5, _), (7, _), (9, _), (11, _), (12, _), (14, _), (16, _)] rfl ⟨rfl, rfl, rfl, rfl, rfl, rfl, rfl, rfl, rfl, trivial⟩ ?_
        refine rw_end ?_
        refine cw_block (cw_loop (fun a : Nat => a ≤ LL.length) (fun a => LL.length - a) (fun a => [(1, .int .i64 (k : Int)), (2, .pointer (some ⟨g1, 0, none⟩)), (5, .slice A5 es.length c5), (7, .slice A2 f.code.length c2), (9, .slice (some ⟨ga, 0, none⟩) f.code.length f.code.length), (11, .int .i64 (i : Int)), (12, .slice A9 T.length c9), (14, .slice A10 LL.length c10), (16, .int .i64 (a : Int))]) (fun _ => [RBox g1 [.slice A fs.length c] 24, ROw (.slice A5 es.length c5) es, RPool L, ROw (.slice (some ⟨ga, 0, none⟩) f.code.length f.code.length) hd, ROw (.slice A9 T.length c9) T, ROw (.slice A10 LL.length c10) LL]) 0 (Nat.zero_le _) ⟨rfl, rfl, rfl, rfl, rfl, rfl, rfl, rfl, rfl, trivial⟩ (fun _ h => h.msub ms) ?_)
        rintro a ha'
        have ha0 : a ≤ LL.length := ha'
        refine cw_seq ?_
        refine cw_seq ?_
        refine cw_region ?_
        refine rw_run tab_ok 2 [(1, _), (2, _), (5, _), (7, _), (9, _), (11, _), (12, _), (14, _), (16, _), (150, _), (151, _)] rfl ⟨rfl, rfl, rfl, rfl, rfl, rfl, rfl, rfl, rfl, rfl, rfl, trivial⟩ ?_
        refine rw_s (qs_len Try.underlying35 rfl rfl) rfl rfl ?_
        refine rw_run tab_ok 1 [(1, _), (2, _), (5, _), (7, _), (9, _), (11, _), (12, _), (14, _), (16, _), (153, _)] rfl ⟨rfl, rfl, rfl, rfl, rfl, rfl, rfl, rfl, rfl, rfl, trivial⟩ ?_
        refine rw_end ?_
        refine cw_condD rfl (fun hal => ?_) (fun hal => ?_)
        · have hal : a < LL.length := by omega
          have hqm : LL.getD a 0 ∈ LL := by rw [List.getD_eq_getElem?_getD, List.getElem?_eq_getElem hal]; exact List.getElem_mem _
          obtain ⟨q, hq⟩ : ∃ q : Nat, LL.getD a 0 = (q : Int) := ⟨(LL.getD a 0).toNat, by have := (hnx _ hqm).1; omega⟩
          obtain ⟨hqn, hqme, hqle⟩ := hnx _ hqm
          rw [hq] at hqn hqme hqle
          rw [Int.toNat_natCast] at hqme hqle
          have hqn2 : q < f.code.length := by omega
          have hinq := hin q hqme
          refine cw_fact (fun w h => hinq.form h fc) ?_
          rintro ⟨A11, c11, hv11⟩
          have hinq8 := hinq
          rw [hv11] at hinq8
          have hql := hqle.1
          refine cw_skip (xw_then ?_)
          refine cw_seq ?_
          refine cw_block ?_
          refine cw_seq ?_
          refine cw_region ?_
          refine rw_run tab_ok 3 [(1, _), (2, _), (5, _), (7, _), (9, _), (11, _), (12, _), (14, _), (16, _), (156, _), (157, _), (158, _)] rfl ⟨rfl, rfl, rfl, rfl, rfl, rfl, rfl, rfl, rfl, rfl, rfl, rfl, trivial⟩ ?_
          refine rw_s (qs_idx Try.underlying35 Try.sizeOf3 (SF.own rfl fc) (by omega) rfl rfl rfl) rfl rfl ?_
          refine rw_s (qs_ld (SF.int (SF.own rfl fc) (by omega)) rfl rfl Try.isAgg3) rfl rfl ?_
          refine rw_as (t := 160) (v' := .int .i64 (q : Int)) rfl (by rw [hq]) ?_
          refine rw_s (qs_idx Try.underlying58 Try.sizeOf35 (SF.own hdl fc) (by omega) rfl rfl rfl) rfl rfl ?_
          refine rw_s (qs_ld (v := .slice A11 (s.at_.getD q []).length c11) (by rw [← hv11]; exact SF.hdr (SF.own hdl fc) hqn2) rfl rfl Try.isAgg35) rfl rfl ?_
          refine rw_run tab_ok 1 [(1, _), (2, _), (5, _), (7, _), (9, _), (11, _), (12, _), (14, _), (16, _), (17, _)] rfl ⟨rfl, rfl, rfl, rfl, rfl, rfl, rfl, rfl, rfl, rfl, trivial⟩ ?_
          refine rw_end ?_
          refine cw_seq ?_
          refine cw_seq ?_
          refine cw_region ?_
          refine rw_run tab_ok 1 [(1, _), (2, _), (5, _), (7, _), (9, _), (11, _), (12, _), (14, _), (16, _), (17, _), (163, _)] rfl ⟨rfl, rfl, rfl, rfl, rfl, rfl, rfl, rfl, rfl, rfl, rfl, trivial⟩ ?_
          refine rw_s (qs_len Try.underlying35 rfl rfl) rfl rfl ?_
          refine rw_run tab_ok 1 [(1, _), (2, _), (5, _), (7, _), (9, _), (11, _), (12, _), (14, _), (16, _), (17, _), (164, _), (165, _)] rfl ⟨rfl, rfl, rfl, rfl, rfl, rfl, rfl, rfl, rfl, rfl, rfl, rfl, trivial⟩ ?_
          refine rw_s (qs_len Try.underlying35 rfl rfl) rfl rfl ?_
          refine rw_run tab_ok 1 [(1, _), (2, _), (5, _), (7, _), (9, _), (11, _), (12, _), (14, _), (16, _), (17, _), (167, _)] rfl ⟨rfl, rfl, rfl, rfl, rfl, rfl, rfl, rfl, rfl, rfl, rfl, trivial⟩ ?_
          refine rw_end ?_
          refine cw_as (t := 167) (v' := .bool false) rfl (by rw [hql]; simp) ?_
          refine cw_cond_f rfl ?_
          refine cw_skip (xw_then ?_)
          refine cw_seq ?_
          refine cw_region ?_
          refine rw_run tab_ok 1 [(1, _), (2, _), (5, _), (7, _), (9, _), (11, _), (12, _), (14, _), (16, _), (17, _), (18, _)] rfl ⟨rfl, rfl, rfl, rfl, rfl, rfl, rfl, rfl, rfl, rfl, rfl, trivial⟩ ?_
          refine rw_end ?_
          refine cw_block (cw_loop (fun b : Nat => b ≤ T.length) (fun b => T.length - b) (fun b => [(1, .int .i64 (k : Int)), (2, .pointer (some ⟨g1, 0, none⟩)), (5, .slice A5 es.length c5), (7, .slice A2 f.code.length c2), (9, .slice (some ⟨ga, 0, none⟩) f.code.length f.code.length), (11, .int .i64 (i : Int)), (12, .slice A9 T.length c9), (14, .slice A10 LL.length c10), (16, .int .i64 (a : Int)), (17, .slice A11 (s.at_.getD q []).length c11), (18, .int .i64 (b : Int))]) (fun _ => [RBox g1 [.slice A fs.length c] 24, ROw (.slice A5 es.length c5) es, RPool L, ROw (.slice (some ⟨ga, 0, none⟩) f.code.length f.code.length) hd, ROw (.slice A9 T.length c9) T, ROw (.slice A10 LL.length c10) LL]) 0 (Nat.zero_le _) ⟨rfl, rfl, rfl, rfl, rfl, rfl, rfl, rfl, rfl, rfl, rfl, trivial⟩ (fun _ h => h.msub ms) ?_)
          rintro b hb'
          have hb0 : b ≤ T.length := hb'
          refine cw_seq ?_
          refine cw_seq ?_
          refine cw_region ?_
          refine rw_run tab_ok 2 [(1, _), (2, _), (5, _), (7, _), (9, _), (11, _), (12, _), (14, _), (16, _), (17, _), (18, _), (168, _), (169, _)] rfl ⟨rfl, rfl, rfl, rfl, rfl, rfl, rfl, rfl, rfl, rfl, rfl, rfl, rfl, trivial⟩ ?_
          refine rw_s (qs_len Try.underlying35 rfl rfl) rfl rfl ?_
          refine rw_run tab_ok 1 [(1, _), (2, _), (5, _), (7, _), (9, _), (11, _), (12, _), (14, _), (16, _), (17, _), (18, _), (171, _)] rfl ⟨rfl, rfl, rfl, rfl, rfl, rfl, rfl, rfl, rfl, rfl, rfl, rfl, trivial⟩ ?_
          refine rw_end ?_
          refine cw_condD rfl (fun hbl => ?_) (fun hbl => ?_)
          · have hbl : b < T.length := by omega
            have hst := hqle.2 b hbl
            refine cw_skip (xw_then ?_)
            refine cw_seq ?_
            refine cw_block ?_
            refine cw_seq ?_
            refine cw_draw (.still 0 (.still 1 (.still 2 (.still 3 (.still 4 (.still 5 (.still 6 (.still 7 (.pick 8 (.still 9 .done) .stop))))))))) [] rfl (by kernel_rfl) (by kernel_rfl) ?_
            refine ro_run tab_ok ha 2 [(1, _), (2, _), (5, _), (7, _), (9, _), (11, _), (12, _), (14, _), (16, _), (17, _), (18, _), (174, _), (175, _)] rfl ⟨rfl, rfl, rfl, rfl, rfl, rfl, rfl, rfl, rfl, rfl, rfl, rfl, rfl, trivial⟩ ?_
            refine ro_s2 rfl (qs_idx Try.underlying35 Try.sizeOf3 (SF.own rfl fc) (by omega) rfl rfl rfl) rfl rfl ha ?_
            refine ro_s2 rfl (qs_ld (SF.int (SF.own rfl fc) (by omega)) rfl rfl Try.isAgg3) rfl rfl ha ?_
            refine ro_run tab_ok ha 2 [(1, _), (2, _), (5, _), (7, _), (9, _), (11, _), (12, _), (14, _), (16, _), (17, _), (18, _), (177, _), (178, _), (179, _)] rfl ⟨rfl, rfl, rfl, rfl, rfl, rfl, rfl, rfl, rfl, rfl, rfl, rfl, rfl, rfl, trivial⟩ ?_
            refine ro_s2 rfl (qs_idx Try.underlying35 Try.sizeOf3 (SF.pool hinq8 rfl fc) (by omega) rfl rfl rfl) rfl rfl ha ?_
            refine ro_s2 rfl (qs_ld (SF.int (SF.pool hinq8 rfl fc) (by omega)) rfl rfl Try.isAgg3) rfl rfl ha ?_
            refine ro_op2 rfl (ot_c0 rfl rfl rfl Try.call29 (fun w hw => rstands_any (T.getD b 0) ((s.at_.getD q []).getD b 0) w)) rfl rfl (.inr fun _ => ha) (fun _ _ => ?_) ro_stop
            refine ro_run tab_ok ha 1 [(1, _), (2, _), (5, _), (7, _), (9, _), (11, _), (12, _), (14, _), (16, _), (17, _), (18, _), (183, _)] rfl ⟨rfl, rfl, rfl, rfl, rfl, rfl, rfl, rfl, rfl, rfl, rfl, rfl, trivial⟩ ?_
            refine ro_end ?_
            refine cw_as (t := 183) (v' := .bool false) rfl (by rw [hst]; rfl) ?_
            refine cw_cond_f rfl ?_
            refine cw_skip (xw_blkn (xw_then ?_))
            refine cw_region ?_
            refine rw_run tab_ok 1 [(1, _), (2, _), (5, _), (7, _), (9, _), (11, _), (12, _), (14, _), (16, _), (17, _), (172, _)] rfl ⟨rfl, rfl, rfl, rfl, rfl, rfl, rfl, rfl, rfl, rfl, rfl, trivial⟩ ?_
            refine rw_s (qs_add rfl rfl rfl (by omega)) rfl rfl ?_
            refine rw_run tab_ok 1 [(1, _), (2, _), (5, _), (7, _), (9, _), (11, _), (12, _), (14, _), (16, _), (17, _), (18, _)] rfl ⟨rfl, rfl, rfl, rfl, rfl, rfl, rfl, rfl, rfl, rfl, rfl, trivial⟩ ?_
            refine rw_round (b + 1) (hbl) (by show _ - _ < _ - _; omega) ⟨rfl, rfl, rfl, rfl, rfl, rfl, rfl, rfl, rfl, rfl, rfl, trivial⟩ (fun _ h => h.msub ms)
          · refine cw_exit (xw_thenx (xw_thenx (xw_blk (xw_blkn (xw_then ?_)))))
            refine cw_region ?_
            refine rw_run tab_ok 1 [(1, _), (2, _), (5, _), (7, _), (9, _), (11, _), (12, _), (14, _), (154, _)] rfl ⟨rfl, rfl, rfl, rfl, rfl, rfl, rfl, rfl, rfl, trivial⟩ ?_
            refine rw_s (qs_add rfl rfl rfl (by omega)) rfl rfl ?_
            refine rw_run tab_ok 1 [(1, _), (2, _), (5, _), (7, _), (9, _), (11, _), (12, _), (14, _), (16, _)] rfl ⟨rfl, rfl, rfl, rfl, rfl, rfl, rfl, rfl, rfl, trivial⟩ ?_
            refine rw_round (a + 1) (hal) (by show _ - _ < _ - _; omega) ⟨rfl, rfl, rfl, rfl, rfl, rfl, rfl, rfl, rfl, trivial⟩ (fun _ h => h.msub ms)
        · refine cw_exit (xw_thenx (xw_thenx (xw_blk (xw_blkn (xw_then ?_)))))
          refine cw_region ?_
          refine rw_run tab_ok 1 [(1, _), (2, _), (5, _), (7, _), (9, _), (109, _)] rfl ⟨rfl, rfl, rfl, rfl, rfl, rfl, trivial⟩ ?_
          refine rw_s (qs_add rfl rfl rfl (by omega)) rfl rfl ?_
          refine rw_run tab_ok 1 [(1, _), (2, _), (5, _), (7, _), (9, _), (11, _)] rfl ⟨rfl, rfl, rfl, rfl, rfl, rfl, trivial⟩ ?_
          refine rw_round (i + 1) (hil) (by show _ - _ < _ - _; omega) ⟨rfl, rfl, rfl, rfl, rfl, rfl, trivial⟩ (fun _ h => h.msub ms)
      · refine cw_exit (xw_thenx (xw_thenx (xw_blk (xw_then ?_))))
        refine cw_seq ?_
        refine cw_region ?_
        refine rw_run tab_ok 1 [(4, _)] rfl ⟨rfl, trivial⟩ ?_
        refine rw_end ?_
        refine cw_ret ?_
        refine xw_ret1 Try.results7 (rv_tmp rfl) ?_
        intro w hw
        exact ⟨rfl, hw.below⟩
theorem verifyFits_law (v : Value) (fs : List MFunc) (z : Int) (w : World) (hs : Sl w v fs) : Calls Try.prog 7 #[.agg #[v], .int .i64 z] w fun e w' => e = .returned (.bool true) ∧ Below w.heap.size w w' := by
  obtain ⟨A, c, rfl, _⟩ := hs.form
  exact verifyFits_any A c fs z w hs
end Go.Proofs.Ytejpkcheimgdfaa

-- Read
/- How what came in reads as data of the proofs' own types: numbers, texts, slices of whatever reads. -/
namespace Go.Proofs.Ytejpkcheimgdfaa
open Go.ChangeShapes Go.WideShapes Go.ChangeAt Go.RowKit Go.Deep

/-- Whatever reads at type t is a datum of α. -/
def Rd (t : TypeId) (α : Type) [Rep α] : Prop :=
  ∀ (H : Type) (enc : TypeId × Value → H) (W : World) (fuel : Nat) (cs : List Value) (x : DataW H × List MemPlace),
    DataW.trod enc Try.prog W 0 (fun _ => true) true fuel t cs = some x → (∀ n ∈ x.1.weights Try.prog t, n ≤ reachBytes) → ∃ y : α, Rep.rep W W.heap.size cs y

theorem i64_of_wf {n : Int} (hw : (Lit.int .i64 n).wf = true) : I64 n := by
  simp [Lit.wf, IntKind.min, IntKind.max, IntKind.signed, IntKind.bits] at hw
  exact ⟨by omega, by omega⟩
theorem rd_int {t : TypeId} (ht : Try.prog.underlying t = some (.int .i64)) : Rd t Int := by
  intro H enc W fuel cs x h _
  obtain ⟨n, rfl, _, hw⟩ := DataW.trod_int ht h
  refine ⟨n, rfl, ?_⟩
  simp [Lit.wf, IntKind.min, IntKind.max, IntKind.signed, IntKind.bits] at hw
  exact ⟨by omega, by omega⟩

theorem exists_list {α : Type} {R : Nat → α → Prop} (n : Nat) (h : ∀ i, i < n → ∃ y, R i y) : ∃ ys : List α, ys.length = n ∧ ∀ i y, ys[i]? = some y → R i y := by
  induction n with
  | zero => exact ⟨[], rfl, fun i y h => by simp at h⟩
  | succ n ih =>
    obtain ⟨ys, hl, hy⟩ := ih (fun i hi => h i (by omega))
    obtain ⟨y, hR⟩ := h n (by omega)
    refine ⟨ys ++ [y], by simp [hl], fun i z hz => ?_⟩
    by_cases hi : i < ys.length
    · rw [List.getElem?_append_left hi] at hz; exact hy i z hz
    · rw [List.getElem?_append_right (by omega)] at hz
      have : i - ys.length = 0 := by
        rcases Nat.eq_zero_or_pos (i - ys.length) with h | h
        · exact h
        · rw [List.getElem?_eq_none (by simp; omega)] at hz; cases hz
      rw [this] at hz
      simp at hz
      subst hz
      have : i = n := by omega
      rw [this]; exact hR

theorem rd_slice {t e : TypeId} {α : Type} [Rep α] (hr : Rd e α) (ht : Try.prog.underlying t = some (.slice e)) (hc : Try.prog.cellsOf e = Rep.k α) (hk : 0 < Rep.k α) (hb : 0 < Try.prog.bytesOf e) :
    Rd t (List α) := by
  intro H enc W fuel cs x h hw
  rcases open_slice ht h with ⟨rfl, rfl⟩ | ⟨a, len, cap, m, n, D, Pl, rfl, _, hl, hm, hmm, rfl, hi⟩
  · exact ⟨[], _, rfl, SlB.nil_⟩
  · have hmc : cap = m := by simpa using hmm.symm
    clear hmm
    rw [hmc] at hl hm ⊢
    clear hmc
    have hel : ∀ i, i < len → ∃ y : α, ∃ cs', W.cells? 0 (a.add (i * Rep.k α)) (Rep.k α) = some cs' ∧ Rep.rep W W.heap.size cs' y := by
      intro i hil
      obtain ⟨cs', hcs, htr⟩ := hi i (by omega)
      rw [hc] at hcs
      obtain ⟨y, hy⟩ := hr H enc W n cs' _ htr (fun u hu => hw u (by
        simp only [DataW.weights, ht]
        refine List.mem_cons_of_mem _ (List.mem_append_left _ ?_)
        have : ∀ (l : List Nat), i ∈ l → u ∈ DataW.weightsAll Try.prog e (l.map D) := by
          intro l
          induction l with
          | nil => simp
          | cons z l ih =>
            intro hz
            simp only [List.map_cons, DataW.weightsAll, List.mem_append]
            rcases List.mem_cons.1 hz with rfl | hz
            · exact .inl hu
            · exact .inr (ih hz)
        exact this _ (List.mem_range.2 hil)))
      exact ⟨y, cs', hcs, hy⟩
    obtain ⟨ys, hyl, hy⟩ := exists_list len hel
    have hbytes : (len + (m - len)) * Try.prog.bytesOf e ≤ reachBytes := by
      have := hw ((((List.range len).map D).length + ((List.range (m - len)).map fun j => D (len + j)).length) * Try.prog.bytesOf e) (by simp only [DataW.weights, ht]; exact List.mem_cons_self)
      simpa using this
    have hlen : len ≤ 140737488355328 := by
      have h1 : len + (m - len) ≤ (len + (m - len)) * Try.prog.bytesOf e := Nat.le_mul_of_pos_right _ hb
      have h2 := reachBytes_lt
      omega
    refine ⟨ys, _, rfl, some a, m, by rw [hyl], by omega, hm, by omega, fun h0 => ?_⟩
    have hsome : ∀ i, i < len → ∀ j, j < Rep.k α → ∃ v, W.cell? ((a.add (i * Rep.k α)).add j) = some v := by
      intro i hil j hj
      obtain ⟨y, cs', hcs, _⟩ := hel i hil
      obtain ⟨_, hcl, hat⟩ := World.cells?_some hcs
      exact ⟨cs'[j]'(by omega), by rw [hat j hj]; exact List.getElem?_eq_getElem (by omega)⟩
    obtain ⟨b, off, spot⟩ := a
    obtain ⟨v0, hv0⟩ := hsome 0 (by omega) 0 hk
    have hspot : spot = none := by simpa [Addr.add] using World.cell?_spot hv0
    subst hspot
    have hadd : ∀ i j : Nat, ((⟨b, off, none⟩ : Addr).add i).add j = ⟨b, off + i + j, none⟩ := by
      intro i j; unfold Addr.add; by_cases hi : i = 0 <;> by_cases hj : j = 0 <;> simp [hi, hj, Nat.add_assoc]
    have hblt : b < W.heap.size := by
      rw [hadd] at hv0
      rcases Nat.lt_or_ge b W.heap.size with h | h
      · exact h
      · simp [World.cell?, Array.getElem?_eq_none h] at hv0
    refine ⟨b, off, rfl, hblt, fun i y hyi => ?_⟩
    obtain ⟨cs', hcs, hrep⟩ := hy i y hyi
    obtain ⟨_, hcl, hat⟩ := World.cells?_some hcs
    refine ⟨cs', hrep, fun j u hu => ?_⟩
    have hj : j < Rep.k α := by have := (List.getElem?_eq_some_iff.1 hu).1; omega
    have := hat j hj
    rw [hadd] at this
    rw [this, hu]

/-! Arguments. -/
section
variable {H : Type} {enc : TypeId × Value → H} {W : World} {t e : TypeId} {v : Value} {d : DataW H} {p : List MemPlace} {base : Nat}
set_option maxRecDepth 100000 in
theorem arg_int (ht : Try.prog.underlying t = some (.int .i64)) (hv : Value.okWide Try.prog W .any base t v) (h : DataW.Trod enc Try.prog W 0 (fun _ => true) true t v d p) : ∃ n, v = .int .i64 n ∧ I64 n := by
  obtain ⟨n, rfl, _, _, hw⟩ := open_int ht hv h
  refine ⟨n, rfl, ?_⟩
  simp [Lit.wf, IntKind.min, IntKind.max, IntKind.signed, IntKind.bits] at hw
  exact ⟨by omega, by omega⟩
set_option maxRecDepth 100000 in
theorem arg_string (ht : Try.prog.underlying t = some .string) (hv : Value.okWide Try.prog W .any base t v) (h : DataW.Trod enc Try.prog W 0 (fun _ => true) true t v d p) (hw : ∀ n ∈ d.weights Try.prog t, n ≤ reachBytes) : ∃ l : List UInt8, v = .string ⟨l.toArray⟩ ∧ l.length ≤ 140737488351232 := by
  obtain ⟨⟨⟨l⟩⟩, rfl, rfl, _, _⟩ := Go.ChangeMaps.open_string ht hv h
  refine ⟨l, rfl, ?_⟩
  have := hw l.length (by simp [DataW.weights])
  unfold reachBytes at this
  omega
set_option maxRecDepth 100000 in
theorem arg_slice {α : Type} [Rep α] (hr : Rd t (List α)) (ht : Try.prog.underlying t = some (.slice e)) (hv : Value.okWide Try.prog W .any base t v) (h : DataW.Trod enc Try.prog W 0 (fun _ => true) true t v d p) (hw : ∀ n ∈ d.weights Try.prog t, n ≤ reachBytes) : ∃ xs : List α, Sl W v xs := by
  obtain ⟨a, len, cap, rfl⟩ := okWide_slice ht hv
  obtain ⟨fuel, hf⟩ := h
  obtain ⟨xs, v', hv', hs⟩ := hr _ _ _ _ _ _ hf hw
  simp [Value.cells] at hv'
  subst hv'
  exact ⟨xs, hs⟩
set_option maxRecDepth 100000 in
theorem arg_slice_b {α : Type} [Rep α] (hr : Rd t (List α)) (ht : Try.prog.underlying t = some (.slice e)) (hv : Value.okWide Try.prog W .any base t v) (h : DataW.Trod enc Try.prog W 0 (fun _ => true) true t v d p) (hw : ∀ n ∈ d.weights Try.prog t, n ≤ reachBytes) : ∃ xs : List α, Sl W v xs ∧ xs.length * Try.prog.bytesOf e ≤ reachBytes := by
  obtain ⟨xs, hs⟩ := arg_slice hr ht hv h hw
  obtain ⟨a, len, cap, rfl⟩ := okWide_slice ht hv
  have hl := SlB.len_eq hs
  refine ⟨xs, hs, ?_⟩
  obtain ⟨fuel, hf⟩ := h
  rcases open_slice ht hf with ⟨hcs, hx⟩ | ⟨a', len', cap', m, n, D, Pl, hcs, _, hl', hm, hmm, hx, hi⟩
  · simp [Value.cells] at hcs
    rw [hl, hcs.2.1]; simp
  · simp [Value.cells] at hcs
    obtain ⟨_, rfl, _⟩ := hcs
    simp only [Prod.mk.injEq] at hx
    have := hw ((((List.range len).map D).length + ((List.range (m - len)).map fun j => D (len + j)).length) * Try.prog.bytesOf e) (by rw [hx.1]; simp only [DataW.weights, ht]; exact List.mem_cons_self)
    refine Nat.le_trans ?_ this
    rw [hl]
    exact Nat.mul_le_mul_right _ (by simp)
set_option maxRecDepth 100000 in
theorem arg_agg {α : Type} [Rep α] {fs : Array Field} (hr : Rd t α) (ht : Try.prog.underlying t = some (.struct fs)) (hv : Value.okWide Try.prog W .any base t v) (h : DataW.Trod enc Try.prog W 0 (fun _ => true) true t v d p) (hw : ∀ n ∈ d.weights Try.prog t, n ≤ reachBytes) : ∃ (x : α) (cs : List Value), v = .agg cs.toArray ∧ Rep.rep W W.heap.size cs x := by
  obtain ⟨cs, rfl, _⟩ := okWide_struct ht hv
  obtain ⟨fuel, hf⟩ := h
  obtain ⟨x, hx⟩ := hr _ _ _ _ _ _ hf hw
  exact ⟨x, _, rfl, hx⟩
end
end Go.Proofs.Ytejpkcheimgdfaa

-- ReadOp
namespace Go.Proofs.Ytejpkcheimgdfaa
open Go.ChangeShapes Go.WideShapes Go.ChangeAt Go.RowKit Go.Deep

theorem Try.cOp : Try.prog.cellsOf 61 = 2 := by kernel_rfl
theorem Try.bOp : Try.prog.bytesOf 61 = 16 := by kernel_rfl
theorem Try.cInt : Try.prog.cellsOf 3 = 1 := by kernel_rfl
set_option maxRecDepth 100000 in
theorem rd_op : Rd 61 MOp := by
  intro H enc W fuel cs x h hw
  obtain ⟨xs, n, _, rfl, hcl, hxl, hf⟩ := DataW.trod_struct Try.underlying61 h
  rw [Try.cOp] at hcl
  obtain ⟨c0, c1, rfl⟩ : ∃ c0 c1, cs = [c0, c1] := by
    match cs, hcl with
    | [c0, c1], _ => exact ⟨c0, c1, rfl⟩
  match xs, hxl with
  | [y0, y1], _ =>
    have h0 := hf 0 _ rfl
    have h1 := hf 1 _ rfl
    simp [Try.cInt] at h0 h1
    obtain ⟨n0, e0, he0, hi0⟩ := DataW.trod_int Try.underlying3 h0
    obtain ⟨n1, e1, he1, hi1⟩ := DataW.trod_int Try.underlying3 h1
    simp at e0 e1
    subst e0 e1
    exact ⟨⟨n0, n1⟩, rfl, i64_of_wf hi0, i64_of_wf hi1⟩
theorem rd_ops : Rd 52 (List MOp) := rd_slice rd_op Try.underlying52 Try.cOp (by decide) (by rw [Try.bOp]; decide)
theorem rd_i : Rd 3 Int := rd_int Try.underlying3
end Go.Proofs.Ytejpkcheimgdfaa

-- ReadP
/- Arguments that are programs, read as data. -/
namespace Go.Proofs.Ytejpkcheimgdfaa
open Go.ChangeShapes Go.WideShapes Go.ChangeAt Go.RowKit Go.Deep

/-- The parts of a struct that reads. -/
theorem rd_parts {t : TypeId} {fs : Array Field} (ht : Try.prog.underlying t = some (.struct fs)) {H : Type} {enc : TypeId × Value → H} {W : World} {fuel : Nat} {cs : List Value} {x : DataW H × List MemPlace}
    (h : DataW.trod enc Try.prog W 0 (fun _ => true) true fuel t cs = some x) (hw : ∀ n ∈ x.1.weights Try.prog t, n ≤ reachBytes) :
    cs.length = Try.prog.cellsOf t ∧ ∀ (i : Nat) (f : Field), fs[i]? = some f → ∀ (α : Type) [Rep α], Rd f.type α → ∃ y : α, Rep.rep W W.heap.size ((cs.drop f.offset).take (Try.prog.cellsOf f.type)) y := by
  obtain ⟨xs, n, _, rfl, hcl, hxl, hf⟩ := DataW.trod_struct ht h
  refine ⟨hcl, fun i f hfi α _ hr => ?_⟩
  have h1 := hf i f hfi
  have hi : i < xs.length := by rw [hxl]; exact (Array.getElem?_eq_some_iff.1 hfi).1
  rw [List.getElem?_eq_getElem hi] at h1
  refine hr _ _ _ _ _ _ h1 fun u hu => hw u ?_
  simp only [DataW.weights, ht]
  exact DataW.weights_mem_each (j := i) (by rw [List.getElem?_map, Array.getElem?_toList, hfi]; rfl) (by rw [List.getElem?_map, List.getElem?_eq_getElem hi]; rfl) u hu
theorem Try.cIntP : Try.prog.cellsOf 3 = 1 := by kernel_rfl
theorem Try.bIntP : Try.prog.bytesOf 3 = 8 := by kernel_rfl
theorem Try.cIntsP : Try.prog.cellsOf 35 = 1 := by kernel_rfl
theorem Try.cOpsP : Try.prog.cellsOf 52 = 1 := by kernel_rfl
theorem Try.cFuncP : Try.prog.cellsOf 54 = 4 := by kernel_rfl
theorem Try.bFuncP : Try.prog.bytesOf 54 = 64 := by kernel_rfl
theorem Try.cFuncsP : Try.prog.cellsOf 22 = 1 := by kernel_rfl
theorem rd_ints : Rd 35 (List Int) := rd_slice rd_i Try.underlying35 Try.cIntP (by decide) (by rw [Try.bIntP]; decide)
set_option maxRecDepth 100000 in
theorem rd_func : Rd 54 MFunc := by
  intro H enc W fuel cs x h hw
  obtain ⟨hl, hp⟩ := rd_parts Try.underlying54 h hw
  rw [Try.cFuncP] at hl
  obtain ⟨c0, c1, c2, c3, rfl⟩ : ∃ c0 c1 c2 c3, cs = [c0, c1, c2, c3] := by
    match cs, hl with
    | [c0, c1, c2, c3], _ => exact ⟨c0, c1, c2, c3, rfl⟩
  obtain ⟨y0, h0, i0⟩ := hp 0 _ rfl Int rd_i
  obtain ⟨y1, v1, h1, i1⟩ := hp 1 _ rfl (List Int) rd_ints
  obtain ⟨y2, h2, i2⟩ := hp 2 _ rfl Int rd_i
  obtain ⟨y3, v3, h3, i3⟩ := hp 3 _ rfl (List MOp) rd_ops
  simp [Try.cIntP, Try.cIntsP, Try.cOpsP] at h0 h1 h2 h3
  subst h0 h1 h2 h3
  exact ⟨⟨y0, y1, y2, y3⟩, _, _, rfl, ⟨i0, i2⟩, i1, i3⟩
theorem rd_funcs : Rd 22 (List MFunc) := rd_slice rd_func Try.underlying22 Try.cFuncP (by decide) (by rw [Try.bFuncP]; decide)
/-- A program. -/
structure MProg where
  funcs : List MFunc
instance : Rep MProg where
  k := 1
  rep w B cs p := ∃ v, cs = [v] ∧ SlB w B v p.funcs
  len h := by obtain ⟨v, h, _⟩ := h; rw [h]; rfl
  keep h hc := by obtain ⟨v, h, hs⟩ := h; exact ⟨v, h, hs.keep hc⟩
  more h hb := by obtain ⟨v, h, hs⟩ := h; exact ⟨v, h, hs.more hb⟩
  one h := by obtain ⟨v, h, hs⟩ := h; obtain ⟨A, c, rfl, _⟩ := hs.form; rw [h]; simp [Value.oneCell']
set_option maxRecDepth 100000 in
theorem rd_prog : Rd 24 MProg := by
  intro H enc W fuel cs x h hw
  obtain ⟨hl, hp⟩ := rd_parts Try.underlying24 h hw
  rw [show Try.prog.cellsOf 24 = 1 from by kernel_rfl] at hl
  obtain ⟨c0, rfl⟩ : ∃ c0, cs = [c0] := by
    match cs, hl with
    | [c0], _ => exact ⟨c0, rfl⟩
  obtain ⟨y0, v, h0, i0⟩ := hp 0 _ rfl (List MFunc) rd_funcs
  simp [Try.cFuncsP] at h0
  subst h0
  exact ⟨⟨y0⟩, _, rfl, i0⟩
/-- A law over a program, from one over its functions. -/
theorem prog_law {f : FuncId} {W : World} {v : Value} {fs : List MFunc} {rest : List Value} {R : Ending → World → Prop} (hs : Sl W v fs) (h : ∀ A c, Sl W (.slice A fs.length c) fs → Calls Try.prog f (Value.agg #[.slice A fs.length c] :: rest).toArray W R) : Calls Try.prog f (Value.agg #[v] :: rest).toArray W R := by
  obtain ⟨A, c, rfl, _⟩ := hs.form
  exact h A c hs
end Go.Proofs.Ytejpkcheimgdfaa

-- VT5
/- Verify: a function more, a dead op: the entries are the same; plain facts, no program in sight. -/
namespace Go.Proofs.Ytejpkcheimgdfaa

/-- Two functions whose least solutions are each other's solutions have the same entries. -/
theorem ents_same {fs fs' : List MFunc} {f f' : MFunc} (hok : FnOk fs f) (hty : FnTy fs f) (hn : 0 < f.code.length) (hok' : FnOk fs' f') (hty' : FnTy fs' f') (hl : f'.code.length = f.code.length)
    (h1 : ∀ s, entS fs f = some s → StM fs' f' (MO s)) (h2 : ∀ s, entS fs' f' = some s → StM fs f (MO s)) : entriesS fs f = entriesS fs' f' := by
  obtain ⟨a1, a2⟩ := entS_least hok hty hn
  obtain ⟨b1, b2⟩ := entS_least hok' hty' (by omega)
  cases e : entS fs f with
  | none =>
    rw [ents_fail hok hty hn (a2 e)]
    cases e' : entS fs' f' with
    | none => rw [ents_fail hok' hty' (by omega) (b2 e')]
    | some s' => exact absurd (h2 s' e') (a2 e _)
  | some s =>
    cases e' : entS fs' f' with
    | none => exact absurd (h1 s e) (b2 e' _)
    | some s' =>
      unfold entriesS
      rw [e, e']
      show (entU s f.code.length, true) = (entU s' f'.code.length, true)
      rw [hl]
      congr 1
      unfold entU
      congr 1
      funext i
      by_cases hm : s.met.getD i false = true
      · obtain ⟨t, h3, h4⟩ := (a1 s e).2.2 _ (h2 s' e') i _ (MO_some.2 ⟨hm, rfl⟩)
        obtain ⟨h5, h6⟩ := MO_some.1 h3
        subst h6
        obtain ⟨u, h7, h8⟩ := (b1 s' e').2.2 _ (h1 s e) i _ (MO_some.2 ⟨h5, rfl⟩)
        obtain ⟨_, h9⟩ := MO_some.1 h7
        subst h9
        rw [if_pos hm, if_pos h5, h4.anti h8]
      · rw [if_neg hm, if_neg]
        intro h5
        obtain ⟨u, h7, _⟩ := (b1 s' e').2.2 _ (h1 s e) i _ (MO_some.2 ⟨h5, rfl⟩)
        exact hm (MO_some.1 h7).1
theorem fnAt_app {fs : List MFunc} {m : MFunc} {k : Nat} (hk : k < fs.length) : fnAt (fs ++ [m]) k = fnAt fs k := by
  unfold fnAt
  rw [List.getD_eq_getElem?_getD, List.getD_eq_getElem?_getD, List.getElem?_append_left hk]
theorem tryO_app {fs : List MFunc} {m f : MFunc} {o : MOp} (h : OpOk fs f o) (s : List Int) : tryO (fs ++ [m]) f o s = tryO fs f o s := by
  rw [tryO_tl, tryO_tl]
  have : tl (fs ++ [m]) f o s = tl fs f o s := by
    unfold tl
    by_cases h12 : o.c = 12
    · have hc := h.call h12
      rw [fnAt_app (by omega)]
    · simp only [if_neg h12]
  rw [this]
theorem stm_app {fs : List MFunc} {m f : MFunc} (hok : FnOk fs f) (M : Nat → Option (List Int)) : StM (fs ++ [m]) f M ↔ StM fs f M := by
  constructor
  · rintro ⟨h1, h2⟩
    refine ⟨h1, fun k s hs => ?_⟩
    obtain ⟨k1, k2, v, k3, k4⟩ := h2 k s hs
    exact ⟨k1, k2, v, by rw [← tryO_app (m := m) (hok.op k k1)]; exact k3, k4⟩
  · rintro ⟨h1, h2⟩
    refine ⟨h1, fun k s hs => ?_⟩
    obtain ⟨k1, k2, v, k3, k4⟩ := h2 k s hs
    exact ⟨k1, k2, v, by rw [tryO_app (hok.op k k1)]; exact k3, k4⟩
theorem funcS_in {fs : List MFunc} (h : checkP fs = 0) {k : Nat} (hk : k < fs.length) : funcS fs k = if (entriesS fs (fnAt fs k)).2 = true then ((entriesS fs (fnAt fs k)).1, 0) else ([], 4) := by
  unfold funcS
  rw [if_neg (by simpa using h), if_neg (by omega), Int.toNat_natCast]
/-- A function more changes no entry. -/
theorem more_same {fs : List MFunc} {m : MFunc} (h : checkP fs = 0) (h' : checkP (fs ++ [m]) = 0) {k : Nat} (hk : k < fs.length) : funcS (fs ++ [m]) k = funcS fs k := by
  obtain ⟨hok, hn⟩ := fn_ok h hk
  have hk' : k < (fs ++ [m]).length := by rw [List.length_append]; omega
  obtain ⟨hok', hn'⟩ := fn_ok h' hk'
  have hty := fn_ty h hk
  have hty' := fn_ty h' hk'
  rw [fnAt_app hk] at hok' hn' hty'
  have he := ents_same hok hty hn hok' hty' rfl (fun s e => (stm_app hok _).2 ((entS_least hok hty hn).1 s e).2.1) (fun s e => (stm_app hok _).1 ((entS_least hok' hty' hn).1 s e).2.1)
  rw [funcS_in h' hk', funcS_in h hk, fnAt_app hk, he]
/-! A dead op -/
def setOp (f : MFunc) (pc : Nat) (o : MOp) : MFunc := { f with code := f.code.set pc o }
theorem setOp_at {f : MFunc} {pc : Nat} {o : MOp} {i : Nat} (h : i ≠ pc) : opAt (setOp f pc o).code i = opAt f.code i := by
  show (f.code.set pc o).getD i _ = f.code.getD i _
  rw [List.getD_eq_getElem?_getD, List.getD_eq_getElem?_getD, List.getElem?_set_ne (fun e => h e.symm)]
theorem setOp_len {f : MFunc} {pc : Nat} {o : MOp} : (setOp f pc o).code.length = f.code.length := by
  show (f.code.set pc o).length = _
  simp
theorem fnAt_set {fs : List MFunc} {k : Nat} {f : MFunc} (hk : k < fs.length) (j : Nat) : fnAt (fs.set k f) j = if j = k then f else fnAt fs j := getD_set hk
theorem tryO_set {fs : List MFunc} {k pc : Nat} {o : MOp} (hk : k < fs.length) (p : MOp) (s : List Int) : tryO (fs.set k (setOp (fnAt fs k) pc o)) (setOp (fnAt fs k) pc o) p s = tryO fs (fnAt fs k) p s := by
  have key : ∀ j, calledT (fnAt (fs.set k (setOp (fnAt fs k) pc o)) j) = calledT (fnAt fs j) ∧ resultT (fnAt (fs.set k (setOp (fnAt fs k) pc o)) j) = resultT (fnAt fs j) := fun j => by
    rw [fnAt_set hk]
    split
    · rename_i e; subst e; exact ⟨rfl, rfl⟩
    · exact ⟨rfl, rfl⟩
  have : tl (fs.set k (setOp (fnAt fs k) pc o)) (setOp (fnAt fs k) pc o) p s = tl fs (fnAt fs k) p s := by
    unfold tl
    rw [(key _).1, (key _).2]
    rfl
  rw [tryO_tl, tryO_tl, this]
theorem rch_set {f : MFunc} {pc : Nat} {o : MOp} (hd : ¬ Rch f.code pc) {i : Nat} (h : Rch (setOp f pc o).code i) : Rch f.code i := by
  induction h with
  | refl => exact .refl
  | @step q r _ h2 h3 ih =>
    have hq : q ≠ pc := fun e => hd (e ▸ ih)
    rw [setOp_at hq] at h3
    rw [setOp_len] at h2
    exact .step ih h2 h3
/-- Another op where none comes changes no entry. -/
theorem dead_same {fs : List MFunc} {k pc : Nat} {o : MOp} (hk : k < fs.length) (h : checkP fs = 0) (h' : checkP (fs.set k (setOp (fnAt fs k) pc o)) = 0) (hd : ¬ Rch (fnAt fs k).code pc) : funcS (fs.set k (setOp (fnAt fs k) pc o)) k = funcS fs k := by
  obtain ⟨hok, hn⟩ := fn_ok h hk
  have hk' : k < (fs.set k (setOp (fnAt fs k) pc o)).length := by rw [List.length_set]; exact hk
  obtain ⟨hok', hn'⟩ := fn_ok h' hk'
  have hty := fn_ty h hk
  have hty' := fn_ty h' hk'
  have ef : fnAt (fs.set k (setOp (fnAt fs k) pc o)) k = setOp (fnAt fs k) pc o := by rw [fnAt_set hk, if_pos rfl]
  rw [ef] at hok' hn' hty'
  have he := ents_same hok hty hn hok' hty' setOp_len (fun s e => ?_) (fun s e => ?_)
  · rw [funcS_in h' hk', funcS_in h hk, ef, he]
  · obtain ⟨_, hst, _⟩ := (entS_least hok hty hn).1 s e
    refine ⟨hst.m0, fun i t ht => ?_⟩
    have hr := (met_rch hok hty hn e i).1 (MO_some.1 ht).1
    have hi : i ≠ pc := fun e => hd (e ▸ hr)
    obtain ⟨k1, k2, v, k3, k4⟩ := hst.ok i t ht
    exact ⟨by rw [setOp_len]; exact k1, k2, v, by rw [tryO_set hk, setOp_at hi]; exact k3, by rw [setOp_at hi]; exact k4⟩
  · obtain ⟨_, hst, _⟩ := (entS_least hok' hty' hn').1 s e
    refine ⟨hst.m0, fun i t ht => ?_⟩
    have hr := rch_set hd ((met_rch hok' hty' hn' e i).1 (MO_some.1 ht).1)
    have hi : i ≠ pc := fun e => hd (e ▸ hr)
    obtain ⟨k1, k2, v, k3, k4⟩ := hst.ok i t ht
    rw [tryO_set hk, setOp_at hi] at k3
    rw [setOp_at hi] at k4
    exact ⟨by rw [setOp_len] at k1; exact k1, k2, v, k3, k4⟩
end Go.Proofs.Ytejpkcheimgdfaa

-- W13
/- Functions of a program as headers: their cells, with the inner slices as they are. -/
namespace Go.Proofs.Ytejpkcheimgdfaa
open Go.RowKit

structure HFun where
  p : Int
  v1 : Value
  r : Int
  v2 : Value
instance : Inhabited HFun := ⟨⟨0, .slice none 0 0, 0, .slice none 0 0⟩⟩
def HFun.wf (h : HFun) : Prop := (I64 h.p ∧ I64 h.r) ∧ h.v1.oneCell' = true ∧ h.v2.oneCell' = true
instance : Rep HFun where
  k := 4
  rep _ _ cs h := cs = [.int .i64 h.p, h.v1, .int .i64 h.r, h.v2] ∧ h.wf
  len h := by rw [h.1]; rfl
  keep h _ := h
  more h _ := h
  one h := by rw [h.1]; simpa [Value.oneCell', HFun.wf] using h.2.2
instance : Ow HFun where
  ty := 54
  own _ F cs h := (cs = [.int .i64 h.p, h.v1, .int .i64 h.r, h.v2] ∧ h.wf) ∧ ∀ b, ¬ F b
  rd_ h := h.1
  lt h hb := (h.2 _ hb).elim
  frame h _ := h
  cong h hf := ⟨h.1, fun b hb => h.2 b ((hf b).2 hb)⟩
instance : FOw HFun where
  enc h := [.int .i64 h.p, h.v1, .int .i64 h.r, h.v2]
  wf h := h.wf
  rep_iff := Iff.rfl
  own_iff := Iff.rfl
instance : SlTy HFun := ⟨22⟩
/-- The header of a function whose slices nobody writes. -/
def HOf (B : Nat) (w0 : World) (h : HFun) (f : MFunc) : Prop := h.p = f.params ∧ h.r = f.result ∧ (I64 f.params ∧ I64 f.result) ∧ SlB w0 B h.v1 f.locals ∧ SlB w0 B h.v2 f.code
theorem HOf.rep {B : Nat} {w0 w : World} {h : HFun} {f : MFunc} (hh : HOf B w0 h f) (hc : Cells B w0 w) (hb : B ≤ w.heap.size) : Rep.rep w w.heap.size [.int .i64 h.p, h.v1, .int .i64 h.r, h.v2] f := by
  obtain ⟨h1, h2, h3, h4, h5⟩ := hh
  exact ⟨h.v1, h.v2, by rw [h1, h2], h3, (h4.keep hc).more hb, (h5.keep hc).more hb⟩
theorem slice_one {B : Nat} {w0 : World} {α : Type} [Rep α] {v : Value} {xs : List α} (h : SlB w0 B v xs) : v.oneCell' = true := by
  obtain ⟨A, c, rfl, _⟩ := h.form
  rfl
/-- A slice of functions that nobody writes, as headers. -/
theorem SlB.hfun {B : Nat} {w0 : World} {v : Value} {fs : List MFunc} (h : SlB w0 B v fs) : ∃ hs : List HFun, hs.length = fs.length ∧ (∀ (i : Nat) (a : HFun) (f : MFunc), hs[i]? = some a → fs[i]? = some f → HOf B w0 a f) ∧ SlB w0 B v hs := by
  obtain ⟨A, c, hv, h1, h2, h3, h4⟩ := h
  have key : ∀ i : Nat, ∃ a : HFun, ∀ f, fs[i]? = some f → HOf B w0 a f ∧ ∀ b off, A = some ⟨b, off, none⟩ → ∀ j u, ([.int .i64 a.p, a.v1, .int .i64 a.r, a.v2] : List Value)[j]? = some u → w0.cell? ⟨b, off + i * 4 + j, none⟩ = some u := fun i => by
    cases e : fs[i]? with
    | none => exact ⟨default, fun f hf => by cases hf⟩
    | some f =>
      have h0 : 0 < fs.length := by have := (List.getElem?_eq_some_iff.1 e).1; omega
      obtain ⟨b, off, hA, hb, hi⟩ := h4 h0
      obtain ⟨cs, ⟨v1, v2, hcs, hi1, hs1, hs2⟩, hj⟩ := hi i f e
      subst hcs
      refine ⟨⟨f.params, v1, f.result, v2⟩, fun f' hf => ?_⟩
      cases hf
      refine ⟨⟨rfl, rfl, hi1, hs1, hs2⟩, fun b' off' hA' j u hu => ?_⟩
      rw [hA] at hA'
      cases hA'
      exact hj j u hu
  obtain ⟨g, hg⟩ := Classical.axiomOfChoice key
  have hl : ((List.range fs.length).map g).length = fs.length := by simp
  have hget : ∀ (i : Nat) (a : HFun), ((List.range fs.length).map g)[i]? = some a → i < fs.length ∧ a = g i := fun i a ha => by
    obtain ⟨h5, h6⟩ := List.getElem?_eq_some_iff.1 ha
    rw [hl] at h5
    simp at h6
    exact ⟨h5, h6.symm⟩
  refine ⟨(List.range fs.length).map g, hl, fun i a f ha hf => ?_, A, c, by rw [hl]; exact hv, by rw [hl]; exact h1, h2, by rw [hl]; exact h3, fun h0 => ?_⟩
  · obtain ⟨_, rfl⟩ := hget i a ha
    exact (hg i f hf).1
  · rw [hl] at h0
    obtain ⟨b, off, hA, hb, hi⟩ := h4 h0
    refine ⟨b, off, hA, hb, fun i a ha => ?_⟩
    obtain ⟨hil, rfl⟩ := hget i a ha
    obtain ⟨k1, k2⟩ := hg i _ (List.getElem?_eq_getElem hil)
    obtain ⟨e1, e2, e3, e4, e5⟩ := k1
    exact ⟨_, ⟨rfl, ⟨by rw [e1, e2]; exact e3, slice_one e4, slice_one e5⟩⟩, fun j u hu => k2 b off hA j u hu⟩
/-- A row of headers reads as the functions. -/
theorem read_hfun {B : Nat} {w0 : World} {v : Value} {hs : List HFun} {fs : List MFunc} (hl : hs.length = fs.length) (hr : ∀ (i : Nat) (a : HFun) (f : MFunc), hs[i]? = some a → fs[i]? = some f → HOf B w0 a f) :
    ∀ w F, Hs w [ROw v hs] F → Cells B w0 w → B ≤ w.heap.size → Sl w v fs := by
  rintro w F ⟨F1, F2, h1, _, _, _⟩ hc hb
  have h1 : OwL w F1 v hs := h1
  obtain ⟨A, c, hv, k1, k2, k3, k4⟩ := h1.sl
  refine ⟨A, c, by rw [hv, hl], by rw [← hl]; exact k1, k2, by rw [← hl]; exact k3, fun h0 => ?_⟩
  obtain ⟨b, off, hA, hb2, hi⟩ := k4 (by rw [hl]; exact h0)
  refine ⟨b, off, hA, hb2, fun i f hf => ?_⟩
  have hil : i < hs.length := by rw [hl]; exact (List.getElem?_eq_some_iff.1 hf).1
  obtain ⟨cs, ⟨hcs, _⟩, hj⟩ := hi i _ (List.getElem?_eq_getElem hil)
  subst hcs
  exact ⟨_, (hr i _ f (List.getElem?_eq_getElem hil) hf).rep hc hb, fun j u hu => hj j u hu⟩
end Go.Proofs.Ytejpkcheimgdfaa

