/- Texts of one proof, one behind the other: lemmas alone. -/
import Derived.Test.YtejpkcheimgdfaaM7Q
import Derived.Test.YtejpkcheimgdfaaM4Q
import Derived.Test.YtejpkcheimgdfaaM6Q

-- V16
/- Verify: the document's letters of ops; CheckJoin. -/
namespace Go.Proofs.Ytejpkcheimgdfaa
open Go.RowKit

def letters (c : Int) : List UInt8 × List UInt8 :=
  if c = 1 ∨ c = 21 then ([], [105]) else if c = 5 ∨ c = 6 ∨ c = 7 then ([105, 105], [105]) else if c = 8 then ([], [108]) else if c = 9 then ([108], []) else if c = 11 ∨ c = 20 then ([105], []) else if c = 14 then ([105], [114]) else if c = 15 then ([114, 105], [105]) else if c = 16 then ([114, 105, 105], []) else if c = 17 ∨ c = 19 then ([114], [105]) else if c = 18 then ([], [110]) else ([], [])
def tyB (local_ : Int) (b : UInt8) : List Int := if (b.toNat : Int) = 105 then [1] else if (b.toNat : Int) = 114 then [2] else if (b.toNat : Int) = 110 then [3] else if (b.toNat : Int) = 108 then [local_] else []
def tyL (local_ : Int) (s : List UInt8) : List Int := s.flatMap (tyB local_)
set_option maxRecDepth 100000 in
set_option maxHeartbeats 1000000 in
theorem rplain_any (c : Int) (w : World) : Calls Try.prog 59 #[.int .i64 c] w fun e w' => e = .returned (.tuple #[.string ⟨(letters c).1.toArray⟩, .string ⟨(letters c).2.toArray⟩]) ∧ Below w.heap.size w w' := by
  refine enter Try.func59 rfl Try.ntmps59 rfl ?_
  refine cw_seq ?_
  refine cw_region ?_
  refine rw_run tab_ok 2 [(0, _)] rfl ⟨rfl, trivial⟩ ?_
  refine rw_end ?_
  refine cw_seq ?_
  refine cw_seq ?_
  refine cw_region ?_
  refine rw_run tab_ok 1 [(4, _)] rfl ⟨rfl, trivial⟩ ?_
  refine rw_end ?_
  refine cw_block ?_
  refine cw_seq ?_
  refine cw_seq ?_
  refine cw_region ?_
  refine rw_run tab_ok 2 [(4, _), (5, _)] rfl ⟨rfl, rfl, trivial⟩ ?_
  refine rw_end ?_
  refine cw_condD rfl (fun h1 => ?_) (fun h1 => ?_)
  · refine cw_as (t := 5) (v' := .bool true) rfl (by rw [decide_eq_true h1]) ?_
    refine cw_skip (xw_then ?_)
    refine cw_cond_t rfl ?_
    refine cw_seq ?_
    refine cw_region ?_
    refine rw_run tab_ok 2 [(2, _), (3, _)] rfl ⟨rfl, rfl, trivial⟩ ?_
    refine rw_end ?_
    have e : letters c = ([], [105]) := by rw [h1]; rfl
    refine cw_ret (xw_blkr (xw_thenr ?_))
    refine xw_ret2 Try.results59 (rv_tmp rfl) (rv_tmp rfl) ?_
    intro w hw
    rw [e]
    exact ⟨rfl, hw.below⟩
  · refine cw_region ?_
    refine rw_run tab_ok 2 [(4, _), (5, _)] rfl ⟨rfl, rfl, trivial⟩ ?_
    refine rw_end ?_
    refine cw_condD rfl (fun h21 => ?_) (fun h21 => ?_)
    · have e : letters c = ([], [105]) := by rw [h21]; rfl
      refine cw_seq ?_
      refine cw_region ?_
      refine rw_run tab_ok 2 [(2, _), (3, _)] rfl ⟨rfl, rfl, trivial⟩ ?_
      refine rw_end ?_
      refine cw_ret (xw_blkr (xw_thenr ?_))
      refine xw_ret2 Try.results59 (rv_tmp rfl) (rv_tmp rfl) ?_
      intro w hw
      rw [e]
      exact ⟨rfl, hw.below⟩
    · refine cw_seq ?_
      refine cw_seq ?_
      refine cw_region ?_
      refine rw_run tab_ok 2 [(4, _), (8, _)] rfl ⟨rfl, rfl, trivial⟩ ?_
      refine rw_end ?_
      refine cw_condD rfl (fun h5 => ?_) (fun h5 => ?_)
      · refine cw_as (t := 8) (v' := .bool true) rfl (by rw [decide_eq_true h5]) ?_
        refine cw_skip (xw_then ?_)
        refine cw_cond_t rfl ?_
        refine cw_seq ?_
        refine cw_region ?_
        refine rw_run tab_ok 2 [(2, _), (3, _)] rfl ⟨rfl, rfl, trivial⟩ ?_
        refine rw_end ?_
        have e : letters c = ([105, 105], [105]) := by rw [h5]; rfl
        refine cw_ret (xw_blkr (xw_thenr ?_))
        refine xw_ret2 Try.results59 (rv_tmp rfl) (rv_tmp rfl) ?_
        intro w hw
        rw [e]
        exact ⟨rfl, hw.below⟩
      · refine cw_seq ?_
        refine cw_region ?_
        refine rw_run tab_ok 2 [(4, _), (8, _)] rfl ⟨rfl, rfl, trivial⟩ ?_
        refine rw_end ?_
        refine cw_condD rfl (fun h6 => ?_) (fun h6 => ?_)
        · refine cw_as (t := 8) (v' := .bool true) rfl (by rw [decide_eq_true h6]) ?_
          refine cw_skip (xw_then ?_)
          refine cw_cond_t rfl ?_
          refine cw_seq ?_
          refine cw_region ?_
          refine rw_run tab_ok 2 [(2, _), (3, _)] rfl ⟨rfl, rfl, trivial⟩ ?_
          refine rw_end ?_
          have e : letters c = ([105, 105], [105]) := by rw [h6]; rfl
          refine cw_ret (xw_blkr (xw_thenr ?_))
          refine xw_ret2 Try.results59 (rv_tmp rfl) (rv_tmp rfl) ?_
          intro w hw
          rw [e]
          exact ⟨rfl, hw.below⟩
        · refine cw_region ?_
          refine rw_run tab_ok 2 [(4, _), (8, _)] rfl ⟨rfl, rfl, trivial⟩ ?_
          refine rw_end ?_
          refine cw_condD rfl (fun h7 => ?_) (fun h7 => ?_)
          · have e : letters c = ([105, 105], [105]) := by rw [h7]; rfl
            refine cw_seq ?_
            refine cw_region ?_
            refine rw_run tab_ok 2 [(2, _), (3, _)] rfl ⟨rfl, rfl, trivial⟩ ?_
            refine rw_end ?_
            refine cw_ret (xw_blkr (xw_thenr ?_))
            refine xw_ret2 Try.results59 (rv_tmp rfl) (rv_tmp rfl) ?_
            intro w hw
            rw [e]
            exact ⟨rfl, hw.below⟩
          · refine cw_seq ?_
            refine cw_region ?_
            refine rw_run tab_ok 2 [(4, _), (12, _)] rfl ⟨rfl, rfl, trivial⟩ ?_
            refine rw_end ?_
            refine cw_condD rfl (fun h8 => ?_) (fun h8 => ?_)
            · have e : letters c = ([], [108]) := by rw [h8]; rfl
              refine cw_seq ?_
              refine cw_region ?_
              refine rw_run tab_ok 2 [(2, _), (3, _)] rfl ⟨rfl, rfl, trivial⟩ ?_
              refine rw_end ?_
              refine cw_ret (xw_blkr (xw_thenr ?_))
              refine xw_ret2 Try.results59 (rv_tmp rfl) (rv_tmp rfl) ?_
              intro w hw
              rw [e]
              exact ⟨rfl, hw.below⟩
            · refine cw_seq ?_
              refine cw_region ?_
              refine rw_run tab_ok 2 [(4, _), (14, _)] rfl ⟨rfl, rfl, trivial⟩ ?_
              refine rw_end ?_
              refine cw_condD rfl (fun h9 => ?_) (fun h9 => ?_)
              · have e : letters c = ([108], []) := by rw [h9]; rfl
                refine cw_seq ?_
                refine cw_region ?_
                refine rw_run tab_ok 2 [(2, _), (3, _)] rfl ⟨rfl, rfl, trivial⟩ ?_
                refine rw_end ?_
                refine cw_ret (xw_blkr (xw_thenr ?_))
                refine xw_ret2 Try.results59 (rv_tmp rfl) (rv_tmp rfl) ?_
                intro w hw
                rw [e]
                exact ⟨rfl, hw.below⟩
              · refine cw_seq ?_
                refine cw_seq ?_
                refine cw_region ?_
                refine rw_run tab_ok 2 [(4, _), (16, _)] rfl ⟨rfl, rfl, trivial⟩ ?_
                refine rw_end ?_
                refine cw_condD rfl (fun h11 => ?_) (fun h11 => ?_)
                · refine cw_as (t := 16) (v' := .bool true) rfl (by rw [decide_eq_true h11]) ?_
                  refine cw_skip (xw_then ?_)
                  refine cw_cond_t rfl ?_
                  refine cw_seq ?_
                  refine cw_region ?_
                  refine rw_run tab_ok 2 [(2, _), (3, _)] rfl ⟨rfl, rfl, trivial⟩ ?_
                  refine rw_end ?_
                  have e : letters c = ([105], []) := by rw [h11]; rfl
                  refine cw_ret (xw_blkr (xw_thenr ?_))
                  refine xw_ret2 Try.results59 (rv_tmp rfl) (rv_tmp rfl) ?_
                  intro w hw
                  rw [e]
                  exact ⟨rfl, hw.below⟩
                · refine cw_region ?_
                  refine rw_run tab_ok 2 [(4, _), (16, _)] rfl ⟨rfl, rfl, trivial⟩ ?_
                  refine rw_end ?_
                  refine cw_condD rfl (fun h20 => ?_) (fun h20 => ?_)
                  · have e : letters c = ([105], []) := by rw [h20]; rfl
                    refine cw_seq ?_
                    refine cw_region ?_
                    refine rw_run tab_ok 2 [(2, _), (3, _)] rfl ⟨rfl, rfl, trivial⟩ ?_
                    refine rw_end ?_
                    refine cw_ret (xw_blkr (xw_thenr ?_))
                    refine xw_ret2 Try.results59 (rv_tmp rfl) (rv_tmp rfl) ?_
                    intro w hw
                    rw [e]
                    exact ⟨rfl, hw.below⟩
                  · refine cw_seq ?_
                    refine cw_region ?_
                    refine rw_run tab_ok 2 [(4, _), (19, _)] rfl ⟨rfl, rfl, trivial⟩ ?_
                    refine rw_end ?_
                    refine cw_condD rfl (fun h14 => ?_) (fun h14 => ?_)
                    · have e : letters c = ([105], [114]) := by rw [h14]; rfl
                      refine cw_seq ?_
                      refine cw_region ?_
                      refine rw_run tab_ok 2 [(2, _), (3, _)] rfl ⟨rfl, rfl, trivial⟩ ?_
                      refine rw_end ?_
                      refine cw_ret (xw_blkr (xw_thenr ?_))
                      refine xw_ret2 Try.results59 (rv_tmp rfl) (rv_tmp rfl) ?_
                      intro w hw
                      rw [e]
                      exact ⟨rfl, hw.below⟩
                    · refine cw_seq ?_
                      refine cw_region ?_
                      refine rw_run tab_ok 2 [(4, _), (21, _)] rfl ⟨rfl, rfl, trivial⟩ ?_
                      refine rw_end ?_
                      refine cw_condD rfl (fun h15 => ?_) (fun h15 => ?_)
                      · have e : letters c = ([114, 105], [105]) := by rw [h15]; rfl
                        refine cw_seq ?_
                        refine cw_region ?_
                        refine rw_run tab_ok 2 [(2, _), (3, _)] rfl ⟨rfl, rfl, trivial⟩ ?_
                        refine rw_end ?_
                        refine cw_ret (xw_blkr (xw_thenr ?_))
                        refine xw_ret2 Try.results59 (rv_tmp rfl) (rv_tmp rfl) ?_
                        intro w hw
                        rw [e]
                        exact ⟨rfl, hw.below⟩
                      · refine cw_seq ?_
                        refine cw_region ?_
                        refine rw_run tab_ok 2 [(4, _), (23, _)] rfl ⟨rfl, rfl, trivial⟩ ?_
                        refine rw_end ?_
                        refine cw_condD rfl (fun h16 => ?_) (fun h16 => ?_)
                        · have e : letters c = ([114, 105, 105], []) := by rw [h16]; rfl
                          refine cw_seq ?_
                          refine cw_region ?_
                          refine rw_run tab_ok 2 [(2, _), (3, _)] rfl ⟨rfl, rfl, trivial⟩ ?_
                          refine rw_end ?_
                          refine cw_ret (xw_blkr (xw_thenr ?_))
                          refine xw_ret2 Try.results59 (rv_tmp rfl) (rv_tmp rfl) ?_
                          intro w hw
                          rw [e]
                          exact ⟨rfl, hw.below⟩
                        · refine cw_seq ?_
                          refine cw_seq ?_
                          refine cw_region ?_
                          refine rw_run tab_ok 2 [(4, _), (25, _)] rfl ⟨rfl, rfl, trivial⟩ ?_
                          refine rw_end ?_
                          refine cw_condD rfl (fun h17 => ?_) (fun h17 => ?_)
                          · refine cw_as (t := 25) (v' := .bool true) rfl (by rw [decide_eq_true h17]) ?_
                            refine cw_skip (xw_then ?_)
                            refine cw_cond_t rfl ?_
                            refine cw_seq ?_
                            refine cw_region ?_
                            refine rw_run tab_ok 2 [(2, _), (3, _)] rfl ⟨rfl, rfl, trivial⟩ ?_
                            refine rw_end ?_
                            have e : letters c = ([114], [105]) := by rw [h17]; rfl
                            refine cw_ret (xw_blkr (xw_thenr ?_))
                            refine xw_ret2 Try.results59 (rv_tmp rfl) (rv_tmp rfl) ?_
                            intro w hw
                            rw [e]
                            exact ⟨rfl, hw.below⟩
                          · refine cw_region ?_
                            refine rw_run tab_ok 2 [(4, _), (25, _)] rfl ⟨rfl, rfl, trivial⟩ ?_
                            refine rw_end ?_
                            refine cw_condD rfl (fun h19 => ?_) (fun h19 => ?_)
                            · have e : letters c = ([114], [105]) := by rw [h19]; rfl
                              refine cw_seq ?_
                              refine cw_region ?_
                              refine rw_run tab_ok 2 [(2, _), (3, _)] rfl ⟨rfl, rfl, trivial⟩ ?_
                              refine rw_end ?_
                              refine cw_ret (xw_blkr (xw_thenr ?_))
                              refine xw_ret2 Try.results59 (rv_tmp rfl) (rv_tmp rfl) ?_
                              intro w hw
                              rw [e]
                              exact ⟨rfl, hw.below⟩
                            · refine cw_seq ?_
                              refine cw_region ?_
                              refine rw_run tab_ok 2 [(28, _)] rfl ⟨rfl, trivial⟩ ?_
                              refine rw_end ?_
                              refine cw_condD rfl (fun h18 => ?_) (fun h18 => ?_)
                              · have e : letters c = ([], [110]) := by rw [h18]; rfl
                                refine cw_seq ?_
                                refine cw_region ?_
                                refine rw_run tab_ok 2 [(2, _), (3, _)] rfl ⟨rfl, rfl, trivial⟩ ?_
                                refine rw_end ?_
                                refine cw_ret (xw_blkr (xw_thenr ?_))
                                refine xw_ret2 Try.results59 (rv_tmp rfl) (rv_tmp rfl) ?_
                                intro w hw
                                rw [e]
                                exact ⟨rfl, hw.below⟩
                              · refine cw_skip (xw_blkn (xw_then ?_))
                                refine cw_seq ?_
                                refine cw_region ?_
                                refine rw_run tab_ok 2 [(2, _), (3, _)] rfl ⟨rfl, rfl, trivial⟩ ?_
                                refine rw_end ?_
                                have e : letters c = ([], []) := by unfold letters; simp [h1, h21, h5, h6, h7, h8, h9, h11, h20, h14, h15, h16, h17, h19, h18]
                                refine cw_ret ?_
                                refine xw_ret2 Try.results59 (rv_tmp rfl) (rv_tmp rfl) ?_
                                intro w hw
                                rw [e]
                                exact ⟨rfl, hw.below⟩
theorem tyB_len (x : Int) (b : UInt8) : (tyB x b).length ≤ 1 := by
  unfold tyB
  repeat (first | split | simp)
theorem tyL_len (x : Int) : ∀ s : List UInt8, (tyL x s).length ≤ s.length
  | [] => by simp [tyL]
  | b :: s => by
    have h1 := tyL_len x s
    have h2 := tyB_len x b
    simp only [tyL, List.flatMap_cons, List.length_append, List.length_cons] at *
    omega
theorem tyL_snoc {x : Int} {s : List UInt8} {i : Nat} (hi : i < s.length) : tyL x (s.take (i + 1)) = tyL x (s.take i) ++ tyB x (s.getD i 0) := by
  unfold tyL
  rw [List.take_succ_eq_append_getElem hi, List.flatMap_append, List.getD_eq_getElem?_getD, List.getElem?_eq_getElem hi]
  simp
set_option maxRecDepth 100000 in
set_option maxHeartbeats 1000000 in
theorem rtypes_any (s : List UInt8) (x : Int) (hx : I64 x) (w : World) (hl : s.length ≤ 1000) : Calls Try.prog 60 #[.string ⟨s.toArray⟩, .int .i64 x] w fun e w' => ∃ u, e = .returned u ∧ Below w.heap.size w w' ∧ OwN w' w.heap.size u (tyL x s) := by
  refine enter Try.func60 rfl Try.ntmps60 rfl ?_
  refine cw_seq ?_
  refine cw_region ?_
  refine rw_run tab_ok 1 [(0, _), (1, _)] rfl ⟨rfl, rfl, trivial⟩ ?_
  refine rw_end ?_
  refine cw_seq ?_
  refine cw_region ?_
  refine rw_run tab_ok 1 [(0, _), (1, _), (5, _)] rfl ⟨rfl, rfl, rfl, trivial⟩ ?_
  refine rw_end ?_
  refine cw_seq ?_
  refine cw_seq ?_
  refine cw_region ?_
  refine rw_run tab_ok 1 [(0, _), (1, _), (5, _), (6, _)] rfl ⟨rfl, rfl, rfl, rfl, trivial⟩ ?_
  refine rw_end ?_
  refine cw_mem (fun w h => Cw.nilO Int h) ?_
  refine cw_block (cw_loop (fun g : Nat × Option Addr × Nat => g.1 ≤ s.length) (fun g => s.length - g.1) (fun g => [(0, .string ⟨s.toArray⟩), (1, .int .i64 x), (5, .slice g.2.1 (tyL x (s.take g.1)).length g.2.2), (6, .int .i64 (g.1 : Int))]) (fun g => [ROw (.slice g.2.1 (tyL x (s.take g.1)).length g.2.2) (tyL x (s.take g.1))]) (0, none, 0) (Nat.zero_le _) ⟨rfl, rfl, rfl, rfl, trivial⟩ me ?_)
  rintro ⟨i, Ao, co⟩ hi'
  try dsimp only
  have hi : i ≤ s.length := hi'
  have hlt := tyL_len x (s.take i)
  rw [List.length_take] at hlt
  refine cw_seq ?_
  refine cw_seq ?_
  refine cw_region ?_
  refine rw_run tab_ok 2 [(0, _), (1, _), (5, _), (6, _), (7, _), (8, _)] rfl ⟨rfl, rfl, rfl, rfl, rfl, rfl, trivial⟩ ?_
  refine rw_s (qs_lenS Try.underlying9 rfl rfl) rfl rfl ?_
  refine rw_run tab_ok 1 [(0, _), (1, _), (5, _), (6, _), (10, _)] rfl ⟨rfl, rfl, rfl, rfl, rfl, trivial⟩ ?_
  refine rw_end ?_
  refine cw_condD rfl (fun hlt => ?_) (fun hlt => ?_)
  · have hil : i < s.length := by omega
    have hsn := tyL_snoc (x := x) hil
    refine cw_skip (xw_then ?_)
    refine cw_cut (fun _ : Option Addr × Nat => True) (fun g => [(0, .string ⟨s.toArray⟩), (1, .int .i64 x), (5, .slice g.1 (tyL x (s.take (i + 1))).length g.2), (6, .int .i64 (i : Int))]) (fun g => [ROw (.slice g.1 (tyL x (s.take (i + 1))).length g.2) (tyL x (s.take (i + 1)))]) ?_ ?_
    · rw [hsn]
      refine cw_block ?_
      refine cw_seq ?_
      refine cw_region ?_
      refine rw_run tab_ok 2 [(0, _), (1, _), (5, _), (6, _), (13, _), (14, _)] rfl ⟨rfl, rfl, rfl, rfl, rfl, rfl, trivial⟩ ?_
      refine rw_s (qs_idxS (k := i) Try.underlying9 hil rfl rfl rfl) rfl rfl ?_
      refine rw_end ?_
      refine cw_block ?_
      refine cw_seq ?_
      refine cw_region ?_
      refine rw_run tab_ok 2 [(0, _), (1, _), (5, _), (6, _), (15, _), (16, _)] rfl ⟨rfl, rfl, rfl, rfl, rfl, rfl, trivial⟩ ?_
      refine rw_end ?_
      refine cw_condD rfl (fun h1 => ?_) (fun h1 => ?_)
      · have e : tyB x (s.getD i 0) = [1] := by unfold tyB; rw [if_pos h1]
        rw [e]
        refine cw_region ?_
        refine rw_run tab_ok 1 [(0, _), (1, _), (6, _), (18, _)] rfl ⟨rfl, rfl, rfl, rfl, trivial⟩ ?_
        refine rw_op (ot_bsl (cs := [_]) Try.underlying35 Try.sizeOf3 Try.zeroValue3 rfl rfl rfl rfl rfl) rfl rfl (fun g1 _ => ?_)
        refine rw_op (ot_app1 (α := Int) (bytes := 8) 1 [] rfl Try.underlying35 (info_ex Try.inI) rfl (perm2 fc fc) (hel_flat (show I64 _ from by decide)) (by omega) (by omega) rfl rfl rfl) rfl rfl (fun ⟨A5, c5⟩ _ => ?_)
        try dsimp only
        refine rw_run tab_ok 1 [(0, _), (1, _), (5, _), (6, _)] rfl ⟨rfl, rfl, rfl, rfl, trivial⟩ ?_
        refine rw_endx (xw_blkn (xw_blkn ?_))
        refine xw_join (A5, c5) (trivial) ⟨rfl, rfl, rfl, rfl, trivial⟩ me
      · refine cw_seq ?_
        refine cw_region ?_
        refine rw_run tab_ok 2 [(0, _), (1, _), (5, _), (6, _), (15, _), (21, _)] rfl ⟨rfl, rfl, rfl, rfl, rfl, rfl, trivial⟩ ?_
        refine rw_end ?_
        refine cw_condD rfl (fun h2 => ?_) (fun h2 => ?_)
        · have e : tyB x (s.getD i 0) = [2] := by unfold tyB; rw [if_neg h1, if_pos h2]
          rw [e]
          refine cw_region ?_
          refine rw_run tab_ok 1 [(0, _), (1, _), (6, _), (23, _)] rfl ⟨rfl, rfl, rfl, rfl, trivial⟩ ?_
          refine rw_op (ot_bsl (cs := [_]) Try.underlying35 Try.sizeOf3 Try.zeroValue3 rfl rfl rfl rfl rfl) rfl rfl (fun g2 _ => ?_)
          refine rw_op (ot_app1 (α := Int) (bytes := 8) 2 [] rfl Try.underlying35 (info_ex Try.inI) rfl (perm2 fc fc) (hel_flat (show I64 _ from by decide)) (by omega) (by omega) rfl rfl rfl) rfl rfl (fun ⟨A5, c5⟩ _ => ?_)
          try dsimp only
          refine rw_run tab_ok 1 [(0, _), (1, _), (5, _), (6, _)] rfl ⟨rfl, rfl, rfl, rfl, trivial⟩ ?_
          refine rw_endx (xw_blkn (xw_blkn ?_))
          refine xw_join (A5, c5) (trivial) ⟨rfl, rfl, rfl, rfl, trivial⟩ me
        · refine cw_seq ?_
          refine cw_region ?_
          refine rw_run tab_ok 2 [(0, _), (1, _), (5, _), (6, _), (15, _), (26, _)] rfl ⟨rfl, rfl, rfl, rfl, rfl, rfl, trivial⟩ ?_
          refine rw_end ?_
          refine cw_condD rfl (fun h3 => ?_) (fun h3 => ?_)
          · have e : tyB x (s.getD i 0) = [3] := by unfold tyB; rw [if_neg h1, if_neg h2, if_pos h3]
            rw [e]
            refine cw_region ?_
            refine rw_run tab_ok 1 [(0, _), (1, _), (6, _), (28, _)] rfl ⟨rfl, rfl, rfl, rfl, trivial⟩ ?_
            refine rw_op (ot_bsl (cs := [_]) Try.underlying35 Try.sizeOf3 Try.zeroValue3 rfl rfl rfl rfl rfl) rfl rfl (fun g3 _ => ?_)
            refine rw_op (ot_app1 (α := Int) (bytes := 8) 3 [] rfl Try.underlying35 (info_ex Try.inI) rfl (perm2 fc fc) (hel_flat (show I64 _ from by decide)) (by omega) (by omega) rfl rfl rfl) rfl rfl (fun ⟨A5, c5⟩ _ => ?_)
            try dsimp only
            refine rw_run tab_ok 1 [(0, _), (1, _), (5, _), (6, _)] rfl ⟨rfl, rfl, rfl, rfl, trivial⟩ ?_
            refine rw_endx (xw_blkn (xw_blkn ?_))
            refine xw_join (A5, c5) (trivial) ⟨rfl, rfl, rfl, rfl, trivial⟩ me
          · refine cw_seq ?_
            refine cw_region ?_
            refine rw_run tab_ok 2 [(0, _), (1, _), (5, _), (6, _), (31, _)] rfl ⟨rfl, rfl, rfl, rfl, rfl, trivial⟩ ?_
            refine rw_end ?_
            refine cw_condD rfl (fun h4 => ?_) (fun h4 => ?_)
            · have e : tyB x (s.getD i 0) = [x] := by unfold tyB; rw [if_neg h1, if_neg h2, if_neg h3, if_pos h4]
              rw [e]
              refine cw_region ?_
              refine rw_run tab_ok 2 [(0, _), (1, _), (6, _), (33, _), (34, _)] rfl ⟨rfl, rfl, rfl, rfl, rfl, trivial⟩ ?_
              refine rw_op (ot_bsl (cs := [_]) Try.underlying35 Try.sizeOf3 Try.zeroValue3 rfl rfl rfl rfl rfl) rfl rfl (fun g4 _ => ?_)
              refine rw_op (ot_app1 (α := Int) (bytes := 8) x [] rfl Try.underlying35 (info_ex Try.inI) rfl (perm2 fc fc) (hel_flat hx) (by omega) (by omega) rfl rfl rfl) rfl rfl (fun ⟨A5, c5⟩ _ => ?_)
              try dsimp only
              refine rw_run tab_ok 1 [(0, _), (1, _), (5, _), (6, _)] rfl ⟨rfl, rfl, rfl, rfl, trivial⟩ ?_
              refine rw_endx (xw_blkn (xw_blkn ?_))
              refine xw_join (A5, c5) (trivial) ⟨rfl, rfl, rfl, rfl, trivial⟩ me
            · have e : tyB x (s.getD i 0) = [] := by unfold tyB; rw [if_neg h1, if_neg h2, if_neg h3, if_neg h4]
              rw [e, List.append_nil]
              refine cw_skip (xw_blkn (xw_blkn ?_))
              refine xw_join (Ao, co) (trivial) ⟨rfl, rfl, rfl, rfl, trivial⟩ me
    · rintro ⟨A5, c5⟩ _
      refine cw_region ?_
      refine rw_run tab_ok 1 [(0, _), (1, _), (5, _), (11, _)] rfl ⟨rfl, rfl, rfl, rfl, trivial⟩ ?_
      refine rw_s (qs_add rfl rfl rfl (by omega)) rfl rfl ?_
      refine rw_run tab_ok 1 [(0, _), (1, _), (5, _), (6, _)] rfl ⟨rfl, rfl, rfl, rfl, trivial⟩ ?_
      refine rw_round (i + 1, A5, c5) (hil) (by show _ - _ < _ - _; omega) ⟨rfl, rfl, rfl, rfl, trivial⟩ me
  · obtain rfl : i = s.length := by omega
    refine cw_exit (xw_thenx (xw_thenx (xw_blk (xw_then ?_))))
    refine cw_seq ?_
    refine cw_region ?_
    refine rw_run tab_ok 2 [(4, _)] rfl ⟨rfl, trivial⟩ ?_
    refine rw_end ?_
    refine cw_ret ?_
    refine xw_ret1 Try.results60 (rv_tmp rfl) ?_
    intro w hw
    rw [List.take_length] at hw ⊢
    exact ⟨_, rfl, own_ret hw⟩
theorem badT_within (t : Int) : badT t = !within t 1 3 := by
  unfold badT within
  by_cases h1 : t < 1 <;> by_cases h2 : 3 < t <;> simp [h1, h2] <;> omega
set_option maxRecDepth 100000 in
set_option maxHeartbeats 2000000 in
theorem rcheckJoin_any (A1 A2 : Option Addr) (c1 c2 : Nat) (a b : List Int) (w : World) (h1 : Sl w (.slice A1 a.length c1) a) (h2 : Sl w (.slice A2 b.length c2) b) :
    Calls Try.prog 20 #[.slice A1 a.length c1, .slice A2 b.length c2] w fun e w' => e = .returned (.int .i64 (joinE a b)) ∧ Below w.heap.size w w' := by
  have b1 := len_bd h1
  have b2 := len_bd h2
  refine enter Try.func20 rfl Try.ntmps20 rfl ?_
  refine cw_seq ?_
  refine cw_region ?_
  refine rw_run tab_ok 1 [(0, _), (1, _)] rfl ⟨rfl, rfl, trivial⟩ ?_
  refine rw_end ?_
  refine cw_cut (fun _ : Unit => a.any badT = false) (fun _ => [(0, .slice A1 a.length c1), (1, .slice A2 b.length c2)]) (fun _ => []) ?_ ?_
  · refine cw_seq ?_
    refine cw_region ?_
    refine rw_run tab_ok 1 [(0, _), (1, _), (5, _)] rfl ⟨rfl, rfl, rfl, trivial⟩ ?_
    refine rw_end ?_
    refine cw_block (cw_loop (fun i : Nat => i ≤ a.length ∧ (a.take i).any badT = false) (fun i => a.length - i) (fun i => [(0, .slice A1 a.length c1), (1, .slice A2 b.length c2), (5, .int .i64 (i : Int))]) (fun _ => []) 0 (⟨Nat.zero_le _, rfl⟩) ⟨rfl, rfl, rfl, trivial⟩ me ?_)
    rintro i hi'
    obtain ⟨hi, hno⟩ : i ≤ a.length ∧ (a.take i).any badT = false := hi'
    refine cw_seq ?_
    refine cw_seq ?_
    refine cw_region ?_
    refine rw_run tab_ok 2 [(0, _), (1, _), (5, _), (9, _), (10, _)] rfl ⟨rfl, rfl, rfl, rfl, rfl, trivial⟩ ?_
    refine rw_s (qs_len Try.underlying35 rfl rfl) rfl rfl ?_
    refine rw_run tab_ok 1 [(0, _), (1, _), (5, _), (12, _)] rfl ⟨rfl, rfl, rfl, rfl, trivial⟩ ?_
    refine rw_end ?_
    refine cw_condD rfl (fun hlt => ?_) (fun hlt => ?_)
    · have hil : i < a.length := by omega
      have hsn := any_take_snoc (p := badT) 0 hil
      rw [badT_within] at hsn
      refine cw_skip (xw_then ?_)
      refine cw_seq ?_
      refine cw_block ?_
      refine cw_seq ?_
      refine cw_region ?_
      refine rw_run tab_ok 2 [(0, _), (1, _), (5, _), (15, _), (16, _)] rfl ⟨rfl, rfl, rfl, rfl, rfl, trivial⟩ ?_
      refine rw_s (qs_idx Try.underlying35 Try.sizeOf3 (.ro h1) (by omega) rfl rfl rfl) rfl rfl ?_
      refine rw_s (qs_ld (SF.int (.ro h1) (by omega)) rfl rfl Try.isAgg3) rfl rfl ?_
      refine rw_op (ot_c0 rfl rfl rfl Try.call40 (fun w hw => cbelow (rwithin_any (a.getD i 0) 1 3 w))) rfl rfl (fun _ _ => ?_)
      refine rw_run tab_ok 1 [(0, _), (1, _), (5, _), (20, _)] rfl ⟨rfl, rfl, rfl, rfl, trivial⟩ ?_
      refine rw_end ?_
      refine cw_cond rfl (fun hb => ?_) (fun hb => ?_)
      · have hj : joinE a b = 6 := by
          unfold joinE
          rw [if_pos]
          rw [List.any_eq_true]
          refine ⟨a.getD i 0, ?_, by rw [badT_within]; exact hb⟩
          rw [List.getD_eq_getElem?_getD, List.getElem?_eq_getElem hil]
          exact List.getElem_mem hil
        refine cw_seq ?_
        refine cw_region ?_
        refine rw_run tab_ok 1 [(4, _)] rfl ⟨rfl, trivial⟩ ?_
        refine rw_end ?_
        refine cw_ret (xw_blkr (xw_thenr (xw_thenr (xw_blkr (xw_thenr ?_)))))
        refine xw_ret1 Try.results20 (rv_tmp rfl) ?_
        intro w hw
        exact ⟨by rw [hj], hw.below⟩
      · have hb : (!within (a.getD i 0) 1 3) = false := hb
        refine cw_skip (xw_blkn (xw_then ?_))
        refine cw_region ?_
        refine rw_run tab_ok 1 [(0, _), (1, _), (13, _)] rfl ⟨rfl, rfl, rfl, trivial⟩ ?_
        refine rw_s (qs_add rfl rfl rfl (by omega)) rfl rfl ?_
        refine rw_run tab_ok 1 [(0, _), (1, _), (5, _)] rfl ⟨rfl, rfl, rfl, trivial⟩ ?_
        refine rw_round (i + 1) (⟨hil, by rw [hsn, hno]; exact hb⟩) (by show _ - _ < _ - _; omega) ⟨rfl, rfl, rfl, trivial⟩ me
    · obtain rfl : i = a.length := by omega
      rw [List.take_length] at hno
      refine cw_exit (xw_thenx (xw_thenx (xw_blk ?_)))
      refine xw_join () (hno) ⟨rfl, rfl, trivial⟩ me
  · rintro _ ha1
    refine cw_seq ?_
    refine cw_seq ?_
    refine cw_region ?_
    refine rw_run tab_ok 1 [(0, _), (1, _), (6, _)] rfl ⟨rfl, rfl, rfl, trivial⟩ ?_
    refine rw_end ?_
    refine cw_cutk (fun _ : Unit => b.any badT = false) (fun _ => [(0, .slice A1 a.length c1), (1, .slice A2 b.length c2)]) (fun _ => []) ?_ ?_
    · refine cw_block (cw_loop (fun i : Nat => i ≤ b.length ∧ (b.take i).any badT = false) (fun i => b.length - i) (fun i => [(0, .slice A1 a.length c1), (1, .slice A2 b.length c2), (6, .int .i64 (i : Int))]) (fun _ => []) 0 (⟨Nat.zero_le _, rfl⟩) ⟨rfl, rfl, rfl, trivial⟩ me ?_)
      rintro i hi'
      obtain ⟨hi, hno⟩ : i ≤ b.length ∧ (b.take i).any badT = false := hi'
      refine cw_seq ?_
      refine cw_seq ?_
      refine cw_region ?_
      refine rw_run tab_ok 2 [(0, _), (1, _), (6, _), (21, _), (22, _)] rfl ⟨rfl, rfl, rfl, rfl, rfl, trivial⟩ ?_
      refine rw_s (qs_len Try.underlying35 rfl rfl) rfl rfl ?_
      refine rw_run tab_ok 1 [(0, _), (1, _), (6, _), (24, _)] rfl ⟨rfl, rfl, rfl, rfl, trivial⟩ ?_
      refine rw_end ?_
      refine cw_condD rfl (fun hlt => ?_) (fun hlt => ?_)
      · have hil : i < b.length := by omega
        have hsn := any_take_snoc (p := badT) 0 hil
        rw [badT_within] at hsn
        refine cw_skip (xw_then ?_)
        refine cw_seq ?_
        refine cw_block ?_
        refine cw_seq ?_
        refine cw_region ?_
        refine rw_run tab_ok 2 [(0, _), (1, _), (6, _), (27, _), (28, _)] rfl ⟨rfl, rfl, rfl, rfl, rfl, trivial⟩ ?_
        refine rw_s (qs_idx Try.underlying35 Try.sizeOf3 (.ro h2) (by omega) rfl rfl rfl) rfl rfl ?_
        refine rw_s (qs_ld (SF.int (.ro h2) (by omega)) rfl rfl Try.isAgg3) rfl rfl ?_
        refine rw_op (ot_c0 rfl rfl rfl Try.call40 (fun w hw => cbelow (rwithin_any (b.getD i 0) 1 3 w))) rfl rfl (fun _ _ => ?_)
        refine rw_run tab_ok 1 [(0, _), (1, _), (6, _), (32, _)] rfl ⟨rfl, rfl, rfl, rfl, trivial⟩ ?_
        refine rw_end ?_
        refine cw_cond rfl (fun hb => ?_) (fun hb => ?_)
        · have hj : joinE a b = 6 := by
            unfold joinE
            rw [if_neg (by rw [ha1]; decide), if_pos]
            rw [List.any_eq_true]
            refine ⟨b.getD i 0, ?_, by rw [badT_within]; exact hb⟩
            rw [List.getD_eq_getElem?_getD, List.getElem?_eq_getElem hil]
            exact List.getElem_mem hil
          refine cw_seq ?_
          refine cw_region ?_
          refine rw_run tab_ok 1 [(4, _)] rfl ⟨rfl, trivial⟩ ?_
          refine rw_end ?_
          refine cw_ret (xw_blkr (xw_thenr (xw_thenr (xw_blkr (xw_thenr ?_)))))
          refine xw_ret1 Try.results20 (rv_tmp rfl) ?_
          intro w hw
          exact ⟨by rw [hj], hw.below⟩
        · have hb : (!within (b.getD i 0) 1 3) = false := hb
          refine cw_skip (xw_blkn (xw_then ?_))
          refine cw_region ?_
          refine rw_run tab_ok 1 [(0, _), (1, _), (25, _)] rfl ⟨rfl, rfl, rfl, trivial⟩ ?_
          refine rw_s (qs_add rfl rfl rfl (by omega)) rfl rfl ?_
          refine rw_run tab_ok 1 [(0, _), (1, _), (6, _)] rfl ⟨rfl, rfl, rfl, trivial⟩ ?_
          refine rw_round (i + 1) (⟨hil, by rw [hsn, hno]; exact hb⟩) (by show _ - _ < _ - _; omega) ⟨rfl, rfl, rfl, trivial⟩ me
      · obtain rfl : i = b.length := by omega
        rw [List.take_length] at hno
        refine cw_exit (xw_thenx (xw_thenx (xw_blk ?_)))
        refine xw_join () (hno) ⟨rfl, rfl, trivial⟩ me
    · rintro _ hb1
      have hj : joinE a b = if 8 < a.length ∨ 8 < b.length then 2 else if joinL a b = none then 4 else 0 := by
        unfold joinE
        rw [if_neg (by rw [ha1]; decide), if_neg (by rw [hb1]; decide)]
      have ok : ∀ l : List Int, l.any badT = false → Ty l := fun l hl t ht => by
        simp only [List.any_eq_false] at hl
        have := hl t ht
        unfold badT at this
        simp at this
        omega
      refine cw_cut (fun _ : Unit => ¬ (8 < a.length ∨ 8 < b.length)) (fun _ => [(0, .slice A1 a.length c1), (1, .slice A2 b.length c2)]) (fun _ => []) ?_ ?_
      · refine cw_seq ?_
        refine cw_region ?_
        refine rw_run tab_ok 1 [(0, _), (1, _), (33, _)] rfl ⟨rfl, rfl, rfl, trivial⟩ ?_
        refine rw_s (qs_len Try.underlying35 rfl rfl) rfl rfl ?_
        refine rw_run tab_ok 2 [(0, _), (1, _), (36, _)] rfl ⟨rfl, rfl, rfl, trivial⟩ ?_
        refine rw_split (t := 36) rfl (fun h8 => ?_) (fun h8 => ?_)
        · have h8 := of_decide_eq_true h8
          have h8 : (8 : Int) < a.length := h8
          rw [if_pos (.inl (by omega))] at hj
          refine rw_run tab_ok 4 [(0, _), (1, _), (40, _)] rfl ⟨rfl, rfl, rfl, trivial⟩ ?_
          refine rw_end ?_
          refine cw_cond_t rfl ?_
          refine cw_seq ?_
          refine cw_region ?_
          refine rw_run tab_ok 1 [(4, _)] rfl ⟨rfl, trivial⟩ ?_
          refine rw_end ?_
          refine cw_ret (xw_thenr ?_)
          refine xw_ret1 Try.results20 (rv_tmp rfl) ?_
          intro w hw
          exact ⟨by rw [hj], hw.below⟩
        · have h8 := of_decide_eq_false h8
          have h8 : ¬ (8 : Int) < a.length := h8
          refine rw_run tab_ok 1 [(0, _), (1, _), (36, _), (37, _)] rfl ⟨rfl, rfl, rfl, rfl, trivial⟩ ?_
          refine rw_s (qs_len Try.underlying35 rfl rfl) rfl rfl ?_
          refine rw_run tab_ok 2 [(0, _), (1, _), (40, _)] rfl ⟨rfl, rfl, rfl, trivial⟩ ?_
          refine rw_end ?_
          refine cw_condD rfl (fun h9 => ?_) (fun h9 => ?_)
          · have h9 : (8 : Int) < b.length := h9
            rw [if_pos (.inr (by omega))] at hj
            refine cw_seq ?_
            refine cw_region ?_
            refine rw_run tab_ok 1 [(4, _)] rfl ⟨rfl, trivial⟩ ?_
            refine rw_end ?_
            refine cw_ret (xw_thenr ?_)
            refine xw_ret1 Try.results20 (rv_tmp rfl) ?_
            intro w hw
            exact ⟨by rw [hj], hw.below⟩
          · have h9 : ¬ (8 : Int) < b.length := h9
            refine cw_skip ?_
            refine xw_join () (by omega) ⟨rfl, rfl, trivial⟩ me
      · rintro _ h8
        have h8 : ¬ (8 < a.length ∨ 8 < b.length) := h8
        rw [if_neg h8] at hj
        refine cw_seq ?_
        refine cw_region ?_
        refine rw_run tab_ok 2 [(42, _), (43, _)] rfl ⟨rfl, rfl, trivial⟩ ?_
        refine rw_op (ot_cO rfl rfl rfl Try.call22 (fun w hw => rjoinOf_any A1 A2 c1 c2 a b w (hw.ro h1) (hw.ro h2) (ok a ha1) (ok b hb1) (by omega))) rfl rfl (fun ⟨A4, c4⟩ _ => ?_)
        try dsimp only
        refine rw_run tab_ok 5 [(8, _)] rfl ⟨rfl, trivial⟩ ?_
        refine rw_end ?_
        refine cw_seq ?_
        refine cw_seq ?_
        refine cw_region ?_
        refine rw_run tab_ok 2 [(48, _)] rfl ⟨rfl, trivial⟩ ?_
        refine rw_end ?_
        refine cw_cond rfl (fun h9 => ?_) (fun h9 => ?_)
        · have h9 : joinL a b = none := by
            cases e : joinL a b with
            | none => rfl
            | some j => rw [e] at h9; cases h9
          rw [if_pos h9] at hj
          refine cw_seq ?_
          refine cw_region ?_
          refine rw_run tab_ok 1 [(4, _)] rfl ⟨rfl, trivial⟩ ?_
          refine rw_end ?_
          refine cw_ret (xw_thenr ?_)
          refine xw_ret1 Try.results20 (rv_tmp rfl) ?_
          intro w hw
          exact ⟨by rw [hj], hw.below⟩
        · have h9 : ¬ joinL a b = none := fun e => by rw [e] at h9; cases h9
          rw [if_neg h9] at hj
          refine cw_skip (xw_then ?_)
          refine cw_seq ?_
          refine cw_region ?_
          refine rw_run tab_ok 1 [(4, _)] rfl ⟨rfl, trivial⟩ ?_
          refine rw_end ?_
          refine cw_ret ?_
          refine xw_ret1 Try.results20 (rv_tmp rfl) ?_
          intro w hw
          exact ⟨by rw [hj], hw.below⟩
end Go.Proofs.Ytejpkcheimgdfaa

-- W12
/- The walker: what reads as long as its own blocks, and all that stood at the entry, are as they are. -/
namespace Go.Proofs.Ytejpkcheimgdfaa
open Go.RowKit

def RRb {α : Type} [Rep α] (B : Nat) (w0 : World) (v : Value) (xs : List α) : Res where
  P w F := (∀ b, F b → b < w.heap.size) ∧ ∀ w', (∀ b, F b → w'.heap[b]? = w.heap[b]?) → Cells B w0 w' → B ≤ w'.heap.size → Sl w' v xs
  loc {w w' F} h hw := ⟨fun b hb => by
      have h1 := h.1 b hb
      have h2 := hw b hb
      rw [Array.getElem?_eq_getElem h1] at h2
      exact (Array.getElem?_eq_some_iff.1 h2).1, fun w'' h'' => h.2 w'' fun b hb => (h'' b hb).trans (hw b hb)⟩
  lt h hb := h.1 _ hb
section
variable {B : Nat} {w0 w : World} {H H' : List Res}
theorem SF.rb {α : Type} [Rep α] {A : Option Addr} {m c : Nat} {xs : List α} (hl : xs.length = m) (hp : Foc H (RRb B w0 (.slice A m c) xs) H') : SF B w0 H A m c xs :=
  ⟨hl, fun w hw => by obtain ⟨F, h, _⟩ := hw.rd hp; exact h.2 w (fun _ _ => rfl) (.of_below hw.below) hw.le⟩
theorem rb_ro {α : Type} [Rep α] {v : Value} {xs : List α} (h : SlB w0 B v xs) (hw : Cw B w0 H w) : Cw B w0 (RRb B w0 v xs :: H) w := by
  obtain ⟨h1, h2, F, h3, h4⟩ := hw
  exact ⟨h1, h2, F, ⟨fun _ => False, F, ⟨fun _ h => h.elim, fun w' _ hc hb => (h.keep hc).more hb⟩, h3, fun _ h _ => h, fun b => by simp⟩, h4⟩
theorem rb_own {α : Type} [Ow α] {v : Value} {xs : List α} (h : Cw B w0 (ROw v xs :: H) w) : Cw B w0 (RRb B w0 v xs :: H) w := by
  refine h.upd fun F ho _ => ⟨F, ⟨fun b hb => OwL.lt (show OwL w F v xs from ho) hb, fun w' hw' _ _ => OwL.sl (OwL.frame (show OwL w F v xs from ho) hw')⟩, rfl, rfl, rfl, Nat.le_refl _, fun _ _ _ => rfl, fun b hb => .inl hb⟩
theorem rb_of {α : Type} [Rep α] {Hel : List Res} {v : Value} {xs : List α} (hr : ∀ w F, Hs w Hel F → Cells B w0 w → B ≤ w.heap.size → Sl w v xs) (h : Cw B w0 (Hel ++ H) w) : Cw B w0 (RRb B w0 v xs :: H) w := by
  have h := Cw.pack h
  refine h.upd fun F ho _ => ?_
  have ho : Hs w Hel F := ho
  exact ⟨F, ⟨fun b hb => Hs.lt ho hb, fun w' hw' hc hb => hr w' F (Hs.loc ho hw') hc hb⟩, rfl, rfl, rfl, Nat.le_refl _, fun _ _ _ => rfl, fun b hb => .inl hb⟩
end
end Go.Proofs.Ytejpkcheimgdfaa

-- V17
/- Verify: the document's trial of an op. -/
namespace Go.Proofs.Ytejpkcheimgdfaa
open Go.RowKit

theorem tyL_nil (x : Int) : tyL x [] = [] := rfl
theorem plain_letters {c : Int} (h8 : ¬ c = 8) (h9 : ¬ c = 9) (x : Int) : tyL x (letters c).1 = (plainT c).1 ∧ tyL x (letters c).2 = (plainT c).2 := by
  unfold letters plainT
  by_cases h1 : c = 1 ∨ c = 21
  · rw [if_pos h1, if_pos h1]; exact ⟨rfl, rfl⟩
  rw [if_neg h1, if_neg h1]
  by_cases h2 : c = 5 ∨ c = 6 ∨ c = 7
  · rw [if_pos h2, if_pos h2]; exact ⟨rfl, rfl⟩
  rw [if_neg h2, if_neg h2, if_neg h8, if_neg h9]
  by_cases h3 : c = 11 ∨ c = 20
  · rw [if_pos h3, if_pos h3]; exact ⟨rfl, rfl⟩
  rw [if_neg h3, if_neg h3]
  by_cases h4 : c = 14
  · rw [if_pos h4, if_pos h4]; exact ⟨rfl, rfl⟩
  rw [if_neg h4, if_neg h4]
  by_cases h5 : c = 15
  · rw [if_pos h5, if_pos h5]; exact ⟨rfl, rfl⟩
  rw [if_neg h5, if_neg h5]
  by_cases h6 : c = 16
  · rw [if_pos h6, if_pos h6]; exact ⟨rfl, rfl⟩
  rw [if_neg h6, if_neg h6]
  by_cases h7 : c = 17 ∨ c = 19
  · rw [if_pos h7, if_pos h7]; exact ⟨rfl, rfl⟩
  rw [if_neg h7, if_neg h7]
  by_cases h10 : c = 18
  · rw [if_pos h10, if_pos h10]; exact ⟨rfl, rfl⟩
  rw [if_neg h10, if_neg h10]
  exact ⟨rfl, rfl⟩
theorem letters_len (c : Int) : (letters c).1.length ≤ 3 ∧ (letters c).2.length ≤ 3 := by
  unfold letters
  repeat (first | split | decide)
/-- The op's local, if it names one. -/
def locT (f : MFunc) (o : MOp) : Int := if o.c = 8 ∨ o.c = 9 then f.locals.getD o.a.toNat 0 else 0
theorem tl_default {fs : List MFunc} {f : MFunc} {o : MOp} {s : List Int} (h2 : ¬ o.c = 2) (h3 : ¬ o.c = 3) (h4 : ¬ o.c = 4) (h12 : ¬ o.c = 12) (h13 : ¬ o.c = 13) : tl fs f o s = some (tyL (locT f o) (letters o.c).1, tyL (locT f o) (letters o.c).2) := by
  unfold tl locT
  rw [if_neg h2, if_neg h3, if_neg h4, if_neg h12, if_neg h13]
  by_cases h8 : o.c = 8
  · rw [if_pos h8, if_pos (.inl h8), h8]; rfl
  rw [if_neg h8]
  by_cases h9 : o.c = 9
  · rw [if_pos h9, if_pos (.inr h9), h9]; rfl
  rw [if_neg h9, if_neg (by omega), (plain_letters h8 h9 0).1, (plain_letters h8 h9 0).2]
theorem tryO_none {fs : List MFunc} {f : MFunc} {o : MOp} {s : List Int} (h : tl fs f o s = none) : tryO fs f o s = none := by rw [tryO_tl, h]
theorem tryO_not {fs : List MFunc} {f : MFunc} {o : MOp} {s T V : List Int} (h : tl fs f o s = some (T, V)) (hn : ¬ (T.length ≤ s.length ∧ (s.take (s.length - T.length) ++ V).length ≤ 8 ∧ Le (s.drop (s.length - T.length)) T)) : tryO fs f o s = none := by
  cases e : tryO fs f o s with
  | none => rfl
  | some v =>
    obtain ⟨T', V', h1, h2, h3, h4, _⟩ := tryO_iff.1 e
    rw [h] at h1
    cases h1
    exact absurd ⟨h2, h3, h4⟩ hn
set_option maxRecDepth 100000 in
set_option maxHeartbeats 4000000 in
theorem rtry_any (fs : List MFunc) (f : MFunc) (o : MOp) (s : List Int) (Ap A1 A2 As : Option Addr) (cp c1 c2 cs : Nat) (w : World) (hp : Sl w (.slice Ap fs.length cp) fs) (hlo : Sl w (.slice A1 f.locals.length c1) f.locals) (hs : Sl w (.slice As s.length cs) s)
    (hok : OpOk fs f o) (hres : ∀ k, k < fs.length → 0 ≤ (fnAt fs k).result) (hrf : 0 ≤ f.result) (hl : s.length ≤ 1000) :
    Calls Try.prog 32 #[.agg #[.slice Ap fs.length cp], .agg #[.int .i64 f.params, .slice A1 f.locals.length c1, .int .i64 f.result, .slice A2 f.code.length c2], .agg #[.int .i64 o.c, .int .i64 o.a], .slice As s.length cs] w fun e w' =>
      ∃ g : (Option Addr × Nat) × List Int, (∀ v, tryO fs f o s = some v → g.2 = v) ∧ e = .returned (.tuple #[.slice g.1.1 g.2.length g.1.2, .bool (tryO fs f o s).isSome]) ∧ Cw w.heap.size w [ROw (.slice g.1.1 g.2.length g.1.2) g.2] w' := by
  have hcapS := SlB.cap hs
  refine enter Try.func32 rfl Try.ntmps32 rfl ?_
  refine cw_seq ?_
  refine cw_region ?_
  refine rw_op (ot_box rfl rfl rfl) rfl rfl (fun g1 _ => ?_)
  refine rw_op (ot_box rfl rfl rfl) rfl rfl (fun g2 _ => ?_)
  refine rw_op (ot_box rfl rfl rfl) rfl rfl (fun g3 _ => ?_)
  refine rw_run tab_ok 2 [(3, _), (4, _), (5, _), (6, _)] rfl ⟨rfl, rfl, rfl, rfl, trivial⟩ ?_
  refine rw_end ?_
  refine cw_seq ?_
  refine cw_region ?_
  refine rw_run tab_ok 1 [(3, _), (4, _), (5, _), (6, _), (19, _)] rfl ⟨rfl, rfl, rfl, rfl, rfl, trivial⟩ ?_
  refine rw_s (qs_len Try.underlying35 rfl rfl) rfl rfl ?_
  refine rw_run tab_ok 1 [(3, _), (4, _), (5, _), (6, _), (10, _)] rfl ⟨rfl, rfl, rfl, rfl, rfl, trivial⟩ ?_
  refine rw_end ?_
  refine cw_seq ?_
  refine cw_region ?_
  refine rw_run tab_ok 2 [(3, _), (4, _), (5, _), (6, _), (10, _), (11, _), (12, _)] rfl ⟨rfl, rfl, rfl, rfl, rfl, rfl, rfl, trivial⟩ ?_
  refine rw_end ?_
  refine cw_cut (fun g : List Int × List Int × (Option Addr × Nat) × (Option Addr × Nat) => tl fs f o s = some (g.1, g.2.1) ∧ (g.1.length ≤ 1000 ∧ g.2.1.length ≤ 1000)) (fun g => [(3, .slice As s.length cs), (10, .int .i64 (s.length : Int)), (11, .slice g.2.2.1.1 g.1.length g.2.2.1.2), (12, .slice g.2.2.2.1 g.2.1.length g.2.2.2.2)]) (fun g => [RRb w.heap.size w (.slice g.2.2.1.1 g.1.length g.2.2.1.2) g.1, RRb w.heap.size w (.slice g.2.2.2.1 g.2.1.length g.2.2.2.2) g.2.1]) ?_ ?_
  · have hpar := hok.par
    refine cw_seq ?_
    refine cw_region ?_
    refine rw_run tab_ok 1 [(3, _), (4, _), (5, _), (6, _), (10, _), (11, _), (12, _), (21, _)] rfl ⟨rfl, rfl, rfl, rfl, rfl, rfl, rfl, rfl, trivial⟩ ?_
    refine rw_s (qs_ldb fc Try.isAgg3 rfl rfl (by rfl)) rfl rfl ?_
    refine rw_end ?_
    refine cw_block ?_
    refine cw_seq ?_
    refine cw_seq ?_
    refine cw_region ?_
    refine rw_run tab_ok 2 [(3, _), (4, _), (5, _), (6, _), (10, _), (11, _), (12, _), (22, _), (49, _)] rfl ⟨rfl, rfl, rfl, rfl, rfl, rfl, rfl, rfl, rfl, trivial⟩ ?_
    refine rw_end ?_
    refine cw_cutk (fun _ : Unit => True) (fun _ => [(3, .slice As s.length cs), (4, .pointer (some ⟨g1, 0, none⟩)), (5, .pointer (some ⟨g2, 0, none⟩)), (6, .pointer (some ⟨g3, 0, none⟩)), (10, .int .i64 (s.length : Int)), (11, .slice none 0 0), (12, .slice none 0 0), (22, .int .i64 o.c), (49, .bool (decide (o.c = 2 ∨ o.c = 3)))]) (fun _ => [RBox g1 [.slice Ap fs.length cp] 24, RBox g2 [.int .i64 f.params, .slice A1 f.locals.length c1, .int .i64 f.result, .slice A2 f.code.length c2] 54, RBox g3 [.int .i64 o.c, .int .i64 o.a] 61]) ?_ ?_
    · refine cw_condD rfl (fun k2 => ?_) (fun k2 => ?_)
      · rw [decide_eq_true (.inl k2)]
        refine cw_as (t := 49) (v' := .bool true) rfl (by rw [decide_eq_true k2]) ?_
        refine cw_skip ?_
        refine xw_join () (trivial) ⟨rfl, rfl, rfl, rfl, rfl, rfl, rfl, rfl, rfl, trivial⟩ me
      · rw [show decide (o.c = 2 ∨ o.c = 3) = decide (o.c = 3) from decide_eq_decide.2 ⟨fun h => h.resolve_left k2, .inr⟩]
        refine cw_region ?_
        refine rw_run tab_ok 2 [(3, _), (4, _), (5, _), (6, _), (10, _), (11, _), (12, _), (22, _), (49, _)] rfl ⟨rfl, rfl, rfl, rfl, rfl, rfl, rfl, rfl, rfl, trivial⟩ ?_
        refine rw_join () (trivial) ⟨rfl, rfl, rfl, rfl, rfl, rfl, rfl, rfl, rfl, trivial⟩ me
    · rintro _ _
      refine cw_condD rfl (fun k23 => ?_) (fun k23 => ?_)
      · refine cw_seq ?_
        refine cw_seq ?_
        refine cw_region ?_
        refine rw_run tab_ok 2 [(3, _), (6, _), (10, _), (12, _), (53, _)] rfl ⟨rfl, rfl, rfl, rfl, rfl, trivial⟩ ?_
        refine rw_end ?_
        refine cw_condD rfl (fun hn => ?_) (fun hn => ?_)
        · have hno := tryO_none (show tl fs f o s = none from by
            unfold tl
            rcases k23 with k | k
            · rw [if_pos k, if_pos (by omega)]
            · rw [if_neg (by omega), if_pos k, if_pos (by omega)])
          refine cw_seq ?_
          refine cw_region ?_
          refine rw_run tab_ok 2 [(8, _), (9, _)] rfl ⟨rfl, rfl, trivial⟩ ?_
          refine rw_end ?_
          refine cw_ret (xw_thenr (xw_blkr (xw_thenr ?_)))
          refine xw_ret2 Try.results32 (rv_tmp rfl) (rv_tmp rfl) ?_
          intro w hw
          exact ⟨((none, 0), []), fun v hv => (by rw [hno] at hv; cases hv), by rw [hno]; rfl, Cw.nilO Int (hw.msub (T := []) ms)⟩
        · have hcut := SlB.cut hs (s.length - 1) s.length (by omega) (Nat.le_refl _)
          have hdl : (s.drop (s.length - 1)).length = s.length - (s.length - 1) := List.length_drop
          rw [List.take_of_length_le (by omega), ← hdl] at hcut
          refine cw_skip (xw_then ?_)
          refine cw_seq ?_
          refine cw_region ?_
          refine rw_run tab_ok 2 [(3, _), (6, _), (10, _), (12, _), (54, _), (55, _)] rfl ⟨rfl, rfl, rfl, rfl, rfl, rfl, trivial⟩ ?_
          refine rw_s (qs_sub rfl rfl rfl (by omega)) rfl rfl ?_
          refine rw_as (t := 56) (v' := .int .i64 ((s.length - 1 : Nat) : Int)) rfl (by congr 1; omega) ?_
          refine rw_s (qs_slice (lo := s.length - 1) (hi := s.length) Try.underlying35 Try.sizeOf3 ⟨by omega, by omega⟩ rfl rfl rfl rfl) rfl rfl ?_
          refine rw_run tab_ok 1 [(3, _), (6, _), (10, _), (11, _), (12, _)] rfl ⟨rfl, rfl, rfl, rfl, rfl, trivial⟩ ?_
          refine rw_end ?_
          refine cw_as (t := 11) (v' := .slice (cutA As (s.length - 1) cs 1) (s.drop (s.length - 1)).length (cs - (s.length - 1))) rfl (by rw [hdl]) ?_
          refine cw_seq ?_
          refine cw_region ?_
          refine rw_run tab_ok 1 [(3, _), (10, _), (11, _), (12, _), (58, _)] rfl ⟨rfl, rfl, rfl, rfl, rfl, trivial⟩ ?_
          refine rw_s (qs_ldb fc Try.isAgg3 rfl rfl (by rfl)) rfl rfl ?_
          refine rw_run tab_ok 1 [(3, _), (10, _), (11, _), (12, _), (60, _)] rfl ⟨rfl, rfl, rfl, rfl, rfl, trivial⟩ ?_
          refine rw_end ?_
          refine cw_condD rfl (fun h3 => ?_) (fun h3 => ?_)
          · have htl : tl fs f o s = some (s.drop (s.length - 1), [s.getD (s.length - 1) 0, s.getD (s.length - 1) 0]) := by unfold tl; rw [if_neg (by omega), if_pos h3, if_neg (by omega)]
            have i1 := all_i64 hs (k := s.length - 1) (by omega)
            have ez : ((s.length : Int) - 1).toNat = s.length - 1 := by omega
            refine cw_draw (.still 0 (.still 1 (.still 2 (.still 3 (.still 4 (.still 5 (.still 6 (.still 7 (.still 8 (.still 9 (.pick 10 (.still 11 .done) .stop))))))))))) [] rfl (by kernel_rfl) (by kernel_rfl) ?_
            refine ro_run tab_ok ha 2 [(3, _), (10, _), (11, _), (12, _), (61, _), (62, _)] rfl ⟨rfl, rfl, rfl, rfl, rfl, rfl, trivial⟩ ?_
            refine ro_s2 rfl (qs_sub rfl rfl rfl (by omega)) rfl rfl ha ?_
            refine ro_s2 rfl (qs_idxI Try.underlying35 Try.sizeOf3 (.ro hs) (by omega) rfl rfl rfl) rfl rfl ha ?_
            refine ro_s2 rfl (qs_ld (SF.int (.ro hs) (by omega)) rfl rfl Try.isAgg3) rfl rfl ha ?_
            refine ro_run tab_ok ha 2 [(3, _), (10, _), (11, _), (12, _), (65, _), (66, _), (67, _)] rfl ⟨rfl, rfl, rfl, rfl, rfl, rfl, rfl, trivial⟩ ?_
            refine ro_s2 rfl (qs_sub rfl rfl rfl (by omega)) rfl rfl ha ?_
            refine ro_s2 rfl (qs_idxI Try.underlying35 Try.sizeOf3 (.ro hs) (by omega) rfl rfl rfl) rfl rfl ha ?_
            refine ro_s2 rfl (qs_ld (SF.int (.ro hs) (by omega)) rfl rfl Try.isAgg3) rfl rfl ha ?_
            refine ro_op2 rfl (ot_bsl (cs := [_, _]) Try.underlying35 Try.sizeOf3 Try.zeroValue3 rfl rfl rfl rfl rfl) rfl rfl (.inr fun _ => ha) (fun g4 _ => ?_) ro_stop
            refine ro_run tab_ok ha 1 [(3, _), (10, _), (11, _), (12, _)] rfl ⟨rfl, rfl, rfl, rfl, trivial⟩ ?_
            refine ro_endx (xw_blkn ?_)
            rw [ez]
            refine xw_join (s.drop (s.length - 1), [s.getD (s.length - 1) 0, s.getD (s.length - 1) 0], (cutA As (s.length - 1) cs 1, cs - (s.length - 1)), (some ⟨g4, 0, none⟩, 2)) (⟨htl, by show (s.drop (s.length - 1)).length ≤ 1000; omega, by show 2 ≤ 1000; decide⟩) ⟨rfl, rfl, rfl, rfl, trivial⟩ (fun w h => (rb_ro hcut (rb_own (row_ow (α := Int) (m := 2) [s.getD (s.length - 1) 0, s.getD (s.length - 1) 0] rfl (two_i64 i1 i1) rfl (by decide) (h.msub (T := [RBox g4 _ _]) ms)))).msub ms)
          · have htl : tl fs f o s = some (s.drop (s.length - 1), []) := by unfold tl; rw [if_pos (by omega), if_neg (by omega)]
            refine cw_skip (xw_blkn ?_)
            refine xw_join (s.drop (s.length - 1), [], (cutA As (s.length - 1) cs 1, cs - (s.length - 1)), (none, 0)) (⟨htl, by show (s.drop (s.length - 1)).length ≤ 1000; omega, by show 0 ≤ 1000; decide⟩) ⟨rfl, rfl, rfl, rfl, trivial⟩ (fun w h => (rb_ro hcut (rb_ro (SlB.nil_ (α := Int)) h)).msub ms)
      · have n2 : ¬ o.c = 2 := fun e => k23 (.inl e)
        have n3 : ¬ o.c = 3 := fun e => k23 (.inr e)
        refine cw_seq ?_
        refine cw_region ?_
        refine rw_run tab_ok 2 [(3, _), (4, _), (5, _), (6, _), (10, _), (11, _), (12, _), (22, _), (72, _)] rfl ⟨rfl, rfl, rfl, rfl, rfl, rfl, rfl, rfl, rfl, trivial⟩ ?_
        refine rw_end ?_
        refine cw_condD rfl (fun h4 => ?_) (fun h4 => ?_)
        · refine cw_seq ?_
          refine cw_seq ?_
          refine cw_region ?_
          refine rw_run tab_ok 2 [(3, _), (10, _), (75, _)] rfl ⟨rfl, rfl, rfl, trivial⟩ ?_
          refine rw_end ?_
          refine cw_condD rfl (fun hn => ?_) (fun hn => ?_)
          · have hno := tryO_none (show tl fs f o s = none from by unfold tl; rw [if_neg n2, if_neg n3, if_pos h4, if_pos (by omega)])
            refine cw_seq ?_
            refine cw_region ?_
            refine rw_run tab_ok 2 [(8, _), (9, _)] rfl ⟨rfl, rfl, trivial⟩ ?_
            refine rw_end ?_
            refine cw_ret (xw_thenr (xw_blkr (xw_thenr ?_)))
            refine xw_ret2 Try.results32 (rv_tmp rfl) (rv_tmp rfl) ?_
            intro w hw
            exact ⟨((none, 0), []), fun v hv => (by rw [hno] at hv; cases hv), by rw [hno]; rfl, Cw.nilO Int (hw.msub (T := []) ms)⟩
          · have htl : tl fs f o s = some (s.drop (s.length - 2), [s.getD (s.length - 1) 0, s.getD (s.length - 2) 0]) := by unfold tl; rw [if_neg n2, if_neg n3, if_pos h4, if_neg (by omega)]
            have hcut := SlB.cut hs (s.length - 2) s.length (by omega) (Nat.le_refl _)
            have hdl : (s.drop (s.length - 2)).length = s.length - (s.length - 2) := List.length_drop
            rw [List.take_of_length_le (by omega), ← hdl] at hcut
            have i1 := all_i64 hs (k := s.length - 1) (by omega)
            have i2 := all_i64 hs (k := s.length - 2) (by omega)
            have ez : ((s.length : Int) - 1).toNat = s.length - 1 := by omega
            have ez2 : ((s.length : Int) - 2).toNat = s.length - 2 := by omega
            refine cw_skip (xw_then ?_)
            refine cw_draw (.still 0 (.still 1 (.still 2 (.still 3 (.still 4 (.still 5 (.still 6 (.still 7 (.still 8 (.still 9 (.still 10 (.still 11 (.still 12 (.still 13 (.still 15 (.pick 14 (.still 16 .done) .stop)))))))))))))))) [] rfl (by kernel_rfl) (by kernel_rfl) ?_
            refine ro_run tab_ok ha 2 [(3, _), (10, _), (76, _), (77, _)] rfl ⟨rfl, rfl, rfl, rfl, trivial⟩ ?_
            refine ro_s2 rfl (qs_sub rfl rfl rfl (by omega)) rfl rfl ha ?_
            refine ro_as (t := 78) (v' := .int .i64 ((s.length - 2 : Nat) : Int)) rfl (by congr 1; omega) ?_
            refine ro_s2 rfl (qs_slice (lo := s.length - 2) (hi := s.length) Try.underlying35 Try.sizeOf3 ⟨by omega, by omega⟩ rfl rfl rfl rfl) rfl rfl ha ?_
            refine ro_run tab_ok ha 2 [(3, _), (10, _), (79, _), (80, _), (81, _)] rfl ⟨rfl, rfl, rfl, rfl, rfl, trivial⟩ ?_
            refine ro_s2 rfl (qs_sub rfl rfl rfl (by omega)) rfl rfl ha ?_
            refine ro_s2 rfl (qs_idxI Try.underlying35 Try.sizeOf3 (.ro hs) (by omega) rfl rfl rfl) rfl rfl ha ?_
            refine ro_s2 rfl (qs_ld (SF.int (.ro hs) (by omega)) rfl rfl Try.isAgg3) rfl rfl ha ?_
            refine ro_run tab_ok ha 2 [(3, _), (10, _), (79, _), (84, _), (85, _), (86, _)] rfl ⟨rfl, rfl, rfl, rfl, rfl, rfl, trivial⟩ ?_
            refine ro_s2 rfl (qs_sub rfl rfl rfl (by omega)) rfl rfl ha ?_
            refine ro_s2 rfl (qs_idxI Try.underlying35 Try.sizeOf3 (.ro hs) (by omega) rfl rfl rfl) rfl rfl ha ?_
            refine ro_s2 rfl (qs_ld (SF.int (.ro hs) (by omega)) rfl rfl Try.isAgg3) rfl rfl ha ?_
            refine ro_run tab_ok ha 1 [(3, _), (10, _), (11, _), (84, _), (89, _)] rfl ⟨rfl, rfl, rfl, rfl, rfl, trivial⟩ ?_
            refine ro_op2 rfl (ot_bsl (cs := [_, _]) Try.underlying35 Try.sizeOf3 Try.zeroValue3 rfl rfl rfl rfl rfl) rfl rfl (.inr fun _ => ha) (fun g5 _ => ?_) ro_stop
            refine ro_run tab_ok ha 1 [(3, _), (10, _), (11, _), (12, _)] rfl ⟨rfl, rfl, rfl, rfl, trivial⟩ ?_
            refine ro_endx (xw_blkn ?_)
            rw [ez, ez2, ← hdl]
            refine xw_join (s.drop (s.length - 2), [s.getD (s.length - 1) 0, s.getD (s.length - 2) 0], (cutA As (s.length - 2) cs 1, cs - (s.length - 2)), (some ⟨g5, 0, none⟩, 2)) (⟨htl, by show (s.drop (s.length - 2)).length ≤ 1000; omega, by show 2 ≤ 1000; decide⟩) ⟨rfl, rfl, rfl, rfl, trivial⟩ (fun w h => (rb_ro hcut (rb_own (row_ow (α := Int) (m := 2) [s.getD (s.length - 1) 0, s.getD (s.length - 2) 0] rfl (two_i64 i1 i2) rfl (by decide) (h.msub (T := [RBox g5 _ _]) ms)))).msub ms)
        · refine cw_seq ?_
          refine cw_region ?_
          refine rw_run tab_ok 2 [(3, _), (4, _), (5, _), (6, _), (10, _), (11, _), (12, _), (22, _), (91, _)] rfl ⟨rfl, rfl, rfl, rfl, rfl, rfl, rfl, rfl, rfl, trivial⟩ ?_
          refine rw_end ?_
          refine cw_condD rfl (fun h12 => ?_) (fun h12 => ?_)
          · have ⟨ha0, hal⟩ := hok.call h12
            have hkl : o.a.toNat < fs.length := by omega
            obtain ⟨B1, d1, B2, d2, hBl, hBc, hBi, hcell⟩ := SlB.fn hp hkl
            have hpk := hpar o.a.toNat hkl
            have hrk := hres o.a.toNat hkl
            have htl : tl fs f o s = some (calledT (fnAt fs o.a.toNat), resultT (fnAt fs o.a.toNat)) := by unfold tl; rw [if_neg n2, if_neg n3, if_neg h4, if_neg (by omega), if_neg (by omega), if_pos h12]
            have hcl : (calledT (fnAt fs o.a.toNat)).length = (fnAt fs o.a.toNat).params.toNat := by unfold calledT; rw [List.length_take]; omega
            have hkp : (fnAt fs o.a.toNat).params.toNat ≤ (fnAt fs o.a.toNat).locals.length := by omega
            have hto : Sl w (.slice B1 (calledT (fnAt fs o.a.toNat)).length d1) (calledT (fnAt fs o.a.toNat)) := by
              rw [hcl]
              exact SlB.to hBl hkp
            have hBcap := SlB.cap hBl
            refine cw_seq ?_
            refine cw_region ?_
            refine rw_run tab_ok 1 [(3, _), (6, _), (10, _), (12, _), (93, _)] rfl ⟨rfl, rfl, rfl, rfl, rfl, trivial⟩ ?_
            refine rw_s (qs_ldb fc Try.isAgg22 rfl rfl (by rfl)) rfl rfl ?_
            refine rw_run tab_ok 1 [(3, _), (10, _), (12, _), (94, _), (95, _)] rfl ⟨rfl, rfl, rfl, rfl, rfl, trivial⟩ ?_
            refine rw_s (qs_ldb fc Try.isAgg3 rfl rfl (by rfl)) rfl rfl ?_
            refine rw_s (qs_idxI Try.underlying22 Try.sizeOf54 (.ro hp) (by omega) rfl rfl rfl) rfl rfl ?_
            refine rw_s (qs_ldA (hcell _) rfl rfl Try.isAgg54 Try.sizeOf54) rfl rfl ?_
            refine rw_op (ot_alloc Try.zeroValue54 rfl rfl) rfl rfl (fun g6 _ => ?_)
            refine rw_op (ot_stb _ fc Try.sizeOf54 rfl rfl rfl rfl rfl (by rfl) rfl (by rfl)) rfl rfl (fun _ _ => ?_)
            refine rw_end ?_
            refine cw_seq ?_
            refine cw_region ?_
            refine rw_run tab_ok 1 [(3, _), (10, _), (12, _), (13, _), (99, _)] rfl ⟨rfl, rfl, rfl, rfl, rfl, trivial⟩ ?_
            refine rw_s (qs_ldb fc Try.isAgg35 rfl rfl (by rfl)) rfl rfl ?_
            refine rw_run tab_ok 1 [(3, _), (10, _), (12, _), (13, _), (100, _), (101, _)] rfl ⟨rfl, rfl, rfl, rfl, rfl, rfl, trivial⟩ ?_
            refine rw_s (qs_ldb fc Try.isAgg3 rfl rfl (by rfl)) rfl rfl ?_
            refine rw_as (t := 102) (v' := .int .i64 ((((fnAt fs o.a.toNat).params.toNat : Nat)) : Int)) rfl (by congr 1; omega) ?_
            refine rw_s (qs_to (k := (fnAt fs o.a.toNat).params.toNat) Try.underlying35 Try.sizeOf3 (Nat.le_trans hkp hBcap) rfl rfl rfl) rfl rfl ?_
            refine rw_run tab_ok 1 [(3, _), (10, _), (11, _), (12, _), (13, _)] rfl ⟨rfl, rfl, rfl, rfl, rfl, trivial⟩ ?_
            refine rw_end ?_
            refine cw_seq ?_
            refine cw_region ?_
            refine rw_run tab_ok 1 [(3, _), (10, _), (11, _), (12, _), (13, _), (104, _)] rfl ⟨rfl, rfl, rfl, rfl, rfl, rfl, trivial⟩ ?_
            refine rw_s (qs_ldb fc Try.isAgg3 rfl rfl (by rfl)) rfl rfl ?_
            refine rw_run tab_ok 1 [(3, _), (10, _), (11, _), (12, _), (13, _), (106, _)] rfl ⟨rfl, rfl, rfl, rfl, rfl, rfl, trivial⟩ ?_
            refine rw_end ?_
            refine cw_as (t := 11) (v' := .slice B1 (calledT (fnAt fs o.a.toNat)).length d1) rfl (by rw [hcl]) ?_
            refine cw_condD rfl (fun hr0 => ?_) (fun hr0 => ?_)
            · have er : resultT (fnAt fs o.a.toNat) = [(fnAt fs o.a.toNat).result] := by unfold resultT; rw [if_neg (by omega)]
              refine cw_region ?_
              refine rw_run tab_ok 1 [(3, _), (10, _), (11, _), (107, _)] rfl ⟨rfl, rfl, rfl, rfl, trivial⟩ ?_
              refine rw_s (qs_ldb fc Try.isAgg3 rfl rfl (by rfl)) rfl rfl ?_
              refine rw_op (ot_bsl (cs := [_]) Try.underlying35 Try.sizeOf3 Try.zeroValue3 rfl rfl rfl rfl rfl) rfl rfl (fun g7 _ => ?_)
              refine rw_run tab_ok 1 [(3, _), (10, _), (11, _), (12, _)] rfl ⟨rfl, rfl, rfl, rfl, trivial⟩ ?_
              refine rw_endx (xw_blkn ?_)
              refine xw_join (calledT (fnAt fs o.a.toNat), [(fnAt fs o.a.toNat).result], (B1, d1), (some ⟨g7, 0, none⟩, 1)) (⟨er ▸ htl, by show (calledT (fnAt fs o.a.toNat)).length ≤ 1000; omega, by show 1 ≤ 1000; decide⟩) ⟨rfl, rfl, rfl, rfl, trivial⟩ (fun w h => (rb_ro hto (rb_own (row_ow (α := Int) (m := 1) [(fnAt fs o.a.toNat).result] rfl (one_i64 hBi.2) rfl (by decide) (h.msub (T := [RBox g7 _ _]) ms)))).msub ms)
            · have er : resultT (fnAt fs o.a.toNat) = [] := by unfold resultT; rw [if_pos (by omega)]
              refine cw_skip (xw_blkn ?_)
              refine xw_join (calledT (fnAt fs o.a.toNat), [], (B1, d1), (none, 0)) (⟨er ▸ htl, by show (calledT (fnAt fs o.a.toNat)).length ≤ 1000; omega, by show 0 ≤ 1000; decide⟩) ⟨rfl, rfl, rfl, rfl, trivial⟩ (fun w h => (rb_ro hto (rb_ro (SlB.nil_ (α := Int)) h)).msub ms)
          · refine cw_seq ?_
            refine cw_region ?_
            refine rw_run tab_ok 2 [(3, _), (5, _), (6, _), (10, _), (11, _), (12, _), (110, _)] rfl ⟨rfl, rfl, rfl, rfl, rfl, rfl, rfl, trivial⟩ ?_
            refine rw_end ?_
            refine cw_condD rfl (fun h13 => ?_) (fun h13 => ?_)
            · refine cw_seq ?_
              refine cw_seq ?_
              refine cw_region ?_
              refine rw_run tab_ok 1 [(3, _), (5, _), (10, _), (11, _), (12, _), (112, _)] rfl ⟨rfl, rfl, rfl, rfl, rfl, rfl, trivial⟩ ?_
              refine rw_s (qs_ldb fc Try.isAgg3 rfl rfl (by rfl)) rfl rfl ?_
              refine rw_run tab_ok 1 [(3, _), (5, _), (10, _), (11, _), (12, _), (114, _)] rfl ⟨rfl, rfl, rfl, rfl, rfl, rfl, trivial⟩ ?_
              refine rw_end ?_
              refine cw_cutk (fun _ : Option Addr × Nat => True) (fun g => [(3, .slice As s.length cs), (10, .int .i64 (s.length : Int)), (11, .slice g.1 (resultT f).length g.2), (12, .slice none 0 0)]) (fun g => [RRb w.heap.size w (.slice g.1 (resultT f).length g.2) (resultT f)]) ?_ ?_
              · refine cw_condD rfl (fun hr0 => ?_) (fun hr0 => ?_)
                · have er : resultT f = [f.result] := by unfold resultT; rw [if_neg (by omega)]
                  rw [er]
                  refine cw_region ?_
                  refine rw_run tab_ok 1 [(3, _), (10, _), (12, _), (115, _)] rfl ⟨rfl, rfl, rfl, rfl, trivial⟩ ?_
                  refine rw_s (qs_ldb fc Try.isAgg3 rfl rfl (by rfl)) rfl rfl ?_
                  refine rw_op (ot_bsl (cs := [_]) Try.underlying35 Try.sizeOf3 Try.zeroValue3 rfl rfl rfl rfl rfl) rfl rfl (fun g8 _ => ?_)
                  refine rw_run tab_ok 1 [(3, _), (10, _), (11, _), (12, _)] rfl ⟨rfl, rfl, rfl, rfl, trivial⟩ ?_
                  refine rw_join (some ⟨g8, 0, none⟩, 1) (trivial) ⟨rfl, rfl, rfl, rfl, trivial⟩ (fun w h => (rb_own (row_ow (α := Int) (m := 1) [f.result] rfl (one_i64 hok.res) rfl (by decide) (h.msub (T := [RBox g8 _ _]) ms))).msub ms)
                · have er : resultT f = [] := by unfold resultT; rw [if_pos (by omega)]
                  rw [er]
                  refine cw_skip ?_
                  refine xw_join (none, 0) (trivial) ⟨rfl, rfl, rfl, rfl, trivial⟩ (fun w h => (rb_ro (SlB.nil_ (α := Int)) h).msub ms)
              · rintro ⟨A4, c4⟩ _
                try dsimp only
                have hrl : (resultT f).length ≤ 1 := by unfold resultT; split <;> simp
                refine cw_seq ?_
                refine cw_region ?_
                refine rw_run tab_ok 2 [(3, _), (10, _), (11, _), (12, _), (118, _), (119, _)] rfl ⟨rfl, rfl, rfl, rfl, rfl, rfl, trivial⟩ ?_
                refine rw_s (qs_len Try.underlying35 rfl rfl) rfl rfl ?_
                refine rw_run tab_ok 1 [(3, _), (10, _), (11, _), (12, _), (121, _)] rfl ⟨rfl, rfl, rfl, rfl, rfl, trivial⟩ ?_
                refine rw_end ?_
                refine cw_condN rfl (fun hne => ?_) (fun hne => ?_)
                · have hno := tryO_none (show tl fs f o s = none from by unfold tl; rw [if_neg n2, if_neg n3, if_neg h4, if_neg (by omega), if_neg (by omega), if_neg h12, if_pos h13, if_pos (by omega)])
                  refine cw_seq ?_
                  refine cw_region ?_
                  refine rw_run tab_ok 2 [(8, _), (9, _)] rfl ⟨rfl, rfl, trivial⟩ ?_
                  refine rw_end ?_
                  refine cw_ret (xw_blkr (xw_thenr ?_))
                  refine xw_ret2 Try.results32 (rv_tmp rfl) (rv_tmp rfl) ?_
                  intro w hw
                  exact ⟨((none, 0), []), fun v hv => (by rw [hno] at hv; cases hv), by rw [hno]; rfl, Cw.nilO Int (hw.msub (T := []) ms)⟩
                · have htl : tl fs f o s = some (resultT f, []) := by unfold tl; rw [if_neg n2, if_neg n3, if_neg h4, if_neg (by omega), if_neg (by omega), if_neg h12, if_pos h13, if_neg (by omega)]
                  refine cw_skip (xw_blkn ?_)
                  refine xw_join (resultT f, [], (A4, c4), (none, 0)) (⟨htl, by show (resultT f).length ≤ 1000; omega, by show 0 ≤ 1000; decide⟩) ⟨rfl, rfl, rfl, rfl, trivial⟩ (fun w h => (rb_ro (SlB.nil_ (α := Int)) h).msub ms)
            · have htl := tl_default (fs := fs) (f := f) (o := o) (s := s) n2 n3 h4 h12 h13
              have hll := letters_len o.c
              have h1l := tyL_len (locT f o) (letters o.c).1
              have h2l := tyL_len (locT f o) (letters o.c).2
              have hxi : I64 (locT f o) := by
                unfold locT
                split
                · rename_i k
                  have := hok.loc k
                  exact all_i64 hlo (k := o.a.toNat) (by omega)
                · decide
              refine cw_seq ?_
              refine cw_region ?_
              refine rw_run tab_ok 1 [(3, _), (5, _), (6, _), (10, _), (14, _)] rfl ⟨rfl, rfl, rfl, rfl, rfl, trivial⟩ ?_
              refine rw_end ?_
              refine cw_cut (fun _ : Unit => True) (fun _ => [(3, .slice As s.length cs), (6, .pointer (some ⟨g3, 0, none⟩)), (10, .int .i64 (s.length : Int)), (14, .int .i64 (locT f o))]) (fun _ => [RBox g1 [.slice Ap fs.length cp] 24, RBox g2 [.int .i64 f.params, .slice A1 f.locals.length c1, .int .i64 f.result, .slice A2 f.code.length c2] 54, RBox g3 [.int .i64 o.c, .int .i64 o.a] 61]) ?_ ?_
              · refine cw_seq ?_
                refine cw_region ?_
                refine rw_run tab_ok 1 [(3, _), (5, _), (6, _), (10, _), (14, _), (23, _)] rfl ⟨rfl, rfl, rfl, rfl, rfl, rfl, trivial⟩ ?_
                refine rw_s (qs_ldb fc Try.isAgg3 rfl rfl (by rfl)) rfl rfl ?_
                refine rw_run tab_ok 2 [(3, _), (5, _), (6, _), (10, _), (14, _), (26, _)] rfl ⟨rfl, rfl, rfl, rfl, rfl, rfl, trivial⟩ ?_
                refine rw_split (t := 26) rfl (fun h8 => ?_) (fun h8 => ?_)
                · have h8 : o.c = 8 := of_decide_eq_true h8
                  have el : locT f o = f.locals.getD o.a.toNat 0 := by unfold locT; rw [if_pos (.inl h8)]
                  have hlk := hok.loc (.inl h8)
                  rw [el]
                  refine rw_run tab_ok 4 [(3, _), (5, _), (6, _), (10, _), (14, _), (30, _)] rfl ⟨rfl, rfl, rfl, rfl, rfl, rfl, trivial⟩ ?_
                  refine rw_end ?_
                  refine cw_cond_t rfl ?_
                  refine cw_region ?_
                  refine rw_run tab_ok 1 [(3, _), (6, _), (10, _), (31, _)] rfl ⟨rfl, rfl, rfl, rfl, trivial⟩ ?_
                  refine rw_s (qs_ldb fc Try.isAgg35 rfl rfl (by rfl)) rfl rfl ?_
                  refine rw_run tab_ok 1 [(3, _), (6, _), (10, _), (32, _), (33, _)] rfl ⟨rfl, rfl, rfl, rfl, rfl, trivial⟩ ?_
                  refine rw_s (qs_ldb fc Try.isAgg3 rfl rfl (by rfl)) rfl rfl ?_
                  refine rw_s (qs_idxI Try.underlying35 Try.sizeOf3 (.ro hlo) (by omega) rfl rfl rfl) rfl rfl ?_
                  refine rw_s (qs_ld (SF.int (.ro hlo) (by omega)) rfl rfl Try.isAgg3) rfl rfl ?_
                  refine rw_run tab_ok 1 [(3, _), (6, _), (10, _), (14, _)] rfl ⟨rfl, rfl, rfl, rfl, trivial⟩ ?_
                  refine rw_join () (trivial) ⟨rfl, rfl, rfl, rfl, trivial⟩ me
                · have h8 : ¬ o.c = 8 := of_decide_eq_false h8
                  refine rw_run tab_ok 1 [(3, _), (5, _), (6, _), (10, _), (14, _), (26, _), (27, _)] rfl ⟨rfl, rfl, rfl, rfl, rfl, rfl, rfl, trivial⟩ ?_
                  refine rw_s (qs_ldb fc Try.isAgg3 rfl rfl (by rfl)) rfl rfl ?_
                  refine rw_run tab_ok 2 [(3, _), (5, _), (6, _), (10, _), (14, _), (30, _)] rfl ⟨rfl, rfl, rfl, rfl, rfl, rfl, trivial⟩ ?_
                  refine rw_end ?_
                  refine cw_condD rfl (fun h9 => ?_) (fun h9 => ?_)
                  · have el : locT f o = f.locals.getD o.a.toNat 0 := by unfold locT; rw [if_pos (.inr h9)]
                    have hlk := hok.loc (.inr h9)
                    rw [el]
                    refine cw_region ?_
                    refine rw_run tab_ok 1 [(3, _), (6, _), (10, _), (31, _)] rfl ⟨rfl, rfl, rfl, rfl, trivial⟩ ?_
                    refine rw_s (qs_ldb fc Try.isAgg35 rfl rfl (by rfl)) rfl rfl ?_
                    refine rw_run tab_ok 1 [(3, _), (6, _), (10, _), (32, _), (33, _)] rfl ⟨rfl, rfl, rfl, rfl, rfl, trivial⟩ ?_
                    refine rw_s (qs_ldb fc Try.isAgg3 rfl rfl (by rfl)) rfl rfl ?_
                    refine rw_s (qs_idxI Try.underlying35 Try.sizeOf3 (.ro hlo) (by omega) rfl rfl rfl) rfl rfl ?_
                    refine rw_s (qs_ld (SF.int (.ro hlo) (by omega)) rfl rfl Try.isAgg3) rfl rfl ?_
                    refine rw_run tab_ok 1 [(3, _), (6, _), (10, _), (14, _)] rfl ⟨rfl, rfl, rfl, rfl, trivial⟩ ?_
                    refine rw_join () (trivial) ⟨rfl, rfl, rfl, rfl, trivial⟩ me
                  · have el : locT f o = 0 := by unfold locT; rw [if_neg (fun h => h.elim h8 h9)]
                    rw [el]
                    refine cw_skip ?_
                    refine xw_join () (trivial) ⟨rfl, rfl, rfl, rfl, trivial⟩ me
              · rintro _ _
                refine cw_seq ?_
                refine cw_region ?_
                refine rw_run tab_ok 1 [(3, _), (10, _), (14, _), (38, _)] rfl ⟨rfl, rfl, rfl, rfl, trivial⟩ ?_
                refine rw_s (qs_ldb fc Try.isAgg3 rfl rfl (by rfl)) rfl rfl ?_
                refine rw_op (ot_c0 rfl rfl rfl Try.call59 (fun w hw => rplain_any o.c w)) rfl rfl (fun _ _ => ?_)
                refine rw_run tab_ok 5 [(3, _), (10, _), (14, _), (15, _), (16, _)] rfl ⟨rfl, rfl, rfl, rfl, rfl, trivial⟩ ?_
                refine rw_end ?_
                refine cw_region ?_
                refine rw_run tab_ok 2 [(3, _), (10, _), (14, _), (16, _), (43, _), (44, _)] rfl ⟨rfl, rfl, rfl, rfl, rfl, rfl, trivial⟩ ?_
                refine rw_op (ot_cO rfl rfl rfl Try.call60 (fun w hw => rtypes_any (letters o.c).1 (locT f o) hxi w (by omega))) rfl rfl (fun ⟨A7, c7⟩ _ => ?_)
                try dsimp only
                refine rw_run tab_ok 2 [(3, _), (10, _), (45, _), (46, _), (47, _)] rfl ⟨rfl, rfl, rfl, rfl, rfl, trivial⟩ ?_
                refine rw_op (ot_cO rfl rfl rfl Try.call60 (fun w hw => rtypes_any (letters o.c).2 (locT f o) hxi w (by omega))) rfl rfl (fun ⟨A8, c8⟩ _ => ?_)
                try dsimp only
                refine rw_run tab_ok 2 [(3, _), (10, _), (11, _), (12, _)] rfl ⟨rfl, rfl, rfl, rfl, trivial⟩ ?_
                refine rw_endx (xw_blkn ?_)
                refine xw_join (tyL (locT f o) (letters o.c).1, tyL (locT f o) (letters o.c).2, (A7, c7), (A8, c8)) (⟨htl, by show (tyL (locT f o) (letters o.c).1).length ≤ 1000; omega, by show (tyL (locT f o) (letters o.c).2).length ≤ 1000; omega⟩) ⟨rfl, rfl, rfl, rfl, trivial⟩ (fun w' h => (rb_own ((rb_own h).msub (T := [ROw (.slice A7 (tyL (locT f o) (letters o.c).1).length c7) (tyL (locT f o) (letters o.c).1), RRb w.heap.size w (.slice A8 (tyL (locT f o) (letters o.c).2).length c8) (tyL (locT f o) (letters o.c).2)]) ms)).msub ms)
  · rintro ⟨T, V, ⟨At, ct⟩, Av, cv⟩ hg
    obtain ⟨htl, hT, hV⟩ : tl fs f o s = some (T, V) ∧ (T.length ≤ 1000 ∧ V.length ≤ 1000) := hg
    try dsimp only
    refine cw_seq ?_
    refine cw_seq ?_
    refine cw_region ?_
    refine rw_run tab_ok 2 [(3, _), (10, _), (11, _), (12, _), (122, _), (123, _)] rfl ⟨rfl, rfl, rfl, rfl, rfl, rfl, trivial⟩ ?_
    refine rw_s (qs_len Try.underlying35 rfl rfl) rfl rfl ?_
    refine rw_run tab_ok 1 [(3, _), (10, _), (11, _), (12, _), (125, _)] rfl ⟨rfl, rfl, rfl, rfl, rfl, trivial⟩ ?_
    refine rw_end ?_
    refine cw_condD rfl (fun h1 => ?_) (fun h1 => ?_)
    · have hno := tryO_not htl (fun h => by have := h.1; omega)
      refine cw_seq ?_
      refine cw_region ?_
      refine rw_run tab_ok 2 [(8, _), (9, _)] rfl ⟨rfl, rfl, trivial⟩ ?_
      refine rw_end ?_
      refine cw_ret (xw_thenr ?_)
      refine xw_ret2 Try.results32 (rv_tmp rfl) (rv_tmp rfl) ?_
      intro w hw
      exact ⟨((none, 0), []), fun v hv => (by rw [hno] at hv; cases hv), by rw [hno]; rfl, Cw.nilO Int (hw.msub (T := []) ms)⟩
    · have hTs : T.length ≤ s.length := by omega
      refine cw_skip (xw_then ?_)
      refine cw_seq ?_
      refine cw_seq ?_
      refine cw_region ?_
      refine rw_run tab_ok 1 [(3, _), (10, _), (11, _), (12, _), (17, _)] rfl ⟨rfl, rfl, rfl, rfl, rfl, trivial⟩ ?_
      refine rw_end ?_
      refine cw_cutk (fun _ : Unit => Le (s.drop (s.length - T.length)) T) (fun _ => [(3, .slice As s.length cs), (10, .int .i64 (s.length : Int)), (11, .slice At T.length ct), (12, .slice Av V.length cv)]) (fun _ => [RRb w.heap.size w (.slice At T.length ct) T, RRb w.heap.size w (.slice Av V.length cv) V]) ?_ ?_
      · refine cw_block (cw_loop (fun i : Nat => i ≤ T.length ∧ ∀ j, j < i → standsB (s.getD (s.length - T.length + j) 0) (T.getD j 0) = true) (fun i => T.length - i) (fun i => [(3, .slice As s.length cs), (10, .int .i64 (s.length : Int)), (11, .slice At T.length ct), (12, .slice Av V.length cv), (17, .int .i64 (i : Int))]) (fun _ => [RRb w.heap.size w (.slice At T.length ct) T, RRb w.heap.size w (.slice Av V.length cv) V]) 0 (⟨Nat.zero_le _, by omega⟩) ⟨rfl, rfl, rfl, rfl, rfl, trivial⟩ me ?_)
        rintro i hi'
        obtain ⟨hi, hall⟩ : i ≤ T.length ∧ ∀ j, j < i → standsB (s.getD (s.length - T.length + j) 0) (T.getD j 0) = true := hi'
        refine cw_seq ?_
        refine cw_seq ?_
        refine cw_region ?_
        refine rw_run tab_ok 2 [(3, _), (10, _), (11, _), (12, _), (17, _), (126, _), (127, _)] rfl ⟨rfl, rfl, rfl, rfl, rfl, rfl, rfl, trivial⟩ ?_
        refine rw_s (qs_len Try.underlying35 rfl rfl) rfl rfl ?_
        refine rw_run tab_ok 1 [(3, _), (10, _), (11, _), (12, _), (17, _), (129, _)] rfl ⟨rfl, rfl, rfl, rfl, rfl, rfl, trivial⟩ ?_
        refine rw_end ?_
        refine cw_condD rfl (fun hlt => ?_) (fun hlt => ?_)
        · have hil : i < T.length := by omega
          refine cw_skip (xw_then ?_)
          refine cw_seq ?_
          refine cw_block ?_
          refine cw_seq ?_
          refine cw_draw (.still 0 (.still 1 (.still 2 (.still 3 (.still 4 (.still 5 (.still 6 (.still 7 (.still 8 (.still 9 (.still 10 (.still 11 (.still 12 (.pick 13 (.still 14 .done) .stop)))))))))))))) [] rfl (by kernel_rfl) (by kernel_rfl) ?_
          refine ro_run tab_ok ha 3 [(3, _), (10, _), (11, _), (12, _), (17, _), (132, _), (133, _), (134, _)] rfl ⟨rfl, rfl, rfl, rfl, rfl, rfl, rfl, rfl, trivial⟩ ?_
          refine ro_s2 rfl (qs_len Try.underlying35 rfl rfl) rfl rfl ha ?_
          refine ro_s2 rfl (qs_sub rfl rfl rfl (by omega)) rfl rfl ha ?_
          refine ro_run tab_ok ha 1 [(3, _), (10, _), (11, _), (12, _), (17, _), (132, _), (136, _), (137, _)] rfl ⟨rfl, rfl, rfl, rfl, rfl, rfl, rfl, rfl, trivial⟩ ?_
          refine ro_s2 rfl (qs_add rfl rfl rfl (by omega)) rfl rfl ha ?_
          refine ro_s2 rfl (qs_idxI Try.underlying35 Try.sizeOf3 (.ro hs) (by omega) rfl rfl rfl) rfl rfl ha ?_
          refine ro_s2 rfl (qs_ld (SF.int (.ro hs) (by omega)) rfl rfl Try.isAgg3) rfl rfl ha ?_
          refine ro_run tab_ok ha 2 [(3, _), (10, _), (11, _), (12, _), (17, _), (140, _), (141, _), (142, _)] rfl ⟨rfl, rfl, rfl, rfl, rfl, rfl, rfl, rfl, trivial⟩ ?_
          refine ro_s2 rfl (qs_idx Try.underlying35 Try.sizeOf3 (SF.rb rfl fc) (by omega) rfl rfl rfl) rfl rfl ha ?_
          refine ro_s2 rfl (qs_ld (SF.int (SF.rb rfl fc) (by omega)) rfl rfl Try.isAgg3) rfl rfl ha ?_
          refine ro_as (t := 140) (v' := .int .i64 (s.getD (s.length - T.length + i) 0)) rfl (by rw [show ((s.length : Int) - (T.length : Int) + (i : Int)).toNat = s.length - T.length + i from by omega]) ?_
          refine ro_op2 rfl (ot_c0 rfl rfl rfl Try.call29 (fun w hw => rstands_any (s.getD (s.length - T.length + i) 0) (T.getD i 0) w)) rfl rfl (.inr fun _ => ha) (fun _ _ => ?_) ro_stop
          refine ro_run tab_ok ha 1 [(3, _), (10, _), (11, _), (12, _), (17, _), (146, _)] rfl ⟨rfl, rfl, rfl, rfl, rfl, rfl, trivial⟩ ?_
          refine ro_end ?_
          refine cw_cond rfl (fun hb => ?_) (fun hb => ?_)
          · have hb : standsB (s.getD (s.length - T.length + i) 0) (T.getD i 0) = false := by simpa using hb
            have hno := tryO_not htl (fun h => by
              have := h.2.2.2 i (by rw [List.length_drop]; omega)
              rw [getD_drop, hb] at this
              cases this)
            refine cw_seq ?_
            refine cw_region ?_
            refine rw_run tab_ok 2 [(8, _), (9, _)] rfl ⟨rfl, rfl, trivial⟩ ?_
            refine rw_end ?_
            refine cw_ret (xw_blkr (xw_thenr (xw_thenr (xw_blkr (xw_thenr ?_)))))
            refine xw_ret2 Try.results32 (rv_tmp rfl) (rv_tmp rfl) ?_
            intro w hw
            exact ⟨((none, 0), []), fun v hv => (by rw [hno] at hv; cases hv), by rw [hno]; rfl, Cw.nilO Int (hw.msub (T := []) ms)⟩
          · have hb : standsB (s.getD (s.length - T.length + i) 0) (T.getD i 0) = true := by simpa using hb
            refine cw_skip (xw_blkn (xw_then ?_))
            refine cw_region ?_
            refine rw_run tab_ok 1 [(3, _), (10, _), (11, _), (12, _), (130, _)] rfl ⟨rfl, rfl, rfl, rfl, rfl, trivial⟩ ?_
            refine rw_s (qs_add rfl rfl rfl (by omega)) rfl rfl ?_
            refine rw_run tab_ok 1 [(3, _), (10, _), (11, _), (12, _), (17, _)] rfl ⟨rfl, rfl, rfl, rfl, rfl, trivial⟩ ?_
            refine rw_round (i + 1) (⟨hil, fun j hj => by by_cases e : j = i; (· rw [e]; exact hb); (· exact hall j (by omega))⟩) (by show _ - _ < _ - _; omega) ⟨rfl, rfl, rfl, rfl, rfl, trivial⟩ me
        · obtain rfl : i = T.length := by omega
          refine cw_exit (xw_thenx (xw_thenx (xw_blk ?_)))
          refine xw_join () (⟨by rw [List.length_drop]; omega, fun j hj => by rw [List.length_drop] at hj; rw [getD_drop]; exact hall j (by omega)⟩) ⟨rfl, rfl, rfl, rfl, trivial⟩ me
      · rintro _ hLe
        refine cw_seq ?_
        refine cw_region ?_
        refine rw_op (ot_bsl (cs := []) Try.underlying35 Try.sizeOf3 Try.zeroValue3 rfl rfl rfl rfl rfl) rfl rfl (fun g9 _ => ?_)
        refine rw_run tab_ok 3 [(12, _), (147, _), (148, _), (149, _), (150, _)] rfl ⟨rfl, rfl, rfl, rfl, rfl, trivial⟩ ?_
        refine rw_s (qs_len Try.underlying35 rfl rfl) rfl rfl ?_
        refine rw_s (qs_sub rfl rfl rfl (by omega)) rfl rfl ?_
        refine rw_mem (fun w h => row_ow (α := Int) (m := 0) [] rfl (by simp) rfl (by decide) h) ?_
        refine rw_as (t := 152) (v' := .int .i64 ((s.length - T.length : Nat) : Int)) rfl (by congr 1; omega) ?_
        refine rw_s (qs_to (k := s.length - T.length) Try.underlying35 Try.sizeOf3 (by omega) rfl rfl rfl) rfl rfl ?_
        have hto := SlB.to hs (k := s.length - T.length) (by omega)
        have htl2 : (s.take (s.length - T.length)).length = s.length - T.length := by rw [List.length_take]; omega
        refine rw_op (ot_appS (α := Int) (bytes := 8) (xs := []) (ys := s.take (s.length - T.length)) rfl Try.underlying35 (info_ex Try.inI) rfl fc (.ro hto) (by simp only [List.length_nil]; omega) (by simp only [List.length_nil]; omega) rfl rfl rfl) rfl rfl (fun ⟨A5, c5⟩ _ => ?_)
        try dsimp only
        refine rw_run tab_ok 1 [(154, _), (155, _)] rfl ⟨rfl, rfl, trivial⟩ ?_
        rw [List.nil_append]
        refine rw_op (ot_appS (α := Int) (bytes := 8) (xs := s.take (s.length - T.length)) (ys := V) rfl Try.underlying35 (info_ex Try.inI) rfl fc (SF.rb rfl fc) (by omega) (by omega) rfl rfl rfl) rfl rfl (fun ⟨A6, c6⟩ _ => ?_)
        try dsimp only
        refine rw_run tab_ok 1 [(18, _)] rfl ⟨rfl, trivial⟩ ?_
        refine rw_end ?_
        refine cw_seq ?_
        refine cw_region ?_
        refine rw_run tab_ok 2 [(157, _), (158, _)] rfl ⟨rfl, rfl, trivial⟩ ?_
        refine rw_s (qs_len Try.underlying35 rfl rfl) rfl rfl ?_
        refine rw_run tab_ok 3 [(8, _), (9, _)] rfl ⟨rfl, rfl, trivial⟩ ?_
        refine rw_end ?_
        refine cw_ret ?_
        refine xw_ret2 Try.results32 (rv_tmp rfl) (rv_tmp rfl) ?_
        intro w hw
        by_cases h8 : (s.take (s.length - T.length) ++ V).length ≤ 8
        · have hso : tryO fs f o s = some (s.take (s.length - T.length) ++ V) := tryO_iff.2 ⟨T, V, htl, hTs, h8, hLe, rfl⟩
          refine ⟨((A6, c6), s.take (s.length - T.length) ++ V), fun v hv => by rw [hso] at hv; exact Option.some.inj hv, ?_, hw.msub ms⟩
          rw [hso, decide_eq_true (by omega)]
          rfl
        · have hno := tryO_not htl (fun h => h8 h.2.1)
          refine ⟨((A6, c6), s.take (s.length - T.length) ++ V), fun v hv => (by rw [hno] at hv; cases hv), ?_, hw.msub ms⟩
          rw [hno, decide_eq_false (by omega)]
          rfl
end Go.Proofs.Ytejpkcheimgdfaa

-- VT3
/- Verify: sweeps over the places find what the fitter finds; plain facts, no program in sight. -/
namespace Go.Proofs.Ytejpkcheimgdfaa

theorem phi_le {n : Nat} {s : FSt} (h : FOk n s) : phi n s ≤ 9 * n := by
  have key : ∀ m : Nat, ((List.range m).map (phiAt s)).sum ≤ 9 * m := fun m => by
    induction m with
    | zero => simp
    | succ m ih =>
      rw [List.range_succ, List.map_append, List.sum_append]
      have : phiAt s m ≤ 9 := by
        unfold phiAt
        split
        · have := nulls_le (s.at_.getD m []); have := h.st m; omega
        · exact Nat.le_refl _
      simp only [List.map_cons, List.map_nil, List.sum_cons, List.sum_nil]
      omega
  exact key n
theorem come_same {n : Nat} {s : FSt} {k : Nat} {l : List Int} : (comeS n s k l).2 = s ∨ (comeS n s k l).2.todo = s.todo ++ [(k : Int)] := by
  unfold comeS
  repeat (first | exact .inl rfl | exact .inr rfl | split)
theorem comes_same {n : Nat} : ∀ {L : List Int} {s s' : FSt} {l : List Int}, comesS n s L l = some s' → s'.todo = [] → s' = s
  | [], s, s', l, e, _ => by
    simp only [comesS, Option.some.injEq] at e
    exact e.symm
  | a :: L, s, s', l, e, h => by
    simp only [comesS] at e
    split at e
    · have h1 := comes_same e h
      rcases come_same (n := n) (s := s) (k := a.toNat) (l := l) with h2 | h2
      · rw [h1, h2]
      · rw [← h1, h] at h2
        have := congrArg List.length h2
        simp at this
    · cases e
theorem comes_todo {n : Nat} {s : FSt} {k : Nat} {l : List Int} : decide (0 < (comeS n s k l).2.todo.length) = true ∨ (comeS n s k l).2 = s := by
  rcases come_same (n := n) (s := s) (k := k) (l := l) with h | h
  · exact .inr h
  · left; rw [h]; simp
/-- A sweep that has come to a place. -/
structure Sw (fs : List MFunc) (f : MFunc) (s0 : FSt) (i : Nat) (s : FSt) : Prop where
  ok : FOk f.code.length s
  inv : Inv fs f s
  mu_ : mu f.code.length s ≤ mu f.code.length s0
  dn : s.todo = [] → s = s0 ∧ ∀ j, j < i → s.met.getD j false = true → Dn fs f s j
theorem Sw.todo {fs : List MFunc} {f : MFunc} {s0 s : FSt} {i : Nat} (h : Sw fs f s0 i s) (h0 : FOk f.code.length s0) (ht : s0.todo = []) (hn : f.code.length ≤ 40) : s.todo.length ≤ 360 := by
  have h1 := h.mu_
  have h2 := phi_le h0
  unfold mu at h1
  rw [ht] at h1
  simp only [List.length_nil] at h1
  omega
theorem Sw.start {fs : List MFunc} {f : MFunc} {s0 : FSt} (h : FOk f.code.length s0) (hi : Inv fs f s0) : Sw fs f s0 0 s0 := ⟨h, hi, Nat.le_refl _, fun _ => ⟨rfl, fun _ hj => absurd hj (Nat.not_lt_zero _)⟩⟩
theorem Sw.skip {fs : List MFunc} {f : MFunc} {s0 s : FSt} {i : Nat} (h : Sw fs f s0 i s) (hm : ¬ s.met.getD i false = true) : Sw fs f s0 (i + 1) s :=
  ⟨h.ok, h.inv, h.mu_, fun e => ⟨(h.dn e).1, fun j hj hj2 => by
    by_cases e2 : j = i
    · subst e2; exact absurd hj2 hm
    · exact (h.dn e).2 j (by omega) hj2⟩⟩
/-- On which an op does not fit: no solution. -/
theorem Sw.bad {fs : List MFunc} {f : MFunc} {s0 s : FSt} {i : Nat} (h : Sw fs f s0 i s) (hm : s.met.getD i false = true) (hv : tryO fs f (opAt f.code i) (s.at_.getD i []) = none) (M : Nat → Option (List Int)) : ¬ StM fs f M := fun hM => by
  obtain ⟨t, h1, h2⟩ := h.inv.le M hM i hm
  obtain ⟨_, _, v, h3, _⟩ := hM.ok i t h1
  obtain ⟨u, h4, _⟩ := tryO_mono h2 h3
  rw [hv] at h4
  cases h4
/-- The places after, some of them. -/
theorem Sw.comes {fs : List MFunc} {f : MFunc} (hok : FnOk fs f) (hty : FnTy fs f) {s0 s : FSt} {i : Nat} (h : Sw fs f s0 i s) (h0 : FOk f.code.length s0) (ht : s0.todo = []) (hi : i < f.code.length) (hm : s.met.getD i false = true) {v : List Int} (hv : tryO fs f (opAt f.code i) (s.at_.getD i []) = some v)
    {L : List Int} (hL : ∀ q ∈ L, q ∈ afterL (opAt f.code i) i) (hl4 : L.length ≤ 4) :
    (∀ s', comesS f.code.length s L v = some s' → Inv fs f s' ∧ Up s s' ∧ ∀ q ∈ L, s'.met.getD q.toNat false = true ∧ Le v (s'.at_.getD q.toNat [])) ∧ (comesS f.code.length s L v = none → ∀ M, ¬ StM fs f M) := by
  have h36 := h.todo h0 ht hok.n40
  exact comes_inv h.ok h.inv (fun q hq => hok.to_ i hi q (hL q hq)) (tryO_len hv) (by omega) (tryO_ty hty (hok.op i hi) (h.inv.ty i hm) hv) (fun M hM q hq => by
      obtain ⟨t, h1, h2⟩ := h.inv.le M hM i hm
      obtain ⟨_, _, v', h3, h4⟩ := hM.ok i t h1
      obtain ⟨u, h5, h6⟩ := tryO_mono h2 h3
      rw [hv] at h5
      cases h5
      obtain ⟨s', h7, h8⟩ := h4 q (hL q hq)
      exact ⟨s', h7, h6.trans h8⟩)
theorem Sw.step {fs : List MFunc} {f : MFunc} (hok : FnOk fs f) (hty : FnTy fs f) {s0 s : FSt} {i : Nat} (h : Sw fs f s0 i s) (h0 : FOk f.code.length s0) (ht : s0.todo = []) (hi : i < f.code.length) (hm : s.met.getD i false = true) {v : List Int} (hv : tryO fs f (opAt f.code i) (s.at_.getD i []) = some v)
    {s' : FSt} (e : comesS f.code.length s (afterL (opAt f.code i) i) v = some s') : Sw fs f s0 (i + 1) s' := by
  have h36 := h.todo h0 ht hok.n40
  have hl2 := afterL_len (opAt f.code i) i
  obtain ⟨k1, k2, k3⟩ := (h.comes hok hty h0 ht hi hm hv (fun q hq => hq) (by omega)).1 s' e
  have hc := comesS_ok h.ok (hok.to_ i hi) (tryO_len hv) (by omega) e
  have hmu := comesS_mu h.ok (hok.to_ i hi) (tryO_len hv) (by omega) e
  refine ⟨hc.1, k1, Nat.le_trans hmu h.mu_, fun e0 => ?_⟩
  have es := comes_same e e0
  subst es
  obtain ⟨d1, d2⟩ := h.dn e0
  refine ⟨d1, fun j hj hj2 => ?_⟩
  by_cases e2 : j = i
  · subst e2; exact ⟨v, hv, k3⟩
  · exact d2 j (by omega) hj2
/-- A sweep that changed something leaves less to do. -/
theorem Sw.again {fs : List MFunc} {f : MFunc} {s0 s : FSt} {i : Nat} (h : Sw fs f s0 i s) (h0 : s0.todo = []) (hne : s.todo ≠ []) : FOk f.code.length ⟨s.at_, s.met, []⟩ ∧ Inv fs f ⟨s.at_, s.met, []⟩ ∧ phi f.code.length ⟨s.at_, s.met, []⟩ < phi f.code.length s0 := by
  refine ⟨⟨h.ok.al, h.ok.ml, by simp, h.ok.st, fun x hx => by cases hx⟩, ⟨h.inv.m0, h.inv.a0, h.inv.ty, h.inv.le⟩, ?_⟩
  have h1 := h.mu_
  unfold mu at h1
  rw [h0] at h1
  simp only [List.length_nil] at h1
  have h2 := List.length_pos_iff.2 hne
  show phi f.code.length s < _
  omega
theorem ents_fail {fs : List MFunc} {f : MFunc} (hok : FnOk fs f) (hty : FnTy fs f) (hn : 0 < f.code.length) (h : ∀ M, ¬ StM fs f M) : entriesS fs f = ([], false) := by
  unfold entriesS
  cases e : entS fs f with
  | none => rfl
  | some s => exact absurd ((entS_least hok hty hn).1 s e).2.1 (h _)
theorem ents_done {fs : List MFunc} {f : MFunc} (hok : FnOk fs f) (hty : FnTy fs f) (hn : 0 < f.code.length) {s : FSt} (hF : FOk f.code.length s) (hI : Inv fs f s) (hd : ∀ i : Nat, s.met.getD i false = true → Dn fs f s i) : entriesS fs f = (entU s f.code.length, true) := by
  have hst : StM fs f (MO s) := ⟨MO_some.2 ⟨hI.m0, hI.a0⟩, fun i t h => by
    obtain ⟨h1, h2⟩ := MO_some.1 h
    subst h2
    refine ⟨met_lt hF h1, hI.ty i h1, ?_⟩
    obtain ⟨v, h3, h4⟩ := hd i h1
    refine ⟨v, h3, fun q hq => ?_⟩
    obtain ⟨h5, h6⟩ := h4 q hq
    exact ⟨_, MO_some.2 ⟨h5, rfl⟩, h6⟩⟩
  unfold entriesS
  cases e : entS fs f with
  | none => exact absurd hst ((entS_least hok hty hn).2 e _)
  | some s' =>
    obtain ⟨k1, k2, k3⟩ := (entS_least hok hty hn).1 s' e
    show (entU s' f.code.length, true) = _
    congr 1
    unfold entU
    congr 1
    funext i
    by_cases hm : s.met.getD i false = true
    · obtain ⟨t, h1, h2⟩ := hI.le _ k2 i hm
      obtain ⟨h3, h4⟩ := MO_some.1 h1
      subst h4
      obtain ⟨u, h5, h6⟩ := k3 _ hst i _ h1
      obtain ⟨_, h7⟩ := MO_some.1 h5
      subst h7
      rw [if_pos hm, if_pos h3, h2.anti h6]
    · rw [if_neg hm, if_neg]
      intro h3
      obtain ⟨u, h5, _⟩ := k3 _ hst i _ (MO_some.2 ⟨h3, rfl⟩)
      exact hm (MO_some.1 h5).1
/-- Where the sweeps begin. -/
def sw0 (n : Nat) : FSt := ⟨List.replicate n [], (List.replicate n false).set 0 true, []⟩
theorem sw0_ok {fs : List MFunc} {f : MFunc} (hn : 0 < f.code.length) : FOk f.code.length (sw0 f.code.length) ∧ Inv fs f (sw0 f.code.length) := by
  have hA : ∀ i, (sw0 f.code.length).at_.getD i [] = [] := fun i => rep_none _ _ _
  have hM : ∀ i, (sw0 f.code.length).met.getD i false = if i = 0 then true else false := fun i => by
    show ((List.replicate f.code.length false).set 0 true).getD i false = _
    rw [getD_set (by simpa using hn)]
    split
    · rfl
    · exact rep_none _ _ _
  refine ⟨⟨by simp [sw0], by simp [sw0], by simp [sw0], fun i => by rw [hA]; simp, fun x hx => by cases hx⟩, ⟨by rw [hM]; rfl, hA 0, fun i _ => by rw [hA]; exact fun _ h => (by cases h), fun M h i hi => ?_⟩⟩
  rw [hM] at hi
  by_cases e : i = 0
  · subst e; exact ⟨[], h.m0, by rw [hA]; exact .refl _⟩
  · rw [if_neg e] at hi; cases hi
end Go.Proofs.Ytejpkcheimgdfaa

-- V18
/- Verify: the document's entries of a function. -/
namespace Go.Proofs.Ytejpkcheimgdfaa
open Go.RowKit

theorem after_next2 {l : List MOp} {pc : Nat} (hb : ∀ q ∈ afterL (opAt l pc) pc, 0 ≤ q ∧ q ≤ l.length) : afterL (opAt l pc) pc = nextL l pc := by
  refine rising_eq (after_sorted _ _) ((upto_sorted _).filter _) fun a => ?_
  unfold nextL
  rw [after_mem, List.mem_filter, upto_mem]
  constructor
  · intro hg
    have := hb a ((after_mem _ _ _).2 hg)
    exact ⟨by omega, hg⟩
  · exact fun hg => hg.2
set_option maxRecDepth 100000 in
set_option maxHeartbeats 4000000 in
theorem rentries_own (A : Option Addr) (c : Nat) (fs : List MFunc) (k : Nat) (w : World) (hs : Sl w (.slice A fs.length c) fs) (hk : k < fs.length) (hok : FnOk fs (fnAt fs k)) (hty : FnTy fs (fnAt fs k)) (hn0 : 0 < (fnAt fs k).code.length) :
    Calls Try.prog 21 #[.agg #[.slice A fs.length c], .int .i64 (k : Int)] w fun e w' => ∃ g : (Option Addr × Nat) × List HEnt × List (Value × List Int), RelE g.2.1 g.2.2 (entriesS fs (fnAt fs k)).1 ∧ e = .returned (.tuple #[.slice g.1.1 g.2.1.length g.1.2, .bool (entriesS fs (fnAt fs k)).2]) ∧
      Cw w.heap.size w [ROw (.slice g.1.1 g.2.1.length g.1.2) g.2.1, RPool g.2.2] w' := by
  obtain ⟨A1, c1, A2, c2, hl, hc, hi, hcell⟩ := hs.fn hk
  have hrf := (hty.res k hk).1
  have hres : ∀ j, j < fs.length → 0 ≤ (fnAt fs j).result := fun j hj => (hty.res j hj).1
  generalize fnAt fs k = f at hl hc hi hcell hok hty hn0 hrf ⊢
  have hn40 := hok.n40
  have h0 := sw0_ok (fs := fs) hn0
  have hR0 : Rel f.code.length (List.replicate f.code.length nilH) [] (sw0 f.code.length).at_ := ⟨by simp, by simp [sw0], fun i _ => by
    show InP [] ((List.replicate f.code.length nilH).getD i nilH).v ((List.replicate f.code.length ([] : List Int)).getD i [])
    rw [rep_none, rep_none]
    exact .nil_⟩
  refine enter Try.func21 rfl Try.ntmps21 rfl ?_
  refine cw_seq ?_
  refine cw_region ?_
  refine rw_op (ot_box rfl rfl rfl) rfl rfl (fun g1 _ => ?_)
  refine rw_run tab_ok 2 [(1, _), (2, _)] rfl ⟨rfl, rfl, trivial⟩ ?_
  refine rw_end ?_
  refine cw_seq ?_
  refine cw_region ?_
  refine rw_run tab_ok 1 [(1, _), (2, _), (20, _)] rfl ⟨rfl, rfl, rfl, trivial⟩ ?_
  refine rw_s (qs_ldb fc Try.isAgg22 rfl rfl (by rfl)) rfl rfl ?_
  refine rw_run tab_ok 1 [(1, _), (2, _), (21, _), (22, _)] rfl ⟨rfl, rfl, rfl, rfl, trivial⟩ ?_
  refine rw_s (qs_idx (k := k) Try.underlying22 Try.sizeOf54 (.ro hs) (by omega) rfl rfl rfl) rfl rfl ?_
  refine rw_run tab_ok 1 [(1, _), (2, _), (24, _)] rfl ⟨rfl, rfl, rfl, trivial⟩ ?_
  refine rw_s (qs_ld (fun w hw => hcell _ w hw 3 _ rfl) rfl rfl Try.isAgg52) rfl rfl ?_
  refine rw_run tab_ok 1 [(1, _), (2, _), (6, _)] rfl ⟨rfl, rfl, rfl, trivial⟩ ?_
  refine rw_end ?_
  refine cw_seq ?_
  refine cw_region ?_
  refine rw_run tab_ok 1 [(1, _), (2, _), (6, _), (26, _)] rfl ⟨rfl, rfl, rfl, rfl, trivial⟩ ?_
  refine rw_s (qs_len Try.underlying52 rfl rfl) rfl rfl ?_
  refine rw_op (ot_make (α := Hdr) nilH Try.underlying58 Try.inInts rfl (fun w => ⟨⟨rfl, rfl⟩, fun _ h => h⟩) rfl (by omega) rfl rfl rfl) rfl rfl (fun ga _ => ?_)
  refine rw_run tab_ok 1 [(1, _), (2, _), (6, _), (7, _)] rfl ⟨rfl, rfl, rfl, rfl, trivial⟩ ?_
  refine rw_end ?_
  refine cw_seq ?_
  refine cw_region ?_
  refine rw_run tab_ok 1 [(1, _), (2, _), (6, _), (7, _), (29, _)] rfl ⟨rfl, rfl, rfl, rfl, rfl, trivial⟩ ?_
  refine rw_s (qs_len Try.underlying52 rfl rfl) rfl rfl ?_
  refine rw_op (ot_make (α := Bool) false Try.underlying87 Try.inB rfl (fun w => ⟨rfl, fun _ h => h⟩) rfl (by omega) rfl rfl rfl) rfl rfl (fun gm _ => ?_)
  refine rw_run tab_ok 1 [(1, _), (2, _), (6, _), (7, _), (8, _)] rfl ⟨rfl, rfl, rfl, rfl, rfl, trivial⟩ ?_
  refine rw_end ?_
  refine cw_seq ?_
  refine cw_region ?_
  refine rw_run tab_ok 1 [(1, _), (2, _), (6, _), (7, _), (8, _), (32, _)] rfl ⟨rfl, rfl, rfl, rfl, rfl, rfl, trivial⟩ ?_
  refine rw_s (qs_idxP (k := 0) Try.underlying87 Try.sizeOf4 rfl hn0 rfl rfl rfl) rfl rfl ?_
  refine rw_op (ot_stE0 (α := Bool) true false rfl fc hn0 trivial Try.sizeOf4 rfl rfl rfl rfl rfl rfl rfl rfl) rfl rfl (fun _ _ => ?_)
  refine rw_end ?_
  refine cw_seq ?_
  refine cw_seq ?_
  refine cw_region ?_
  refine rw_run tab_ok 1 [(1, _), (2, _), (6, _), (7, _), (8, _), (9, _)] rfl ⟨rfl, rfl, rfl, rfl, rfl, rfl, trivial⟩ ?_
  refine rw_end ?_
  refine cw_mem (fun w h => pool_nil h) ?_
  refine cw_cutk (fun g : FSt × List Hdr × List (Value × List Int) => (entriesS fs f = (entU g.1 f.code.length, true) ∧ FOk f.code.length g.1) ∧ Rel f.code.length g.2.1 g.2.2 g.1.at_) (fun g => [(6, .slice A2 f.code.length c2), (7, .slice (some ⟨ga, 0, none⟩) f.code.length f.code.length), (8, .slice (some ⟨gm, 0, none⟩) f.code.length f.code.length)]) (fun g => [RBox g1 [.slice A fs.length c] 24, ROw (.slice (some ⟨ga, 0, none⟩) f.code.length f.code.length) g.2.1, ROw (.slice (some ⟨gm, 0, none⟩) f.code.length f.code.length) g.1.met, RPool g.2.2]) ?_ ?_
  · refine cw_block (cw_loop (fun g : Bool × FSt × List Hdr × List (Value × List Int) => ((FOk f.code.length g.2.1 ∧ Inv fs f g.2.1) ∧ g.2.1.todo = [] ∧ (g.1 = false → ∀ i : Nat, g.2.1.met.getD i false = true → Dn fs f g.2.1 i)) ∧ Rel f.code.length g.2.2.1 g.2.2.2 g.2.1.at_) (fun g => 2 * phi f.code.length g.2.1 + g.1.toNat) (fun g => [(1, .int .i64 (k : Int)), (2, .pointer (some ⟨g1, 0, none⟩)), (6, .slice A2 f.code.length c2), (7, .slice (some ⟨ga, 0, none⟩) f.code.length f.code.length), (8, .slice (some ⟨gm, 0, none⟩) f.code.length f.code.length), (9, .bool g.1)]) (fun g => [RBox g1 [.slice A fs.length c] 24, ROw (.slice (some ⟨ga, 0, none⟩) f.code.length f.code.length) g.2.2.1, ROw (.slice (some ⟨gm, 0, none⟩) f.code.length f.code.length) g.2.1.met, RPool g.2.2.2]) (true, sw0 f.code.length, List.replicate f.code.length nilH, []) (⟨⟨h0, rfl, fun h => (by cases h)⟩, hR0⟩) ⟨rfl, rfl, rfl, rfl, rfl, rfl, trivial⟩ (fun _ h => h.msub ms) ?_)
    rintro ⟨more, s0, hd, L⟩ hj
    try dsimp only
    obtain ⟨⟨⟨hF0, hI0⟩, hT0, hD0⟩, hR⟩ : ((FOk f.code.length s0 ∧ Inv fs f s0) ∧ s0.todo = [] ∧ (more = false → ∀ i : Nat, s0.met.getD i false = true → Dn fs f s0 i)) ∧ Rel f.code.length hd L s0.at_ := hj
    refine cw_seq ?_
    refine cw_seq ?_
    refine cw_region ?_
    refine rw_run tab_ok 1 [(1, _), (2, _), (6, _), (7, _), (8, _), (34, _)] rfl ⟨rfl, rfl, rfl, rfl, rfl, rfl, trivial⟩ ?_
    refine rw_end ?_
    refine cw_cond rfl (fun hmore => ?_) (fun hmore => ?_)
    · have hmore : more = true := hmore
      subst hmore
      refine cw_skip (xw_then ?_)
      refine cw_block ?_
      refine cw_seq ?_
      refine cw_region ?_
      refine rw_run tab_ok 1 [(1, _), (2, _), (6, _), (7, _), (8, _), (9, _)] rfl ⟨rfl, rfl, rfl, rfl, rfl, rfl, trivial⟩ ?_
      refine rw_end ?_
      refine cw_seq ?_
      refine cw_region ?_
      refine rw_run tab_ok 1 [(1, _), (2, _), (6, _), (7, _), (8, _), (9, _), (10, _)] rfl ⟨rfl, rfl, rfl, rfl, rfl, rfl, rfl, trivial⟩ ?_
      refine rw_end ?_
      refine cw_block (cw_loop (fun g : Nat × Bool × FSt × List Hdr × List (Value × List Int) => ((g.1 ≤ f.code.length ∧ g.2.1 = decide (0 < g.2.2.1.todo.length)) ∧ Sw fs f s0 g.1 g.2.2.1) ∧ Rel f.code.length g.2.2.2.1 g.2.2.2.2 g.2.2.1.at_) (fun g => f.code.length - g.1) (fun g => [(1, .int .i64 (k : Int)), (2, .pointer (some ⟨g1, 0, none⟩)), (6, .slice A2 f.code.length c2), (7, .slice (some ⟨ga, 0, none⟩) f.code.length f.code.length), (8, .slice (some ⟨gm, 0, none⟩) f.code.length f.code.length), (9, .bool g.2.1), (10, .int .i64 (g.1 : Int))]) (fun g => [RBox g1 [.slice A fs.length c] 24, ROw (.slice (some ⟨ga, 0, none⟩) f.code.length f.code.length) g.2.2.2.1, ROw (.slice (some ⟨gm, 0, none⟩) f.code.length f.code.length) g.2.2.1.met, RPool g.2.2.2.2]) (0, false, s0, hd, L) (⟨⟨⟨Nat.zero_le _, by rw [hT0]; rfl⟩, .start hF0 hI0⟩, hR⟩) ⟨rfl, rfl, rfl, rfl, rfl, rfl, rfl, trivial⟩ (fun _ h => h.msub ms) ?_)
      rintro ⟨i, b, s, hd, L⟩ hj
      try dsimp only
      obtain ⟨⟨⟨hi0, hb⟩, hS⟩, hR2⟩ : ((i ≤ f.code.length ∧ b = decide (0 < s.todo.length)) ∧ Sw fs f s0 i s) ∧ Rel f.code.length hd L s.at_ := hj
      have hF := hS.ok
      have hT36 := hS.todo hF0 hT0 hn40
      refine cw_seq ?_
      refine cw_seq ?_
      refine cw_region ?_
      refine rw_run tab_ok 2 [(1, _), (2, _), (6, _), (7, _), (8, _), (9, _), (10, _), (35, _), (36, _)] rfl ⟨rfl, rfl, rfl, rfl, rfl, rfl, rfl, rfl, rfl, trivial⟩ ?_
      refine rw_s (qs_len Try.underlying52 rfl rfl) rfl rfl ?_
      refine rw_run tab_ok 1 [(1, _), (2, _), (6, _), (7, _), (8, _), (9, _), (10, _), (38, _)] rfl ⟨rfl, rfl, rfl, rfl, rfl, rfl, rfl, rfl, trivial⟩ ?_
      refine rw_end ?_
      refine cw_condD rfl (fun hlt => ?_) (fun hlt => ?_)
      · have hil : i < f.code.length := by omega
        refine cw_skip (xw_then ?_)
        refine cw_seq ?_
        refine cw_block ?_
        refine cw_seq ?_
        refine cw_seq ?_
        refine cw_region ?_
        refine rw_run tab_ok 2 [(1, _), (2, _), (6, _), (7, _), (8, _), (9, _), (10, _), (41, _), (42, _)] rfl ⟨rfl, rfl, rfl, rfl, rfl, rfl, rfl, rfl, rfl, trivial⟩ ?_
        refine rw_s (qs_idx Try.underlying87 Try.sizeOf4 (SF.own hF.ml fc) (by omega) rfl rfl rfl) rfl rfl ?_
        refine rw_s (qs_ld (SF.bool (SF.own hF.ml fc) (by omega)) rfl rfl Try.isAgg4) rfl rfl ?_
        refine rw_run tab_ok 1 [(1, _), (2, _), (6, _), (7, _), (8, _), (9, _), (10, _), (45, _)] rfl ⟨rfl, rfl, rfl, rfl, rfl, rfl, rfl, rfl, trivial⟩ ?_
        refine rw_end ?_
        refine cw_cond rfl (fun hm => ?_) (fun hm => ?_)
        · have hm : ¬ s.met.getD i false = true := by simpa using hm
          refine cw_exit (xw_thenx (xw_blk (xw_then ?_)))
          refine cw_region ?_
          refine rw_run tab_ok 1 [(1, _), (2, _), (6, _), (7, _), (8, _), (9, _), (39, _)] rfl ⟨rfl, rfl, rfl, rfl, rfl, rfl, rfl, trivial⟩ ?_
          refine rw_s (qs_add rfl rfl rfl (by omega)) rfl rfl ?_
          refine rw_run tab_ok 1 [(1, _), (2, _), (6, _), (7, _), (8, _), (9, _), (10, _)] rfl ⟨rfl, rfl, rfl, rfl, rfl, rfl, rfl, trivial⟩ ?_
          refine rw_round (i + 1, b, s, hd, L) (⟨⟨⟨hil, hb⟩, hS.skip hm⟩, hR2⟩) (by show _ - _ < _ - _; omega) ⟨rfl, rfl, rfl, rfl, rfl, rfl, rfl, trivial⟩ (fun _ h => h.msub ms)
        · have hm : s.met.getD i false = true := by simpa using hm
          have hin := hR2.el i hil
          refine cw_fact (fun w h => hin.form h fc) ?_
          rintro ⟨A3, c3, hv⟩
          rw [hv] at hin
          have h8 := hF.st i
          refine cw_skip (xw_then ?_)
          refine cw_seq ?_
          refine cw_draw (.still 0 (.still 1 (.still 2 (.still 3 (.still 4 (.still 5 (.still 6 (.still 7 (.still 8 (.still 9 (.still 10 (.still 11 (.still 12 (.still 13 (.pick 14 (.still 15 (.still 16 (.still 17 (.still 18 (.still 19 .done))))) .stop))))))))))))))) [] rfl (by kernel_rfl) (by kernel_rfl) ?_
          refine ro_s2 rfl (qs_ldbA (vs := [_]) fc Try.isAgg24 Try.sizeOf24 rfl rfl (by rfl) rfl) rfl rfl ha ?_
          refine ro_run tab_ok ha 1 [(1, _), (2, _), (6, _), (7, _), (8, _), (9, _), (10, _), (47, _), (48, _)] rfl ⟨rfl, rfl, rfl, rfl, rfl, rfl, rfl, rfl, rfl, trivial⟩ ?_
          refine ro_s2 rfl (qs_ldb fc Try.isAgg22 rfl rfl (by rfl)) rfl rfl ha ?_
          refine ro_run tab_ok ha 1 [(1, _), (2, _), (6, _), (7, _), (8, _), (9, _), (10, _), (47, _), (49, _), (50, _)] rfl ⟨rfl, rfl, rfl, rfl, rfl, rfl, rfl, rfl, rfl, rfl, trivial⟩ ?_
          refine ro_s2 rfl (qs_idx (k := k) Try.underlying22 Try.sizeOf54 (.ro hs) (by omega) rfl rfl rfl) rfl rfl ha ?_
          refine ro_s2 rfl (qs_ldA (hcell _) rfl rfl Try.isAgg54 Try.sizeOf54) rfl rfl ha ?_
          refine ro_run tab_ok ha 2 [(1, _), (2, _), (6, _), (7, _), (8, _), (9, _), (10, _), (47, _), (52, _), (53, _), (54, _)] rfl ⟨rfl, rfl, rfl, rfl, rfl, rfl, rfl, rfl, rfl, rfl, rfl, trivial⟩ ?_
          refine ro_s2 rfl (qs_idx Try.underlying52 Try.sizeOf61 (.ro hc) (by omega) rfl rfl rfl) rfl rfl ha ?_
          refine ro_s2 rfl (qs_ldA (cs := [_, _]) (SF.op (.ro hc) (by omega)) rfl rfl Try.isAgg61 Try.sizeOf61) rfl rfl ha ?_
          refine ro_run tab_ok ha 2 [(1, _), (2, _), (6, _), (7, _), (8, _), (9, _), (10, _), (47, _), (52, _), (56, _), (57, _), (58, _)] rfl ⟨rfl, rfl, rfl, rfl, rfl, rfl, rfl, rfl, rfl, rfl, rfl, rfl, trivial⟩ ?_
          refine ro_s2 rfl (qs_idx Try.underlying58 Try.sizeOf35 (SF.own hR2.hl fc) (by omega) rfl rfl rfl) rfl rfl ha ?_
          refine ro_s2 rfl (qs_ld (v := .slice A3 (s.at_.getD i []).length c3) (by rw [← hv]; exact SF.hdr (SF.own hR2.hl fc) hil) rfl rfl Try.isAgg35) rfl rfl ha ?_
          refine ro_op2 rfl (ot_c rfl rfl rfl Try.call32 (fun w hw => rtry_any fs f (opAt f.code i) (s.at_.getD i []) A A1 A2 A3 c c1 c2 c3 w (hw.ro hs) (hw.ro hl) (hin.sl hw fc) (hok.op i hil) hres hrf (by omega))) rfl rfl (.inr fun _ => ha) (fun ⟨⟨A4, c4⟩, T⟩ hT => ?_) ro_stop
          try dsimp only
          refine ro_run tab_ok ha 5 [(1, _), (2, _), (6, _), (7, _), (8, _), (9, _), (10, _), (11, _), (12, _)] rfl ⟨rfl, rfl, rfl, rfl, rfl, rfl, rfl, rfl, rfl, trivial⟩ ?_
          refine ro_end ?_
          refine cw_seq ?_
          refine cw_seq ?_
          refine cw_region ?_
          refine rw_run tab_ok 2 [(1, _), (2, _), (6, _), (7, _), (8, _), (9, _), (10, _), (11, _), (65, _)] rfl ⟨rfl, rfl, rfl, rfl, rfl, rfl, rfl, rfl, rfl, trivial⟩ ?_
          refine rw_end ?_
          refine cw_cond rfl (fun hok1 => ?_) (fun hok1 => ?_)
          · have hv0 : tryO fs f (opAt f.code i) (s.at_.getD i []) = none := by
              cases e : tryO fs f (opAt f.code i) (s.at_.getD i []) with
              | none => rfl
              | some v => rw [e] at hok1; cases hok1
            rw [ents_fail hok hty hn0 (hS.bad hm hv0)]
            refine cw_seq ?_
            refine cw_region ?_
            refine rw_run tab_ok 2 [(4, _), (5, _)] rfl ⟨rfl, rfl, trivial⟩ ?_
            refine rw_end ?_
            refine cw_ret (xw_thenr (xw_blkr (xw_thenr (xw_thenr (xw_blkr (xw_blkr (xw_thenr (xw_blkr (xw_thenr ?_)))))))))
            refine xw_ret2 Try.results21 (rv_tmp rfl) (rv_tmp rfl) ?_
            intro w hw
            exact ⟨((none, 0), [], []), .nil_, rfl, Cw.nilO HEnt (pool_nil (hw.msub (T := []) ms))⟩
          · obtain ⟨v, hv0⟩ : ∃ v, tryO fs f (opAt f.code i) (s.at_.getD i []) = some v := by
              cases e : tryO fs f (opAt f.code i) (s.at_.getD i []) with
              | none => rw [e] at hok1; cases hok1
              | some v => exact ⟨v, rfl⟩
            have hTv : T = v := hT v hv0
            subst hTv
            have hT8 := tryO_len hv0
            have hTty := tryO_ty hty (hok.op i hil) (hS.inv.ty i hm) hv0
            refine cw_mem (fun w h => pool_add (freeze (h.msub (T := ROw (.slice A4 T.length c4) T :: RPool L :: [RBox g1 [.slice A fs.length c] 24, ROw (.slice (some ⟨ga, 0, none⟩) f.code.length f.code.length) hd, ROw (.slice (some ⟨gm, 0, none⟩) f.code.length f.code.length) s.met]) ms))) ?_
            have hinT : InP ((.slice A4 T.length c4, T) :: L) (.slice A4 T.length c4) T := .new
            have hR3 := hR2.cons (.slice A4 T.length c4, T)
            generalize (.slice A4 T.length c4, T) :: L = L3 at hinT hR3 ⊢
            obtain ⟨LL, hLL⟩ : ∃ LL, afterL (opAt f.code i) i = LL := ⟨_, rfl⟩
            have hto := hok.to_ i hil
            have hl2 := afterL_len (opAt f.code i) i
            have hcs := fun (K : List Int) (h1 : ∀ q ∈ K, q ∈ afterL (opAt f.code i) i) (h2 : K.length ≤ 4) => hS.comes hok hty hF0 hT0 hil hm hv0 (L := K) h1 h2
            have hnx := after_next2 (l := f.code) (pc := i) (fun q hq => hto q hq)
            have hstp := fun s' => hS.step (s' := s') hok hty hF0 hT0 hil hm hv0
            rw [hLL] at hto hl2 hcs hnx hstp
            have hnext : ∀ w1, Sl w1 (.slice A2 f.code.length c2) f.code → Calls Try.prog 53 #[.slice A2 f.code.length c2, .int .i64 (i : Int)] w1 fun e w' => ∃ g : Option Addr × Nat, True ∧ e = .returned (.slice g.1 LL.length g.2) ∧ Cw w1.heap.size w1 [ROw (.slice g.1 LL.length g.2) LL] w' := fun w1 h => by
              rw [hnx]
              exact rnextOf A2 c2 f.code i w1 h hil hn40
            refine cw_skip (xw_then ?_)
            refine cw_seq ?_
            refine cw_region ?_
            refine rw_run tab_ok 2 [(1, _), (2, _), (6, _), (7, _), (8, _), (9, _), (10, _), (11, _), (66, _), (67, _)] rfl ⟨rfl, rfl, rfl, rfl, rfl, rfl, rfl, rfl, rfl, rfl, trivial⟩ ?_
            refine rw_op (ot_c rfl rfl rfl Try.call53 (fun w hw => hnext w (hw.ro hc))) rfl rfl (fun ⟨A7, c7⟩ _ => ?_)
            try dsimp only
            refine rw_run tab_ok 1 [(1, _), (2, _), (6, _), (7, _), (8, _), (9, _), (10, _), (11, _), (13, _)] rfl ⟨rfl, rfl, rfl, rfl, rfl, rfl, rfl, rfl, rfl, trivial⟩ ?_
            refine rw_end ?_
            refine cw_seq ?_
            refine cw_region ?_
            refine rw_run tab_ok 1 [(1, _), (2, _), (6, _), (7, _), (8, _), (9, _), (10, _), (11, _), (13, _), (14, _)] rfl ⟨rfl, rfl, rfl, rfl, rfl, rfl, rfl, rfl, rfl, rfl, trivial⟩ ?_
            refine rw_end ?_
            refine cw_block (cw_loop (fun g : Nat × Bool × FSt × List Hdr × List (Value × List Int) => (((g.1 ≤ LL.length ∧ g.2.1 = decide (0 < g.2.2.1.todo.length)) ∧ FOk f.code.length g.2.2.1 ∧ g.2.2.1.todo.length ≤ s.todo.length + g.1) ∧ comesS f.code.length s (LL.take g.1) T = some g.2.2.1 ∧ InP g.2.2.2.2 (.slice A4 T.length c4) T) ∧ Rel f.code.length g.2.2.2.1 g.2.2.2.2 g.2.2.1.at_) (fun g => LL.length - g.1) (fun g => [(1, .int .i64 (k : Int)), (2, .pointer (some ⟨g1, 0, none⟩)), (6, .slice A2 f.code.length c2), (7, .slice (some ⟨ga, 0, none⟩) f.code.length f.code.length), (8, .slice (some ⟨gm, 0, none⟩) f.code.length f.code.length), (9, .bool g.2.1), (10, .int .i64 (i : Int)), (11, .slice A4 T.length c4), (13, .slice A7 LL.length c7), (14, .int .i64 (g.1 : Int))]) (fun g => [RBox g1 [.slice A fs.length c] 24, ROw (.slice (some ⟨ga, 0, none⟩) f.code.length f.code.length) g.2.2.2.1, ROw (.slice (some ⟨gm, 0, none⟩) f.code.length f.code.length) g.2.2.1.met, RPool g.2.2.2.2, ROw (.slice A7 LL.length c7) LL]) (0, b, s, hd, L3) (⟨⟨⟨⟨Nat.zero_le _, hb⟩, hF, Nat.le_refl _⟩, rfl, hinT⟩, hR3⟩) ⟨rfl, rfl, rfl, rfl, rfl, rfl, rfl, rfl, rfl, rfl, trivial⟩ (fun _ h => h.msub ms) ?_)
            rintro ⟨j, b, s', hd, L⟩ hj
            try dsimp only
            obtain ⟨⟨⟨⟨hj0, hb2⟩, hF2, htd2⟩, hco, hinT2⟩, hR4⟩ : (((j ≤ LL.length ∧ b = decide (0 < s'.todo.length)) ∧ FOk f.code.length s' ∧ s'.todo.length ≤ s.todo.length + j) ∧ comesS f.code.length s (LL.take j) T = some s' ∧ InP L (.slice A4 T.length c4) T) ∧ Rel f.code.length hd L s'.at_ := hj
            refine cw_seq ?_
            refine cw_seq ?_
            refine cw_region ?_
            refine rw_run tab_ok 2 [(1, _), (2, _), (6, _), (7, _), (8, _), (9, _), (10, _), (11, _), (13, _), (14, _), (69, _), (70, _)] rfl ⟨rfl, rfl, rfl, rfl, rfl, rfl, rfl, rfl, rfl, rfl, rfl, rfl, trivial⟩ ?_
            refine rw_s (qs_len Try.underlying35 rfl rfl) rfl rfl ?_
            refine rw_run tab_ok 1 [(1, _), (2, _), (6, _), (7, _), (8, _), (9, _), (10, _), (11, _), (13, _), (14, _), (72, _)] rfl ⟨rfl, rfl, rfl, rfl, rfl, rfl, rfl, rfl, rfl, rfl, rfl, trivial⟩ ?_
            refine rw_end ?_
            refine cw_condD rfl (fun hjl => ?_) (fun hjl => ?_)
            · have hjl : j < LL.length := by omega
              have hmem : LL.getD j 0 ∈ LL := by rw [List.getD_eq_getElem?_getD, List.getElem?_eq_getElem hjl]; exact List.getElem_mem _
              obtain ⟨q, hq⟩ : ∃ q : Nat, LL.getD j 0 = (q : Int) := ⟨(LL.getD j 0).toNat, by have := hto _ hmem; omega⟩
              have hqn : q ≤ f.code.length := by have := hto _ hmem; omega
              have hsn := comesS_snoc hjl hco
              rw [hq, Int.toNat_natCast] at hsn
              have hco2 := comeS_ok hF2 hqn hT8 (by omega)
              refine cw_skip (xw_then ?_)
              refine cw_seq ?_
              refine cw_block ?_
              refine cw_seq ?_
              refine cw_region ?_
              refine rw_run tab_ok 2 [(1, _), (2, _), (6, _), (7, _), (8, _), (9, _), (10, _), (11, _), (13, _), (14, _), (75, _), (76, _)] rfl ⟨rfl, rfl, rfl, rfl, rfl, rfl, rfl, rfl, rfl, rfl, rfl, rfl, trivial⟩ ?_
              refine rw_s (qs_idx Try.underlying35 Try.sizeOf3 (SF.own rfl fc) (by omega) rfl rfl rfl) rfl rfl ?_
              refine rw_s (qs_ld (SF.int (SF.own rfl fc) (by omega)) rfl rfl Try.isAgg3) rfl rfl ?_
              refine rw_run tab_ok 1 [(1, _), (2, _), (6, _), (7, _), (8, _), (9, _), (10, _), (11, _), (13, _), (14, _), (15, _)] rfl ⟨rfl, rfl, rfl, rfl, rfl, rfl, rfl, rfl, rfl, rfl, rfl, trivial⟩ ?_
              refine rw_end ?_
              refine cw_seq ?_
              refine cw_seq ?_
              refine cw_region ?_
              refine rw_run tab_ok 2 [(1, _), (2, _), (6, _), (7, _), (8, _), (9, _), (10, _), (11, _), (13, _), (14, _), (15, _), (79, _), (80, _)] rfl ⟨rfl, rfl, rfl, rfl, rfl, rfl, rfl, rfl, rfl, rfl, rfl, rfl, rfl, trivial⟩ ?_
              refine rw_s (qs_len Try.underlying52 rfl rfl) rfl rfl ?_
              refine rw_run tab_ok 1 [(1, _), (2, _), (6, _), (7, _), (8, _), (9, _), (10, _), (11, _), (13, _), (14, _), (15, _), (82, _)] rfl ⟨rfl, rfl, rfl, rfl, rfl, rfl, rfl, rfl, rfl, rfl, rfl, rfl, trivial⟩ ?_
              refine rw_end ?_
              refine cw_as (t := 15) (v' := .int .i64 (q : Int)) rfl (by rw [hq]) ?_
              have hfail : (comeS f.code.length s' q T).1 = false → entriesS fs f = ([], false) := fun h => ents_fail hok hty hn0 ((hcs LL (fun q h => h) (by omega)).2 (comesS_none (k := j + 1) (by rw [hsn, h]; rfl)))
              refine cw_condD rfl (fun hqe => ?_) (fun hqe => ?_)
              · rw [hfail (by unfold comeS; rw [if_pos (by omega)])]
                refine cw_seq ?_
                refine cw_region ?_
                refine rw_run tab_ok 2 [(4, _), (5, _)] rfl ⟨rfl, rfl, trivial⟩ ?_
                refine rw_end ?_
                refine cw_ret (xw_thenr (xw_blkr (xw_thenr (xw_thenr (xw_blkr (xw_blkr (xw_thenr (xw_thenr (xw_blkr (xw_blkr (xw_thenr (xw_blkr (xw_thenr ?_)))))))))))))
                refine xw_ret2 Try.results21 (rv_tmp rfl) (rv_tmp rfl) ?_
                intro w hw
                exact ⟨((none, 0), [], []), .nil_, rfl, Cw.nilO HEnt (pool_nil (hw.msub (T := []) ms))⟩
              · have hql : q < f.code.length := by omega
                refine cw_skip (xw_then ?_)
                refine cw_seq ?_
                refine cw_seq ?_
                refine cw_region ?_
                refine rw_run tab_ok 2 [(1, _), (2, _), (6, _), (7, _), (8, _), (9, _), (10, _), (11, _), (13, _), (14, _), (15, _), (83, _), (84, _)] rfl ⟨rfl, rfl, rfl, rfl, rfl, rfl, rfl, rfl, rfl, rfl, rfl, rfl, rfl, trivial⟩ ?_
                refine rw_s (qs_idx Try.underlying87 Try.sizeOf4 (SF.own hF2.ml fc) (by omega) rfl rfl rfl) rfl rfl ?_
                refine rw_s (qs_ld (SF.bool (SF.own hF2.ml fc) (by omega)) rfl rfl Try.isAgg4) rfl rfl ?_
                refine rw_run tab_ok 1 [(1, _), (2, _), (6, _), (7, _), (8, _), (9, _), (10, _), (11, _), (13, _), (14, _), (15, _), (87, _)] rfl ⟨rfl, rfl, rfl, rfl, rfl, rfl, rfl, rfl, rfl, rfl, rfl, rfl, trivial⟩ ?_
                refine rw_end ?_
                refine cw_cond rfl (fun hmq => ?_) (fun hmq => ?_)
                · have hmq : ¬ s'.met.getD q false = true := by simpa using hmq
                  have hc1 : comeS f.code.length s' q T = (true, ⟨s'.at_.set q T, s'.met.set q true, s'.todo ++ [(q : Int)]⟩) := by unfold comeS; rw [if_neg (by omega), if_neg hmq]
                  rw [hc1] at hco2 hsn
                  refine cw_seq ?_
                  refine cw_region ?_
                  refine rw_run tab_ok 5 [(1, _), (2, _), (6, _), (7, _), (8, _), (10, _), (11, _), (13, _), (14, _), (88, _), (89, _), (90, _), (91, _), (92, _)] rfl ⟨rfl, rfl, rfl, rfl, rfl, rfl, rfl, rfl, rfl, rfl, rfl, rfl, rfl, rfl, trivial⟩ ?_
                  refine rw_s (qs_idxP Try.underlying58 Try.sizeOf35 rfl hql rfl rfl rfl) rfl rfl ?_
                  refine rw_op (ot_stE0 (α := Hdr) ⟨.slice A4 T.length c4⟩ nilH rfl fc hql rfl Try.sizeOf35 rfl rfl rfl rfl rfl rfl rfl rfl) rfl rfl (fun _ _ => ?_)
                  refine rw_s (qs_idxP Try.underlying87 Try.sizeOf4 rfl hql rfl rfl rfl) rfl rfl ?_
                  refine rw_op (ot_stE0 (α := Bool) true false rfl fc hql trivial Try.sizeOf4 rfl rfl rfl rfl rfl rfl rfl rfl) rfl rfl (fun _ _ => ?_)
                  refine rw_run tab_ok 1 [(1, _), (2, _), (6, _), (7, _), (8, _), (9, _), (10, _), (11, _), (13, _), (14, _)] rfl ⟨rfl, rfl, rfl, rfl, rfl, rfl, rfl, rfl, rfl, rfl, trivial⟩ ?_
                  refine rw_end ?_
                  refine cw_exit (xw_thenx (xw_blk (xw_then ?_)))
                  refine cw_region ?_
                  refine rw_run tab_ok 1 [(1, _), (2, _), (6, _), (7, _), (8, _), (9, _), (10, _), (11, _), (13, _), (73, _)] rfl ⟨rfl, rfl, rfl, rfl, rfl, rfl, rfl, rfl, rfl, rfl, trivial⟩ ?_
                  refine rw_s (qs_add rfl rfl rfl (by omega)) rfl rfl ?_
                  refine rw_run tab_ok 1 [(1, _), (2, _), (6, _), (7, _), (8, _), (9, _), (10, _), (11, _), (13, _), (14, _)] rfl ⟨rfl, rfl, rfl, rfl, rfl, rfl, rfl, rfl, rfl, rfl, trivial⟩ ?_
                  refine rw_round (j + 1, true, ⟨s'.at_.set q T, s'.met.set q true, s'.todo ++ [(q : Int)]⟩, hd.set q ⟨.slice A4 T.length c4⟩, L) (⟨⟨⟨⟨hjl, by simp⟩, hco2.1, by show (s'.todo ++ [(q : Int)]).length ≤ s.todo.length + (j + 1); rw [List.length_append, List.length_singleton]; omega⟩, hsn, hinT2⟩, hR4.set hql hinT2⟩) (by show _ - _ < _ - _; omega) ⟨rfl, rfl, rfl, rfl, rfl, rfl, rfl, rfl, rfl, rfl, trivial⟩ (fun _ h => h.msub ms)
                · have hmq : s'.met.getD q false = true := by simpa using hmq
                  have hI2 := ((hcs (LL.take j) (fun q h => List.mem_of_mem_take h) (by rw [List.length_take]; omega)).1 s' hco).1
                  have hin5 := hR4.el q hql
                  have h85 := hF2.st q
                  refine cw_fact (fun w h => hin5.form h fc) ?_
                  rintro ⟨A5, c5, hv5⟩
                  rw [hv5] at hin5
                  refine cw_skip (xw_then ?_)
                  refine cw_seq ?_
                  refine cw_region ?_
                  refine rw_run tab_ok 2 [(1, _), (2, _), (6, _), (7, _), (8, _), (9, _), (10, _), (11, _), (13, _), (14, _), (15, _), (96, _), (97, _)] rfl ⟨rfl, rfl, rfl, rfl, rfl, rfl, rfl, rfl, rfl, rfl, rfl, rfl, rfl, trivial⟩ ?_
                  refine rw_s (qs_idx Try.underlying58 Try.sizeOf35 (SF.own hR4.hl fc) (by omega) rfl rfl rfl) rfl rfl ?_
                  refine rw_s (qs_ld (v := .slice A5 (s'.at_.getD q []).length c5) (by rw [← hv5]; exact SF.hdr (SF.own hR4.hl fc) hql) rfl rfl Try.isAgg35) rfl rfl ?_
                  refine rw_run tab_ok 1 [(1, _), (2, _), (6, _), (7, _), (8, _), (9, _), (10, _), (11, _), (13, _), (14, _), (15, _), (99, _), (100, _)] rfl ⟨rfl, rfl, rfl, rfl, rfl, rfl, rfl, rfl, rfl, rfl, rfl, rfl, rfl, trivial⟩ ?_
                  refine rw_op (ot_cO rfl rfl rfl Try.call22 (fun w hw => rjoinOf_any A5 A4 c5 c4 (s'.at_.getD q []) T w (hin5.sl hw fc) (hinT2.sl hw fc) (hI2.ty q hmq) hTty (by omega))) rfl rfl (fun ⟨A6, c6⟩ _ => ?_)
                  try dsimp only
                  refine rw_run tab_ok 5 [(1, _), (2, _), (6, _), (7, _), (8, _), (9, _), (10, _), (11, _), (13, _), (14, _), (15, _), (16, _), (17, _)] rfl ⟨rfl, rfl, rfl, rfl, rfl, rfl, rfl, rfl, rfl, rfl, rfl, rfl, rfl, trivial⟩ ?_
                  refine rw_end ?_
                  refine cw_seq ?_
                  refine cw_seq ?_
                  refine cw_region ?_
                  refine rw_run tab_ok 2 [(1, _), (2, _), (6, _), (7, _), (8, _), (9, _), (10, _), (11, _), (13, _), (14, _), (15, _), (16, _), (105, _)] rfl ⟨rfl, rfl, rfl, rfl, rfl, rfl, rfl, rfl, rfl, rfl, rfl, rfl, rfl, trivial⟩ ?_
                  refine rw_end ?_
                  refine cw_cond rfl (fun hjo => ?_) (fun hjo => ?_)
                  · have hjn : joinL (s'.at_.getD q []) T = none := by
                      cases e : joinL (s'.at_.getD q []) T with
                      | none => rfl
                      | some v => rw [e] at hjo; cases hjo
                    rw [hfail (by unfold comeS; rw [if_neg (by omega), if_pos hmq, hjn])]
                    refine cw_seq ?_
                    refine cw_region ?_
                    refine rw_run tab_ok 2 [(4, _), (5, _)] rfl ⟨rfl, rfl, trivial⟩ ?_
                    refine rw_end ?_
                    refine cw_ret (xw_thenr (xw_blkr (xw_thenr (xw_thenr (xw_blkr (xw_blkr (xw_thenr (xw_thenr (xw_blkr (xw_blkr (xw_thenr (xw_blkr (xw_thenr ?_)))))))))))))
                    refine xw_ret2 Try.results21 (rv_tmp rfl) (rv_tmp rfl) ?_
                    intro w hw
                    exact ⟨((none, 0), [], []), .nil_, rfl, Cw.nilO HEnt (pool_nil (hw.msub (T := []) ms))⟩
                  · obtain ⟨jn, hjn⟩ : ∃ v, joinL (s'.at_.getD q []) T = some v := by
                      cases e : joinL (s'.at_.getD q []) T with
                      | none => rw [e] at hjo; cases hjo
                      | some v => exact ⟨v, rfl⟩
                    rw [hjn, Option.getD_some]
                    refine cw_skip (xw_then ?_)
                    refine cw_seq ?_
                    refine cw_region ?_
                    refine rw_run tab_ok 3 [(1, _), (2, _), (6, _), (7, _), (8, _), (9, _), (10, _), (11, _), (13, _), (14, _), (15, _), (16, _), (106, _), (107, _), (108, _)] rfl ⟨rfl, rfl, rfl, rfl, rfl, rfl, rfl, rfl, rfl, rfl, rfl, rfl, rfl, rfl, rfl, trivial⟩ ?_
                    refine rw_s (qs_idx Try.underlying58 Try.sizeOf35 (SF.own hR4.hl fc) (by omega) rfl rfl rfl) rfl rfl ?_
                    refine rw_s (qs_ld (v := .slice A5 (s'.at_.getD q []).length c5) (by rw [← hv5]; exact SF.hdr (SF.own hR4.hl fc) hql) rfl rfl Try.isAgg35) rfl rfl ?_
                    refine rw_op (ot_c0 rfl rfl rfl Try.call28 (fun w hw => sameInts_w A6 A5 c6 c5 jn (s'.at_.getD q []) w (SF.at_ (SF.own rfl fc) hw) (hin5.sl hw fc))) rfl rfl (fun _ _ => ?_)
                    refine rw_run tab_ok 1 [(1, _), (2, _), (6, _), (7, _), (8, _), (9, _), (10, _), (11, _), (13, _), (14, _), (15, _), (16, _), (112, _)] rfl ⟨rfl, rfl, rfl, rfl, rfl, rfl, rfl, rfl, rfl, rfl, rfl, rfl, rfl, trivial⟩ ?_
                    refine rw_end ?_
                    refine cw_cond rfl (fun he => ?_) (fun he => ?_)
                    · have he : ¬ jn = s'.at_.getD q [] := by simpa using he
                      have hset : s'.met.set q true = s'.met := by
                        refine List.ext_getElem (by simp) fun n h1 h2 => ?_
                        rw [List.getElem_set]
                        split
                        · rename_i e
                          subst e
                          rw [List.getD_eq_getElem?_getD, List.getElem?_eq_getElem h2] at hmq
                          exact hmq.symm
                        · rfl
                      have hc1 : comeS f.code.length s' q T = (true, ⟨s'.at_.set q jn, s'.met, s'.todo ++ [(q : Int)]⟩) := by
                        unfold comeS
                        rw [if_neg (by omega), if_pos hmq, hjn]
                        simp only []
                        rw [if_neg he, hset]
                      rw [hc1] at hco2 hsn
                      refine cw_mem (fun w h => pool_add (freeze (h.msub (T := ROw (.slice A6 jn.length c6) jn :: RPool L :: [RBox g1 [.slice A fs.length c] 24, ROw (.slice (some ⟨ga, 0, none⟩) f.code.length f.code.length) hd, ROw (.slice (some ⟨gm, 0, none⟩) f.code.length f.code.length) s'.met, ROw (.slice A7 LL.length c7) LL]) ms))) ?_
                      refine cw_region ?_
                      refine rw_run tab_ok 3 [(1, _), (2, _), (6, _), (7, _), (8, _), (10, _), (11, _), (13, _), (14, _), (113, _), (114, _), (115, _)] rfl ⟨rfl, rfl, rfl, rfl, rfl, rfl, rfl, rfl, rfl, rfl, rfl, rfl, trivial⟩ ?_
                      refine rw_s (qs_idxP Try.underlying58 Try.sizeOf35 rfl hql rfl rfl rfl) rfl rfl ?_
                      refine rw_op (ot_stE0 (α := Hdr) ⟨.slice A6 jn.length c6⟩ nilH rfl fc hql rfl Try.sizeOf35 rfl rfl rfl rfl rfl rfl rfl rfl) rfl rfl (fun _ _ => ?_)
                      refine rw_run tab_ok 1 [(1, _), (2, _), (6, _), (7, _), (8, _), (9, _), (10, _), (11, _), (13, _), (14, _)] rfl ⟨rfl, rfl, rfl, rfl, rfl, rfl, rfl, rfl, rfl, rfl, trivial⟩ ?_
                      refine rw_endx (xw_blkn (xw_then ?_))
                      refine cw_region ?_
                      refine rw_run tab_ok 1 [(1, _), (2, _), (6, _), (7, _), (8, _), (9, _), (10, _), (11, _), (13, _), (73, _)] rfl ⟨rfl, rfl, rfl, rfl, rfl, rfl, rfl, rfl, rfl, rfl, trivial⟩ ?_
                      refine rw_s (qs_add rfl rfl rfl (by omega)) rfl rfl ?_
                      refine rw_run tab_ok 1 [(1, _), (2, _), (6, _), (7, _), (8, _), (9, _), (10, _), (11, _), (13, _), (14, _)] rfl ⟨rfl, rfl, rfl, rfl, rfl, rfl, rfl, rfl, rfl, rfl, trivial⟩ ?_
                      refine rw_round (j + 1, true, ⟨s'.at_.set q jn, s'.met, s'.todo ++ [(q : Int)]⟩, hd.set q ⟨.slice A6 jn.length c6⟩, (.slice A6 jn.length c6, jn) :: L) (⟨⟨⟨⟨hjl, by simp⟩, hco2.1, by show (s'.todo ++ [(q : Int)]).length ≤ s.todo.length + (j + 1); rw [List.length_append, List.length_singleton]; omega⟩, hsn, hinT2.cons⟩, (hR4.cons _).set hql .new⟩) (by show _ - _ < _ - _; omega) ⟨rfl, rfl, rfl, rfl, rfl, rfl, rfl, rfl, rfl, rfl, trivial⟩ (fun _ h => h.msub ms)
                    · have he : jn = s'.at_.getD q [] := by simpa using he
                      have hc1 : comeS f.code.length s' q T = (true, s') := by
                        unfold comeS
                        rw [if_neg (by omega), if_pos hmq, hjn]
                        simp only []
                        rw [if_pos he]
                      rw [hc1] at hco2 hsn
                      refine cw_skip (xw_blkn (xw_then ?_))
                      refine cw_region ?_
                      refine rw_run tab_ok 1 [(1, _), (2, _), (6, _), (7, _), (8, _), (9, _), (10, _), (11, _), (13, _), (73, _)] rfl ⟨rfl, rfl, rfl, rfl, rfl, rfl, rfl, rfl, rfl, rfl, trivial⟩ ?_
                      refine rw_s (qs_add rfl rfl rfl (by omega)) rfl rfl ?_
                      refine rw_run tab_ok 1 [(1, _), (2, _), (6, _), (7, _), (8, _), (9, _), (10, _), (11, _), (13, _), (14, _)] rfl ⟨rfl, rfl, rfl, rfl, rfl, rfl, rfl, rfl, rfl, rfl, trivial⟩ ?_
                      refine rw_round (j + 1, b, s', hd, L) (⟨⟨⟨⟨hjl, hb2⟩, hF2, by show s'.todo.length ≤ s.todo.length + (j + 1); omega⟩, hsn, hinT2⟩, hR4⟩) (by show _ - _ < _ - _; omega) ⟨rfl, rfl, rfl, rfl, rfl, rfl, rfl, rfl, rfl, rfl, trivial⟩ (fun _ h => h.msub ms)
            · obtain rfl : j = LL.length := by omega
              rw [List.take_length] at hco
              have hS2 := hstp s' hco
              refine cw_exit (xw_thenx (xw_thenx (xw_blk (xw_blkn (xw_then ?_)))))
              refine cw_region ?_
              refine rw_run tab_ok 1 [(1, _), (2, _), (6, _), (7, _), (8, _), (9, _), (39, _)] rfl ⟨rfl, rfl, rfl, rfl, rfl, rfl, rfl, trivial⟩ ?_
              refine rw_s (qs_add rfl rfl rfl (by omega)) rfl rfl ?_
              refine rw_run tab_ok 1 [(1, _), (2, _), (6, _), (7, _), (8, _), (9, _), (10, _)] rfl ⟨rfl, rfl, rfl, rfl, rfl, rfl, rfl, trivial⟩ ?_
              refine rw_round (i + 1, b, s', hd, L) (⟨⟨⟨hil, hb2⟩, hS2⟩, hR4⟩) (by show _ - _ < _ - _; omega) ⟨rfl, rfl, rfl, rfl, rfl, rfl, rfl, trivial⟩ (fun _ h => h.msub ms)
      · obtain rfl : i = f.code.length := by omega
        refine cw_exit (xw_thenx (xw_thenx (xw_blk (xw_blkn ?_))))
        by_cases hne : s.todo = []
        · obtain ⟨rfl, hdn⟩ := hS.dn hne
          refine xw_round (b, s, hd, L) (⟨⟨⟨hF, hS.inv⟩, hne, fun _ j hj => hdn j (met_lt hF hj) hj⟩, hR2⟩) ((by rw [hb, hne]; exact Nat.lt_succ_self _)) ⟨rfl, rfl, rfl, rfl, rfl, rfl, trivial⟩ (fun _ h => h.msub ms)
        · obtain ⟨a1, a2, a3⟩ := hS.again hT0 hne
          refine xw_round (b, ⟨s.at_, s.met, []⟩, hd, L) (⟨⟨⟨a1, a2⟩, rfl, fun h => absurd (List.length_pos_iff.2 hne) (by rw [hb] at h; simpa using h)⟩, hR2⟩) ((by cases b; (· show 2 * phi f.code.length ⟨s.at_, s.met, []⟩ + 0 < 2 * phi f.code.length s0 + 1; omega); (· show 2 * phi f.code.length ⟨s.at_, s.met, []⟩ + 1 < 2 * phi f.code.length s0 + 1; omega))) ⟨rfl, rfl, rfl, rfl, rfl, rfl, trivial⟩ (fun _ h => h.msub ms)
    · have hmore : more = false := by simpa using hmore
      have hd0 := ents_done hok hty hn0 hF0 hI0 (hD0 hmore)
      refine cw_exit (xw_thenx (xw_thenx (xw_blk ?_)))
      refine xw_join (s0, hd, L) (⟨⟨hd0, hF0⟩, hR⟩) ⟨rfl, rfl, rfl, trivial⟩ (fun _ h => h.msub ms)
  · rintro ⟨s, hd, L⟩ hj
    obtain ⟨⟨hent, hF⟩, hR⟩ : (entriesS fs f = (entU s f.code.length, true) ∧ FOk f.code.length s) ∧ Rel f.code.length hd L s.at_ := hj
    rw [hent]
    try dsimp only
    refine cw_mem (fun w h => Cw.nilO HEnt h) ?_
    refine cw_seq ?_
    refine cw_region ?_
    refine rw_run tab_ok 1 [(6, _), (7, _), (8, _), (18, _)] rfl ⟨rfl, rfl, rfl, rfl, trivial⟩ ?_
    refine rw_end ?_
    refine cw_seq ?_
    refine cw_seq ?_
    refine cw_region ?_
    refine rw_run tab_ok 1 [(6, _), (7, _), (8, _), (18, _), (19, _)] rfl ⟨rfl, rfl, rfl, rfl, rfl, trivial⟩ ?_
    refine rw_end ?_
    refine cw_block (cw_loop (fun g : Nat × List HEnt × Option Addr × Nat => g.1 ≤ f.code.length ∧ RelE g.2.1 L (entU s g.1)) (fun g => f.code.length - g.1) (fun g => [(6, .slice A2 f.code.length c2), (7, .slice (some ⟨ga, 0, none⟩) f.code.length f.code.length), (8, .slice (some ⟨gm, 0, none⟩) f.code.length f.code.length), (18, .slice g.2.2.1 g.2.1.length g.2.2.2), (19, .int .i64 (g.1 : Int))]) (fun g => [ROw (.slice g.2.2.1 g.2.1.length g.2.2.2) g.2.1, ROw (.slice (some ⟨ga, 0, none⟩) f.code.length f.code.length) hd, ROw (.slice (some ⟨gm, 0, none⟩) f.code.length f.code.length) s.met, RPool L]) (0, [], none, 0) (⟨Nat.zero_le _, .nil_⟩) ⟨rfl, rfl, rfl, rfl, rfl, trivial⟩ me ?_)
    rintro ⟨i, es, Ae, ce⟩ hi'
    try dsimp only
    obtain ⟨hi1, hre⟩ : i ≤ f.code.length ∧ RelE es L (entU s i) := hi'
    have hel := hre.len
    have hul := entU_len s i
    refine cw_seq ?_
    refine cw_seq ?_
    refine cw_region ?_
    refine rw_run tab_ok 2 [(6, _), (7, _), (8, _), (18, _), (19, _), (117, _), (118, _)] rfl ⟨rfl, rfl, rfl, rfl, rfl, rfl, rfl, trivial⟩ ?_
    refine rw_s (qs_len Try.underlying52 rfl rfl) rfl rfl ?_
    refine rw_run tab_ok 1 [(6, _), (7, _), (8, _), (18, _), (19, _), (120, _)] rfl ⟨rfl, rfl, rfl, rfl, rfl, rfl, trivial⟩ ?_
    refine rw_end ?_
    refine cw_condD rfl (fun hlt => ?_) (fun hlt => ?_)
    · have hil : i < f.code.length := by omega
      have hsu := entU_succ s i
      refine cw_skip (xw_then ?_)
      refine cw_seq ?_
      refine cw_block ?_
      refine cw_seq ?_
      refine cw_region ?_
      refine rw_run tab_ok 2 [(6, _), (7, _), (8, _), (18, _), (19, _), (123, _), (124, _)] rfl ⟨rfl, rfl, rfl, rfl, rfl, rfl, rfl, trivial⟩ ?_
      refine rw_s (qs_idx Try.underlying87 Try.sizeOf4 (SF.own hF.ml fc) (by omega) rfl rfl rfl) rfl rfl ?_
      refine rw_s (qs_ld (SF.bool (SF.own hF.ml fc) (by omega)) rfl rfl Try.isAgg4) rfl rfl ?_
      refine rw_end ?_
      refine cw_cond rfl (fun hm => ?_) (fun hm => ?_)
      · rw [if_pos hm] at hsu
        have hin := hR.el i hil
        refine cw_region ?_
        refine rw_run tab_ok 4 [(6, _), (7, _), (8, _), (19, _), (127, _), (128, _), (129, _), (130, _)] rfl ⟨rfl, rfl, rfl, rfl, rfl, rfl, rfl, rfl, trivial⟩ ?_
        refine rw_s (qs_idx Try.underlying58 Try.sizeOf35 (SF.own hR.hl fc) (by omega) rfl rfl rfl) rfl rfl ?_
        refine rw_fact (fun w h => hin.form h fc) ?_
        rintro ⟨A3, c3, hv⟩
        rw [hv] at hin
        refine rw_s (qs_ld (v := .slice A3 (s.at_.getD i []).length c3) (by rw [← hv]; exact SF.hdr (SF.own hR.hl fc) hil) rfl rfl Try.isAgg35) rfl rfl ?_
        refine rw_s (qs_bst (cs := [_, _]) plT57 Try.zeroValue57 rfl rfl (by rfl)) rfl rfl ?_
        refine rw_op (ot_bsl (cs := [_, _]) Try.underlying36 Try.sizeOf57 Try.zeroValue57 rfl rfl rfl rfl rfl) rfl rfl (fun g2 _ => ?_)
        refine rw_op (ot_app1 (α := HEnt) (bytes := 32) ⟨i, .slice A3 (s.at_.getD i []).length c3⟩ [] rfl Try.underlying36 (info_ex Try.inEnt) rfl (perm2 fc fc) (hel_flat ⟨⟨by show (-9223372036854775808 : Int) ≤ (i : Int); omega, by show (i : Int) ≤ 9223372036854775807; omega⟩, rfl⟩) (by omega) (by omega) rfl rfl rfl) rfl rfl (fun ⟨A5, c5⟩ _ => ?_)
        try dsimp only
        refine rw_run tab_ok 1 [(6, _), (7, _), (8, _), (18, _), (19, _)] rfl ⟨rfl, rfl, rfl, rfl, rfl, trivial⟩ ?_
        refine rw_endx (xw_blkn (xw_then ?_))
        refine cw_region ?_
        refine rw_run tab_ok 1 [(6, _), (7, _), (8, _), (18, _), (121, _)] rfl ⟨rfl, rfl, rfl, rfl, rfl, trivial⟩ ?_
        refine rw_s (qs_add rfl rfl rfl (by omega)) rfl rfl ?_
        refine rw_run tab_ok 1 [(6, _), (7, _), (8, _), (18, _), (19, _)] rfl ⟨rfl, rfl, rfl, rfl, rfl, trivial⟩ ?_
        refine rw_round (i + 1, es ++ [⟨i, .slice A3 (s.at_.getD i []).length c3⟩], A5, c5) (⟨hil, by rw [hsu]; exact hre.snoc rfl hin⟩) (by show _ - _ < _ - _; omega) ⟨rfl, rfl, rfl, rfl, rfl, trivial⟩ me
      · rw [if_neg (by rw [hm]; decide)] at hsu
        refine cw_skip (xw_blkn (xw_then ?_))
        refine cw_region ?_
        refine rw_run tab_ok 1 [(6, _), (7, _), (8, _), (18, _), (121, _)] rfl ⟨rfl, rfl, rfl, rfl, rfl, trivial⟩ ?_
        refine rw_s (qs_add rfl rfl rfl (by omega)) rfl rfl ?_
        refine rw_run tab_ok 1 [(6, _), (7, _), (8, _), (18, _), (19, _)] rfl ⟨rfl, rfl, rfl, rfl, rfl, trivial⟩ ?_
        refine rw_round (i + 1, es, Ae, ce) (⟨hil, by rw [hsu]; exact hre⟩) (by show _ - _ < _ - _; omega) ⟨rfl, rfl, rfl, rfl, rfl, trivial⟩ me
    · obtain rfl : i = f.code.length := by omega
      refine cw_exit (xw_thenx (xw_thenx (xw_blk (xw_then ?_))))
      refine cw_seq ?_
      refine cw_region ?_
      refine rw_run tab_ok 3 [(4, _), (5, _)] rfl ⟨rfl, rfl, trivial⟩ ?_
      refine rw_end ?_
      refine cw_ret ?_
      refine xw_ret2 Try.results21 (rv_tmp rfl) (rv_tmp rfl) ?_
      intro w hw
      exact ⟨((Ae, ce), es, L), hre, rfl, hw.msub ms⟩
end Go.Proofs.Ytejpkcheimgdfaa

-- V19
/- Verify: the document's check of a program's fits. -/
namespace Go.Proofs.Ytejpkcheimgdfaa
open Go.RowKit

/-- What has been found so far. -/
def fitS (fs : List MFunc) (i : Nat) : Int := if checkP fs ≠ 0 then checkP fs else if (fs.take i).all (fun f => (entriesS fs f).2) = true then 0 else 4
theorem fitS_end {fs : List MFunc} {i : Nat} (h : fitS fs i ≠ 0) : fitS fs i = progS fs := by
  unfold fitS at h ⊢
  unfold progS
  by_cases h0 : checkP fs ≠ 0
  · rw [if_pos h0, if_pos h0]
  · rw [if_neg h0] at h ⊢
    rw [if_neg h0]
    by_cases h1 : (fs.take i).all (fun f => (entriesS fs f).2) = true
    · rw [if_pos h1] at h; exact absurd rfl h
    · rw [if_neg h1, if_neg]
      intro h2
      apply h1
      rw [List.all_eq_true] at h2 ⊢
      exact fun x hx => h2 x (List.mem_of_mem_take hx)
theorem fitS_len {fs : List MFunc} : fitS fs fs.length = progS fs := by unfold fitS progS; rw [List.take_length]
theorem fitS_zero {fs : List MFunc} {i : Nat} (h : fitS fs i = 0) : checkP fs = 0 ∧ (fs.take i).all (fun f => (entriesS fs f).2) = true := by
  unfold fitS at h
  by_cases h0 : checkP fs ≠ 0
  · rw [if_pos h0] at h; exact absurd h h0
  · rw [if_neg h0] at h
    refine ⟨by simpa using h0, ?_⟩
    split at h
    · assumption
    · cases h
set_option maxRecDepth 100000 in
set_option maxHeartbeats 1000000 in
theorem rcheckFits_any (A : Option Addr) (c : Nat) (fs : List MFunc) (w : World) (hs : Sl w (.slice A fs.length c) fs) :
    Calls Try.prog 26 #[.agg #[.slice A fs.length c]] w fun e w' => e = .returned (.int .i64 (progS fs)) ∧ Below w.heap.size w w' := by
  have b1 := len_bd hs
  refine enter Try.func26 rfl Try.ntmps26 rfl ?_
  refine cw_seq ?_
  refine cw_region ?_
  refine rw_op (ot_box rfl rfl rfl) rfl rfl (fun g1 _ => ?_)
  refine rw_run tab_ok 1 [(1, _)] rfl ⟨rfl, trivial⟩ ?_
  refine rw_end ?_
  refine cw_seq ?_
  refine cw_region ?_
  refine rw_s (qs_ldbA (vs := [_]) fc Try.isAgg24 Try.sizeOf24 rfl rfl (by rfl) rfl) rfl rfl ?_
  refine rw_op (ot_c0 rfl rfl rfl Try.call12 (fun w hw => rcheckP_any A c fs w (hw.ro hs))) rfl rfl (fun _ _ => ?_)
  refine rw_run tab_ok 1 [(1, _), (3, _)] rfl ⟨rfl, rfl, trivial⟩ ?_
  refine rw_end ?_
  refine cw_seq ?_
  refine cw_seq ?_
  refine cw_region ?_
  refine rw_run tab_ok 1 [(1, _), (3, _), (4, _)] rfl ⟨rfl, rfl, rfl, trivial⟩ ?_
  refine rw_end ?_
  refine cw_cutk (fun e : Int => e = progS fs) (fun e => [(3, .int .i64 e)]) (fun _ => []) ?_ ?_
  · refine cw_block (cw_loop (fun g : Nat × Int => g.1 ≤ fs.length ∧ g.2 = fitS fs g.1) (fun g => fs.length - g.1) (fun g => [(1, .pointer (some ⟨g1, 0, none⟩)), (3, .int .i64 g.2), (4, .int .i64 (g.1 : Int))]) (fun _ => [RBox g1 [.slice A fs.length c] 24]) (0, checkP fs) (⟨Nat.zero_le _, by show checkP fs = fitS fs 0; unfold fitS; rw [List.take_zero]; by_cases h : checkP fs ≠ 0; (· rw [if_pos h]); (· rw [if_neg h, List.all_nil, if_pos rfl]; simpa using h)⟩) ⟨rfl, rfl, rfl, trivial⟩ me ?_)
    rintro ⟨i, e⟩ hj
    try dsimp only
    obtain ⟨hi, he⟩ : i ≤ fs.length ∧ e = fitS fs i := hj
    refine cw_seq ?_
    refine cw_seq ?_
    refine cw_region ?_
    refine rw_run tab_ok 2 [(1, _), (3, _), (4, _), (9, _), (10, _)] rfl ⟨rfl, rfl, rfl, rfl, rfl, trivial⟩ ?_
    refine rw_s (qs_ldb fc Try.isAgg22 rfl rfl (by rfl)) rfl rfl ?_
    refine rw_s (qs_len Try.underlying22 rfl rfl) rfl rfl ?_
    refine rw_run tab_ok 2 [(1, _), (3, _), (4, _), (14, _)] rfl ⟨rfl, rfl, rfl, rfl, trivial⟩ ?_
    refine rw_split (t := 14) rfl (fun h1 => ?_) (fun h1 => ?_)
    · have h1 := of_decide_eq_true h1
      have hil : i < fs.length := by omega
      refine rw_run tab_ok 3 [(1, _), (3, _), (4, _), (17, _)] rfl ⟨rfl, rfl, rfl, rfl, trivial⟩ ?_
      refine rw_end ?_
      refine cw_condD rfl (fun h2 => ?_) (fun h2 => ?_)
      · have hz : fitS fs i = 0 := by omega
        obtain ⟨hc0, hall⟩ := fitS_zero hz
        obtain ⟨hok, hn0⟩ := fn_ok hc0 hil
        have hty := fn_ty hc0 hil
        have hsn := all_take_snoc (p := fun f => (entriesS fs f).2) (default : MFunc) hil
        have hnx : fitS fs (i + 1) = if (entriesS fs (fnAt fs i)).2 = true then 0 else 4 := by
          unfold fitS
          rw [if_neg (by simpa using hc0), hsn, hall]
          rfl
        refine cw_skip (xw_then ?_)
        refine cw_seq ?_
        refine cw_block ?_
        refine cw_seq ?_
        refine cw_region ?_
        refine rw_s (qs_ldbA (vs := [_]) fc Try.isAgg24 Try.sizeOf24 rfl rfl (by rfl) rfl) rfl rfl ?_
        refine rw_run tab_ok 1 [(1, _), (3, _), (4, _), (21, _), (22, _)] rfl ⟨rfl, rfl, rfl, rfl, rfl, trivial⟩ ?_
        refine rw_op (ot_c rfl rfl rfl Try.call21 (fun w hw => rentries_own A c fs i w (hw.ro hs) hil hok hty hn0)) rfl rfl (fun ⟨⟨A1, c1⟩, es, L⟩ _ => ?_)
        try dsimp only
        refine rw_run tab_ok 5 [(1, _), (3, _), (4, _), (6, _)] rfl ⟨rfl, rfl, rfl, rfl, trivial⟩ ?_
        refine rw_end ?_
        refine cw_seq ?_
        refine cw_region ?_
        refine rw_run tab_ok 2 [(1, _), (3, _), (4, _), (27, _)] rfl ⟨rfl, rfl, rfl, rfl, trivial⟩ ?_
        refine rw_end ?_
        refine cw_cond rfl (fun h3 => ?_) (fun h3 => ?_)
        · have h3 : (entriesS fs (fnAt fs i)).2 = false := by simpa using h3
          refine cw_region ?_
          refine rw_run tab_ok 1 [(1, _), (3, _), (4, _)] rfl ⟨rfl, rfl, rfl, trivial⟩ ?_
          refine rw_endx (xw_blkn (xw_then ?_))
          refine cw_region ?_
          refine rw_run tab_ok 1 [(1, _), (3, _), (18, _)] rfl ⟨rfl, rfl, rfl, trivial⟩ ?_
          refine rw_s (qs_add rfl rfl rfl (by omega)) rfl rfl ?_
          refine rw_run tab_ok 1 [(1, _), (3, _), (4, _)] rfl ⟨rfl, rfl, rfl, trivial⟩ ?_
          refine rw_round (i + 1, 4) (⟨hil, by rw [hnx, h3]; rfl⟩) (by show _ - _ < _ - _; omega) ⟨rfl, rfl, rfl, trivial⟩ me
        · have h3 : (entriesS fs (fnAt fs i)).2 = true := by simpa using h3
          refine cw_skip (xw_blkn (xw_then ?_))
          refine cw_region ?_
          refine rw_run tab_ok 1 [(1, _), (3, _), (18, _)] rfl ⟨rfl, rfl, rfl, trivial⟩ ?_
          refine rw_s (qs_add rfl rfl rfl (by omega)) rfl rfl ?_
          refine rw_run tab_ok 1 [(1, _), (3, _), (4, _)] rfl ⟨rfl, rfl, rfl, trivial⟩ ?_
          refine rw_round (i + 1, e) (⟨hil, by rw [hnx, h3]; show e = 0; exact h2⟩) (by show _ - _ < _ - _; omega) ⟨rfl, rfl, rfl, trivial⟩ me
      · refine cw_exit (xw_thenx (xw_thenx (xw_blk ?_)))
        refine xw_join e (by rw [he]; exact fitS_end (by rw [← he]; exact h2)) ⟨rfl, trivial⟩ me
    · have h1 := of_decide_eq_false h1
      obtain rfl : i = fs.length := by omega
      refine rw_run tab_ok 3 [(1, _), (3, _), (4, _), (17, _)] rfl ⟨rfl, rfl, rfl, rfl, trivial⟩ ?_
      refine rw_end ?_
      refine cw_cond_f rfl ?_
      refine cw_exit (xw_thenx (xw_thenx (xw_blk ?_)))
      refine xw_join e (he.trans fitS_len) ⟨rfl, trivial⟩ me
  · rintro e rfl
    refine cw_seq ?_
    refine cw_region ?_
    refine rw_run tab_ok 2 [(2, _)] rfl ⟨rfl, trivial⟩ ?_
    refine rw_end ?_
    refine cw_ret ?_
    refine xw_ret1 Try.results26 (rv_tmp rfl) ?_
    intro w hw
    exact ⟨rfl, hw.below⟩
end Go.Proofs.Ytejpkcheimgdfaa

