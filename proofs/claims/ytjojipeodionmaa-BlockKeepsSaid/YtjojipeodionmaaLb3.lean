/- BlockRoom is true, whatever it is handed. -/
import Derived.Test.YtjojipeodionmaaLb2
namespace Go.Proofs.Ytjojipeodionmaa
open Go.RowKit

def refsN (k : Nat) : List Int := (List.range k).map fun i : Nat => (i : Int) + 1
theorem refsN_snoc (k : Nat) : refsN (k + 1) = refsN k ++ [(k : Int) + 1] := by simp [refsN, List.range_succ]
theorem refsN_len (k : Nat) : (refsN k).length = k := by simp [refsN]
theorem refsN_has (n k : Nat) : (refsN n).contains ((k : Int) + 1) = decide (k < n) := by
  rw [Bool.eq_iff_iff]
  simp only [List.contains_iff_mem, refsN, List.mem_map, List.mem_range, decide_eq_true_eq]
  constructor
  · rintro ⟨a, h1, h2⟩; omega
  · intro h; exact ⟨k, h, rfl⟩
theorem keptTo_refs (m : List (List Int)) (n : Nat) (hn : n ≤ m.length) : ∀ k, k ≤ n → keptTo m (refsN n) k = m.take k
  | 0, _ => by simp [keptTo]
  | k + 1, hk => by
    rw [keptTo_yes (by rw [refsN_has]; exact decide_eq_true (by omega)), keptTo_refs m n hn k (by omega), take_snoc m k [] (by omega)]
theorem keptTo_refs_all (l : List (List Int)) (b : List Int) : keptTo (l ++ [b]) (refsN l.length) (l ++ [b]).length = l := by
  rw [List.length_append, List.length_singleton, keptTo_no (by rw [refsN_has]; simp), keptTo_refs _ _ (by simp) _ (Nat.le_refl _)]
  simp
theorem newE_zero {l : List (List Int)} {size : Int} (h : newE l size = 0) : checkB l = 0 ∧ 0 ≤ size ∧ l.length ≠ 8 ∧ size ≤ 40 - cellsN l := by
  unfold newE moreE at h
  split at h
  · rename_i h0
    split at h
    · cases h
    · split at h
      · cases h
      · rename_i h1 h2; exact ⟨h0, by omega, by omega, by omega⟩
  · rename_i h0; exact absurd h h0
theorem checkB_zero {l : List (List Int)} (h : checkB l = 0) : l.length ≤ 8 ∧ cellsN l ≤ 40 ∧ l.any badInts = false := by
  unfold checkB at h
  split at h
  · cases h
  · split at h
    · cases h
    · rename_i h1 h2; exact ⟨by omega, by omega, by simpa using h2⟩
theorem checkB_of {l : List (List Int)} (h1 : l.length ≤ 8) (h2 : cellsN l ≤ 40) (h3 : l.any badInts = false) : checkB l = 0 := by
  unfold checkB
  rw [if_neg (by omega), if_neg (by rw [h3]; decide)]
theorem badInts_zero (n : Nat) : badInts (List.replicate n 0) = false := by
  unfold badInts
  rw [Bool.eq_false_iff]
  intro h
  obtain ⟨x, hx, hb⟩ := List.any_eq_true.1 h
  have := List.eq_of_mem_replicate hx
  subst this
  simp [isInt] at hb
theorem checkB_new {l : List (List Int)} {size : Int} (h : newE l size = 0) : checkB (newL l size) = 0 := by
  obtain ⟨h0, h1, h2, h3⟩ := newE_zero h
  obtain ⟨h4, h5, h6⟩ := checkB_zero h0
  unfold newL
  rw [if_pos h]
  refine checkB_of (by simp; omega) ?_ ?_
  · rw [cellsN_snoc]; simp; omega
  · rw [List.any_append, h6]; simp [badInts_zero]
theorem keep_new {l : List (List Int)} {size : Int} (h : newE l size = 0) : keepE (newL l size) (refsN l.length) = 0 ∧ keepL (newL l size) (refsN l.length) = l := by
  have hE : keepE (newL l size) (refsN l.length) = 0 := by
    unfold keepE
    rw [if_pos (checkB_new h), if_neg]
    intro ha
    obtain ⟨x, hx, hb⟩ := List.any_eq_true.1 ha
    simp only [refsN, List.mem_map, List.mem_range] at hx
    obtain ⟨a, h1, rfl⟩ := hx
    have : (newL l size).length = l.length + 1 := by unfold newL; rw [if_pos h]; simp
    simp [this] at hb
    omega
  refine ⟨hE, ?_⟩
  unfold keepL
  rw [if_pos hE]
  unfold newL
  rw [if_pos h]
  exact keptTo_refs_all _ _
theorem newE_left {l : List (List Int)} (h : checkB l = 0) : newE l (40 - (cellsN l : Int) + 1) = 7 ∧ (newE l (40 - (cellsN l : Int)) = 0 ↔ l.length < 8) := by
  obtain ⟨h4, h5, _⟩ := checkB_zero h
  unfold newE moreE
  rw [if_pos h, if_pos h, if_neg (by omega), if_pos (.inr (by omega)), if_neg (by omega)]
  refine ⟨rfl, ?_⟩
  constructor
  · intro h1; split at h1 <;> omega
  · intro h1; rw [if_neg (by omega)]
theorem run_eqBd {P : Program} {t : TypeId} (hu : P.underlying t = some .bool) (a b : Bool) (w : World) (d : Nat) : (Op.equalIn (d + 1) t (.bool a) (.bool b)).run P w = .ok (a == b) w := by
  simp [Op.equalIn, run_underlying hu]
theorem run_eqB {P : Program} {t : TypeId} (hu : P.underlying t = some .bool) (a b : Bool) (w : World) : (binOp .eql t (.bool a) (.bool b)).run P w = .ok (.bool (a == b)) w := by
  simp only [binOp, Op.equal, Op.maxDepth, Sem.run_bind]
  rw [show (10000 : Nat) = 9999 + 1 from rfl, run_eqBd hu]
  rfl
theorem qs_eqB {P : Program} {n B : Nat} {w0 : World} {o : Oper} {env : Env} {H : List Res} {i j : Operand} {t u : TypeId} {a b : Bool} (hu : P.underlying t = some .bool) (hop : o.op = .binOp .eql t i j u) (hi : opv env i = some (.bool a)) (hj : opv env j = some (.bool b)) : QS P n B w0 o env H (.bool (a == b)) := by
  intro a' w hf hw
  unfold execOp
  have hgd : (eqGuard .eql t i j (.bool a) (.bool b)).run P w = .ok () w := by
    unfold eqGuard
    split <;> simp
  simp only [hop, hf.opv hi, hf.opv hj, Sem.run_bind, hgd, Result.andThen_ok, run_eqB hu, Sem.run_pure]

set_option maxRecDepth 100000 in
set_option maxHeartbeats 2000000 in
theorem blockRoom_any (A : Option Addr) (c : Nat) (l : List (List Int)) (size : Int) (w : World) (hs : Sl w (.slice A l.length c) l) (iz : I64 size) :
    Calls Try.prog 6 #[.slice A l.length c, .int .i64 size] w fun e w' => e = .returned (.bool true) ∧ Below w.heap.size w w' := by
  have b1 := len_bd hs
  refine enter Try.func6 rfl Try.ntmps6 rfl ?_
  refine cw_seq ?_
  refine cw_region ?_
  refine rw_run tab_ok 1 [(0, _), (1, _)] rfl ⟨rfl, rfl, trivial⟩ ?_
  refine rw_end ?_
  refine cw_seq ?_
  refine cw_seq ?_
  refine cw_region ?_
  refine rw_op (ot_c0 rfl rfl rfl Try.call31 (fun w hw => blockBegun_any w)) rfl rfl (fun _ _ => ?_)
  refine rw_run tab_ok 1 [(0, _), (1, _), (21, _)] rfl ⟨rfl, rfl, rfl, trivial⟩ ?_
  refine rw_end ?_
  refine cw_cond_f rfl ?_
  refine cw_skip (xw_then ?_)
  refine cw_seq ?_
  refine cw_seq ?_
  refine cw_region ?_
  refine rw_run tab_ok 1 [(0, _), (1, _), (22, _)] rfl ⟨rfl, rfl, rfl, trivial⟩ ?_
  refine rw_op (ot_c0 rfl rfl rfl Try.call32 (fun w hw => checkB_any _ l w (hw.ro hs))) rfl rfl (fun _ _ => ?_)
  refine rw_run tab_ok 1 [(0, _), (1, _), (24, _)] rfl ⟨rfl, rfl, rfl, trivial⟩ ?_
  refine rw_end ?_
  refine cw_condN rfl (fun hz => ?_) (fun hz => ?_)
  · refine cw_seq ?_
    refine cw_region ?_
    refine rw_run tab_ok 1 [(4, _)] rfl ⟨rfl, trivial⟩ ?_
    refine rw_end ?_
    refine cw_ret (xw_thenr ?_)
    refine xw_ret1 Try.results6 (rv_tmp rfl) ?_
    intro w hw
    exact ⟨rfl, hw.below⟩
  · obtain ⟨h8, h40, _⟩ := checkB_zero hz
    obtain ⟨hl7, hl0⟩ := newE_left hz
    refine cw_skip (xw_then ?_)
    refine cw_seq ?_
    refine cw_region ?_
    refine rw_run tab_ok 1 [(0, _), (1, _), (5, _)] rfl ⟨rfl, rfl, rfl, trivial⟩ ?_
    refine rw_end ?_
    refine cw_seq ?_
    refine cw_seq ?_
    refine cw_region ?_
    refine rw_run tab_ok 1 [(0, _), (1, _), (5, _), (6, _)] rfl ⟨rfl, rfl, rfl, rfl, trivial⟩ ?_
    refine rw_end ?_
    refine cw_mem (fun w h => Cw.nilO Int h) ?_
    refine cw_block (cw_loop (fun g : Nat × Option Addr × Nat => g.1 ≤ l.length) (fun g => l.length - g.1) (fun g => [(0, .slice A l.length c), (1, .int .i64 size), (5, .slice g.2.1 (refsN g.1).length g.2.2), (6, .int .i64 (g.1 : Int))]) (fun g => [ROw (.slice g.2.1 (refsN g.1).length g.2.2) (refsN g.1)]) (0, none, 0) (Nat.zero_le _) ⟨rfl, rfl, rfl, rfl, trivial⟩ (by first | exact fun _ h => h | exact fun _ h => h.msub (by repeat (first | exact .z | refine .s (by first | exact .a | exact .b | exact .c | exact .d | exact .e | exact .s .e | exact .s (.s .e) | exact .s (.s (.s .e))) ?_))) ?_)
    rintro ⟨k, A3, c3⟩ hk'
    dsimp only
    have hk : k ≤ l.length := hk'
    have hrl := refsN_len k
    refine cw_seq ?_
    refine cw_seq ?_
    refine cw_region ?_
    refine rw_run tab_ok 2 [(0, _), (1, _), (5, _), (6, _), (25, _), (26, _)] rfl ⟨rfl, rfl, rfl, rfl, rfl, rfl, trivial⟩ ?_
    refine rw_s (qs_len Try.underlying39 rfl rfl) rfl rfl ?_
    refine rw_run tab_ok 1 [(0, _), (1, _), (5, _), (6, _), (28, _)] rfl ⟨rfl, rfl, rfl, rfl, rfl, trivial⟩ ?_
    refine rw_end ?_
    refine cw_condD rfl (fun hlt => ?_) (fun hlt => ?_)
    · refine cw_skip (xw_then ?_)
      refine cw_seq ?_
      refine cw_block ?_
      refine cw_region ?_
      refine rw_run tab_ok 2 [(0, _), (1, _), (6, _), (31, _), (32, _)] rfl ⟨rfl, rfl, rfl, rfl, rfl, trivial⟩ ?_
      refine rw_s (qs_add rfl rfl rfl (by omega)) rfl rfl ?_
      refine rw_op (ot_bsl (cs := [_]) Try.underlying41 Try.sizeOf3 Try.zeroValue3 rfl rfl rfl rfl rfl) rfl rfl (fun g1 _ => ?_)
      refine rw_op (ot_app1 (α := Int) (bytes := 8) ((k : Int) + 1) [] (refsN_snoc k) Try.underlying41 (info_ex Try.infoInt) rfl (perm2 (by first | exact .a | exact .b | exact .c | exact .d | exact .e | exact .s .e | exact .s (.s .e) | exact .s (.s (.s .e))) (by first | exact .a | exact .b | exact .c | exact .d | exact .e | exact .s .e | exact .s (.s .e) | exact .s (.s (.s .e)))) (hel_int (by unfold I64; omega)) (by omega) (by omega) rfl rfl rfl) rfl rfl (fun ⟨A4, c4⟩ _ => ?_)
      dsimp only
      refine rw_run tab_ok 1 [(0, _), (1, _), (5, _), (6, _)] rfl ⟨rfl, rfl, rfl, rfl, trivial⟩ ?_
      refine rw_endx (xw_blkn (xw_then ?_))
      refine cw_region ?_
      refine rw_run tab_ok 1 [(0, _), (1, _), (5, _), (29, _)] rfl ⟨rfl, rfl, rfl, rfl, trivial⟩ ?_
      refine rw_s (qs_add rfl rfl rfl (by omega)) rfl rfl ?_
      refine rw_run tab_ok 1 [(0, _), (1, _), (5, _), (6, _)] rfl ⟨rfl, rfl, rfl, rfl, trivial⟩ ?_
      refine rw_round (k + 1, A4, c4) (by show k + 1 ≤ _; omega) (by show _ - _ < _ - _; omega) ⟨rfl, rfl, rfl, rfl, trivial⟩ (by first | exact fun _ h => h | exact fun _ h => h.msub (by repeat (first | exact .z | refine .s (by first | exact .a | exact .b | exact .c | exact .d | exact .e | exact .s .e | exact .s (.s .e) | exact .s (.s (.s .e))) ?_)))
    · obtain rfl : k = l.length := by omega
      refine cw_exit (xw_thenx (xw_thenx (xw_blk (xw_then ?_))))
      refine cw_seq ?_
      refine cw_region ?_
      refine rw_run tab_ok 2 [(0, _), (5, _), (37, _), (38, _)] rfl ⟨rfl, rfl, rfl, rfl, trivial⟩ ?_
      refine rw_op (ot_cO rfl rfl rfl Try.call33 (fun w hw => newB_any _ l size w (hw.ro hs))) rfl rfl (fun ⟨Am, cm⟩ _ => ?_)
      dsimp only
      refine rw_run tab_ok 7 [(0, _), (5, _), (7, _), (9, _)] rfl ⟨rfl, rfl, rfl, rfl, trivial⟩ ?_
      refine rw_end ?_
      refine cw_cut (fun _ : Unit => True) (fun _ => [(0, .slice A l.length c)]) (fun _ => []) ?_ ?_
      · refine cw_seq ?_
        refine cw_region ?_
        refine rw_run tab_ok 2 [(0, _), (5, _), (7, _), (44, _)] rfl ⟨rfl, rfl, rfl, rfl, trivial⟩ ?_
        refine rw_end ?_
        refine cw_condD rfl (fun hN => ?_) (fun hN => ?_)
        · have hkn := keep_new hN
          refine cw_seq ?_
          refine cw_region ?_
          refine rw_run tab_ok 2 [(0, _), (46, _), (47, _)] rfl ⟨rfl, rfl, rfl, trivial⟩ ?_
          refine rw_op (ot_c rfl rfl rfl Try.call34 (fun w hw => keepB2 _ _ _ _ (newL l size) (refsN l.length) w (SF.at_ (SF.own rfl (by first | exact .a | exact .b | exact .c | exact .d | exact .e | exact .s .e | exact .s (.s .e) | exact .s (.s (.s .e)))) hw) (SF.at_ (SF.own rfl (by first | exact .a | exact .b | exact .c | exact .d | exact .e | exact .s .e | exact .s (.s .e) | exact .s (.s (.s .e)))) hw) (by omega))) rfl rfl (fun ⟨⟨A7, c7⟩, A8, c8⟩ _ => ?_)
          dsimp only
          refine rw_run tab_ok 7 [(0, _), (10, _), (12, _)] rfl ⟨rfl, rfl, rfl, trivial⟩ ?_
          refine rw_end ?_
          refine cw_seq ?_
          refine cw_region ?_
          refine rw_run tab_ok 3 [(0, _), (10, _), (54, _)] rfl ⟨rfl, rfl, rfl, trivial⟩ ?_
          refine rw_as (t := 54) (v' := .bool false) rfl (by simp [hkn.1]) ?_
          refine rw_run tab_ok 2 [(0, _), (54, _), (55, _), (56, _)] rfl ⟨rfl, rfl, rfl, rfl, trivial⟩ ?_
          refine rw_op (ot_c0 rfl rfl rfl Try.call35 (fun w hw => rsameBlocks_any _ _ (keepL (newL l size) (refsN l.length)) l w (SF.at_ (SF.own rfl (by first | exact .a | exact .b | exact .c | exact .d | exact .e | exact .s .e | exact .s (.s .e) | exact .s (.s (.s .e)))) hw) (hw.ro hs))) rfl rfl (fun _ _ => ?_)
          refine rw_run tab_ok 2 [(0, _), (59, _)] rfl ⟨rfl, rfl, trivial⟩ ?_
          refine rw_end ?_
          refine cw_condN rfl (fun hsame => ?_) (fun hsame => ?_)
          · exact absurd hkn.2 hsame
          · refine cw_skip ?_
            refine xw_join () (trivial) ⟨rfl, trivial⟩ (by first | exact fun _ h => h | exact fun _ h => h.msub (by repeat (first | exact .z | refine .s (by first | exact .a | exact .b | exact .c | exact .d | exact .e | exact .s .e | exact .s (.s .e) | exact .s (.s (.s .e))) ?_)))
        · refine cw_skip ?_
          refine xw_join () (trivial) ⟨rfl, trivial⟩ (by first | exact fun _ h => h | exact fun _ h => h.msub (by repeat (first | exact .z | refine .s (by first | exact .a | exact .b | exact .c | exact .d | exact .e | exact .s .e | exact .s (.s .e) | exact .s (.s (.s .e))) ?_)))
      · rintro _ _
        refine cw_seq ?_
        refine cw_region ?_
        refine rw_run tab_ok 1 [(0, _), (60, _)] rfl ⟨rfl, rfl, trivial⟩ ?_
        refine rw_op (ot_c0 rfl rfl rfl Try.call36 ((fun w hw => cbelow ((fun w hw => rcells_any _ l w (hw.ro hs) h8) w hw)))) rfl rfl (fun _ _ => ?_)
        refine rw_s (qs_sub rfl rfl rfl (by omega)) rfl rfl ?_
        refine rw_run tab_ok 1 [(0, _), (13, _)] rfl ⟨rfl, rfl, trivial⟩ ?_
        refine rw_end ?_
        refine cw_seq ?_
        refine cw_region ?_
        refine rw_run tab_ok 2 [(0, _), (13, _), (64, _), (65, _)] rfl ⟨rfl, rfl, rfl, rfl, trivial⟩ ?_
        refine rw_op (ot_cO rfl rfl rfl Try.call33 (fun w hw => newB_any _ l (40 - (cellsN l : Int)) w (hw.ro hs))) rfl rfl (fun ⟨A7, c7⟩ _ => ?_)
        dsimp only
        refine rw_run tab_ok 7 [(0, _), (13, _), (16, _)] rfl ⟨rfl, rfl, rfl, trivial⟩ ?_
        refine rw_end ?_
        refine cw_seq ?_
        refine cw_region ?_
        refine rw_run tab_ok 2 [(0, _), (16, _), (71, _), (72, _)] rfl ⟨rfl, rfl, rfl, rfl, trivial⟩ ?_
        refine rw_s (qs_add rfl rfl rfl (by omega)) rfl rfl ?_
        refine rw_op (ot_cO rfl rfl rfl Try.call33 (fun w hw => newB_any _ l (40 - (cellsN l : Int) + 1) w (hw.ro hs))) rfl rfl (fun ⟨A8, c8⟩ _ => ?_)
        dsimp only
        refine rw_run tab_ok 7 [(0, _), (16, _), (19, _)] rfl ⟨rfl, rfl, rfl, trivial⟩ ?_
        refine rw_end ?_
        refine cw_seq ?_
        refine cw_region ?_
        refine rw_run tab_ok 3 [(0, _), (16, _), (80, _)] rfl ⟨rfl, rfl, rfl, trivial⟩ ?_
        refine rw_as (t := 80) (v' := .bool true) rfl (by simp [hl7]) ?_
        refine rw_run tab_ok 3 [(80, _), (82, _), (83, _)] rfl ⟨rfl, rfl, rfl, trivial⟩ ?_
        refine rw_s (qs_len Try.underlying39 rfl rfl) rfl rfl ?_
        refine rw_run tab_ok 1 [(80, _), (82, _), (85, _)] rfl ⟨rfl, rfl, rfl, trivial⟩ ?_
        refine rw_s (qs_eqB Try.underlying4 rfl rfl rfl) rfl rfl ?_
        refine rw_run tab_ok 2 [(4, _)] rfl ⟨rfl, trivial⟩ ?_
        refine rw_end ?_
        refine cw_ret ?_
        refine xw_ret1 Try.results6 (rv_tmp rfl) ?_
        intro w hw
        refine ⟨ret_bool ?_, hw.below⟩
        rw [beq_iff_eq, decide_eq_decide, hl0]
        omega
theorem blockRoom_law (v : Value) (l : List (List Int)) (size : Int) (w : World) (hs : Sl w v l) (iz : I64 size) : Calls Try.prog 6 #[v, .int .i64 size] w fun e w' => e = .returned (.bool true) ∧ Below w.heap.size w w' := by
  obtain ⟨A, c, rfl, _⟩ := hs.form
  exact blockRoom_any A c l size w hs iz
end Go.Proofs.Ytjojipeodionmaa
