/- BlockTells is true, whatever it is handed. -/
import Derived.Test.YtjojipeodionmaaBk2
import Derived.Test.YtjojipeodionmaaLbl1
namespace Go.Proofs.Ytjojipeodionmaa
open Go.RowKit

def sizeE (l : List (List Int)) (size : Int) : Int := if checkB l = 0 ∧ size < 0 then 3 else checkB l
theorem sizeE_zero {l : List (List Int)} {size : Int} (h : sizeE l size = 0) : checkB l = 0 ∧ ¬ size < 0 := by
  unfold sizeE at h
  split at h
  · cases h
  · rename_i hn; exact ⟨h, fun hs => hn ⟨h, hs⟩⟩
theorem sizeE_not {l : List (List Int)} {size : Int} (h : ¬ sizeE l size = 0) : sizeE l size = newE l size := by
  unfold sizeE newE moreE at *
  by_cases h1 : checkB l = 0 <;> by_cases h2 : size < 0 <;> simp_all
theorem newE_of {l : List (List Int)} {size : Int} (h : sizeE l size = 0) : newE l size = if l.length = 8 ∨ 40 - (cellsN l : Int) < size then 7 else 0 := by
  obtain ⟨h1, h2⟩ := sizeE_zero h
  unfold newE moreE
  rw [if_pos h1, if_neg h2]
/-- What Keep answers, once k refs are looked at. -/
def keepTo (l : List (List Int)) (refs : List Int) (k : Nat) : Int := if checkB l = 0 then (if (refs.take k).any (outP l.length) then 3 else 0) else checkB l
theorem any_snoc {refs : List Int} {k : Nat} (p : Int → Bool) (hk : k < refs.length) : (refs.take (k + 1)).any p = ((refs.take k).any p || p (refs.getD k 0)) := by
  rw [take_snoc refs k 0 hk, List.any_append]
  simp
theorem keepTo_all (l : List (List Int)) (refs : List Int) : keepTo l refs refs.length = keepE l refs := by
  unfold keepTo keepE
  rw [List.take_length]
  rfl
theorem keepTo_bad {l : List (List Int)} {refs : List Int} {k : Nat} (h : ¬ keepTo l refs k = 0) : keepTo l refs k = keepE l refs := by
  unfold keepTo keepE at *
  by_cases hc : checkB l = 0
  · rw [if_pos hc] at h ⊢
    rw [if_pos hc]
    by_cases ha : (refs.take k).any (outP l.length) = true
    · rw [if_pos ha, if_pos]
      obtain ⟨x, hx, hp⟩ := List.any_eq_true.1 ha
      exact List.any_eq_true.2 ⟨x, List.mem_of_mem_take hx, hp⟩
    · rw [if_neg ha] at h; exact absurd rfl h
  · rw [if_neg hc, if_neg hc]
theorem moreE_zero {l : List (List Int)} {size : Int} (h : moreE l size = 0) : 0 ≤ size ∧ size ≤ 40 - cellsN l := by
  unfold moreE at h
  split at h
  · cases h
  · split at h
    · cases h
    · rename_i h1 h2; omega
theorem newL_if (l : List (List Int)) (size : Int) : newL l size = if newE l size = 0 then newL l size else [] := by unfold newL; split <;> rfl
theorem setL_if (l : List (List Int)) (ref at_ n : Int) : setL l ref at_ n = if setE l ref at_ n = 0 then setL l ref at_ n else [] := by unfold setL; split <;> rfl
theorem keepL_if (l : List (List Int)) (refs : List Int) : keepL l refs = if keepE l refs = 0 then keepL l refs else [] := by unfold keepL; split <;> rfl
theorem outP_lt {L : Nat} {r : Int} (h : r < 0) : outP L r = true := by simp [outP, h]
theorem outP_gt {L : Nat} {r : Int} (h : (L : Int) < r) : outP L r = true := by simp [outP, h]
theorem outP_no {L : Nat} {r : Int} (h : ¬ r < 0) (h' : ¬ (L : Int) < r) : ¬ outP L r = true := by simp [outP]; omega
theorem setL_get {l : List (List Int)} {ref at_ n : Int} (h : setE l ref at_ n = 0) : checkB l = 0 ∧ placeE l ref at_ = 0 ∧ isInt n = true ∧ setL l ref at_ n = put l ref at_ n := by
  unfold setL
  rw [if_pos h]
  unfold setE putE at h
  split at h
  · rename_i h1
    split at h
    · rename_i h2
      split at h
      · rename_i h3; exact ⟨h1, h2, h3, rfl⟩
      · cases h
    · rename_i h2; exact absurd h h2
  · rename_i h1; exact absurd h h1

theorem blocksTrue {P : Program} {f : FuncId} {args : Array Value} {w : World} {l want : List (List Int)} {e x : Int} (h : Calls P f args w fun e' w' => e' = .returned (.bool (decide (e = x) && decide (l = if x = 0 then want else []))) ∧ Below w.heap.size w w') (h1 : e = x) (h2 : l = if x = 0 then want else []) :
    Calls P f args w fun e' w' => e' = .returned (.bool true) ∧ Below w.heap.size w w' := h.mono fun _ _ ⟨h3, h4⟩ => ⟨by rw [h3, decide_eq_true h1, decide_eq_true h2]; rfl, h4⟩
set_option maxRecDepth 100000 in
set_option maxHeartbeats 2000000 in
theorem blockTells_any (A Ar : Option Addr) (c cr : Nat) (l : List (List Int)) (size ref at_ n : Int) (refs : List Int) (w : World) (hs : Sl w (.slice A l.length c) l) (hrs : Sl w (.slice Ar refs.length cr) refs)
    (iz : I64 size) (ir : I64 ref) (ia : I64 at_) (i_n : I64 n) (hby : refs.length * 8 ≤ 140737488355328) :
    Calls Try.prog 7 #[.slice A l.length c, .int .i64 size, .int .i64 ref, .int .i64 at_, .int .i64 n, .slice Ar refs.length cr] w fun e w' => e = .returned (.bool true) ∧ Below w.heap.size w w' := by
  have b1 := len_bd hs
  have b3 := len_bd hrs
  obtain ⟨iz1, iz2⟩ := iz
  obtain ⟨ir1, ir2⟩ := ir
  obtain ⟨ia1, ia2⟩ := ia
  refine enter Try.func7 rfl Try.ntmps7 rfl ?_
  refine cw_seq ?_
  refine cw_region ?_
  refine rw_run tab_ok 1 [(0, _), (1, _), (2, _), (3, _), (4, _), (5, _)] rfl ⟨rfl, rfl, rfl, rfl, rfl, rfl, trivial⟩ ?_
  refine rw_end ?_
  refine cw_seq ?_
  refine cw_region ?_
  refine rw_run tab_ok 2 [(0, _), (1, _), (2, _), (3, _), (4, _), (5, _), (36, _), (37, _)] rfl ⟨rfl, rfl, rfl, rfl, rfl, rfl, rfl, rfl, trivial⟩ ?_
  refine rw_op (ot_cO rfl rfl rfl Try.call33 (fun w hw => newB_any _ l size w (hw.ro hs))) rfl rfl (fun ⟨Aa, ca⟩ _ => ?_)
  dsimp only
  refine rw_run tab_ok 7 [(0, _), (1, _), (2, _), (3, _), (4, _), (5, _), (13, _), (14, _), (15, _)] rfl ⟨rfl, rfl, rfl, rfl, rfl, rfl, rfl, rfl, rfl, trivial⟩ ?_
  refine rw_end ?_
  refine cw_seq ?_
  refine cw_region ?_
  refine rw_run tab_ok 3 [(0, _), (1, _), (2, _), (3, _), (4, _), (5, _), (13, _), (14, _), (15, _), (43, _), (44, _), (45, _)] rfl ⟨rfl, rfl, rfl, rfl, rfl, rfl, rfl, rfl, rfl, rfl, rfl, rfl, trivial⟩ ?_
  refine rw_op (ot_c0 rfl rfl rfl Try.call37 (fun w hw => get_any _ l ref at_ w (hw.ro hs) ⟨ir1, ir2⟩ ⟨ia1, ia2⟩)) rfl rfl (fun _ _ => ?_)
  refine rw_run tab_ok 5 [(0, _), (1, _), (2, _), (3, _), (4, _), (5, _), (13, _), (14, _), (15, _), (16, _), (17, _)] rfl ⟨rfl, rfl, rfl, rfl, rfl, rfl, rfl, rfl, rfl, rfl, rfl, trivial⟩ ?_
  refine rw_end ?_
  refine cw_seq ?_
  refine cw_region ?_
  refine rw_run tab_ok 4 [(0, _), (1, _), (2, _), (3, _), (4, _), (5, _), (13, _), (14, _), (15, _), (16, _), (17, _), (50, _), (51, _), (52, _), (53, _)] rfl ⟨rfl, rfl, rfl, rfl, rfl, rfl, rfl, rfl, rfl, rfl, rfl, rfl, rfl, rfl, rfl, trivial⟩ ?_
  refine rw_op (ot_cO rfl rfl rfl Try.call38 (fun w hw => setB_any _ l ref at_ n w (hw.ro hs) ⟨ir1, ir2⟩ ⟨ia1, ia2⟩ i_n)) rfl rfl (fun ⟨Ab, cb⟩ _ => ?_)
  dsimp only
  refine rw_run tab_ok 5 [(0, _), (1, _), (2, _), (3, _), (4, _), (5, _), (13, _), (14, _), (15, _), (16, _), (17, _), (18, _), (19, _)] rfl ⟨rfl, rfl, rfl, rfl, rfl, rfl, rfl, rfl, rfl, rfl, rfl, rfl, rfl, trivial⟩ ?_
  refine rw_end ?_
  refine cw_seq ?_
  refine cw_region ?_
  refine rw_run tab_ok 2 [(0, _), (1, _), (2, _), (3, _), (4, _), (5, _), (13, _), (14, _), (15, _), (16, _), (17, _), (18, _), (19, _), (58, _), (59, _)] rfl ⟨rfl, rfl, rfl, rfl, rfl, rfl, rfl, rfl, rfl, rfl, rfl, rfl, rfl, rfl, rfl, trivial⟩ ?_
  refine rw_op (ot_c rfl rfl rfl Try.call34 (fun w hw => keepB2 A Ar c cr l refs w (hw.ro hs) (hw.ro hrs) hby)) rfl rfl (fun ⟨⟨Ak, ck⟩, At, ct⟩ _ => ?_)
  dsimp only
  refine rw_run tab_ok 7 [(0, _), (1, _), (2, _), (3, _), (4, _), (5, _), (13, _), (14, _), (15, _), (16, _), (17, _), (18, _), (19, _), (20, _), (21, _), (22, _)] rfl ⟨rfl, rfl, rfl, rfl, rfl, rfl, rfl, rfl, rfl, rfl, rfl, rfl, rfl, rfl, rfl, rfl, trivial⟩ ?_
  refine rw_end ?_
  refine cw_seq ?_
  refine cw_region ?_
  refine rw_run tab_ok 1 [(0, _), (1, _), (2, _), (3, _), (4, _), (5, _), (13, _), (14, _), (15, _), (16, _), (17, _), (18, _), (19, _), (20, _), (21, _), (22, _), (64, _)] rfl ⟨rfl, rfl, rfl, rfl, rfl, rfl, rfl, rfl, rfl, rfl, rfl, rfl, rfl, rfl, rfl, rfl, rfl, trivial⟩ ?_
  refine rw_op (ot_c0 rfl rfl rfl Try.call39 ((fun w hw => cbelow ((fun w hw => rcheckBlocks_any _ l w (hw.ro hs)) w hw)))) rfl rfl (fun _ _ => ?_)
  refine rw_run tab_ok 1 [(0, _), (1, _), (2, _), (3, _), (4, _), (5, _), (13, _), (14, _), (15, _), (16, _), (17, _), (18, _), (19, _), (20, _), (21, _), (22, _), (23, _)] rfl ⟨rfl, rfl, rfl, rfl, rfl, rfl, rfl, rfl, rfl, rfl, rfl, rfl, rfl, rfl, rfl, rfl, rfl, trivial⟩ ?_
  refine rw_end ?_
  refine cw_seq ?_
  refine cw_region ?_
  refine rw_run tab_ok 8 [(0, _), (1, _), (2, _), (3, _), (4, _), (5, _), (13, _), (14, _), (15, _), (16, _), (17, _), (18, _), (19, _), (20, _), (21, _), (22, _), (23, _), (24, _), (25, _), (26, _), (27, _)] rfl ⟨rfl, rfl, rfl, rfl, rfl, rfl, rfl, rfl, rfl, rfl, rfl, rfl, rfl, rfl, rfl, rfl, rfl, rfl, rfl, rfl, rfl, trivial⟩ ?_
  refine rw_end ?_
  refine cw_cut (fun _ : Unit => True) (fun _ => [(0, .slice A l.length c), (1, .int .i64 size), (2, .int .i64 ref), (3, .int .i64 at_), (4, .int .i64 n), (5, .slice Ar refs.length cr), (13, .slice Aa (newL l size).length ca), (14, .int .i64 (newR l size)), (15, .int .i64 (newE l size)), (16, .int .i64 (getN l ref at_)), (17, .int .i64 (getE l ref at_)), (18, .slice Ab (setL l ref at_ n).length cb), (19, .int .i64 (setE l ref at_ n)), (20, .slice Ak (keepL l refs).length ck), (21, .slice At (keepR l refs).length ct), (22, .int .i64 (keepE l refs)), (23, .int .i64 (checkB l)), (24, .int .i64 (sizeE l size)), (25, .int .i64 (checkB l)), (26, .int .i64 (checkB l)), (27, .int .i64 (checkB l))]) (fun _ => [ROw (.slice At (keepR l refs).length ct) (keepR l refs), ROw (.slice Ak (keepL l refs).length ck) (keepL l refs), ROw (.slice Ab (setL l ref at_ n).length cb) (setL l ref at_ n), ROw (.slice Aa (newL l size).length ca) (newL l size)]) ?_ ?_
  · refine cw_seq ?_
    refine cw_region ?_
    refine rw_run tab_ok 3 [(0, _), (1, _), (2, _), (3, _), (4, _), (5, _), (13, _), (14, _), (15, _), (16, _), (17, _), (18, _), (19, _), (20, _), (21, _), (22, _), (23, _), (24, _), (25, _), (26, _), (27, _), (72, _)] rfl ⟨rfl, rfl, rfl, rfl, rfl, rfl, rfl, rfl, rfl, rfl, rfl, rfl, rfl, rfl, rfl, rfl, rfl, rfl, rfl, rfl, rfl, rfl, trivial⟩ ?_
    refine rw_split (t := 72) rfl (fun hz => ?_) (fun hz => ?_)
    · have hz := of_decide_eq_true hz
      refine rw_run tab_ok 3 [(0, _), (1, _), (2, _), (3, _), (4, _), (5, _), (13, _), (14, _), (15, _), (16, _), (17, _), (18, _), (19, _), (20, _), (21, _), (22, _), (23, _), (24, _), (25, _), (26, _), (27, _), (75, _)] rfl ⟨rfl, rfl, rfl, rfl, rfl, rfl, rfl, rfl, rfl, rfl, rfl, rfl, rfl, rfl, rfl, rfl, rfl, rfl, rfl, rfl, rfl, rfl, trivial⟩ ?_
      refine rw_end ?_
      refine cw_condD rfl (fun hs0 => ?_) (fun hs0 => ?_)
      · have e : (3 : Int) = sizeE l size := by unfold sizeE; rw [if_pos ⟨hz, hs0⟩]
        refine cw_region ?_
        refine rw_run tab_ok 1 [(0, _), (1, _), (2, _), (3, _), (4, _), (5, _), (13, _), (14, _), (15, _), (16, _), (17, _), (18, _), (19, _), (20, _), (21, _), (22, _), (23, _), (24, _), (25, _), (26, _), (27, _)] rfl ⟨rfl, rfl, rfl, rfl, rfl, rfl, rfl, rfl, rfl, rfl, rfl, rfl, rfl, rfl, rfl, rfl, rfl, rfl, rfl, rfl, rfl, trivial⟩ ?_
        rw [e]
        refine rw_join () (trivial) ⟨rfl, rfl, rfl, rfl, rfl, rfl, rfl, rfl, rfl, rfl, rfl, rfl, rfl, rfl, rfl, rfl, rfl, rfl, rfl, rfl, rfl, trivial⟩ (by first | exact fun _ h => h | exact fun _ h => h.msub (by repeat (first | exact .z | refine .s (by first | exact .a | exact .b | exact .c | exact .d | exact .e | exact .s .e | exact .s (.s .e) | exact .s (.s (.s .e))) ?_)))
      · have e : sizeE l size = checkB l := by unfold sizeE; rw [if_neg fun h => hs0 h.2]
        refine cw_skip ?_
        rw [e]
        refine xw_join () (trivial) ⟨rfl, rfl, rfl, rfl, rfl, rfl, rfl, rfl, rfl, rfl, rfl, rfl, rfl, rfl, rfl, rfl, rfl, rfl, rfl, rfl, rfl, trivial⟩ (by first | exact fun _ h => h | exact fun _ h => h.msub (by repeat (first | exact .z | refine .s (by first | exact .a | exact .b | exact .c | exact .d | exact .e | exact .s .e | exact .s (.s .e) | exact .s (.s (.s .e))) ?_)))
    · have hz := of_decide_eq_false hz
      have e : sizeE l size = checkB l := by unfold sizeE; rw [if_neg fun h => hz h.1]
      refine rw_run tab_ok 3 [(0, _), (1, _), (2, _), (3, _), (4, _), (5, _), (13, _), (14, _), (15, _), (16, _), (17, _), (18, _), (19, _), (20, _), (21, _), (22, _), (23, _), (24, _), (25, _), (26, _), (27, _), (75, _)] rfl ⟨rfl, rfl, rfl, rfl, rfl, rfl, rfl, rfl, rfl, rfl, rfl, rfl, rfl, rfl, rfl, rfl, rfl, rfl, rfl, rfl, rfl, rfl, trivial⟩ ?_
      refine rw_end ?_
      refine cw_cond_f rfl ?_
      refine cw_skip ?_
      rw [e]
      refine xw_join () (trivial) ⟨rfl, rfl, rfl, rfl, rfl, rfl, rfl, rfl, rfl, rfl, rfl, rfl, rfl, rfl, rfl, rfl, rfl, rfl, rfl, rfl, rfl, trivial⟩ (by first | exact fun _ h => h | exact fun _ h => h.msub (by repeat (first | exact .z | refine .s (by first | exact .a | exact .b | exact .c | exact .d | exact .e | exact .s .e | exact .s (.s .e) | exact .s (.s (.s .e))) ?_)))
  · rintro _ _
    refine cw_cut (fun _ : Unit => True) (fun _ => [(0, .slice A l.length c), (1, .int .i64 size), (2, .int .i64 ref), (3, .int .i64 at_), (4, .int .i64 n), (5, .slice Ar refs.length cr), (13, .slice Aa (newL l size).length ca), (14, .int .i64 (newR l size)), (15, .int .i64 (newE l size)), (16, .int .i64 (getN l ref at_)), (17, .int .i64 (getE l ref at_)), (18, .slice Ab (setL l ref at_ n).length cb), (19, .int .i64 (setE l ref at_ n)), (20, .slice Ak (keepL l refs).length ck), (21, .slice At (keepR l refs).length ct), (22, .int .i64 (keepE l refs)), (23, .int .i64 (checkB l)), (24, .int .i64 (newE l size)), (25, .int .i64 (checkB l)), (26, .int .i64 (checkB l)), (27, .int .i64 (checkB l))]) (fun _ => [ROw (.slice At (keepR l refs).length ct) (keepR l refs), ROw (.slice Ak (keepL l refs).length ck) (keepL l refs), ROw (.slice Ab (setL l ref at_ n).length cb) (setL l ref at_ n), ROw (.slice Aa (newL l size).length ca) (newL l size)]) ?_ ?_
    · refine cw_seq ?_
      refine cw_region ?_
      refine rw_run tab_ok 3 [(0, _), (1, _), (2, _), (3, _), (4, _), (5, _), (13, _), (14, _), (15, _), (16, _), (17, _), (18, _), (19, _), (20, _), (21, _), (22, _), (23, _), (24, _), (25, _), (26, _), (27, _), (78, _)] rfl ⟨rfl, rfl, rfl, rfl, rfl, rfl, rfl, rfl, rfl, rfl, rfl, rfl, rfl, rfl, rfl, rfl, rfl, rfl, rfl, rfl, rfl, rfl, trivial⟩ ?_
      refine rw_split (t := 78) rfl (fun hz => ?_) (fun hz => ?_)
      · have hz := of_decide_eq_true hz
        have hN := newE_of hz
        obtain ⟨hc0, _⟩ := sizeE_zero hz
        have hle := checkB_le hc0
        refine rw_run tab_ok 1 [(0, _), (1, _), (2, _), (3, _), (4, _), (5, _), (13, _), (14, _), (15, _), (16, _), (17, _), (18, _), (19, _), (20, _), (21, _), (22, _), (23, _), (24, _), (25, _), (26, _), (27, _), (78, _), (79, _)] rfl ⟨rfl, rfl, rfl, rfl, rfl, rfl, rfl, rfl, rfl, rfl, rfl, rfl, rfl, rfl, rfl, rfl, rfl, rfl, rfl, rfl, rfl, rfl, rfl, trivial⟩ ?_
        refine rw_s (qs_len Try.underlying39 rfl rfl) rfl rfl ?_
        refine rw_run tab_ok 2 [(0, _), (1, _), (2, _), (3, _), (4, _), (5, _), (13, _), (14, _), (15, _), (16, _), (17, _), (18, _), (19, _), (20, _), (21, _), (22, _), (23, _), (24, _), (25, _), (26, _), (27, _), (78, _), (82, _)] rfl ⟨rfl, rfl, rfl, rfl, rfl, rfl, rfl, rfl, rfl, rfl, rfl, rfl, rfl, rfl, rfl, rfl, rfl, rfl, rfl, rfl, rfl, rfl, rfl, trivial⟩ ?_
        refine rw_split (t := 82) rfl (fun h8 => ?_) (fun h8 => ?_)
        · have h8 := of_decide_eq_true h8
          have e : (7 : Int) = newE l size := by rw [hN, if_pos (.inl (by omega))]
          refine rw_run tab_ok 7 [(0, _), (1, _), (2, _), (3, _), (4, _), (5, _), (13, _), (14, _), (15, _), (16, _), (17, _), (18, _), (19, _), (20, _), (21, _), (22, _), (23, _), (24, _), (25, _), (26, _), (27, _), (89, _)] rfl ⟨rfl, rfl, rfl, rfl, rfl, rfl, rfl, rfl, rfl, rfl, rfl, rfl, rfl, rfl, rfl, rfl, rfl, rfl, rfl, rfl, rfl, rfl, trivial⟩ ?_
          refine rw_end ?_
          refine cw_cond_t rfl ?_
          refine cw_region ?_
          refine rw_run tab_ok 1 [(0, _), (1, _), (2, _), (3, _), (4, _), (5, _), (13, _), (14, _), (15, _), (16, _), (17, _), (18, _), (19, _), (20, _), (21, _), (22, _), (23, _), (24, _), (25, _), (26, _), (27, _)] rfl ⟨rfl, rfl, rfl, rfl, rfl, rfl, rfl, rfl, rfl, rfl, rfl, rfl, rfl, rfl, rfl, rfl, rfl, rfl, rfl, rfl, rfl, trivial⟩ ?_
          rw [e]
          refine rw_join () (trivial) ⟨rfl, rfl, rfl, rfl, rfl, rfl, rfl, rfl, rfl, rfl, rfl, rfl, rfl, rfl, rfl, rfl, rfl, rfl, rfl, rfl, rfl, trivial⟩ (by first | exact fun _ h => h | exact fun _ h => h.msub (by repeat (first | exact .z | refine .s (by first | exact .a | exact .b | exact .c | exact .d | exact .e | exact .s .e | exact .s (.s .e) | exact .s (.s (.s .e))) ?_)))
        · have h8 := of_decide_eq_false h8
          refine rw_run tab_ok 2 [(0, _), (1, _), (2, _), (3, _), (4, _), (5, _), (13, _), (14, _), (15, _), (16, _), (17, _), (18, _), (19, _), (20, _), (21, _), (22, _), (23, _), (24, _), (25, _), (26, _), (27, _), (78, _), (82, _), (83, _), (84, _)] rfl ⟨rfl, rfl, rfl, rfl, rfl, rfl, rfl, rfl, rfl, rfl, rfl, rfl, rfl, rfl, rfl, rfl, rfl, rfl, rfl, rfl, rfl, rfl, rfl, rfl, rfl, trivial⟩ ?_
          refine rw_op (ot_c0 rfl rfl rfl Try.call36 ((fun w hw => cbelow ((fun w hw => rcells_any _ l w (hw.ro hs) hle.1) w hw)))) rfl rfl (fun _ _ => ?_)
          refine rw_s (qs_sub rfl rfl rfl (by omega)) rfl rfl ?_
          refine rw_run tab_ok 3 [(0, _), (1, _), (2, _), (3, _), (4, _), (5, _), (13, _), (14, _), (15, _), (16, _), (17, _), (18, _), (19, _), (20, _), (21, _), (22, _), (23, _), (24, _), (25, _), (26, _), (27, _), (89, _)] rfl ⟨rfl, rfl, rfl, rfl, rfl, rfl, rfl, rfl, rfl, rfl, rfl, rfl, rfl, rfl, rfl, rfl, rfl, rfl, rfl, rfl, rfl, rfl, trivial⟩ ?_
          refine rw_end ?_
          refine cw_condD rfl (fun hr => ?_) (fun hr => ?_)
          · have e : (7 : Int) = newE l size := by rw [hN, if_pos (.inr hr)]
            refine cw_region ?_
            refine rw_run tab_ok 1 [(0, _), (1, _), (2, _), (3, _), (4, _), (5, _), (13, _), (14, _), (15, _), (16, _), (17, _), (18, _), (19, _), (20, _), (21, _), (22, _), (23, _), (24, _), (25, _), (26, _), (27, _)] rfl ⟨rfl, rfl, rfl, rfl, rfl, rfl, rfl, rfl, rfl, rfl, rfl, rfl, rfl, rfl, rfl, rfl, rfl, rfl, rfl, rfl, rfl, trivial⟩ ?_
            rw [e]
            refine rw_join () (trivial) ⟨rfl, rfl, rfl, rfl, rfl, rfl, rfl, rfl, rfl, rfl, rfl, rfl, rfl, rfl, rfl, rfl, rfl, rfl, rfl, rfl, rfl, trivial⟩ (by first | exact fun _ h => h | exact fun _ h => h.msub (by repeat (first | exact .z | refine .s (by first | exact .a | exact .b | exact .c | exact .d | exact .e | exact .s .e | exact .s (.s .e) | exact .s (.s (.s .e))) ?_)))
          · have e : sizeE l size = newE l size := by rw [hN, if_neg (by omega), hz]
            refine cw_skip ?_
            rw [e]
            refine xw_join () (trivial) ⟨rfl, rfl, rfl, rfl, rfl, rfl, rfl, rfl, rfl, rfl, rfl, rfl, rfl, rfl, rfl, rfl, rfl, rfl, rfl, rfl, rfl, trivial⟩ (by first | exact fun _ h => h | exact fun _ h => h.msub (by repeat (first | exact .z | refine .s (by first | exact .a | exact .b | exact .c | exact .d | exact .e | exact .s .e | exact .s (.s .e) | exact .s (.s (.s .e))) ?_)))
      · have hz := of_decide_eq_false hz
        have e : sizeE l size = newE l size := sizeE_not hz
        refine rw_run tab_ok 11 [(0, _), (1, _), (2, _), (3, _), (4, _), (5, _), (13, _), (14, _), (15, _), (16, _), (17, _), (18, _), (19, _), (20, _), (21, _), (22, _), (23, _), (24, _), (25, _), (26, _), (27, _), (89, _)] rfl ⟨rfl, rfl, rfl, rfl, rfl, rfl, rfl, rfl, rfl, rfl, rfl, rfl, rfl, rfl, rfl, rfl, rfl, rfl, rfl, rfl, rfl, rfl, trivial⟩ ?_
        refine rw_end ?_
        refine cw_cond_f rfl ?_
        refine cw_skip ?_
        rw [e]
        refine xw_join () (trivial) ⟨rfl, rfl, rfl, rfl, rfl, rfl, rfl, rfl, rfl, rfl, rfl, rfl, rfl, rfl, rfl, rfl, rfl, rfl, rfl, rfl, rfl, trivial⟩ (by first | exact fun _ h => h | exact fun _ h => h.msub (by repeat (first | exact .z | refine .s (by first | exact .a | exact .b | exact .c | exact .d | exact .e | exact .s .e | exact .s (.s .e) | exact .s (.s (.s .e))) ?_)))
    · rintro _ _
      refine cw_cut (fun _ : Unit => True) (fun _ => [(0, .slice A l.length c), (1, .int .i64 size), (2, .int .i64 ref), (3, .int .i64 at_), (4, .int .i64 n), (5, .slice Ar refs.length cr), (13, .slice Aa (newL l size).length ca), (14, .int .i64 (newR l size)), (15, .int .i64 (newE l size)), (16, .int .i64 (getN l ref at_)), (17, .int .i64 (getE l ref at_)), (18, .slice Ab (setL l ref at_ n).length cb), (19, .int .i64 (setE l ref at_ n)), (20, .slice Ak (keepL l refs).length ck), (21, .slice At (keepR l refs).length ct), (22, .int .i64 (keepE l refs)), (23, .int .i64 (checkB l)), (24, .int .i64 (newE l size)), (25, .int .i64 (getE l ref at_)), (26, .int .i64 (getE l ref at_)), (27, .int .i64 (checkB l))]) (fun _ => [ROw (.slice At (keepR l refs).length ct) (keepR l refs), ROw (.slice Ak (keepL l refs).length ck) (keepL l refs), ROw (.slice Ab (setL l ref at_ n).length cb) (setL l ref at_ n), ROw (.slice Aa (newL l size).length ca) (newL l size)]) ?_ ?_
      · refine cw_seq ?_
        refine cw_region ?_
        refine rw_run tab_ok 2 [(0, _), (1, _), (2, _), (3, _), (4, _), (5, _), (13, _), (14, _), (15, _), (16, _), (17, _), (18, _), (19, _), (20, _), (21, _), (22, _), (23, _), (24, _), (25, _), (26, _), (27, _), (91, _)] rfl ⟨rfl, rfl, rfl, rfl, rfl, rfl, rfl, rfl, rfl, rfl, rfl, rfl, rfl, rfl, rfl, rfl, rfl, rfl, rfl, rfl, rfl, rfl, trivial⟩ ?_
        refine rw_end ?_
        refine cw_condD rfl (fun hz => ?_) (fun hz => ?_)
        · have e : placeE l ref at_ = getE l ref at_ := by unfold getE; rw [if_pos hz]
          refine cw_seq ?_
          refine cw_region ?_
          refine rw_run tab_ok 3 [(0, _), (1, _), (2, _), (3, _), (4, _), (5, _), (13, _), (14, _), (15, _), (16, _), (17, _), (18, _), (19, _), (20, _), (21, _), (22, _), (23, _), (24, _), (27, _), (92, _), (93, _), (94, _)] rfl ⟨rfl, rfl, rfl, rfl, rfl, rfl, rfl, rfl, rfl, rfl, rfl, rfl, rfl, rfl, rfl, rfl, rfl, rfl, rfl, rfl, rfl, rfl, trivial⟩ ?_
          refine rw_op (ot_c0 rfl rfl rfl Try.call40 ((fun w hw => cbelow ((fun w hw => rplace_any _ l ref at_ w (hw.ro hs) ⟨ir1, ir2⟩ ⟨ia1, ia2⟩) w hw)))) rfl rfl (fun _ _ => ?_)
          refine rw_run tab_ok 1 [(0, _), (1, _), (2, _), (3, _), (4, _), (5, _), (13, _), (14, _), (15, _), (16, _), (17, _), (18, _), (19, _), (20, _), (21, _), (22, _), (23, _), (24, _), (25, _), (27, _)] rfl ⟨rfl, rfl, rfl, rfl, rfl, rfl, rfl, rfl, rfl, rfl, rfl, rfl, rfl, rfl, rfl, rfl, rfl, rfl, rfl, rfl, trivial⟩ ?_
          refine rw_end ?_
          refine cw_region ?_
          refine rw_run tab_ok 2 [(0, _), (1, _), (2, _), (3, _), (4, _), (5, _), (13, _), (14, _), (15, _), (16, _), (17, _), (18, _), (19, _), (20, _), (21, _), (22, _), (23, _), (24, _), (25, _), (26, _), (27, _)] rfl ⟨rfl, rfl, rfl, rfl, rfl, rfl, rfl, rfl, rfl, rfl, rfl, rfl, rfl, rfl, rfl, rfl, rfl, rfl, rfl, rfl, rfl, trivial⟩ ?_
          rw [e]
          refine rw_join () (trivial) ⟨rfl, rfl, rfl, rfl, rfl, rfl, rfl, rfl, rfl, rfl, rfl, rfl, rfl, rfl, rfl, rfl, rfl, rfl, rfl, rfl, rfl, trivial⟩ (by first | exact fun _ h => h | exact fun _ h => h.msub (by repeat (first | exact .z | refine .s (by first | exact .a | exact .b | exact .c | exact .d | exact .e | exact .s .e | exact .s (.s .e) | exact .s (.s (.s .e))) ?_)))
        · have e : getE l ref at_ = checkB l := by unfold getE; rw [if_neg hz]
          refine cw_skip ?_
          rw [e]
          refine xw_join () (trivial) ⟨rfl, rfl, rfl, rfl, rfl, rfl, rfl, rfl, rfl, rfl, rfl, rfl, rfl, rfl, rfl, rfl, rfl, rfl, rfl, rfl, rfl, trivial⟩ (by first | exact fun _ h => h | exact fun _ h => h.msub (by repeat (first | exact .z | refine .s (by first | exact .a | exact .b | exact .c | exact .d | exact .e | exact .s .e | exact .s (.s .e) | exact .s (.s (.s .e))) ?_)))
      · rintro _ _
        refine cw_cut (fun _ : Unit => True) (fun _ => [(0, .slice A l.length c), (1, .int .i64 size), (2, .int .i64 ref), (3, .int .i64 at_), (4, .int .i64 n), (5, .slice Ar refs.length cr), (13, .slice Aa (newL l size).length ca), (14, .int .i64 (newR l size)), (15, .int .i64 (newE l size)), (16, .int .i64 (getN l ref at_)), (17, .int .i64 (getE l ref at_)), (18, .slice Ab (setL l ref at_ n).length cb), (19, .int .i64 (setE l ref at_ n)), (20, .slice Ak (keepL l refs).length ck), (21, .slice At (keepR l refs).length ct), (22, .int .i64 (keepE l refs)), (23, .int .i64 (checkB l)), (24, .int .i64 (newE l size)), (25, .int .i64 (getE l ref at_)), (26, .int .i64 (setE l ref at_ n)), (27, .int .i64 (checkB l))]) (fun _ => [ROw (.slice At (keepR l refs).length ct) (keepR l refs), ROw (.slice Ak (keepL l refs).length ck) (keepL l refs), ROw (.slice Ab (setL l ref at_ n).length cb) (setL l ref at_ n), ROw (.slice Aa (newL l size).length ca) (newL l size)]) ?_ ?_
        · refine cw_seq ?_
          refine cw_region ?_
          refine rw_run tab_ok 3 [(0, _), (1, _), (2, _), (3, _), (4, _), (5, _), (13, _), (14, _), (15, _), (16, _), (17, _), (18, _), (19, _), (20, _), (21, _), (22, _), (23, _), (24, _), (25, _), (26, _), (27, _), (99, _)] rfl ⟨rfl, rfl, rfl, rfl, rfl, rfl, rfl, rfl, rfl, rfl, rfl, rfl, rfl, rfl, rfl, rfl, rfl, rfl, rfl, rfl, rfl, rfl, trivial⟩ ?_
          refine rw_split (t := 99) rfl (fun hz => ?_) (fun hz => ?_)
          · have hz := of_decide_eq_true hz
            refine rw_run tab_ok 1 [(0, _), (1, _), (2, _), (3, _), (4, _), (5, _), (13, _), (14, _), (15, _), (16, _), (17, _), (18, _), (19, _), (20, _), (21, _), (22, _), (23, _), (24, _), (25, _), (26, _), (27, _), (99, _), (100, _)] rfl ⟨rfl, rfl, rfl, rfl, rfl, rfl, rfl, rfl, rfl, rfl, rfl, rfl, rfl, rfl, rfl, rfl, rfl, rfl, rfl, rfl, rfl, rfl, rfl, trivial⟩ ?_
            refine rw_op (ot_c0 rfl rfl rfl Try.call41 ((fun w hw => cbelow ((fun w hw => risInt_any n w) w hw)))) rfl rfl (fun _ _ => ?_)
            refine rw_run tab_ok 2 [(0, _), (1, _), (2, _), (3, _), (4, _), (5, _), (13, _), (14, _), (15, _), (16, _), (17, _), (18, _), (19, _), (20, _), (21, _), (22, _), (23, _), (24, _), (25, _), (26, _), (27, _), (103, _)] rfl ⟨rfl, rfl, rfl, rfl, rfl, rfl, rfl, rfl, rfl, rfl, rfl, rfl, rfl, rfl, rfl, rfl, rfl, rfl, rfl, rfl, rfl, rfl, trivial⟩ ?_
            refine rw_end ?_
            refine cw_cond rfl (fun hi => ?_) (fun hi => ?_)
            · have e : (3 : Int) = setE l ref at_ n := by
                unfold setE putE; unfold getE at hz
                split at hz
                · rename_i h1; rw [if_pos h1, if_pos hz, if_neg (by simpa using hi)]
                · rename_i h1; exact absurd hz h1
              refine cw_region ?_
              refine rw_run tab_ok 1 [(0, _), (1, _), (2, _), (3, _), (4, _), (5, _), (13, _), (14, _), (15, _), (16, _), (17, _), (18, _), (19, _), (20, _), (21, _), (22, _), (23, _), (24, _), (25, _), (26, _), (27, _)] rfl ⟨rfl, rfl, rfl, rfl, rfl, rfl, rfl, rfl, rfl, rfl, rfl, rfl, rfl, rfl, rfl, rfl, rfl, rfl, rfl, rfl, rfl, trivial⟩ ?_
              rw [e]
              refine rw_join () (trivial) ⟨rfl, rfl, rfl, rfl, rfl, rfl, rfl, rfl, rfl, rfl, rfl, rfl, rfl, rfl, rfl, rfl, rfl, rfl, rfl, rfl, rfl, trivial⟩ (by first | exact fun _ h => h | exact fun _ h => h.msub (by repeat (first | exact .z | refine .s (by first | exact .a | exact .b | exact .c | exact .d | exact .e | exact .s .e | exact .s (.s .e) | exact .s (.s (.s .e))) ?_)))
            · have e : getE l ref at_ = setE l ref at_ n := by
                rw [hz]
                unfold setE putE; unfold getE at hz
                split at hz
                · rename_i h1; rw [if_pos h1, if_pos hz, if_pos (by simpa using hi)]
                · rename_i h1; exact absurd hz h1
              refine cw_skip ?_
              rw [e]
              refine xw_join () (trivial) ⟨rfl, rfl, rfl, rfl, rfl, rfl, rfl, rfl, rfl, rfl, rfl, rfl, rfl, rfl, rfl, rfl, rfl, rfl, rfl, rfl, rfl, trivial⟩ (by first | exact fun _ h => h | exact fun _ h => h.msub (by repeat (first | exact .z | refine .s (by first | exact .a | exact .b | exact .c | exact .d | exact .e | exact .s .e | exact .s (.s .e) | exact .s (.s (.s .e))) ?_)))
          · have hz := of_decide_eq_false hz
            have e : getE l ref at_ = setE l ref at_ n := by
              unfold setE putE; unfold getE at *
              by_cases h1 : checkB l = 0
              · rw [if_pos h1] at hz ⊢; rw [if_pos h1, if_neg hz]
              · rw [if_neg h1, if_neg h1]
            refine rw_run tab_ok 4 [(0, _), (1, _), (2, _), (3, _), (4, _), (5, _), (13, _), (14, _), (15, _), (16, _), (17, _), (18, _), (19, _), (20, _), (21, _), (22, _), (23, _), (24, _), (25, _), (26, _), (27, _), (103, _)] rfl ⟨rfl, rfl, rfl, rfl, rfl, rfl, rfl, rfl, rfl, rfl, rfl, rfl, rfl, rfl, rfl, rfl, rfl, rfl, rfl, rfl, rfl, rfl, trivial⟩ ?_
            refine rw_end ?_
            refine cw_cond_f rfl ?_
            refine cw_skip ?_
            rw [e]
            refine xw_join () (trivial) ⟨rfl, rfl, rfl, rfl, rfl, rfl, rfl, rfl, rfl, rfl, rfl, rfl, rfl, rfl, rfl, rfl, rfl, rfl, rfl, rfl, rfl, trivial⟩ (by first | exact fun _ h => h | exact fun _ h => h.msub (by repeat (first | exact .z | refine .s (by first | exact .a | exact .b | exact .c | exact .d | exact .e | exact .s .e | exact .s (.s .e) | exact .s (.s (.s .e))) ?_)))
        · rintro _ _
          refine cw_cut (fun _ : Unit => True) (fun _ => [(0, .slice A l.length c), (1, .int .i64 size), (2, .int .i64 ref), (3, .int .i64 at_), (4, .int .i64 n), (5, .slice Ar refs.length cr), (13, .slice Aa (newL l size).length ca), (14, .int .i64 (newR l size)), (15, .int .i64 (newE l size)), (16, .int .i64 (getN l ref at_)), (17, .int .i64 (getE l ref at_)), (18, .slice Ab (setL l ref at_ n).length cb), (19, .int .i64 (setE l ref at_ n)), (20, .slice Ak (keepL l refs).length ck), (21, .slice At (keepR l refs).length ct), (22, .int .i64 (keepE l refs)), (23, .int .i64 (checkB l)), (24, .int .i64 (newE l size)), (25, .int .i64 (getE l ref at_)), (26, .int .i64 (setE l ref at_ n)), (27, .int .i64 (keepE l refs))]) (fun _ => [ROw (.slice At (keepR l refs).length ct) (keepR l refs), ROw (.slice Ak (keepL l refs).length ck) (keepL l refs), ROw (.slice Ab (setL l ref at_ n).length cb) (setL l ref at_ n), ROw (.slice Aa (newL l size).length ca) (newL l size)]) ?_ ?_
          · have e0 : checkB l = keepTo l refs 0 := by unfold keepTo; by_cases h : checkB l = 0 <;> simp [h]
            rw [show (27, Value.int .i64 (checkB l)) = (27, Value.int .i64 (keepTo l refs 0)) by rw [← e0]]
            refine cw_seq ?_
            refine cw_region ?_
            refine rw_run tab_ok 1 [(0, _), (1, _), (2, _), (3, _), (4, _), (5, _), (13, _), (14, _), (15, _), (16, _), (17, _), (18, _), (19, _), (20, _), (21, _), (22, _), (23, _), (24, _), (25, _), (26, _), (27, _), (28, _)] rfl ⟨rfl, rfl, rfl, rfl, rfl, rfl, rfl, rfl, rfl, rfl, rfl, rfl, rfl, rfl, rfl, rfl, rfl, rfl, rfl, rfl, rfl, rfl, trivial⟩ ?_
            refine rw_end ?_
            refine cw_block (cw_loop (fun k : Nat => k ≤ refs.length) (fun k => refs.length - k) (fun k => [(0, .slice A l.length c), (1, .int .i64 size), (2, .int .i64 ref), (3, .int .i64 at_), (4, .int .i64 n), (5, .slice Ar refs.length cr), (13, .slice Aa (newL l size).length ca), (14, .int .i64 (newR l size)), (15, .int .i64 (newE l size)), (16, .int .i64 (getN l ref at_)), (17, .int .i64 (getE l ref at_)), (18, .slice Ab (setL l ref at_ n).length cb), (19, .int .i64 (setE l ref at_ n)), (20, .slice Ak (keepL l refs).length ck), (21, .slice At (keepR l refs).length ct), (22, .int .i64 (keepE l refs)), (23, .int .i64 (checkB l)), (24, .int .i64 (newE l size)), (25, .int .i64 (getE l ref at_)), (26, .int .i64 (setE l ref at_ n)), (27, .int .i64 (keepTo l refs k)), (28, .int .i64 (k : Int))]) (fun _ => [ROw (.slice At (keepR l refs).length ct) (keepR l refs), ROw (.slice Ak (keepL l refs).length ck) (keepL l refs), ROw (.slice Ab (setL l ref at_ n).length cb) (setL l ref at_ n), ROw (.slice Aa (newL l size).length ca) (newL l size)]) 0 (Nat.zero_le _) ⟨rfl, rfl, rfl, rfl, rfl, rfl, rfl, rfl, rfl, rfl, rfl, rfl, rfl, rfl, rfl, rfl, rfl, rfl, rfl, rfl, rfl, rfl, trivial⟩ (by first | exact fun _ h => h | exact fun _ h => h.msub (by repeat (first | exact .z | refine .s (by first | exact .a | exact .b | exact .c | exact .d | exact .e | exact .s .e | exact .s (.s .e) | exact .s (.s (.s .e))) ?_))) ?_)
            rintro k hk'
            have hk : k ≤ refs.length := hk'
            refine cw_seq ?_
            refine cw_seq ?_
            refine cw_region ?_
            refine rw_run tab_ok 2 [(0, _), (1, _), (2, _), (3, _), (4, _), (5, _), (13, _), (14, _), (15, _), (16, _), (17, _), (18, _), (19, _), (20, _), (21, _), (22, _), (23, _), (24, _), (25, _), (26, _), (27, _), (28, _), (104, _), (105, _)] rfl ⟨rfl, rfl, rfl, rfl, rfl, rfl, rfl, rfl, rfl, rfl, rfl, rfl, rfl, rfl, rfl, rfl, rfl, rfl, rfl, rfl, rfl, rfl, rfl, rfl, trivial⟩ ?_
            refine rw_s (qs_len Try.underlying41 rfl rfl) rfl rfl ?_
            refine rw_run tab_ok 2 [(0, _), (1, _), (2, _), (3, _), (4, _), (5, _), (13, _), (14, _), (15, _), (16, _), (17, _), (18, _), (19, _), (20, _), (21, _), (22, _), (23, _), (24, _), (25, _), (26, _), (27, _), (28, _), (108, _)] rfl ⟨rfl, rfl, rfl, rfl, rfl, rfl, rfl, rfl, rfl, rfl, rfl, rfl, rfl, rfl, rfl, rfl, rfl, rfl, rfl, rfl, rfl, rfl, rfl, trivial⟩ ?_
            refine rw_split (t := 108) rfl (fun hlt => ?_) (fun hlt => ?_)
            · have hlt := of_decide_eq_true hlt
              have hkl : k < refs.length := by omega
              refine rw_run tab_ok 3 [(0, _), (1, _), (2, _), (3, _), (4, _), (5, _), (13, _), (14, _), (15, _), (16, _), (17, _), (18, _), (19, _), (20, _), (21, _), (22, _), (23, _), (24, _), (25, _), (26, _), (27, _), (28, _), (111, _)] rfl ⟨rfl, rfl, rfl, rfl, rfl, rfl, rfl, rfl, rfl, rfl, rfl, rfl, rfl, rfl, rfl, rfl, rfl, rfl, rfl, rfl, rfl, rfl, rfl, trivial⟩ ?_
              refine rw_end ?_
              refine cw_condD rfl (fun hy => ?_) (fun hy => ?_)
              · have hc0 : checkB l = 0 := by
                  unfold keepTo at hy
                  split at hy
                  · assumption
                  · rename_i h; exact absurd hy h
                have hany : (refs.take k).any (outP l.length) = false := by
                  unfold keepTo at hy
                  rw [if_pos hc0] at hy
                  split at hy
                  · cases hy
                  · rename_i h; simpa using h
                have hsn := any_snoc (outP l.length) hkl
                rw [hany, Bool.false_or] at hsn
                have hnext : keepTo l refs (k + 1) = if outP l.length (refs.getD k 0) then 3 else 0 := by
                  unfold keepTo
                  rw [if_pos hc0, hsn]
                refine cw_skip (xw_then ?_)
                refine cw_seq ?_
                refine cw_block ?_
                refine cw_seq ?_
                refine cw_region ?_
                refine rw_run tab_ok 2 [(0, _), (1, _), (2, _), (3, _), (4, _), (5, _), (13, _), (14, _), (15, _), (16, _), (17, _), (18, _), (19, _), (20, _), (21, _), (22, _), (23, _), (24, _), (25, _), (26, _), (27, _), (28, _), (114, _), (115, _)] rfl ⟨rfl, rfl, rfl, rfl, rfl, rfl, rfl, rfl, rfl, rfl, rfl, rfl, rfl, rfl, rfl, rfl, rfl, rfl, rfl, rfl, rfl, rfl, rfl, rfl, trivial⟩ ?_
                refine rw_s (qs_idx Try.underlying41 Try.sizeOf3 (.ro hrs) (by omega) rfl rfl rfl) rfl rfl ?_
                refine rw_s (qs_ld (SF.int (.ro hrs) (by omega)) rfl rfl Try.isAgg3) rfl rfl ?_
                refine rw_run tab_ok 2 [(0, _), (1, _), (2, _), (3, _), (4, _), (5, _), (13, _), (14, _), (15, _), (16, _), (17, _), (18, _), (19, _), (20, _), (21, _), (22, _), (23, _), (24, _), (25, _), (26, _), (27, _), (28, _), (119, _)] rfl ⟨rfl, rfl, rfl, rfl, rfl, rfl, rfl, rfl, rfl, rfl, rfl, rfl, rfl, rfl, rfl, rfl, rfl, rfl, rfl, rfl, rfl, rfl, rfl, trivial⟩ ?_
                refine rw_split (t := 119) rfl (fun hneg => ?_) (fun hneg => ?_)
                · have hneg := of_decide_eq_true hneg
                  have e : (3 : Int) = keepTo l refs (k + 1) := by rw [hnext, if_pos (outP_lt hneg)]
                  refine rw_run tab_ok 8 [(0, _), (1, _), (2, _), (3, _), (4, _), (5, _), (13, _), (14, _), (15, _), (16, _), (17, _), (18, _), (19, _), (20, _), (21, _), (22, _), (23, _), (24, _), (25, _), (26, _), (27, _), (28, _), (127, _)] rfl ⟨rfl, rfl, rfl, rfl, rfl, rfl, rfl, rfl, rfl, rfl, rfl, rfl, rfl, rfl, rfl, rfl, rfl, rfl, rfl, rfl, rfl, rfl, rfl, trivial⟩ ?_
                  refine rw_end ?_
                  refine cw_cond_t rfl ?_
                  refine cw_region ?_
                  refine rw_run tab_ok 1 [(0, _), (1, _), (2, _), (3, _), (4, _), (5, _), (13, _), (14, _), (15, _), (16, _), (17, _), (18, _), (19, _), (20, _), (21, _), (22, _), (23, _), (24, _), (25, _), (26, _), (27, _), (28, _)] rfl ⟨rfl, rfl, rfl, rfl, rfl, rfl, rfl, rfl, rfl, rfl, rfl, rfl, rfl, rfl, rfl, rfl, rfl, rfl, rfl, rfl, rfl, rfl, trivial⟩ ?_
                  refine rw_endx (xw_blkn (xw_then ?_))
                  refine cw_region ?_
                  refine rw_run tab_ok 1 [(0, _), (1, _), (2, _), (3, _), (4, _), (5, _), (13, _), (14, _), (15, _), (16, _), (17, _), (18, _), (19, _), (20, _), (21, _), (22, _), (23, _), (24, _), (25, _), (26, _), (27, _), (112, _)] rfl ⟨rfl, rfl, rfl, rfl, rfl, rfl, rfl, rfl, rfl, rfl, rfl, rfl, rfl, rfl, rfl, rfl, rfl, rfl, rfl, rfl, rfl, rfl, trivial⟩ ?_
                  refine rw_s (qs_add rfl rfl rfl (by omega)) rfl rfl ?_
                  refine rw_run tab_ok 1 [(0, _), (1, _), (2, _), (3, _), (4, _), (5, _), (13, _), (14, _), (15, _), (16, _), (17, _), (18, _), (19, _), (20, _), (21, _), (22, _), (23, _), (24, _), (25, _), (26, _), (27, _), (28, _)] rfl ⟨rfl, rfl, rfl, rfl, rfl, rfl, rfl, rfl, rfl, rfl, rfl, rfl, rfl, rfl, rfl, rfl, rfl, rfl, rfl, rfl, rfl, rfl, trivial⟩ ?_
                  rw [e]
                  refine rw_round (k + 1) (by show k + 1 ≤ _; omega) (by show _ - _ < _ - _; omega) ⟨rfl, rfl, rfl, rfl, rfl, rfl, rfl, rfl, rfl, rfl, rfl, rfl, rfl, rfl, rfl, rfl, rfl, rfl, rfl, rfl, rfl, rfl, trivial⟩ (by first | exact fun _ h => h | exact fun _ h => h.msub (by repeat (first | exact .z | refine .s (by first | exact .a | exact .b | exact .c | exact .d | exact .e | exact .s .e | exact .s (.s .e) | exact .s (.s (.s .e))) ?_)))
                · have hneg := of_decide_eq_false hneg
                  refine rw_run tab_ok 2 [(0, _), (1, _), (2, _), (3, _), (4, _), (5, _), (13, _), (14, _), (15, _), (16, _), (17, _), (18, _), (19, _), (20, _), (21, _), (22, _), (23, _), (24, _), (25, _), (26, _), (27, _), (28, _), (119, _), (120, _), (121, _)] rfl ⟨rfl, rfl, rfl, rfl, rfl, rfl, rfl, rfl, rfl, rfl, rfl, rfl, rfl, rfl, rfl, rfl, rfl, rfl, rfl, rfl, rfl, rfl, rfl, rfl, rfl, trivial⟩ ?_
                  refine rw_s (qs_idx Try.underlying41 Try.sizeOf3 (.ro hrs) (by omega) rfl rfl rfl) rfl rfl ?_
                  refine rw_s (qs_ld (SF.int (.ro hrs) (by omega)) rfl rfl Try.isAgg3) rfl rfl ?_
                  refine rw_run tab_ok 1 [(0, _), (1, _), (2, _), (3, _), (4, _), (5, _), (13, _), (14, _), (15, _), (16, _), (17, _), (18, _), (19, _), (20, _), (21, _), (22, _), (23, _), (24, _), (25, _), (26, _), (27, _), (28, _), (119, _), (123, _), (124, _)] rfl ⟨rfl, rfl, rfl, rfl, rfl, rfl, rfl, rfl, rfl, rfl, rfl, rfl, rfl, rfl, rfl, rfl, rfl, rfl, rfl, rfl, rfl, rfl, rfl, rfl, rfl, trivial⟩ ?_
                  refine rw_s (qs_len Try.underlying39 rfl rfl) rfl rfl ?_
                  refine rw_run tab_ok 2 [(0, _), (1, _), (2, _), (3, _), (4, _), (5, _), (13, _), (14, _), (15, _), (16, _), (17, _), (18, _), (19, _), (20, _), (21, _), (22, _), (23, _), (24, _), (25, _), (26, _), (27, _), (28, _), (127, _)] rfl ⟨rfl, rfl, rfl, rfl, rfl, rfl, rfl, rfl, rfl, rfl, rfl, rfl, rfl, rfl, rfl, rfl, rfl, rfl, rfl, rfl, rfl, rfl, rfl, trivial⟩ ?_
                  refine rw_end ?_
                  refine cw_condD rfl (fun hgt => ?_) (fun hgt => ?_)
                  · have e : (3 : Int) = keepTo l refs (k + 1) := by rw [hnext, if_pos (outP_gt hgt)]
                    refine cw_region ?_
                    refine rw_run tab_ok 1 [(0, _), (1, _), (2, _), (3, _), (4, _), (5, _), (13, _), (14, _), (15, _), (16, _), (17, _), (18, _), (19, _), (20, _), (21, _), (22, _), (23, _), (24, _), (25, _), (26, _), (27, _), (28, _)] rfl ⟨rfl, rfl, rfl, rfl, rfl, rfl, rfl, rfl, rfl, rfl, rfl, rfl, rfl, rfl, rfl, rfl, rfl, rfl, rfl, rfl, rfl, rfl, trivial⟩ ?_
                    refine rw_endx (xw_blkn (xw_then ?_))
                    refine cw_region ?_
                    refine rw_run tab_ok 1 [(0, _), (1, _), (2, _), (3, _), (4, _), (5, _), (13, _), (14, _), (15, _), (16, _), (17, _), (18, _), (19, _), (20, _), (21, _), (22, _), (23, _), (24, _), (25, _), (26, _), (27, _), (112, _)] rfl ⟨rfl, rfl, rfl, rfl, rfl, rfl, rfl, rfl, rfl, rfl, rfl, rfl, rfl, rfl, rfl, rfl, rfl, rfl, rfl, rfl, rfl, rfl, trivial⟩ ?_
                    refine rw_s (qs_add rfl rfl rfl (by omega)) rfl rfl ?_
                    refine rw_run tab_ok 1 [(0, _), (1, _), (2, _), (3, _), (4, _), (5, _), (13, _), (14, _), (15, _), (16, _), (17, _), (18, _), (19, _), (20, _), (21, _), (22, _), (23, _), (24, _), (25, _), (26, _), (27, _), (28, _)] rfl ⟨rfl, rfl, rfl, rfl, rfl, rfl, rfl, rfl, rfl, rfl, rfl, rfl, rfl, rfl, rfl, rfl, rfl, rfl, rfl, rfl, rfl, rfl, trivial⟩ ?_
                    rw [e]
                    refine rw_round (k + 1) (by show k + 1 ≤ _; omega) (by show _ - _ < _ - _; omega) ⟨rfl, rfl, rfl, rfl, rfl, rfl, rfl, rfl, rfl, rfl, rfl, rfl, rfl, rfl, rfl, rfl, rfl, rfl, rfl, rfl, rfl, rfl, trivial⟩ (by first | exact fun _ h => h | exact fun _ h => h.msub (by repeat (first | exact .z | refine .s (by first | exact .a | exact .b | exact .c | exact .d | exact .e | exact .s .e | exact .s (.s .e) | exact .s (.s (.s .e))) ?_)))
                  · have e : keepTo l refs k = keepTo l refs (k + 1) := by rw [hnext, if_neg (outP_no hneg hgt), hy]
                    refine cw_skip (xw_blkn (xw_then ?_))
                    refine cw_region ?_
                    refine rw_run tab_ok 1 [(0, _), (1, _), (2, _), (3, _), (4, _), (5, _), (13, _), (14, _), (15, _), (16, _), (17, _), (18, _), (19, _), (20, _), (21, _), (22, _), (23, _), (24, _), (25, _), (26, _), (27, _), (112, _)] rfl ⟨rfl, rfl, rfl, rfl, rfl, rfl, rfl, rfl, rfl, rfl, rfl, rfl, rfl, rfl, rfl, rfl, rfl, rfl, rfl, rfl, rfl, rfl, trivial⟩ ?_
                    refine rw_s (qs_add rfl rfl rfl (by omega)) rfl rfl ?_
                    refine rw_run tab_ok 1 [(0, _), (1, _), (2, _), (3, _), (4, _), (5, _), (13, _), (14, _), (15, _), (16, _), (17, _), (18, _), (19, _), (20, _), (21, _), (22, _), (23, _), (24, _), (25, _), (26, _), (27, _), (28, _)] rfl ⟨rfl, rfl, rfl, rfl, rfl, rfl, rfl, rfl, rfl, rfl, rfl, rfl, rfl, rfl, rfl, rfl, rfl, rfl, rfl, rfl, rfl, rfl, trivial⟩ ?_
                    rw [e]
                    refine rw_round (k + 1) (by show k + 1 ≤ _; omega) (by show _ - _ < _ - _; omega) ⟨rfl, rfl, rfl, rfl, rfl, rfl, rfl, rfl, rfl, rfl, rfl, rfl, rfl, rfl, rfl, rfl, rfl, rfl, rfl, rfl, rfl, rfl, trivial⟩ (by first | exact fun _ h => h | exact fun _ h => h.msub (by repeat (first | exact .z | refine .s (by first | exact .a | exact .b | exact .c | exact .d | exact .e | exact .s .e | exact .s (.s .e) | exact .s (.s (.s .e))) ?_)))
              · have e := keepTo_bad hy
                refine cw_exit (xw_thenx (xw_thenx (xw_blk ?_)))
                rw [e]
                refine xw_join () (trivial) ⟨rfl, rfl, rfl, rfl, rfl, rfl, rfl, rfl, rfl, rfl, rfl, rfl, rfl, rfl, rfl, rfl, rfl, rfl, rfl, rfl, rfl, trivial⟩ (by first | exact fun _ h => h | exact fun _ h => h.msub (by repeat (first | exact .z | refine .s (by first | exact .a | exact .b | exact .c | exact .d | exact .e | exact .s .e | exact .s (.s .e) | exact .s (.s (.s .e))) ?_)))
            · have hlt := of_decide_eq_false hlt
              obtain rfl : k = refs.length := by omega
              refine rw_run tab_ok 3 [(0, _), (1, _), (2, _), (3, _), (4, _), (5, _), (13, _), (14, _), (15, _), (16, _), (17, _), (18, _), (19, _), (20, _), (21, _), (22, _), (23, _), (24, _), (25, _), (26, _), (27, _), (28, _), (111, _)] rfl ⟨rfl, rfl, rfl, rfl, rfl, rfl, rfl, rfl, rfl, rfl, rfl, rfl, rfl, rfl, rfl, rfl, rfl, rfl, rfl, rfl, rfl, rfl, rfl, trivial⟩ ?_
              refine rw_end ?_
              refine cw_cond_f rfl ?_
              refine cw_exit (xw_thenx (xw_thenx (xw_blk ?_)))
              rw [keepTo_all]
              refine xw_join () (trivial) ⟨rfl, rfl, rfl, rfl, rfl, rfl, rfl, rfl, rfl, rfl, rfl, rfl, rfl, rfl, rfl, rfl, rfl, rfl, rfl, rfl, rfl, trivial⟩ (by first | exact fun _ h => h | exact fun _ h => h.msub (by repeat (first | exact .z | refine .s (by first | exact .a | exact .b | exact .c | exact .d | exact .e | exact .s .e | exact .s (.s .e) | exact .s (.s (.s .e))) ?_)))
          · rintro _ _
            refine cw_seq ?_
            refine cw_region ?_
            refine rw_run tab_ok 3 [(0, _), (1, _), (2, _), (3, _), (4, _), (5, _), (13, _), (14, _), (15, _), (16, _), (17, _), (18, _), (19, _), (20, _), (21, _), (22, _), (23, _), (24, _), (25, _), (26, _), (27, _), (29, _), (30, _), (31, _)] rfl ⟨rfl, rfl, rfl, rfl, rfl, rfl, rfl, rfl, rfl, rfl, rfl, rfl, rfl, rfl, rfl, rfl, rfl, rfl, rfl, rfl, rfl, rfl, rfl, rfl, trivial⟩ ?_
            refine rw_end ?_
            refine cw_seq ?_
            refine cw_region ?_
            refine rw_run tab_ok 1 [(0, _), (1, _), (2, _), (3, _), (4, _), (5, _), (13, _), (14, _), (15, _), (16, _), (17, _), (18, _), (19, _), (20, _), (21, _), (22, _), (23, _), (24, _), (25, _), (26, _), (27, _), (29, _), (30, _), (31, _), (32, _)] rfl ⟨rfl, rfl, rfl, rfl, rfl, rfl, rfl, rfl, rfl, rfl, rfl, rfl, rfl, rfl, rfl, rfl, rfl, rfl, rfl, rfl, rfl, rfl, rfl, rfl, rfl, trivial⟩ ?_
            refine rw_end ?_
            refine cw_seq ?_
            refine cw_region ?_
            refine rw_run tab_ok 2 [(0, _), (1, _), (2, _), (3, _), (4, _), (5, _), (13, _), (14, _), (15, _), (16, _), (17, _), (18, _), (19, _), (20, _), (21, _), (22, _), (23, _), (24, _), (25, _), (26, _), (27, _), (29, _), (30, _), (31, _), (32, _), (33, _), (34, _)] rfl ⟨rfl, rfl, rfl, rfl, rfl, rfl, rfl, rfl, rfl, rfl, rfl, rfl, rfl, rfl, rfl, rfl, rfl, rfl, rfl, rfl, rfl, rfl, rfl, rfl, rfl, rfl, rfl, trivial⟩ ?_
            refine rw_end ?_
            refine cw_cut (fun _ : Option Addr × Nat => True) (fun g => [(0, .slice A l.length c), (2, .int .i64 ref), (3, .int .i64 at_), (4, .int .i64 n), (5, .slice Ar refs.length cr), (13, .slice Aa (newL l size).length ca), (14, .int .i64 (newR l size)), (15, .int .i64 (newE l size)), (16, .int .i64 (getN l ref at_)), (17, .int .i64 (getE l ref at_)), (18, .slice Ab (setL l ref at_ n).length cb), (19, .int .i64 (setE l ref at_ n)), (20, .slice Ak (keepL l refs).length ck), (21, .slice At (keepR l refs).length ct), (22, .int .i64 (keepE l refs)), (23, .int .i64 (checkB l)), (24, .int .i64 (newE l size)), (25, .int .i64 (getE l ref at_)), (26, .int .i64 (setE l ref at_ n)), (27, .int .i64 (keepE l refs)), (29, .slice g.1 (newL l size).length g.2), (30, .slice none 0 0), (31, .slice none 0 0), (32, .slice none 0 0), (33, .int .i64 0), (34, .int .i64 (newR l size))]) (fun g => [ROw (.slice g.1 (newL l size).length g.2) (newL l size), ROw (.slice At (keepR l refs).length ct) (keepR l refs), ROw (.slice Ak (keepL l refs).length ck) (keepL l refs), ROw (.slice Ab (setL l ref at_ n).length cb) (setL l ref at_ n), ROw (.slice Aa (newL l size).length ca) (newL l size)]) ?_ ?_
            · refine cw_seq ?_
              refine cw_region ?_
              refine rw_run tab_ok 2 [(0, _), (1, _), (2, _), (3, _), (4, _), (5, _), (13, _), (14, _), (15, _), (16, _), (17, _), (18, _), (19, _), (20, _), (21, _), (22, _), (23, _), (24, _), (25, _), (26, _), (27, _), (29, _), (30, _), (31, _), (32, _), (33, _), (34, _), (129, _)] rfl ⟨rfl, rfl, rfl, rfl, rfl, rfl, rfl, rfl, rfl, rfl, rfl, rfl, rfl, rfl, rfl, rfl, rfl, rfl, rfl, rfl, rfl, rfl, rfl, rfl, rfl, rfl, rfl, rfl, trivial⟩ ?_
              refine rw_end ?_
              refine cw_condD rfl (fun hz => ?_) (fun hz => ?_)
              · have hc0 : checkB l = 0 ∧ moreE l size = 0 := by
                  unfold newE at hz
                  split at hz
                  · rename_i h; exact ⟨h, hz⟩
                  · rename_i h; exact absurd hz h
                have hle := checkB_le hc0.1
                have h0 := (moreE_zero hc0.2).1
                have hsz : size ≤ 40 := by have := (moreE_zero hc0.2).2; omega
                obtain ⟨sz, rfl⟩ := Int.eq_ofNat_of_zero_le h0
                have hnl : newL l (sz : Int) = l ++ [List.replicate sz 0] := by unfold newL; rw [if_pos hz, Int.toNat_natCast]
                have hnr : newR l (sz : Int) = (l.length : Int) + 1 := by unfold newR; rw [if_pos hz]
                refine cw_draw (.still 0 (.still 2 (.still 6 (.still 7 (.still 8 (.pick 1 (.pick 3 (.pick 4 (.pick 5 (.still 9 (.still 10 .done)) .stop) .stop) .stop) (.pick 3 (.pick 1 (.pick 4 (.pick 5 (.still 9 (.still 10 .done)) .stop) .stop) (.pick 4 (.pick 1 (.pick 5 (.still 9 (.still 10 .done)) .stop) .stop) .stop)) .stop))))))) [] rfl (by kernel_rfl) (by kernel_rfl) ?_
                refine ro_run tab_ok (by first | exact Has.rfl | exact Has.s Has.rfl | exact Has.m (by repeat (first | exact .z | refine .s (by first | exact .a | exact .b | exact .c | exact .d | exact .e | exact .s .e | exact .s (.s .e) | exact .s (.s (.s .e))) ?_))) 3 [(0, _), (2, _), (3, _), (4, _), (5, _), (13, _), (14, _), (15, _), (16, _), (17, _), (18, _), (19, _), (20, _), (21, _), (22, _), (23, _), (24, _), (25, _), (26, _), (27, _), (29, _), (30, _), (31, _), (32, _), (33, _), (34, _), (130, _), (132, _), (136, _)] rfl ⟨rfl, rfl, rfl, rfl, rfl, rfl, rfl, rfl, rfl, rfl, rfl, rfl, rfl, rfl, rfl, rfl, rfl, rfl, rfl, rfl, rfl, rfl, rfl, rfl, rfl, rfl, rfl, rfl, rfl, trivial⟩ ?_
                refine ro_s (qs_len Try.underlying39 rfl rfl) rfl rfl rfl (by first | exact Has.rfl | exact Has.s Has.rfl | exact Has.m (by repeat (first | exact .z | refine .s (by first | exact .a | exact .b | exact .c | exact .d | exact .e | exact .s .e | exact .s (.s .e) | exact .s (.s (.s .e))) ?_))) ?_
                refine ro_s (qs_add rfl rfl rfl (by omega)) rfl rfl rfl (by first | exact Has.rfl | exact Has.s Has.rfl | exact Has.m (by repeat (first | exact .z | refine .s (by first | exact .a | exact .b | exact .c | exact .d | exact .e | exact .s .e | exact .s (.s .e) | exact .s (.s (.s .e))) ?_))) ?_
                refine ro_op (ot_cO rfl rfl rfl Try.call42 (fun w hw => rcopy_any _ l w (hw.ro hs) (Fit.of_check hc0.1))) rfl rfl rfl (.inr fun _ => (by first | exact Has.rfl | exact Has.s Has.rfl | exact Has.m (by repeat (first | exact .z | refine .s (by first | exact .a | exact .b | exact .c | exact .d | exact .e | exact .s .e | exact .s (.s .e) | exact .s (.s (.s .e))) ?_)))) (fun ⟨Ac, cc⟩ _ => ?_) ?_
                · try dsimp only
                  refine ro_op (ot_make (α := Int) (m := sz) 0 Try.underlying41 Try.infoInt rfl (fun w => ⟨⟨rfl, by simp [I64]⟩, fun _ h => h⟩) rfl (by omega) rfl rfl rfl) rfl rfl rfl (.inr fun _ => (by first | exact Has.rfl | exact Has.s Has.rfl | exact Has.m (by repeat (first | exact .z | refine .s (by first | exact .a | exact .b | exact .c | exact .d | exact .e | exact .s .e | exact .s (.s .e) | exact .s (.s (.s .e))) ?_)))) (fun gm _ => ?_) ro_stop
                  refine ro_op (ot_bsl (cs := [_]) Try.underlying39 Try.sizeOf41 Try.zeroValue41 rfl rfl rfl rfl rfl) rfl rfl rfl (.inr fun _ => (by first | exact Has.rfl | exact Has.s Has.rfl | exact Has.m (by repeat (first | exact .z | refine .s (by first | exact .a | exact .b | exact .c | exact .d | exact .e | exact .s .e | exact .s (.s .e) | exact .s (.s (.s .e))) ?_)))) (fun g1 _ => ?_) ro_stop
                  refine ro_op (ot_app1 (α := List Int) (bytes := 24) (List.replicate sz 0) [ROw (.slice (some ⟨gm, 0, none⟩) sz sz) (List.replicate sz 0)] hnl Try.underlying39 (info_ex Try.infoInts) rfl (perm3 (by first | exact .a | exact .b | exact .c | exact .d | exact .e | exact .s .e | exact .s (.s .e) | exact .s (.s (.s .e))) (by first | exact .a | exact .b | exact .c | exact .d | exact .e | exact .s .e | exact .s (.s .e) | exact .s (.s (.s .e))) (by first | exact .a | exact .b | exact .c | exact .d | exact .e | exact .s .e | exact .s (.s .e) | exact .s (.s (.s .e)))) hel_sl (by omega) (by omega) rfl rfl rfl) rfl rfl rfl (.inr fun _ => (by first | exact Has.rfl | exact Has.s Has.rfl | exact Has.m (by repeat (first | exact .z | refine .s (by first | exact .a | exact .b | exact .c | exact .d | exact .e | exact .s .e | exact .s (.s .e) | exact .s (.s (.s .e))) ?_)))) (fun ⟨Am, cm⟩ _ => ?_) ro_stop
                  dsimp only
                  refine ro_run tab_ok (by first | exact Has.rfl | exact Has.s Has.rfl | exact Has.m (by repeat (first | exact .z | refine .s (by first | exact .a | exact .b | exact .c | exact .d | exact .e | exact .s .e | exact .s (.s .e) | exact .s (.s (.s .e))) ?_))) 2 [(0, _), (2, _), (3, _), (4, _), (5, _), (13, _), (14, _), (15, _), (16, _), (17, _), (18, _), (19, _), (20, _), (21, _), (22, _), (23, _), (24, _), (25, _), (26, _), (27, _), (29, _), (30, _), (31, _), (32, _), (33, _), (34, _)] rfl ⟨rfl, rfl, rfl, rfl, rfl, rfl, rfl, rfl, rfl, rfl, rfl, rfl, rfl, rfl, rfl, rfl, rfl, rfl, rfl, rfl, rfl, rfl, rfl, rfl, rfl, rfl, trivial⟩ ?_
                  try dsimp only
                  rw [← hnr]
                  refine ro_endx <| xw_join (Am, cm) (trivial) ⟨rfl, rfl, rfl, rfl, rfl, rfl, rfl, rfl, rfl, rfl, rfl, rfl, rfl, rfl, rfl, rfl, rfl, rfl, rfl, rfl, rfl, rfl, rfl, rfl, rfl, rfl, trivial⟩ (by first | exact fun _ h => h | exact fun _ h => h.msub (by repeat (first | exact .z | refine .s (by first | exact .a | exact .b | exact .c | exact .d | exact .e | exact .s .e | exact .s (.s .e) | exact .s (.s (.s .e))) ?_)))
                · refine ro_op (ot_make (α := Int) (m := sz) 0 Try.underlying41 Try.infoInt rfl (fun w => ⟨⟨rfl, by simp [I64]⟩, fun _ h => h⟩) rfl (by omega) rfl rfl rfl) rfl rfl rfl (.inr fun _ => (by first | exact Has.rfl | exact Has.s Has.rfl | exact Has.m (by repeat (first | exact .z | refine .s (by first | exact .a | exact .b | exact .c | exact .d | exact .e | exact .s .e | exact .s (.s .e) | exact .s (.s (.s .e))) ?_)))) (fun gm _ => ?_) ro_stop
                  refine ro_op (ot_cO rfl rfl rfl Try.call42 (fun w hw => rcopy_any _ l w (hw.ro hs) (Fit.of_check hc0.1))) rfl rfl rfl (.inr fun _ => (by first | exact Has.rfl | exact Has.s Has.rfl | exact Has.m (by repeat (first | exact .z | refine .s (by first | exact .a | exact .b | exact .c | exact .d | exact .e | exact .s .e | exact .s (.s .e) | exact .s (.s (.s .e))) ?_)))) (fun ⟨Ac, cc⟩ _ => ?_) ?_
                  · try dsimp only
                    refine ro_op (ot_bsl (cs := [_]) Try.underlying39 Try.sizeOf41 Try.zeroValue41 rfl rfl rfl rfl rfl) rfl rfl rfl (.inr fun _ => (by first | exact Has.rfl | exact Has.s Has.rfl | exact Has.m (by repeat (first | exact .z | refine .s (by first | exact .a | exact .b | exact .c | exact .d | exact .e | exact .s .e | exact .s (.s .e) | exact .s (.s (.s .e))) ?_)))) (fun g2 _ => ?_) ro_stop
                    refine ro_op (ot_app1 (α := List Int) (bytes := 24) (List.replicate sz 0) [ROw (.slice (some ⟨gm, 0, none⟩) sz sz) (List.replicate sz 0)] hnl Try.underlying39 (info_ex Try.infoInts) rfl (perm3 (by first | exact .a | exact .b | exact .c | exact .d | exact .e | exact .s .e | exact .s (.s .e) | exact .s (.s (.s .e))) (by first | exact .a | exact .b | exact .c | exact .d | exact .e | exact .s .e | exact .s (.s .e) | exact .s (.s (.s .e))) (by first | exact .a | exact .b | exact .c | exact .d | exact .e | exact .s .e | exact .s (.s .e) | exact .s (.s (.s .e)))) hel_sl (by omega) (by omega) rfl rfl rfl) rfl rfl rfl (.inr fun _ => (by first | exact Has.rfl | exact Has.s Has.rfl | exact Has.m (by repeat (first | exact .z | refine .s (by first | exact .a | exact .b | exact .c | exact .d | exact .e | exact .s .e | exact .s (.s .e) | exact .s (.s (.s .e))) ?_)))) (fun ⟨Am, cm⟩ _ => ?_) ro_stop
                    dsimp only
                    refine ro_run tab_ok (by first | exact Has.rfl | exact Has.s Has.rfl | exact Has.m (by repeat (first | exact .z | refine .s (by first | exact .a | exact .b | exact .c | exact .d | exact .e | exact .s .e | exact .s (.s .e) | exact .s (.s (.s .e))) ?_))) 2 [(0, _), (2, _), (3, _), (4, _), (5, _), (13, _), (14, _), (15, _), (16, _), (17, _), (18, _), (19, _), (20, _), (21, _), (22, _), (23, _), (24, _), (25, _), (26, _), (27, _), (29, _), (30, _), (31, _), (32, _), (33, _), (34, _)] rfl ⟨rfl, rfl, rfl, rfl, rfl, rfl, rfl, rfl, rfl, rfl, rfl, rfl, rfl, rfl, rfl, rfl, rfl, rfl, rfl, rfl, rfl, rfl, rfl, rfl, rfl, rfl, trivial⟩ ?_
                    try dsimp only
                    rw [← hnr]
                    refine ro_endx <| xw_join (Am, cm) (trivial) ⟨rfl, rfl, rfl, rfl, rfl, rfl, rfl, rfl, rfl, rfl, rfl, rfl, rfl, rfl, rfl, rfl, rfl, rfl, rfl, rfl, rfl, rfl, rfl, rfl, rfl, rfl, trivial⟩ (by first | exact fun _ h => h | exact fun _ h => h.msub (by repeat (first | exact .z | refine .s (by first | exact .a | exact .b | exact .c | exact .d | exact .e | exact .s .e | exact .s (.s .e) | exact .s (.s (.s .e))) ?_)))
                  · refine ro_op (ot_bsl (cs := [_]) Try.underlying39 Try.sizeOf41 Try.zeroValue41 rfl rfl rfl rfl rfl) rfl rfl rfl (.inr fun _ => (by first | exact Has.rfl | exact Has.s Has.rfl | exact Has.m (by repeat (first | exact .z | refine .s (by first | exact .a | exact .b | exact .c | exact .d | exact .e | exact .s .e | exact .s (.s .e) | exact .s (.s (.s .e))) ?_)))) (fun g3 _ => ?_) ro_stop
                    refine ro_op (ot_cO rfl rfl rfl Try.call42 (fun w hw => rcopy_any _ l w (hw.ro hs) (Fit.of_check hc0.1))) rfl rfl rfl (.inr fun _ => (by first | exact Has.rfl | exact Has.s Has.rfl | exact Has.m (by repeat (first | exact .z | refine .s (by first | exact .a | exact .b | exact .c | exact .d | exact .e | exact .s .e | exact .s (.s .e) | exact .s (.s (.s .e))) ?_)))) (fun ⟨Ac, cc⟩ _ => ?_) ro_stop
                    dsimp only
                    refine ro_op (ot_app1 (α := List Int) (bytes := 24) (List.replicate sz 0) [ROw (.slice (some ⟨gm, 0, none⟩) sz sz) (List.replicate sz 0)] hnl Try.underlying39 (info_ex Try.infoInts) rfl (perm3 (by first | exact .a | exact .b | exact .c | exact .d | exact .e | exact .s .e | exact .s (.s .e) | exact .s (.s (.s .e))) (by first | exact .a | exact .b | exact .c | exact .d | exact .e | exact .s .e | exact .s (.s .e) | exact .s (.s (.s .e))) (by first | exact .a | exact .b | exact .c | exact .d | exact .e | exact .s .e | exact .s (.s .e) | exact .s (.s (.s .e)))) hel_sl (by omega) (by omega) rfl rfl rfl) rfl rfl rfl (.inr fun _ => (by first | exact Has.rfl | exact Has.s Has.rfl | exact Has.m (by repeat (first | exact .z | refine .s (by first | exact .a | exact .b | exact .c | exact .d | exact .e | exact .s .e | exact .s (.s .e) | exact .s (.s (.s .e))) ?_)))) (fun ⟨Am, cm⟩ _ => ?_) ro_stop
                    dsimp only
                    refine ro_run tab_ok (by first | exact Has.rfl | exact Has.s Has.rfl | exact Has.m (by repeat (first | exact .z | refine .s (by first | exact .a | exact .b | exact .c | exact .d | exact .e | exact .s .e | exact .s (.s .e) | exact .s (.s (.s .e))) ?_))) 2 [(0, _), (2, _), (3, _), (4, _), (5, _), (13, _), (14, _), (15, _), (16, _), (17, _), (18, _), (19, _), (20, _), (21, _), (22, _), (23, _), (24, _), (25, _), (26, _), (27, _), (29, _), (30, _), (31, _), (32, _), (33, _), (34, _)] rfl ⟨rfl, rfl, rfl, rfl, rfl, rfl, rfl, rfl, rfl, rfl, rfl, rfl, rfl, rfl, rfl, rfl, rfl, rfl, rfl, rfl, rfl, rfl, rfl, rfl, rfl, rfl, trivial⟩ ?_
                    try dsimp only
                    rw [← hnr]
                    refine ro_endx <| xw_join (Am, cm) (trivial) ⟨rfl, rfl, rfl, rfl, rfl, rfl, rfl, rfl, rfl, rfl, rfl, rfl, rfl, rfl, rfl, rfl, rfl, rfl, rfl, rfl, rfl, rfl, rfl, rfl, rfl, rfl, trivial⟩ (by first | exact fun _ h => h | exact fun _ h => h.msub (by repeat (first | exact .z | refine .s (by first | exact .a | exact .b | exact .c | exact .d | exact .e | exact .s .e | exact .s (.s .e) | exact .s (.s (.s .e))) ?_)))
              · have eL : newL l size = [] := by unfold newL; rw [if_neg hz]
                have eR : newR l size = 0 := by unfold newR; rw [if_neg hz]
                refine cw_as (t := 29) (v' := .slice none (newL l size).length 0) rfl (by rw [eL]; rfl) ?_
                refine cw_as (t := 34) (v' := .int .i64 (newR l size)) rfl (by rw [eR]) ?_
                refine cw_skip ?_
                refine xw_join (none, 0) (trivial) ⟨rfl, rfl, rfl, rfl, rfl, rfl, rfl, rfl, rfl, rfl, rfl, rfl, rfl, rfl, rfl, rfl, rfl, rfl, rfl, rfl, rfl, rfl, rfl, rfl, rfl, rfl, trivial⟩ (fun w h => by rw [eL] at h ⊢; exact h.nilO (List Int))
            · rintro ⟨Am, cm⟩ _
              dsimp only
              refine cw_cut (fun _ : Unit => True) (fun _ => [(0, .slice A l.length c), (2, .int .i64 ref), (3, .int .i64 at_), (4, .int .i64 n), (5, .slice Ar refs.length cr), (13, .slice Aa (newL l size).length ca), (14, .int .i64 (newR l size)), (15, .int .i64 (newE l size)), (16, .int .i64 (getN l ref at_)), (17, .int .i64 (getE l ref at_)), (18, .slice Ab (setL l ref at_ n).length cb), (19, .int .i64 (setE l ref at_ n)), (20, .slice Ak (keepL l refs).length ck), (21, .slice At (keepR l refs).length ct), (22, .int .i64 (keepE l refs)), (23, .int .i64 (checkB l)), (24, .int .i64 (newE l size)), (25, .int .i64 (getE l ref at_)), (26, .int .i64 (setE l ref at_ n)), (27, .int .i64 (keepE l refs)), (29, .slice Am (newL l size).length cm), (30, .slice none 0 0), (31, .slice none 0 0), (32, .slice none 0 0), (33, .int .i64 (getN l ref at_)), (34, .int .i64 (newR l size))]) (fun _ => [ROw (.slice Am (newL l size).length cm) (newL l size), ROw (.slice At (keepR l refs).length ct) (keepR l refs), ROw (.slice Ak (keepL l refs).length ck) (keepL l refs), ROw (.slice Ab (setL l ref at_ n).length cb) (setL l ref at_ n), ROw (.slice Aa (newL l size).length ca) (newL l size)]) ?_ ?_
              · refine cw_seq ?_
                refine cw_region ?_
                refine rw_run tab_ok 2 [(0, _), (2, _), (3, _), (4, _), (5, _), (13, _), (14, _), (15, _), (16, _), (17, _), (18, _), (19, _), (20, _), (21, _), (22, _), (23, _), (24, _), (25, _), (26, _), (27, _), (29, _), (30, _), (31, _), (32, _), (33, _), (34, _), (140, _)] rfl ⟨rfl, rfl, rfl, rfl, rfl, rfl, rfl, rfl, rfl, rfl, rfl, rfl, rfl, rfl, rfl, rfl, rfl, rfl, rfl, rfl, rfl, rfl, rfl, rfl, rfl, rfl, rfl, trivial⟩ ?_
                refine rw_end ?_
                refine cw_condD rfl (fun hz => ?_) (fun hz => ?_)
                · have hc0 : checkB l = 0 ∧ placeE l ref at_ = 0 := by
                    unfold getE at hz
                    split at hz
                    · rename_i h; exact ⟨h, hz⟩
                    · rename_i h; exact absurd hz h
                  have hpz := placeE_zero hc0.2
                  have hk : (ref - 1).toNat < l.length := by omega
                  obtain ⟨A2, c2, hb, hc2⟩ := hs.sub hk
                  have hN : (l.getD (ref - 1).toNat []).getD at_.toNat 0 = getN l ref at_ := by unfold getN; rw [if_pos hz]; rfl
                  have hpa : at_ < (l.getD (ref - 1).toNat []).length := by unfold blk at hpz; omega
                  refine cw_region ?_
                  refine rw_run tab_ok 2 [(0, _), (2, _), (3, _), (4, _), (5, _), (13, _), (14, _), (15, _), (16, _), (17, _), (18, _), (19, _), (20, _), (21, _), (22, _), (23, _), (24, _), (25, _), (26, _), (27, _), (29, _), (30, _), (31, _), (32, _), (34, _), (141, _), (142, _)] rfl ⟨rfl, rfl, rfl, rfl, rfl, rfl, rfl, rfl, rfl, rfl, rfl, rfl, rfl, rfl, rfl, rfl, rfl, rfl, rfl, rfl, rfl, rfl, rfl, rfl, rfl, rfl, rfl, trivial⟩ ?_
                  refine rw_s (qs_sub rfl rfl rfl (by omega)) rfl rfl ?_
                  refine rw_s (qs_idxI Try.underlying39 Try.sizeOf41 (.ro hs) (by omega) rfl rfl rfl) rfl rfl ?_
                  refine rw_s (qs_ld (hc2 _) rfl rfl Try.isAgg41) rfl rfl ?_
                  refine rw_run tab_ok 1 [(0, _), (2, _), (3, _), (4, _), (5, _), (13, _), (14, _), (15, _), (16, _), (17, _), (18, _), (19, _), (20, _), (21, _), (22, _), (23, _), (24, _), (25, _), (26, _), (27, _), (29, _), (30, _), (31, _), (32, _), (34, _), (145, _), (146, _)] rfl ⟨rfl, rfl, rfl, rfl, rfl, rfl, rfl, rfl, rfl, rfl, rfl, rfl, rfl, rfl, rfl, rfl, rfl, rfl, rfl, rfl, rfl, rfl, rfl, rfl, rfl, rfl, rfl, trivial⟩ ?_
                  refine rw_s (qs_idxI Try.underlying41 Try.sizeOf3 (.ro hb) (by omega) rfl rfl rfl) rfl rfl ?_
                  refine rw_s (qs_ld (SF.int (.ro hb) (by omega)) rfl rfl Try.isAgg3) rfl rfl ?_
                  refine rw_run tab_ok 1 [(0, _), (2, _), (3, _), (4, _), (5, _), (13, _), (14, _), (15, _), (16, _), (17, _), (18, _), (19, _), (20, _), (21, _), (22, _), (23, _), (24, _), (25, _), (26, _), (27, _), (29, _), (30, _), (31, _), (32, _), (33, _), (34, _)] rfl ⟨rfl, rfl, rfl, rfl, rfl, rfl, rfl, rfl, rfl, rfl, rfl, rfl, rfl, rfl, rfl, rfl, rfl, rfl, rfl, rfl, rfl, rfl, rfl, rfl, rfl, rfl, trivial⟩ ?_
                  rw [hN]
                  refine rw_join () (trivial) ⟨rfl, rfl, rfl, rfl, rfl, rfl, rfl, rfl, rfl, rfl, rfl, rfl, rfl, rfl, rfl, rfl, rfl, rfl, rfl, rfl, rfl, rfl, rfl, rfl, rfl, rfl, trivial⟩ (by first | exact fun _ h => h | exact fun _ h => h.msub (by repeat (first | exact .z | refine .s (by first | exact .a | exact .b | exact .c | exact .d | exact .e | exact .s .e | exact .s (.s .e) | exact .s (.s (.s .e))) ?_)))
                · have e : (0 : Int) = getN l ref at_ := by unfold getN; rw [if_neg hz]
                  refine cw_as (t := 33) (v' := .int .i64 (getN l ref at_)) rfl (by rw [← e]) ?_
                  refine cw_skip ?_
                  refine xw_join () (trivial) ⟨rfl, rfl, rfl, rfl, rfl, rfl, rfl, rfl, rfl, rfl, rfl, rfl, rfl, rfl, rfl, rfl, rfl, rfl, rfl, rfl, rfl, rfl, rfl, rfl, rfl, rfl, trivial⟩ (by first | exact fun _ h => h | exact fun _ h => h.msub (by repeat (first | exact .z | refine .s (by first | exact .a | exact .b | exact .c | exact .d | exact .e | exact .s .e | exact .s (.s .e) | exact .s (.s (.s .e))) ?_)))
              · rintro _ _
                refine cw_cut (fun _ : Option Addr × Nat => True) (fun g => [(0, .slice A l.length c), (5, .slice Ar refs.length cr), (13, .slice Aa (newL l size).length ca), (14, .int .i64 (newR l size)), (15, .int .i64 (newE l size)), (16, .int .i64 (getN l ref at_)), (17, .int .i64 (getE l ref at_)), (18, .slice Ab (setL l ref at_ n).length cb), (19, .int .i64 (setE l ref at_ n)), (20, .slice Ak (keepL l refs).length ck), (21, .slice At (keepR l refs).length ct), (22, .int .i64 (keepE l refs)), (23, .int .i64 (checkB l)), (24, .int .i64 (newE l size)), (25, .int .i64 (getE l ref at_)), (26, .int .i64 (setE l ref at_ n)), (27, .int .i64 (keepE l refs)), (29, .slice Am (newL l size).length cm), (30, .slice g.1 (setL l ref at_ n).length g.2), (31, .slice none 0 0), (32, .slice none 0 0), (33, .int .i64 (getN l ref at_)), (34, .int .i64 (newR l size))]) (fun g => [ROw (.slice g.1 (setL l ref at_ n).length g.2) (setL l ref at_ n), ROw (.slice Am (newL l size).length cm) (newL l size), ROw (.slice At (keepR l refs).length ct) (keepR l refs), ROw (.slice Ak (keepL l refs).length ck) (keepL l refs), ROw (.slice Ab (setL l ref at_ n).length cb) (setL l ref at_ n), ROw (.slice Aa (newL l size).length ca) (newL l size)]) ?_ ?_
                · refine cw_seq ?_
                  refine cw_region ?_
                  refine rw_run tab_ok 2 [(0, _), (2, _), (3, _), (4, _), (5, _), (13, _), (14, _), (15, _), (16, _), (17, _), (18, _), (19, _), (20, _), (21, _), (22, _), (23, _), (24, _), (25, _), (26, _), (27, _), (29, _), (30, _), (31, _), (32, _), (33, _), (34, _), (150, _)] rfl ⟨rfl, rfl, rfl, rfl, rfl, rfl, rfl, rfl, rfl, rfl, rfl, rfl, rfl, rfl, rfl, rfl, rfl, rfl, rfl, rfl, rfl, rfl, rfl, rfl, rfl, rfl, rfl, trivial⟩ ?_
                  refine rw_end ?_
                  refine cw_condD rfl (fun hz => ?_) (fun hz => ?_)
                  · obtain ⟨hc0, hp0, hi0, hset⟩ := setL_get hz
                    have hpz := placeE_zero hp0
                    have hk : (ref - 1).toNat < l.length := by omega
                    have hpa : at_ < (l.getD (ref - 1).toNat []).length := by unfold blk at hpz; omega
                    have hlen : (setL l ref at_ n).length = l.length := by rw [hset]; simp [put]
                    refine cw_seq ?_
                    refine cw_region ?_
                    refine rw_run tab_ok 1 [(0, _), (2, _), (3, _), (4, _), (5, _), (13, _), (14, _), (15, _), (16, _), (17, _), (18, _), (19, _), (20, _), (21, _), (22, _), (23, _), (24, _), (25, _), (26, _), (27, _), (29, _), (31, _), (32, _), (33, _), (34, _), (151, _)] rfl ⟨rfl, rfl, rfl, rfl, rfl, rfl, rfl, rfl, rfl, rfl, rfl, rfl, rfl, rfl, rfl, rfl, rfl, rfl, rfl, rfl, rfl, rfl, rfl, rfl, rfl, rfl, trivial⟩ ?_
                    refine rw_op (ot_cO rfl rfl rfl Try.call42 (fun w hw => rcopy_any _ l w (hw.ro hs) (Fit.of_check hc0))) rfl rfl (fun ⟨As, cs⟩ _ => ?_)
                    dsimp only
                    refine rw_run tab_ok 1 [(0, _), (2, _), (3, _), (4, _), (5, _), (13, _), (14, _), (15, _), (16, _), (17, _), (18, _), (19, _), (20, _), (21, _), (22, _), (23, _), (24, _), (25, _), (26, _), (27, _), (29, _), (30, _), (31, _), (32, _), (33, _), (34, _)] rfl ⟨rfl, rfl, rfl, rfl, rfl, rfl, rfl, rfl, rfl, rfl, rfl, rfl, rfl, rfl, rfl, rfl, rfl, rfl, rfl, rfl, rfl, rfl, rfl, rfl, rfl, rfl, trivial⟩ ?_
                    refine rw_end ?_
                    refine cw_region ?_
                    refine rw_run tab_ok 2 [(0, _), (3, _), (4, _), (5, _), (13, _), (14, _), (15, _), (16, _), (17, _), (18, _), (19, _), (20, _), (21, _), (22, _), (23, _), (24, _), (25, _), (26, _), (27, _), (29, _), (30, _), (31, _), (32, _), (33, _), (34, _), (153, _), (154, _)] rfl ⟨rfl, rfl, rfl, rfl, rfl, rfl, rfl, rfl, rfl, rfl, rfl, rfl, rfl, rfl, rfl, rfl, rfl, rfl, rfl, rfl, rfl, rfl, rfl, rfl, rfl, rfl, rfl, trivial⟩ ?_
                    refine rw_s (qs_sub rfl rfl rfl (by omega)) rfl rfl ?_
                    refine rw_s (qs_idxI Try.underlying39 Try.sizeOf41 (SF.own (xs := l) rfl .a) (by omega) rfl rfl rfl) rfl rfl ?_
                    refine rw_op (ot_ldin .a hk Try.isAgg41 rfl rfl) rfl rfl (fun ⟨A2, c2⟩ _ => ?_)
                    dsimp only
                    refine rw_run tab_ok 2 [(0, _), (5, _), (13, _), (14, _), (15, _), (16, _), (17, _), (18, _), (19, _), (20, _), (21, _), (22, _), (23, _), (24, _), (25, _), (26, _), (27, _), (29, _), (30, _), (31, _), (32, _), (33, _), (34, _), (157, _), (158, _), (159, _)] rfl ⟨rfl, rfl, rfl, rfl, rfl, rfl, rfl, rfl, rfl, rfl, rfl, rfl, rfl, rfl, rfl, rfl, rfl, rfl, rfl, rfl, rfl, rfl, rfl, rfl, rfl, rfl, trivial⟩ ?_
                    refine rw_s (qs_idxI Try.underlying41 Try.sizeOf3 (SF.rin rfl .a) (by omega) rfl rfl rfl) rfl rfl ?_
                    refine rw_op (ot_stin (q := at_.toNat) (z := n) (xs' := setL l ref at_ n) hset .a (by omega) i_n Try.sizeOf3 rfl rfl rfl) rfl rfl (fun _ _ => ?_)
                    rw [← hlen]
                    refine rw_join (As, cs) (trivial) ⟨rfl, rfl, rfl, rfl, rfl, rfl, rfl, rfl, rfl, rfl, rfl, rfl, rfl, rfl, rfl, rfl, rfl, rfl, rfl, rfl, rfl, rfl, rfl, trivial⟩ (by first | exact fun _ h => h | exact fun _ h => h.msub (by repeat (first | exact .z | refine .s (by first | exact .a | exact .b | exact .c | exact .d | exact .e | exact .s .e | exact .s (.s .e) | exact .s (.s (.s .e))) ?_)))
                  · have e : setL l ref at_ n = [] := by unfold setL; rw [if_neg hz]
                    refine cw_as (t := 30) (v' := .slice none (setL l ref at_ n).length 0) rfl (by rw [e]; rfl) ?_
                    refine cw_skip ?_
                    refine xw_join (none, 0) (trivial) ⟨rfl, rfl, rfl, rfl, rfl, rfl, rfl, rfl, rfl, rfl, rfl, rfl, rfl, rfl, rfl, rfl, rfl, rfl, rfl, rfl, rfl, rfl, rfl, trivial⟩ (fun w h => by rw [e] at h ⊢; exact h.nilO (List Int))
                · rintro ⟨As, cs⟩ _
                  dsimp only
                  refine cw_cut (fun _ : (Option Addr × Nat) × Option Addr × Nat => True) (fun g => [(0, .slice A l.length c), (13, .slice Aa (newL l size).length ca), (14, .int .i64 (newR l size)), (15, .int .i64 (newE l size)), (16, .int .i64 (getN l ref at_)), (17, .int .i64 (getE l ref at_)), (18, .slice Ab (setL l ref at_ n).length cb), (19, .int .i64 (setE l ref at_ n)), (20, .slice Ak (keepL l refs).length ck), (21, .slice At (keepR l refs).length ct), (22, .int .i64 (keepE l refs)), (23, .int .i64 (checkB l)), (24, .int .i64 (newE l size)), (25, .int .i64 (getE l ref at_)), (26, .int .i64 (setE l ref at_ n)), (27, .int .i64 (keepE l refs)), (29, .slice Am (newL l size).length cm), (30, .slice As (setL l ref at_ n).length cs), (31, .slice g.1.1 (keepL l refs).length g.1.2), (32, .slice g.2.1 (keepR l refs).length g.2.2), (33, .int .i64 (getN l ref at_)), (34, .int .i64 (newR l size))]) (fun g => [ROw (.slice g.2.1 (keepR l refs).length g.2.2) (keepR l refs), ROw (.slice g.1.1 (keepL l refs).length g.1.2) (keepL l refs), ROw (.slice As (setL l ref at_ n).length cs) (setL l ref at_ n), ROw (.slice Am (newL l size).length cm) (newL l size), ROw (.slice At (keepR l refs).length ct) (keepR l refs), ROw (.slice Ak (keepL l refs).length ck) (keepL l refs), ROw (.slice Ab (setL l ref at_ n).length cb) (setL l ref at_ n), ROw (.slice Aa (newL l size).length ca) (newL l size)]) ?_ ?_
                  · refine cw_seq ?_
                    refine cw_region ?_
                    refine rw_run tab_ok 2 [(0, _), (5, _), (13, _), (14, _), (15, _), (16, _), (17, _), (18, _), (19, _), (20, _), (21, _), (22, _), (23, _), (24, _), (25, _), (26, _), (27, _), (29, _), (30, _), (31, _), (32, _), (33, _), (34, _), (162, _)] rfl ⟨rfl, rfl, rfl, rfl, rfl, rfl, rfl, rfl, rfl, rfl, rfl, rfl, rfl, rfl, rfl, rfl, rfl, rfl, rfl, rfl, rfl, rfl, rfl, rfl, trivial⟩ ?_
                    refine rw_end ?_
                    refine cw_condD rfl (fun hz => ?_) (fun hz => ?_)
                    · have hi := keepE_in hz
                      have eL : keepL l refs = keptTo l refs l.length := by unfold keepL; rw [if_pos hz]
                      have eR : keepR l refs = refs.map (keptN l refs) := by unfold keepR; rw [if_pos hz]
                      refine cw_region ?_
                      refine rw_run tab_ok 2 [(0, _), (13, _), (14, _), (15, _), (16, _), (17, _), (18, _), (19, _), (20, _), (21, _), (22, _), (23, _), (24, _), (25, _), (26, _), (27, _), (29, _), (30, _), (33, _), (34, _), (164, _), (165, _)] rfl ⟨rfl, rfl, rfl, rfl, rfl, rfl, rfl, rfl, rfl, rfl, rfl, rfl, rfl, rfl, rfl, rfl, rfl, rfl, rfl, rfl, rfl, rfl, trivial⟩ ?_
                      refine rw_op (ot_c rfl rfl rfl Try.call43 (fun w hw => rkeepOf2 A Ar c cr l refs w (hw.ro hs) (hw.ro hrs) (Fit.of_check hi.1) hi.2 hby)) rfl rfl (fun ⟨⟨A7, c7⟩, A8, c8⟩ _ => ?_)
                      dsimp only
                      refine rw_run tab_ok 5 [(0, _), (13, _), (14, _), (15, _), (16, _), (17, _), (18, _), (19, _), (20, _), (21, _), (22, _), (23, _), (24, _), (25, _), (26, _), (27, _), (29, _), (30, _), (31, _), (32, _), (33, _), (34, _)] rfl ⟨rfl, rfl, rfl, rfl, rfl, rfl, rfl, rfl, rfl, rfl, rfl, rfl, rfl, rfl, rfl, rfl, rfl, rfl, rfl, rfl, rfl, rfl, trivial⟩ ?_
                      rw [← eL, ← eR]
                      refine rw_join ((A7, c7), (A8, c8)) (trivial) ⟨rfl, rfl, rfl, rfl, rfl, rfl, rfl, rfl, rfl, rfl, rfl, rfl, rfl, rfl, rfl, rfl, rfl, rfl, rfl, rfl, rfl, rfl, trivial⟩ (by first | exact fun _ h => h | exact fun _ h => h.msub (by repeat (first | exact .z | refine .s (by first | exact .a | exact .b | exact .c | exact .d | exact .e | exact .s .e | exact .s (.s .e) | exact .s (.s (.s .e))) ?_)))
                    · have eL : keepL l refs = [] := by unfold keepL; rw [if_neg hz]
                      have eR : keepR l refs = [] := by unfold keepR; rw [if_neg hz]
                      refine cw_as (t := 31) (v' := .slice none (keepL l refs).length 0) rfl (by rw [eL]; rfl) ?_
                      refine cw_as (t := 32) (v' := .slice none (keepR l refs).length 0) rfl (by rw [eR]; rfl) ?_
                      refine cw_skip ?_
                      refine xw_join ((none, 0), (none, 0)) (trivial) ⟨rfl, rfl, rfl, rfl, rfl, rfl, rfl, rfl, rfl, rfl, rfl, rfl, rfl, rfl, rfl, rfl, rfl, rfl, rfl, rfl, rfl, rfl, trivial⟩ (fun w h => by rw [eL, eR] at h ⊢; exact (h.nilO (List Int)).nilO Int)
                  · rintro ⟨⟨A7, c7⟩, A8, c8⟩ _
                    dsimp only
                    refine cw_seq ?_
                    refine cw_region ?_
                    refine rw_op (ot_c0 rfl rfl rfl Try.call31 (fun w hw => blockBegun_any w)) rfl rfl (fun _ _ => ?_)
                    refine rw_run tab_ok 2 [(13, _), (14, _), (15, _), (16, _), (17, _), (18, _), (19, _), (20, _), (21, _), (22, _), (23, _), (24, _), (25, _), (26, _), (27, _), (29, _), (30, _), (31, _), (32, _), (33, _), (34, _), (170, _), (171, _)] rfl ⟨rfl, rfl, rfl, rfl, rfl, rfl, rfl, rfl, rfl, rfl, rfl, rfl, rfl, rfl, rfl, rfl, rfl, rfl, rfl, rfl, rfl, rfl, rfl, trivial⟩ ?_
                    refine rw_op (ot_c0 rfl rfl rfl Try.call32 (fun w hw => checkB_any _ l w (hw.ro hs))) rfl rfl (fun _ _ => ?_)
                    refine rw_run tab_ok 4 [(13, _), (14, _), (15, _), (16, _), (17, _), (18, _), (19, _), (20, _), (21, _), (22, _), (24, _), (25, _), (26, _), (27, _), (29, _), (30, _), (31, _), (32, _), (33, _), (34, _), (176, _)] rfl ⟨rfl, rfl, rfl, rfl, rfl, rfl, rfl, rfl, rfl, rfl, rfl, rfl, rfl, rfl, rfl, rfl, rfl, rfl, rfl, rfl, rfl, trivial⟩ ?_
                    refine rw_as (t := 176) (v' := .bool true) rfl (by simp) ?_
                    refine rw_run tab_ok 4 [(14, _), (16, _), (17, _), (18, _), (19, _), (20, _), (21, _), (22, _), (25, _), (26, _), (27, _), (30, _), (31, _), (32, _), (33, _), (34, _), (176, _), (177, _), (178, _), (179, _), (180, _)] rfl ⟨rfl, rfl, rfl, rfl, rfl, rfl, rfl, rfl, rfl, rfl, rfl, rfl, rfl, rfl, rfl, rfl, rfl, rfl, rfl, rfl, rfl, trivial⟩ ?_
                    refine rw_op (ot_c0 rfl rfl rfl Try.call44 (fun w hw => blocksTrue (blocksAre_any _ _ (newL l size) (newL l size) _ _ w (SF.at_ (SF.own rfl (by first | exact .a | exact .b | exact .c | exact .d | exact .e | exact .s .e | exact .s (.s .e) | exact .s (.s (.s .e)))) hw) (fun _ => (SF.at_ (SF.own rfl (by first | exact .a | exact .b | exact .c | exact .d | exact .e | exact .s .e | exact .s (.s .e) | exact .s (.s (.s .e)))) hw)) ⟨_, _, _, rfl⟩) rfl (newL_if l size))) rfl rfl (fun _ _ => ?_)
                    refine rw_run tab_ok 7 [(16, _), (17, _), (18, _), (19, _), (20, _), (21, _), (22, _), (25, _), (26, _), (27, _), (30, _), (31, _), (32, _), (33, _), (188, _)] rfl ⟨rfl, rfl, rfl, rfl, rfl, rfl, rfl, rfl, rfl, rfl, rfl, rfl, rfl, rfl, rfl, trivial⟩ ?_
                    refine rw_as (t := 188) (v' := .bool true) rfl (by simp) ?_
                    refine rw_run tab_ok 5 [(16, _), (18, _), (19, _), (20, _), (21, _), (22, _), (26, _), (27, _), (30, _), (31, _), (32, _), (33, _), (193, _)] rfl ⟨rfl, rfl, rfl, rfl, rfl, rfl, rfl, rfl, rfl, rfl, rfl, rfl, rfl, trivial⟩ ?_
                    refine rw_as (t := 193) (v' := .bool true) rfl (by simp) ?_
                    refine rw_run tab_ok 5 [(18, _), (19, _), (20, _), (21, _), (22, _), (26, _), (27, _), (30, _), (31, _), (32, _), (198, _)] rfl ⟨rfl, rfl, rfl, rfl, rfl, rfl, rfl, rfl, rfl, rfl, rfl, trivial⟩ ?_
                    refine rw_as (t := 198) (v' := .bool true) rfl (by simp) ?_
                    refine rw_run tab_ok 4 [(20, _), (21, _), (22, _), (27, _), (31, _), (32, _), (198, _), (199, _), (200, _), (201, _), (202, _)] rfl ⟨rfl, rfl, rfl, rfl, rfl, rfl, rfl, rfl, rfl, rfl, rfl, trivial⟩ ?_
                    refine rw_op (ot_c0 rfl rfl rfl Try.call44 (fun w hw => blocksTrue (blocksAre_any _ _ (setL l ref at_ n) (setL l ref at_ n) _ _ w (SF.at_ (SF.own rfl (by first | exact .a | exact .b | exact .c | exact .d | exact .e | exact .s .e | exact .s (.s .e) | exact .s (.s (.s .e)))) hw) (fun _ => (SF.at_ (SF.own rfl (by first | exact .a | exact .b | exact .c | exact .d | exact .e | exact .s .e | exact .s (.s .e) | exact .s (.s (.s .e)))) hw)) ⟨_, _, _, rfl⟩) rfl (setL_if l ref at_ n))) rfl rfl (fun _ _ => ?_)
                    refine rw_run tab_ok 6 [(21, _), (32, _), (205, _), (206, _), (207, _), (208, _), (209, _)] rfl ⟨rfl, rfl, rfl, rfl, rfl, rfl, rfl, trivial⟩ ?_
                    refine rw_op (ot_c0 rfl rfl rfl Try.call44 (fun w hw => blocksTrue (blocksAre_any _ _ (keepL l refs) (keepL l refs) _ _ w (SF.at_ (SF.own rfl (by first | exact .a | exact .b | exact .c | exact .d | exact .e | exact .s .e | exact .s (.s .e) | exact .s (.s (.s .e)))) hw) (fun _ => (SF.at_ (SF.own rfl (by first | exact .a | exact .b | exact .c | exact .d | exact .e | exact .s .e | exact .s (.s .e) | exact .s (.s (.s .e)))) hw)) ⟨_, _, _, rfl⟩) rfl (keepL_if l refs))) rfl rfl (fun _ _ => ?_)
                    refine rw_run tab_ok 4 [(212, _), (213, _), (214, _)] rfl ⟨rfl, rfl, rfl, trivial⟩ ?_
                    refine rw_op (ot_c0 rfl rfl rfl Try.call45 (fun w hw => rsameInts_any _ _ (keepR l refs) (keepR l refs) w (SF.at_ (SF.own rfl (by first | exact .a | exact .b | exact .c | exact .d | exact .e | exact .s .e | exact .s (.s .e) | exact .s (.s (.s .e)))) hw) (SF.at_ (SF.own rfl (by first | exact .a | exact .b | exact .c | exact .d | exact .e | exact .s .e | exact .s (.s .e) | exact .s (.s (.s .e)))) hw))) rfl rfl (fun _ _ => ?_)
                    refine rw_run tab_ok 2 [(12, _)] rfl ⟨rfl, trivial⟩ ?_
                    refine rw_end ?_
                    refine cw_ret ?_
                    refine xw_ret1 Try.results7 (rv_tmp rfl) ?_
                    intro w hw
                    exact ⟨ret_bool (by simp), hw.below⟩
theorem blockTells_law (v vr : Value) (l : List (List Int)) (size ref at_ n : Int) (refs : List Int) (w : World) (hs : Sl w v l) (hrs : Sl w vr refs) (iz : I64 size) (ir : I64 ref) (ia : I64 at_) (i_n : I64 n) (hby : refs.length * 8 ≤ 140737488355328) :
    Calls Try.prog 7 #[v, .int .i64 size, .int .i64 ref, .int .i64 at_, .int .i64 n, vr] w fun e w' => e = .returned (.bool true) ∧ Below w.heap.size w w' := by
  obtain ⟨A, c, rfl, _⟩ := hs.form
  obtain ⟨Ar, cr, rfl, _⟩ := hrs.form
  exact blockTells_any A Ar c cr l size ref at_ n refs w hs hrs iz ir ia i_n hby
end Go.Proofs.Ytjojipeodionmaa
