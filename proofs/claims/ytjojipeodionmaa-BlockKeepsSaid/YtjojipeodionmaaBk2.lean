/- Blocks that are kept: the document's; all of Keep. -/
import Derived.Test.YtjojipeodionmaaBk
import Derived.Test.YtjojipeodionmaaW7
namespace Go.Proofs.Ytjojipeodionmaa
open Go.RowKit

set_option maxRecDepth 100000 in
theorem rkeepOf2 (A Ar : Option Addr) (c cr : Nat) (l : List (List Int)) (refs : List Int) (w : World) (hs : Sl w (.slice A l.length c) l) (hrs : Sl w (.slice Ar refs.length cr) refs) (hfit : Fit l) (hin : ∀ r ∈ refs, 0 ≤ r ∧ r ≤ l.length) (hby : refs.length * 8 ≤ 140737488355328) :
    Calls Try.prog 43 #[.slice A l.length c, .slice Ar refs.length cr] w fun e w' => ∃ p : (Option Addr × Nat) × Option Addr × Nat, True ∧ e = .returned (.tuple #[.slice p.1.1 (keptTo l refs l.length).length p.1.2, .slice p.2.1 (refs.map (keptN l refs)).length p.2.2]) ∧
      Cw w.heap.size w [ROw (.slice p.2.1 (refs.map (keptN l refs)).length p.2.2) (refs.map (keptN l refs)), ROw (.slice p.1.1 (keptTo l refs l.length).length p.1.2) (keptTo l refs l.length)] w' := by
  have b1 := len_bd hs
  have b2 := hfit.1
  have b3 := len_bd hrs
  refine enter Try.func43 rfl Try.ntmps43 rfl ?_
  refine cw_seq ?_
  refine cw_region ?_
  refine rw_run tab_ok 2 [(0, _), (1, _)] rfl ⟨rfl, rfl, trivial⟩ ?_
  refine rw_end ?_
  refine cw_seq ?_
  refine cw_region ?_
  refine rw_run tab_ok 1 [(0, _), (1, _), (6, _)] rfl ⟨rfl, rfl, rfl, trivial⟩ ?_
  refine rw_end ?_
  refine cw_seq ?_
  refine cw_region ?_
  refine rw_run tab_ok 1 [(0, _), (1, _), (6, _), (11, _)] rfl ⟨rfl, rfl, rfl, rfl, trivial⟩ ?_
  refine rw_s (qs_len Try.underlying41 rfl rfl) rfl rfl ?_
  refine rw_op (ot_make (α := Int) (m := refs.length) 0 Try.underlying41 Try.infoInt rfl (fun w => ⟨⟨rfl, by simp [I64]⟩, fun _ h => h⟩) rfl (by omega) rfl rfl rfl) rfl rfl (fun gis _ => ?_)
  refine rw_run tab_ok 1 [(0, _), (1, _), (6, _), (7, _)] rfl ⟨rfl, rfl, rfl, rfl, trivial⟩ ?_
  refine rw_end ?_
  refine cw_seq ?_
  refine cw_seq ?_
  refine cw_region ?_
  refine rw_run tab_ok 1 [(0, _), (1, _), (6, _), (7, _), (8, _)] rfl ⟨rfl, rfl, rfl, rfl, rfl, trivial⟩ ?_
  refine rw_end ?_
  refine cw_mem (fun w h => Cw.nilO (List Int) h) ?_
  rw [← thenMix_start l refs]
  refine cw_block (cw_loop (fun g : Nat × Option Addr × Nat => g.1 ≤ l.length) (fun g => l.length - g.1) (fun g => [(0, .slice A l.length c), (1, .slice Ar refs.length cr), (6, .slice g.2.1 (keptTo l refs g.1).length g.2.2), (7, .slice (some ⟨gis, 0, none⟩) refs.length refs.length), (8, .int .i64 (g.1 : Int))]) (fun g => [ROw (.slice g.2.1 (keptTo l refs g.1).length g.2.2) (keptTo l refs g.1), ROw (.slice (some ⟨gis, 0, none⟩) refs.length refs.length) (refs.map (thenF l refs g.1))]) (0, none, 0) (Nat.zero_le _) ⟨rfl, rfl, rfl, rfl, rfl, trivial⟩ (by first | exact fun _ h => h | exact fun _ h => h.msub (by repeat (first | exact .z | refine .s (by first | exact .a | exact .b | exact .c | exact .d | exact .e | exact .s .e | exact .s (.s .e) | exact .s (.s (.s .e))) ?_))) ?_)
  rintro ⟨k, A1, c1⟩ hk'
  dsimp only
  have hk : k ≤ l.length := hk'
  have hkl := keptTo_len l refs k
  refine cw_seq ?_
  refine cw_seq ?_
  refine cw_region ?_
  refine rw_run tab_ok 2 [(0, _), (1, _), (6, _), (7, _), (8, _), (14, _), (15, _)] rfl ⟨rfl, rfl, rfl, rfl, rfl, rfl, rfl, trivial⟩ ?_
  refine rw_s (qs_len Try.underlying39 rfl rfl) rfl rfl ?_
  refine rw_run tab_ok 1 [(0, _), (1, _), (6, _), (7, _), (8, _), (17, _)] rfl ⟨rfl, rfl, rfl, rfl, rfl, rfl, trivial⟩ ?_
  refine rw_end ?_
  refine cw_condD rfl (fun h => ?_) (fun h => ?_)
  · have hlt : k < l.length := by omega
    refine cw_skip (xw_then ?_)
    refine cw_seq ?_
    refine cw_block ?_
    refine cw_seq ?_
    refine cw_region ?_
    refine rw_run tab_ok 1 [(0, _), (1, _), (6, _), (7, _), (8, _), (9, _)] rfl ⟨rfl, rfl, rfl, rfl, rfl, rfl, trivial⟩ ?_
    refine rw_end ?_
    refine cw_seq ?_
    refine cw_seq ?_
    refine cw_region ?_
    refine rw_run tab_ok 1 [(0, _), (1, _), (6, _), (7, _), (8, _), (9, _), (10, _)] rfl ⟨rfl, rfl, rfl, rfl, rfl, rfl, rfl, trivial⟩ ?_
    refine rw_end ?_
    rw [← thenMix_zero l refs k]
    refine cw_block (cw_loop (fun j : Nat => j ≤ refs.length) (fun j => refs.length - j) (fun j => [(0, .slice A l.length c), (1, .slice Ar refs.length cr), (6, .slice A1 (keptTo l refs k).length c1), (7, .slice (some ⟨gis, 0, none⟩) refs.length refs.length), (8, .int .i64 (k : Int)), (9, .bool ((refs.take j).contains ((k : Int) + 1))), (10, .int .i64 (j : Int))]) (fun j => [ROw (.slice A1 (keptTo l refs k).length c1) (keptTo l refs k), ROw (.slice (some ⟨gis, 0, none⟩) refs.length refs.length) (thenMix l refs k j)]) 0 (Nat.zero_le _) ⟨rfl, rfl, rfl, rfl, rfl, rfl, rfl, trivial⟩ (by first | exact fun _ h => h | exact fun _ h => h.msub (by repeat (first | exact .z | refine .s (by first | exact .a | exact .b | exact .c | exact .d | exact .e | exact .s .e | exact .s (.s .e) | exact .s (.s (.s .e))) ?_))) ?_)
    rintro j hj
    refine cw_seq ?_
    refine cw_seq ?_
    refine cw_region ?_
    refine rw_run tab_ok 2 [(0, _), (1, _), (6, _), (7, _), (8, _), (9, _), (10, _), (20, _), (21, _)] rfl ⟨rfl, rfl, rfl, rfl, rfl, rfl, rfl, rfl, rfl, trivial⟩ ?_
    refine rw_s (qs_len Try.underlying41 rfl rfl) rfl rfl ?_
    refine rw_run tab_ok 1 [(0, _), (1, _), (6, _), (7, _), (8, _), (9, _), (10, _), (23, _)] rfl ⟨rfl, rfl, rfl, rfl, rfl, rfl, rfl, rfl, trivial⟩ ?_
    refine rw_end ?_
    refine cw_condD rfl (fun h2 => ?_) (fun h2 => ?_)
    · have hjr : j < refs.length := by omega
      refine cw_skip (xw_then ?_)
      refine cw_seq ?_
      refine cw_block ?_
      refine cw_seq ?_
      refine cw_region ?_
      refine rw_run tab_ok 2 [(0, _), (1, _), (6, _), (7, _), (8, _), (9, _), (10, _), (26, _), (27, _)] rfl ⟨rfl, rfl, rfl, rfl, rfl, rfl, rfl, rfl, rfl, trivial⟩ ?_
      refine rw_s (qs_idx Try.underlying41 Try.sizeOf3 (.ro hrs) (by omega) rfl rfl rfl) rfl rfl ?_
      refine rw_s (qs_ld (SF.int (.ro hrs) (by omega)) rfl rfl Try.isAgg3) rfl rfl ?_
      refine rw_run tab_ok 1 [(0, _), (1, _), (6, _), (7, _), (8, _), (9, _), (10, _), (29, _), (30, _)] rfl ⟨rfl, rfl, rfl, rfl, rfl, rfl, rfl, rfl, rfl, trivial⟩ ?_
      refine rw_s (qs_add rfl rfl rfl (by omega)) rfl rfl ?_
      refine rw_run tab_ok 1 [(0, _), (1, _), (6, _), (7, _), (8, _), (9, _), (10, _), (32, _)] rfl ⟨rfl, rfl, rfl, rfl, rfl, rfl, rfl, rfl, trivial⟩ ?_
      refine rw_end ?_
      refine cw_condD rfl (fun h3 => ?_) (fun h3 => ?_)
      · have hcon : refs.contains ((k : Int) + 1) = true := contains_mem hjr h3
        have hstep : thenMix l refs k (j + 1) = (thenMix l refs k j).set j (((keptTo l refs k).length : Int) + 1) := by
          rw [thenMix_step hjr, h3, thenF_hit hcon]
        have hct : (refs.take (j + 1)).contains ((k : Int) + 1) = true := by rw [contains_snoc hjr, h3]; simp
        refine cw_seq ?_
        refine cw_region ?_
        refine rw_run tab_ok 1 [(0, _), (1, _), (6, _), (7, _), (8, _), (9, _), (10, _)] rfl ⟨rfl, rfl, rfl, rfl, rfl, rfl, rfl, trivial⟩ ?_
        refine rw_end ?_
        refine cw_region ?_
        refine rw_run tab_ok 3 [(0, _), (1, _), (6, _), (7, _), (8, _), (9, _), (10, _), (33, _), (34, _), (35, _)] rfl ⟨rfl, rfl, rfl, rfl, rfl, rfl, rfl, rfl, rfl, rfl, trivial⟩ ?_
        refine rw_s (qs_len Try.underlying39 rfl rfl) rfl rfl ?_
        refine rw_s (qs_add rfl rfl rfl (by omega)) rfl rfl ?_
        refine rw_s (qs_idx Try.underlying41 Try.sizeOf3 (.own (thenMix_len _ _ _ _) .b) (by omega) rfl rfl rfl) rfl rfl ?_
        refine rw_op (ot_stI (k := j) hstep .b (by omega) (I64_nat (k := (keptTo l refs k).length + 1) (by omega)) Try.sizeOf3 rfl rfl rfl) rfl rfl (fun _ _ => ?_)
        refine rw_endx (xw_blkn (xw_then ?_))
        refine cw_region ?_
        refine rw_run tab_ok 1 [(0, _), (1, _), (6, _), (7, _), (8, _), (9, _), (24, _)] rfl ⟨rfl, rfl, rfl, rfl, rfl, rfl, rfl, trivial⟩ ?_
        refine rw_s (qs_add rfl rfl rfl (by omega)) rfl rfl ?_
        refine rw_run tab_ok 1 [(0, _), (1, _), (6, _), (7, _), (8, _), (9, _), (10, _)] rfl ⟨rfl, rfl, rfl, rfl, rfl, rfl, rfl, trivial⟩ ?_
        rw [← hct]
        refine rw_round (j + 1) (by show j + 1 ≤ _; omega) (by show _ - _ < _ - _; omega) ⟨rfl, rfl, rfl, rfl, rfl, rfl, rfl, trivial⟩ (fun _ h => h.perm (List.Perm.swap ..))
      · have hct : (refs.take (j + 1)).contains ((k : Int) + 1) = (refs.take j).contains ((k : Int) + 1) := by rw [contains_snoc hjr, beq_eq_false_iff_ne.2 h3]; simp
        refine cw_skip (xw_blkn (xw_then ?_))
        refine cw_region ?_
        refine rw_run tab_ok 1 [(0, _), (1, _), (6, _), (7, _), (8, _), (9, _), (24, _)] rfl ⟨rfl, rfl, rfl, rfl, rfl, rfl, rfl, trivial⟩ ?_
        refine rw_s (qs_add rfl rfl rfl (by omega)) rfl rfl ?_
        refine rw_run tab_ok 1 [(0, _), (1, _), (6, _), (7, _), (8, _), (9, _), (10, _)] rfl ⟨rfl, rfl, rfl, rfl, rfl, rfl, rfl, trivial⟩ ?_
        rw [← hct, ← thenMix_skip hjr h3]
        refine rw_round (j + 1) (by show j + 1 ≤ _; omega) (by show _ - _ < _ - _; omega) ⟨rfl, rfl, rfl, rfl, rfl, rfl, rfl, trivial⟩ (by first | exact fun _ h => h | exact fun _ h => h.msub (by repeat (first | exact .z | refine .s (by first | exact .a | exact .b | exact .c | exact .d | exact .e | exact .s .e | exact .s (.s .e) | exact .s (.s (.s .e))) ?_)))
    · obtain rfl : j = refs.length := by omega
      rw [thenMix_end, List.take_length]
      refine cw_exit (xw_thenx (xw_thenx (xw_blk (xw_then ?_))))
      refine cw_seq ?_
      refine cw_region ?_
      refine rw_run tab_ok 1 [(0, _), (1, _), (6, _), (7, _), (8, _), (39, _)] rfl ⟨rfl, rfl, rfl, rfl, rfl, rfl, trivial⟩ ?_
      refine rw_end ?_
      refine cw_cond rfl (fun hct => ?_) (fun hct => ?_)
      · obtain ⟨A2, c2, hb, hc2⟩ := hs.sub hlt
        have hfk := hfit.at_ k
        have hkl2 := keptTo_len l refs (k + 1)
        refine cw_region ?_
        refine rw_run tab_ok 1 [(0, _), (1, _), (7, _), (8, _), (40, _)] rfl ⟨rfl, rfl, rfl, rfl, rfl, trivial⟩ ?_
        refine rw_op (ot_bsl (cs := []) Try.underlying41 Try.sizeOf3 Try.zeroValue3 rfl rfl rfl rfl rfl) rfl rfl (fun g1 _ => ?_)
        refine rw_run tab_ok 2 [(0, _), (1, _), (7, _), (8, _), (40, _), (41, _), (42, _), (43, _)] rfl ⟨rfl, rfl, rfl, rfl, rfl, rfl, rfl, rfl, trivial⟩ ?_
        refine rw_s (qs_idx Try.underlying39 Try.sizeOf41 (.ro hs) (by omega) rfl rfl rfl) rfl rfl ?_
        refine rw_mem (fun w h => row_ow (α := Int) [] rfl (by simp) rfl (by simp) h) ?_
        refine rw_s (qs_ld (hc2 _) rfl rfl Try.isAgg41) rfl rfl ?_
        refine rw_op (ot_appS (α := Int) (bytes := 8) (xs := []) (ys := l.getD k []) (xs' := l.getD k []) rfl Try.underlying41 (info_ex Try.infoInt) rfl .a (.ro hb) (by show 0 + _ ≤ _; omega) (by show (0 + _) * _ ≤ _; omega) rfl rfl rfl) rfl rfl (fun ⟨A3, c3⟩ _ => ?_)
        dsimp only
        refine rw_op (ot_bsl (cs := [_]) Try.underlying39 Try.sizeOf41 Try.zeroValue41 rfl rfl rfl rfl rfl) rfl rfl (fun g2 _ => ?_)
        refine rw_op (ot_app1 (α := List Int) (bytes := 24) (l.getD k []) [ROw _ (l.getD k [])] (keptTo_yes hct) Try.underlying39 (info_ex Try.infoInts) rfl (perm3 .c .a .a) hel_sl (by omega) (by omega) rfl rfl rfl) rfl rfl (fun ⟨A4, c4⟩ _ => ?_)
        dsimp only
        refine rw_run tab_ok 1 [(0, _), (1, _), (6, _), (7, _), (8, _)] rfl ⟨rfl, rfl, rfl, rfl, rfl, trivial⟩ ?_
        refine rw_endx (xw_blkn (xw_then ?_))
        refine cw_region ?_
        refine rw_run tab_ok 1 [(0, _), (1, _), (6, _), (7, _), (18, _)] rfl ⟨rfl, rfl, rfl, rfl, rfl, trivial⟩ ?_
        refine rw_s (qs_add rfl rfl rfl (by omega)) rfl rfl ?_
        refine rw_run tab_ok 1 [(0, _), (1, _), (6, _), (7, _), (8, _)] rfl ⟨rfl, rfl, rfl, rfl, rfl, trivial⟩ ?_
        refine rw_round (k + 1, A4, c4) (by show k + 1 ≤ _; omega) (by show _ - _ < _ - _; omega) ⟨rfl, rfl, rfl, rfl, rfl, trivial⟩ (by first | exact fun _ h => h | exact fun _ h => h.msub (by repeat (first | exact .z | refine .s (by first | exact .a | exact .b | exact .c | exact .d | exact .e | exact .s .e | exact .s (.s .e) | exact .s (.s (.s .e))) ?_)))
      · refine cw_skip (xw_blkn (xw_then ?_))
        refine cw_region ?_
        refine rw_run tab_ok 1 [(0, _), (1, _), (6, _), (7, _), (18, _)] rfl ⟨rfl, rfl, rfl, rfl, rfl, trivial⟩ ?_
        refine rw_s (qs_add rfl rfl rfl (by omega)) rfl rfl ?_
        refine rw_run tab_ok 1 [(0, _), (1, _), (6, _), (7, _), (8, _)] rfl ⟨rfl, rfl, rfl, rfl, rfl, trivial⟩ ?_
        rw [← keptTo_no hct]
        refine rw_round (k + 1, A1, c1) (by show k + 1 ≤ _; omega) (by show _ - _ < _ - _; omega) ⟨rfl, rfl, rfl, rfl, rfl, trivial⟩ (by first | exact fun _ h => h | exact fun _ h => h.msub (by repeat (first | exact .z | refine .s (by first | exact .a | exact .b | exact .c | exact .d | exact .e | exact .s .e | exact .s (.s .e) | exact .s (.s (.s .e))) ?_)))
  · obtain rfl : k = l.length := by omega
    rw [thenF_all hin]
    refine cw_exit (xw_thenx (xw_thenx (xw_blk (xw_then ?_))))
    refine cw_seq ?_
    refine cw_region ?_
    refine rw_run tab_ok 4 [(4, _), (5, _)] rfl ⟨rfl, rfl, trivial⟩ ?_
    refine rw_end ?_
    refine cw_ret ?_
    refine xw_ret2 Try.results43 (rv_tmp rfl) (rv_tmp rfl) ?_
    intro w hw
    exact ⟨((A1, c1), (some ⟨gis, 0, none⟩, refs.length)), trivial, by simp, by simpa using hw.perm (List.Perm.swap ..)⟩

theorem keepE_bad {l : List (List Int)} {refs : List Int} (h : ¬ checkB l = 0) : keepE l refs = checkB l := by unfold keepE; rw [if_neg h]
set_option maxRecDepth 100000 in
theorem keepB2 (A Ar : Option Addr) (c cr : Nat) (l : List (List Int)) (refs : List Int) (w : World) (hs : Sl w (.slice A l.length c) l) (hrs : Sl w (.slice Ar refs.length cr) refs) (hby : refs.length * 8 ≤ 140737488355328) :
    Calls Try.prog 34 #[.slice A l.length c, .slice Ar refs.length cr] w fun e w' => ∃ p : (Option Addr × Nat) × Option Addr × Nat, True ∧ e = .returned (.tuple #[.slice p.1.1 (keepL l refs).length p.1.2, .slice p.2.1 (keepR l refs).length p.2.2, .int .i64 (keepE l refs)]) ∧
      Cw w.heap.size w [ROw (.slice p.2.1 (keepR l refs).length p.2.2) (keepR l refs), ROw (.slice p.1.1 (keepL l refs).length p.1.2) (keepL l refs)] w' := by
  have b1 := len_bd hs
  refine enter Try.func34 rfl Try.ntmps34 rfl ?_
  refine cw_seq ?_
  refine cw_region ?_
  refine rw_op (ot_box rfl rfl rfl) rfl rfl (fun g1 _ => ?_)
  refine rw_run tab_ok 3 [(1, _), (2, _)] rfl ⟨rfl, rfl, trivial⟩ ?_
  refine rw_end ?_
  refine cw_seq ?_
  refine cw_region ?_
  refine rw_s (qs_ldb (by first | exact .a | exact .b | exact .c | exact .d | exact .e | exact .s .e | exact .s (.s .e) | exact .s (.s (.s .e))) Try.isAgg39 rfl rfl (by rfl)) rfl rfl ?_
  refine rw_op (ot_c0 rfl rfl rfl Try.call32 (fun w hw => checkB_any _ l w (hw.ro hs))) rfl rfl (fun _ _ => ?_)
  refine rw_run tab_ok 1 [(1, _), (2, _), (7, _)] rfl ⟨rfl, rfl, rfl, trivial⟩ ?_
  refine rw_end ?_
  refine cw_cut (fun _ : Unit => True) (fun _ => [(1, .slice Ar refs.length cr), (2, .pointer (some ⟨g1, 0, none⟩)), (7, .int .i64 (keepE l refs))]) (fun _ => [RBox g1 [.slice A l.length c] 39]) ?_ ?_
  · refine cw_seq ?_
    refine cw_region ?_
    refine rw_run tab_ok 3 [(1, _), (2, _), (7, _), (14, _)] rfl ⟨rfl, rfl, rfl, rfl, trivial⟩ ?_
    refine rw_split (t := 14) rfl (fun hz => ?_) (fun hz => ?_)
    · have hz := of_decide_eq_true hz
      have hE := keepE_eq (refs := refs) rfl hz
      refine rw_run tab_ok 2 [(1, _), (2, _), (7, _), (14, _), (15, _), (16, _)] rfl ⟨rfl, rfl, rfl, rfl, rfl, rfl, trivial⟩ ?_
      refine rw_op (ot_c0 rfl rfl rfl Try.call90 (fun w hw => containsf_int _ refs 93 #[.pointer (some ⟨g1, 0, none⟩)] (outP l.length) w (hw.ro hrs) enters_out (fun x _ w2 hw2 => out_any x g1 l.length c A w2 ((hw2.cell (p := ⟨g1, 0, none⟩) (box_lt hw .a)).trans (box_cell .a rfl w hw)) b1))) rfl rfl (fun _ _ => ?_)
      refine rw_run tab_ok 1 [(1, _), (2, _), (7, _), (18, _)] rfl ⟨rfl, rfl, rfl, rfl, trivial⟩ ?_
      refine rw_end ?_
      refine cw_cond rfl (fun hany => ?_) (fun hany => ?_)
      · have hE3 : (3 : Int) = keepE l refs := by rw [hE, hany]; rfl
        refine cw_region ?_
        refine rw_run tab_ok 1 [(1, _), (2, _), (7, _)] rfl ⟨rfl, rfl, rfl, trivial⟩ ?_
        rw [hE3]
        refine rw_join () (trivial) ⟨rfl, rfl, rfl, trivial⟩ (by first | exact fun _ h => h | exact fun _ h => h.msub (by repeat (first | exact .z | refine .s (by first | exact .a | exact .b | exact .c | exact .d | exact .e | exact .s .e | exact .s (.s .e) | exact .s (.s (.s .e))) ?_)))
      · have hE0 : checkB l = keepE l refs := by rw [hE, hany, hz]; rfl
        refine cw_skip ?_
        rw [hE0]
        refine xw_join () (trivial) ⟨rfl, rfl, rfl, trivial⟩ (by first | exact fun _ h => h | exact fun _ h => h.msub (by repeat (first | exact .z | refine .s (by first | exact .a | exact .b | exact .c | exact .d | exact .e | exact .s .e | exact .s (.s .e) | exact .s (.s (.s .e))) ?_)))
    · have hz := of_decide_eq_false hz
      have hE0 : checkB l = keepE l refs := (keepE_bad hz).symm
      refine rw_run tab_ok 4 [(1, _), (2, _), (7, _), (18, _)] rfl ⟨rfl, rfl, rfl, rfl, trivial⟩ ?_
      refine rw_end ?_
      refine cw_cond_f rfl ?_
      refine cw_skip ?_
      rw [hE0]
      refine xw_join () (trivial) ⟨rfl, rfl, rfl, trivial⟩ (by first | exact fun _ h => h | exact fun _ h => h.msub (by repeat (first | exact .z | refine .s (by first | exact .a | exact .b | exact .c | exact .d | exact .e | exact .s .e | exact .s (.s .e) | exact .s (.s (.s .e))) ?_)))
  · rintro _ _
    refine cw_seq ?_
    refine cw_seq ?_
    refine cw_region ?_
    refine rw_run tab_ok 2 [(1, _), (2, _), (7, _), (20, _)] rfl ⟨rfl, rfl, rfl, rfl, trivial⟩ ?_
    refine rw_end ?_
    refine cw_condN rfl (fun hE => ?_) (fun hE => ?_)
    · refine cw_seq ?_
      refine cw_region ?_
      refine rw_run tab_ok 4 [(4, _), (5, _), (6, _)] rfl ⟨rfl, rfl, rfl, trivial⟩ ?_
      refine rw_end ?_
      refine cw_ret (xw_thenr ?_)
      refine xw_ret3 Try.results34 (rv_tmp rfl) (rv_tmp rfl) (rv_tmp rfl) ?_
      intro w hw
      refine ⟨((none, 0), (none, 0)), trivial, ?_, ?_⟩
      · simp [keepL, keepR, hE]
      · simp only [keepL, keepR, if_neg hE]
        exact ((Cw.nilO (List Int) hw.tail).nilO Int)
    · have hi := keepE_in hE
      refine cw_skip (xw_then ?_)
      refine cw_seq ?_
      refine cw_region ?_
      refine rw_s (qs_ldb (by first | exact .a | exact .b | exact .c | exact .d | exact .e | exact .s .e | exact .s (.s .e) | exact .s (.s (.s .e))) Try.isAgg39 rfl rfl (by rfl)) rfl rfl ?_
      refine rw_run tab_ok 1 [(23, _), (24, _)] rfl ⟨rfl, rfl, trivial⟩ ?_
      refine rw_op (ot_c rfl rfl rfl Try.call94 (fun w hw => kept2 A Ar c cr l refs w (hw.ro hs) (hw.ro hrs) (Fit.of_check hi.1) hi.2 hby)) rfl rfl (fun ⟨⟨A2, c2⟩, A3, c3⟩ _ => ?_)
      dsimp only
      refine rw_run tab_ok 5 [(8, _), (9, _)] rfl ⟨rfl, rfl, trivial⟩ ?_
      refine rw_end ?_
      refine cw_seq ?_
      refine cw_region ?_
      refine rw_run tab_ok 5 [(4, _), (5, _), (6, _)] rfl ⟨rfl, rfl, rfl, trivial⟩ ?_
      refine rw_end ?_
      refine cw_ret ?_
      refine xw_ret3 Try.results34 (rv_tmp rfl) (rv_tmp rfl) (rv_tmp rfl) ?_
      intro w hw
      refine ⟨((A2, c2), (A3, c3)), trivial, ?_, ?_⟩
      · simp [keepL, keepR, hE]
      · simp only [keepL, keepR, if_pos hE]
        exact (hw.perm (.cons _ (.swap ..)) |>.perm (.swap ..)).tail
end Go.Proofs.Ytjojipeodionmaa
