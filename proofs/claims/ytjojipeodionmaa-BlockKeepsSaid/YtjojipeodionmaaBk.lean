/- Blocks that are kept: the program's and the document's, with whose memory the answers are. -/
import Derived.Test.YtjojipeodionmaaTab
import Derived.Test.YtjojipeodionmaaW6
import Derived.Test.YtjojipeodionmaaRbl4
namespace Go.Proofs.Ytjojipeodionmaa
open Go.RowKit

theorem isTo_start (l : List (List Int)) (refs : List Int) : List.replicate (l.length + 1) 0 = isTo l refs 0 := rfl
theorem I64_nat {k : Nat} (h : k ≤ 9223372036854775807) : I64 (k : Int) := by unfold I64; omega
set_option maxRecDepth 100000 in
theorem kept2 (A Ar : Option Addr) (c cr : Nat) (l : List (List Int)) (refs : List Int) (w : World) (hs : Sl w (.slice A l.length c) l) (hrs : Sl w (.slice Ar refs.length cr) refs) (hfit : Fit l) (hin : ∀ r ∈ refs, 0 ≤ r ∧ r ≤ l.length) (hby : refs.length * 8 ≤ 140737488355328) :
    Calls Try.prog 94 #[.slice A l.length c, .slice Ar refs.length cr] w fun e w' => ∃ p : (Option Addr × Nat) × Option Addr × Nat, True ∧ e = .returned (.tuple #[.slice p.1.1 (keptTo l refs l.length).length p.1.2, .slice p.2.1 (refs.map (keptN l refs)).length p.2.2]) ∧
      Cw w.heap.size w [ROw (.slice p.2.1 (refs.map (keptN l refs)).length p.2.2) (refs.map (keptN l refs)), ROw (.slice p.1.1 (keptTo l refs l.length).length p.1.2) (keptTo l refs l.length)] w' := by
  have b1 := len_bd hs
  have b2 := hfit.1
  have b3 := len_bd hrs
  refine enter Try.func94 rfl Try.ntmps94 rfl ?_
  refine cw_seq ?_
  refine cw_region ?_
  refine rw_run tab_ok 2 [(0, _), (1, _)] rfl ⟨rfl, rfl, trivial⟩ ?_
  refine rw_end ?_
  refine cw_seq ?_
  refine cw_region ?_
  refine rw_run tab_ok 1 [(0, _), (1, _), (6, _)] rfl ⟨rfl, rfl, rfl, trivial⟩ ?_
  refine rw_end ?_
  refine cw_seq ?_
  refine cw_region ?_
  refine rw_run tab_ok 1 [(0, _), (1, _), (6, _), (13, _)] rfl ⟨rfl, rfl, rfl, rfl, trivial⟩ ?_
  refine rw_s (qs_len Try.underlying39 rfl rfl) rfl rfl ?_
  refine rw_s (qs_add rfl rfl rfl (by omega)) rfl rfl ?_
  refine rw_op (ot_make (α := Int) (m := l.length + 1) 0 Try.underlying41 Try.infoInt rfl (fun w => ⟨⟨rfl, by simp [I64]⟩, fun _ h => h⟩) rfl (by omega) rfl rfl rfl) rfl rfl (fun gis _ => ?_)
  refine rw_run tab_ok 1 [(0, _), (1, _), (6, _), (7, _)] rfl ⟨rfl, rfl, rfl, rfl, trivial⟩ ?_
  refine rw_end ?_
  refine cw_seq ?_
  refine cw_seq ?_
  refine cw_region ?_
  refine rw_run tab_ok 1 [(1, _), (6, _), (7, _), (17, _)] rfl ⟨rfl, rfl, rfl, rfl, trivial⟩ ?_
  refine rw_s (qs_len Try.underlying39 rfl rfl) rfl rfl ?_
  refine rw_run tab_ok 1 [(1, _), (6, _), (7, _), (17, _), (18, _), (19, _)] rfl ⟨rfl, rfl, rfl, rfl, rfl, rfl, trivial⟩ ?_
  refine rw_end ?_
  refine cw_mem (fun w h => Cw.nilO (List Int) h) ?_
  refine cw_block (cw_loop (fun g : Nat × Option Addr × Nat => g.1 ≤ l.length) (fun g => l.length - g.1) (fun g => [(1, .slice Ar refs.length cr), (6, .slice g.2.1 (keptTo l refs g.1).length g.2.2), (7, .slice (some ⟨gis, 0, none⟩) (l.length + 1) (l.length + 1)), (17, .slice A l.length c), (18, .int .i64 (l.length : Int)), (19, .int .i64 (g.1 : Int))]) (fun g => [ROw (.slice g.2.1 (keptTo l refs g.1).length g.2.2) (keptTo l refs g.1), ROw (.slice (some ⟨gis, 0, none⟩) (l.length + 1) (l.length + 1)) (isTo l refs g.1)]) (0, none, 0) (Nat.zero_le _) ⟨rfl, rfl, rfl, rfl, rfl, rfl, trivial⟩ (by first | exact fun _ h => h | exact fun _ h => h.msub (by repeat (first | exact .z | refine .s (by first | exact .a | exact .b | exact .c | exact .d | exact .e | exact .s .e | exact .s (.s .e) | exact .s (.s (.s .e))) ?_))) ?_)
  rintro ⟨k, A1, c1⟩ hk'
  dsimp only
  have hk : k ≤ l.length := hk'
  have hkl := keptTo_len l refs k
  refine cw_seq ?_
  refine cw_region ?_
  refine rw_run tab_ok 1 [(1, _), (6, _), (7, _), (17, _), (18, _), (19, _), (20, _)] rfl ⟨rfl, rfl, rfl, rfl, rfl, rfl, rfl, trivial⟩ ?_
  refine rw_end ?_
  refine cw_seq ?_
  refine cw_condD rfl (fun h => ?_) (fun h => ?_)
  · have hlt : k < l.length := by omega
    obtain ⟨A2, c2, hb, hc2⟩ := hs.sub hlt
    have hfk := hfit.at_ k
    refine cw_skip (xw_then ?_)
    refine cw_seq ?_
    refine cw_block ?_
    refine cw_seq ?_
    refine cw_region ?_
    refine rw_run tab_ok 1 [(1, _), (6, _), (7, _), (17, _), (18, _), (19, _), (21, _)] rfl ⟨rfl, rfl, rfl, rfl, rfl, rfl, rfl, trivial⟩ ?_
    refine rw_s (qs_idx Try.underlying39 Try.sizeOf41 (.ro hs) (by omega) rfl rfl rfl) rfl rfl ?_
    refine rw_s (qs_ld (hc2 _) rfl rfl Try.isAgg41) rfl rfl ?_
    refine rw_run tab_ok 2 [(1, _), (6, _), (7, _), (8, _), (9, _), (17, _), (18, _), (19, _)] rfl ⟨rfl, rfl, rfl, rfl, rfl, rfl, rfl, rfl, trivial⟩ ?_
    refine rw_end ?_
    refine cw_seq ?_
    refine cw_region ?_
    refine rw_run tab_ok 2 [(1, _), (6, _), (7, _), (8, _), (9, _), (17, _), (18, _), (19, _), (24, _), (25, _)] rfl ⟨rfl, rfl, rfl, rfl, rfl, rfl, rfl, rfl, rfl, rfl, trivial⟩ ?_
    refine rw_s (qs_add rfl rfl rfl (by omega)) rfl rfl ?_
    refine rw_op (ot_c0 rfl rfl rfl Try.call106 ((fun w hw => cbelow ((fun w hw => contains_int _ refs _ w (hw.ro hrs)) w hw)))) rfl rfl (fun _ _ => ?_)
    refine rw_end ?_
    refine cw_cond rfl (fun hct => ?_) (fun hct => ?_)
    · refine cw_seq ?_
      refine cw_region ?_
      refine rw_run tab_ok 2 [(1, _), (7, _), (8, _), (17, _), (18, _), (19, _), (28, _), (29, _)] rfl ⟨rfl, rfl, rfl, rfl, rfl, rfl, rfl, rfl, trivial⟩ ?_
      refine rw_op (ot_cO rfl rfl rfl Try.call121 (fun w hw => clone_any _ _ w (hw.ro hb) (by omega))) rfl rfl (fun ⟨A3, c3⟩ _ => ?_)
      dsimp only
      refine rw_op (ot_bsl (cs := [_]) Try.underlying39 Try.sizeOf41 Try.zeroValue41 rfl rfl rfl rfl rfl) rfl rfl (fun g1 _ => ?_)
      refine rw_op (ot_app1 (α := List Int) (bytes := 24) (l.getD k []) [ROw _ (l.getD k [])] (keptTo_yes hct) Try.underlying39 (info_ex Try.infoInts) rfl (perm3 .c .a .a) hel_sl (by omega) (by omega) rfl rfl rfl) rfl rfl (fun ⟨A4, c4⟩ _ => ?_)
      dsimp only
      refine rw_run tab_ok 1 [(1, _), (6, _), (7, _), (8, _), (17, _), (18, _), (19, _)] rfl ⟨rfl, rfl, rfl, rfl, rfl, rfl, rfl, trivial⟩ ?_
      refine rw_end ?_
      refine cw_region ?_
      refine rw_run tab_ok 2 [(1, _), (6, _), (7, _), (17, _), (18, _), (19, _), (33, _), (34, _)] rfl ⟨rfl, rfl, rfl, rfl, rfl, rfl, rfl, rfl, trivial⟩ ?_
      refine rw_s (qs_add rfl rfl rfl (by omega)) rfl rfl ?_
      refine rw_run tab_ok 1 [(1, _), (6, _), (7, _), (17, _), (18, _), (19, _), (33, _), (35, _), (36, _)] rfl ⟨rfl, rfl, rfl, rfl, rfl, rfl, rfl, rfl, rfl, trivial⟩ ?_
      refine rw_s (qs_len Try.underlying39 rfl rfl) rfl rfl ?_
      have hkl2 := keptTo_len l refs (k + 1)
      refine rw_s (qs_idx (k := k + 1) Try.underlying41 Try.sizeOf3 (.own (isTo_len _ _ _) .b) (by omega) rfl rfl rfl) rfl rfl ?_
      refine rw_op (ot_stI (k := k + 1) (isTo_yes hct) .b (by omega) (I64_nat (by omega)) Try.sizeOf3 rfl rfl rfl) rfl rfl (fun _ _ => ?_)
      refine rw_endx (xw_blkn (xw_then ?_))
      refine cw_region ?_
      refine rw_s (qs_add rfl rfl rfl (by omega)) rfl rfl ?_
      refine rw_run tab_ok 1 [(1, _), (6, _), (7, _), (17, _), (18, _), (19, _)] rfl ⟨rfl, rfl, rfl, rfl, rfl, rfl, trivial⟩ ?_
      refine rw_round (k + 1, A4, c4) (by show k + 1 ≤ _; omega) (by show _ - _ < _ - _; omega) ⟨rfl, rfl, rfl, rfl, rfl, rfl, trivial⟩ (fun _ h => h.perm (List.Perm.swap ..))
    · refine cw_skip (xw_blkn (xw_then ?_))
      refine cw_region ?_
      refine rw_s (qs_add rfl rfl rfl (by omega)) rfl rfl ?_
      refine rw_run tab_ok 1 [(1, _), (6, _), (7, _), (17, _), (18, _), (19, _)] rfl ⟨rfl, rfl, rfl, rfl, rfl, rfl, trivial⟩ ?_
      rw [← keptTo_no hct, ← isTo_no hct]
      refine rw_round (k + 1, A1, c1) (by show k + 1 ≤ _; omega) (by show _ - _ < _ - _; omega) ⟨rfl, rfl, rfl, rfl, rfl, rfl, trivial⟩ (by first | exact fun _ h => h | exact fun _ h => h.msub (by repeat (first | exact .z | refine .s (by first | exact .a | exact .b | exact .c | exact .d | exact .e | exact .s .e | exact .s (.s .e) | exact .s (.s (.s .e))) ?_)))
  · obtain rfl : k = l.length := by omega
    refine cw_exit (xw_thenx (xw_thenx (xw_blk (xw_then ?_))))
    refine cw_seq ?_
    refine cw_region ?_
    refine rw_run tab_ok 1 [(1, _), (6, _), (7, _), (10, _)] rfl ⟨rfl, rfl, rfl, rfl, trivial⟩ ?_
    refine rw_end ?_
    refine cw_seq ?_
    refine cw_seq ?_
    refine cw_region ?_
    refine rw_run tab_ok 1 [(6, _), (7, _), (10, _), (40, _)] rfl ⟨rfl, rfl, rfl, rfl, trivial⟩ ?_
    refine rw_s (qs_len Try.underlying41 rfl rfl) rfl rfl ?_
    refine rw_run tab_ok 1 [(6, _), (7, _), (10, _), (40, _), (41, _), (42, _)] rfl ⟨rfl, rfl, rfl, rfl, rfl, rfl, trivial⟩ ?_
    refine rw_end ?_
    refine cw_mem (fun w h => Cw.nilO Int h) ?_
    refine cw_block (cw_loop (fun g : Nat × Option Addr × Nat => g.1 ≤ refs.length) (fun g => refs.length - g.1) (fun g => [(6, .slice A1 (keptTo l refs l.length).length c1), (7, .slice (some ⟨gis, 0, none⟩) (l.length + 1) (l.length + 1)), (10, .slice g.2.1 ((refs.map (keptN l refs)).take g.1).length g.2.2), (40, .slice Ar refs.length cr), (41, .int .i64 (refs.length : Int)), (42, .int .i64 (g.1 : Int))]) (fun g => [ROw (.slice g.2.1 ((refs.map (keptN l refs)).take g.1).length g.2.2) ((refs.map (keptN l refs)).take g.1), ROw (.slice A1 (keptTo l refs l.length).length c1) (keptTo l refs l.length), ROw (.slice (some ⟨gis, 0, none⟩) (l.length + 1) (l.length + 1)) (isTo l refs l.length)]) (0, none, 0) (Nat.zero_le _) ⟨rfl, rfl, rfl, rfl, rfl, rfl, trivial⟩ (by first | exact fun _ h => h | exact fun _ h => h.msub (by repeat (first | exact .z | refine .s (by first | exact .a | exact .b | exact .c | exact .d | exact .e | exact .s .e | exact .s (.s .e) | exact .s (.s (.s .e))) ?_))) ?_)
    rintro ⟨i, A5, c5⟩ hi'
    dsimp only
    have hi : i ≤ refs.length := hi'
    refine cw_seq ?_
    refine cw_region ?_
    refine rw_run tab_ok 1 [(6, _), (7, _), (10, _), (40, _), (41, _), (42, _), (43, _)] rfl ⟨rfl, rfl, rfl, rfl, rfl, rfl, rfl, trivial⟩ ?_
    refine rw_end ?_
    refine cw_seq ?_
    refine cw_condD rfl (fun h2 => ?_) (fun h2 => ?_)
    · have hlt : i < refs.length := by omega
      have hm : refs.getD i 0 ∈ refs := mem_getD hlt
      have hr := hin _ hm
      have hat := isTo_at hm hr.1 hr.2
      have hval : (refs.map (keptN l refs)).getD i 0 = keptN l refs (refs.getD i 0) := by
        rw [List.getD_eq_getElem?_getD, List.getElem?_map, List.getElem?_eq_getElem hlt, List.getD_eq_getElem?_getD, List.getElem?_eq_getElem hlt]; rfl
      have hsn : (refs.map (keptN l refs)).take (i + 1) = (refs.map (keptN l refs)).take i ++ [keptN l refs (refs.getD i 0)] := by
        rw [take_snoc _ i 0 (by rw [List.length_map]; exact hlt), hval]
      have hlen : ((refs.map (keptN l refs)).take i).length ≤ i := by rw [List.length_take]; omega
      have hir : I64 (keptN l refs (refs.getD i 0)) := by
        unfold keptN
        split
        · simp [I64]
        · have := keptTo_len l refs (refs.getD i 0).toNat
          unfold I64
          omega
      refine cw_skip (xw_then ?_)
      refine cw_seq ?_
      refine cw_block ?_
      refine cw_seq ?_
      refine cw_region ?_
      refine rw_s (qs_idx Try.underlying41 Try.sizeOf3 (.ro hrs) (by omega) rfl rfl rfl) rfl rfl ?_
      refine rw_s (qs_ld (SF.int (.ro hrs) (by omega)) rfl rfl Try.isAgg3) rfl rfl ?_
      refine rw_run tab_ok 1 [(6, _), (7, _), (10, _), (12, _), (40, _), (41, _), (42, _)] rfl ⟨rfl, rfl, rfl, rfl, rfl, rfl, rfl, trivial⟩ ?_
      refine rw_end ?_
      refine cw_region ?_
      refine rw_run tab_ok 3 [(6, _), (7, _), (40, _), (41, _), (42, _), (46, _), (47, _), (48, _)] rfl ⟨rfl, rfl, rfl, rfl, rfl, rfl, rfl, rfl, trivial⟩ ?_
      refine rw_s (qs_idxI Try.underlying41 Try.sizeOf3 (.own (isTo_len _ _ _) .c) (by omega) rfl rfl rfl) rfl rfl ?_
      refine rw_s (qs_ld (SF.int (.own (isTo_len _ _ _) .c) (by omega)) rfl rfl Try.isAgg3) rfl rfl ?_
      refine rw_op (ot_bsl (cs := [_]) Try.underlying41 Try.sizeOf3 Try.zeroValue3 rfl rfl rfl rfl rfl) rfl rfl (fun g2 _ => ?_)
      rw [hat]
      refine rw_op (ot_app1 (α := Int) (bytes := 8) (keptN l refs (refs.getD i 0)) [] hsn Try.underlying41 (info_ex Try.infoInt) rfl (perm2 .b .a) (hel_int hir) (by omega) (by omega) rfl rfl rfl) rfl rfl (fun ⟨A6, c6⟩ _ => ?_)
      dsimp only
      refine rw_run tab_ok 1 [(6, _), (7, _), (10, _), (40, _), (41, _), (42, _)] rfl ⟨rfl, rfl, rfl, rfl, rfl, rfl, trivial⟩ ?_
      refine rw_endx (xw_blkn (xw_then ?_))
      refine cw_region ?_
      refine rw_s (qs_add rfl rfl rfl (by omega)) rfl rfl ?_
      refine rw_run tab_ok 1 [(6, _), (7, _), (10, _), (40, _), (41, _), (42, _)] rfl ⟨rfl, rfl, rfl, rfl, rfl, rfl, trivial⟩ ?_
      refine rw_round (i + 1, A6, c6) (by show i + 1 ≤ _; omega) (by show _ - _ < _ - _; omega) ⟨rfl, rfl, rfl, rfl, rfl, rfl, trivial⟩ (by first | exact fun _ h => h | exact fun _ h => h.msub (by repeat (first | exact .z | refine .s (by first | exact .a | exact .b | exact .c | exact .d | exact .e | exact .s .e | exact .s (.s .e) | exact .s (.s (.s .e))) ?_)))
    · obtain rfl : i = refs.length := by omega
      rw [show (refs.map (keptN l refs)).take refs.length = refs.map (keptN l refs) from List.take_of_length_le (by simp)]
      refine cw_exit (xw_thenx (xw_thenx (xw_blk (xw_then ?_))))
      refine cw_seq ?_
      refine cw_region ?_
      refine rw_run tab_ok 4 [(4, _), (5, _)] rfl ⟨rfl, rfl, trivial⟩ ?_
      refine rw_end ?_
      refine cw_ret ?_
      refine xw_ret2 Try.results94 (rv_tmp rfl) (rv_tmp rfl) ?_
      intro w hw
      exact ⟨((A1, c1), (A5, c5)), trivial, rfl, Cw.tail (hw.perm (Foc.s (Foc.s Foc.a)))⟩
end Go.Proofs.Ytjojipeodionmaa
