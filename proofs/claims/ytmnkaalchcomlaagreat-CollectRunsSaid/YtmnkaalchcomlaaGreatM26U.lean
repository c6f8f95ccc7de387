/- Texts of one proof, one behind the other: lemmas alone. -/
import Derived.Deep.QuietTactic
import Derived.BigQuiet
import Derived.Test.YtmnkaalchcomlaaGreatM18U
import Derived.Test.YtmnkaalchcomlaaGreatM14U
import Derived.Test.YtmnkaalchcomlaaGreatM16U
import Derived.Test.YtmnkaalchcomlaaGreatM23U

-- Bk
/- Blocks that are kept: the program's and the document's, with whose memory the answers are. -/
namespace Go.Proofs.YtmnkaalchcomlaaGreat
open Go.RowKit
theorem I64_nat {k : Nat} (h : k ≤ 9223372036854775807) : I64 (k : Int) := by unfold I64; omega
set_option maxRecDepth 100000 in
theorem kept2 (A Ar : Option Addr) (c cr : Nat) (l : List (List Int)) (refs : List Int) (w : World) (hs : Sl w (.slice A l.length c) l) (hrs : Sl w (.slice Ar refs.length cr) refs) (hfit : Fit l) (hin : ∀ r ∈ refs, 0 ≤ r ∧ r ≤ l.length) (hby : refs.length * 8 ≤ 140737488355328) :
  Calls Tryz.prog 149 #[.slice A l.length c, .slice Ar refs.length cr] w fun e w' => ∃ p : (Option Addr × Nat) × Option Addr × Nat, True ∧ e = .returned (.tuple #[.slice p.1.1 (keptTo l refs l.length).length p.1.2, .slice p.2.1 (refs.map (keptN l refs)).length p.2.2]) ∧
   Cw w.heap.size w [ROw (.slice p.2.1 (refs.map (keptN l refs)).length p.2.2) (refs.map (keptN l refs)), ROw (.slice p.1.1 (keptTo l refs l.length).length p.1.2) (keptTo l refs l.length)] w' := by
 have b1 := len_bd hs
 have b2 := hfit.1
 have b3 := len_bd hrs
 refine enter Tryz.func149 rfl Tryz.ntmps149 rfl ?_
 refine cw_seq ?_
 refine cw_region ?_
 refine rw_run tab_ok 2 [(0, _), (1, _)] rfl ⟨rfl, rfl, trivial⟩ ?_
 refine rw_end ?_
 refine cw_seq ?_
 refine cw_region ?_
 refine rw_run tab_ok 1 [(0, _), (1, _), (6, _)] rfl ⟨rfl, rfl, rfl, trivial⟩ ?_
 refine rw_end ?_
 refine cw_seq ?_
 refine cw_region ?_
 refine rw_run tab_ok 1 [(0, _), (1, _), (6, _), (13, _)] rfl ⟨rfl, rfl, rfl, rfl, trivial⟩ ?_
 refine rw_s (qs_len Tryz.underlying26 rfl rfl) rfl rfl ?_
 refine rw_s (qs_add rfl rfl rfl (by omega)) rfl rfl ?_
 refine rw_op (ot_make (α := Int) (m := l.length + 1) 0 Tryz.underlying27 Tryz.infoInt rfl (fun w => ⟨⟨rfl, by simp [I64]⟩, fun _ h => h⟩) rfl (by omega) rfl rfl rfl) rfl rfl (fun gis _ => ?_)
 refine rw_run tab_ok 1 [(0, _), (1, _), (6, _), (7, _)] rfl ⟨rfl, rfl, rfl, rfl, trivial⟩ ?_
 refine rw_end ?_
 refine cw_seq ?_
 refine cw_seq ?_
 refine cw_region ?_
 refine rw_run tab_ok 1 [(1, _), (6, _), (7, _), (17, _)] rfl ⟨rfl, rfl, rfl, rfl, trivial⟩ ?_
 refine rw_s (qs_len Tryz.underlying26 rfl rfl) rfl rfl ?_
 refine rw_run tab_ok 1 [(1, _), (6, _), (7, _), (17, _), (18, _), (19, _)] rfl ⟨rfl, rfl, rfl, rfl, rfl, rfl, trivial⟩ ?_
 refine rw_end ?_
 refine cw_mem (fun w h => Cw.nilO (List Int) h) ?_
 refine cw_block (cw_loop (fun g : Nat × Option Addr × Nat => g.1 ≤ l.length) (fun g => l.length - g.1) (fun g => [(1, .slice Ar refs.length cr), (6, .slice g.2.1 (keptTo l refs g.1).length g.2.2), (7, .slice (some ⟨gis, 0, none⟩) (l.length + 1) (l.length + 1)), (17, .slice A l.length c), (18, .int .i64 (l.length : Int)), (19, .int .i64 (g.1 : Int))]) (fun g => [ROw (.slice g.2.1 (keptTo l refs g.1).length g.2.2) (keptTo l refs g.1), ROw (.slice (some ⟨gis, 0, none⟩) (l.length + 1) (l.length + 1)) (isTo l refs g.1)]) (0, none, 0) (Nat.zero_le _) ⟨rfl, rfl, rfl, rfl, rfl, rfl, trivial⟩ me ?_)
 rintro ⟨k, A1, c1⟩ hk'
 try dsimp only
 have hk : k ≤ l.length := hk'
 have hkl := keptTo_len l refs k
 refine cw_seq ?_
 refine cw_region ?_
 refine rw_run tab_ok 1 [(1, _), (6, _), (7, _), (17, _), (18, _), (19, _), (20, _)] rfl ⟨rfl, rfl, rfl, rfl, rfl, rfl, rfl, trivial⟩ ?_
 refine rw_end ?_
 refine cw_seq ?_
 refine cw_condD rfl (fun h => ?_) (fun h => ?_)
 ·have hlt : k < l.length := by omega
  obtain ⟨A2, c2, hb, hc2⟩ := hs.sub hlt
  have hfk := hfit.at_ k
  refine cw_skip (xw_then ?_)
  refine cw_seq ?_
  refine cw_block ?_
  refine cw_seq ?_
  refine cw_region ?_
  refine rw_run tab_ok 1 [(1, _), (6, _), (7, _), (17, _), (18, _), (19, _), (21, _)] rfl ⟨rfl, rfl, rfl, rfl, rfl, rfl, rfl, trivial⟩ ?_
  refine rw_s (qs_idx Tryz.underlying26 Tryz.sizeOf27 (.ro hs) (by omega) rfl rfl rfl) rfl rfl ?_
  refine rw_s (qs_ld (hc2 _) rfl rfl Tryz.isAgg27) rfl rfl ?_
  refine rw_run tab_ok 2 [(1, _), (6, _), (7, _), (8, _), (9, _), (17, _), (18, _), (19, _)] rfl ⟨rfl, rfl, rfl, rfl, rfl, rfl, rfl, rfl, trivial⟩ ?_
  refine rw_end ?_
  refine cw_seq ?_
  refine cw_region ?_
  refine rw_run tab_ok 2 [(1, _), (6, _), (7, _), (8, _), (9, _), (17, _), (18, _), (19, _), (24, _), (25, _)] rfl ⟨rfl, rfl, rfl, rfl, rfl, rfl, rfl, rfl, rfl, rfl, trivial⟩ ?_
  refine rw_s (qs_add rfl rfl rfl (by omega)) rfl rfl ?_
  refine rw_op (ot_c0 rfl rfl rfl Tryz.call180 ((fun w hw => cbelow ((fun w hw => contains_int _ refs _ w (hw.ro hrs)) w hw)))) rfl rfl (fun _ _ => ?_)
  refine rw_end ?_
  refine cw_cond rfl (fun hct => ?_) (fun hct => ?_)
  ·refine cw_seq ?_
   refine cw_region ?_
   refine rw_run tab_ok 2 [(1, _), (7, _), (8, _), (17, _), (18, _), (19, _), (28, _), (29, _)] rfl ⟨rfl, rfl, rfl, rfl, rfl, rfl, rfl, rfl, trivial⟩ ?_
   refine rw_op (ot_cO rfl rfl rfl Tryz.call171 (fun w hw => clone_any _ _ w (hw.ro hb) (by omega))) rfl rfl (fun ⟨A3, c3⟩ _ => ?_)
   try dsimp only
   refine rw_op (ot_bsl (cs := [_]) Tryz.underlying26 Tryz.sizeOf27 Tryz.zeroValue27 rfl rfl rfl rfl rfl) rfl rfl (fun g1 _ => ?_)
   refine rw_op (ot_app1 (α := List Int) (bytes := 24) (l.getD k []) [ROw _ (l.getD k [])] (keptTo_yes hct) Tryz.underlying26 (info_ex Tryz.infoInts) rfl (perm3 .c .a .a) hel_sl (by omega) (by omega) rfl rfl rfl) rfl rfl (fun ⟨A4, c4⟩ _ => ?_)
   try dsimp only
   refine rw_run tab_ok 1 [(1, _), (6, _), (7, _), (8, _), (17, _), (18, _), (19, _)] rfl ⟨rfl, rfl, rfl, rfl, rfl, rfl, rfl, trivial⟩ ?_
   refine rw_end ?_
   refine cw_region ?_
   refine rw_run tab_ok 2 [(1, _), (6, _), (7, _), (17, _), (18, _), (19, _), (33, _), (34, _)] rfl ⟨rfl, rfl, rfl, rfl, rfl, rfl, rfl, rfl, trivial⟩ ?_
   refine rw_s (qs_add rfl rfl rfl (by omega)) rfl rfl ?_
   refine rw_run tab_ok 1 [(1, _), (6, _), (7, _), (17, _), (18, _), (19, _), (33, _), (35, _), (36, _)] rfl ⟨rfl, rfl, rfl, rfl, rfl, rfl, rfl, rfl, rfl, trivial⟩ ?_
   refine rw_s (qs_len Tryz.underlying26 rfl rfl) rfl rfl ?_
   have hkl2 := keptTo_len l refs (k + 1)
   refine rw_s (qs_idx (k := k + 1) Tryz.underlying27 Tryz.sizeOf3 (.own (isTo_len _ _ _) .b) (by omega) rfl rfl rfl) rfl rfl ?_
   refine rw_op (ot_stI (k := k + 1) (isTo_yes hct) .b (by omega) (I64_nat (by omega)) Tryz.sizeOf3 rfl rfl rfl) rfl rfl (fun _ _ => ?_)
   refine rw_endx (xw_blkn (xw_then ?_))
   refine cw_region ?_
   refine rw_s (qs_add rfl rfl rfl (by omega)) rfl rfl ?_
   refine rw_run tab_ok 1 [(1, _), (6, _), (7, _), (17, _), (18, _), (19, _)] rfl ⟨rfl, rfl, rfl, rfl, rfl, rfl, trivial⟩ ?_
   refine rw_round (k + 1, A4, c4) (by show k + 1 ≤ _; omega) (by show _ - _ < _ - _; omega) ⟨rfl, rfl, rfl, rfl, rfl, rfl, trivial⟩ (fun _ h => h.perm (List.Perm.swap ..))
  ·refine cw_skip (xw_blkn (xw_then ?_))
   refine cw_region ?_
   refine rw_s (qs_add rfl rfl rfl (by omega)) rfl rfl ?_
   refine rw_run tab_ok 1 [(1, _), (6, _), (7, _), (17, _), (18, _), (19, _)] rfl ⟨rfl, rfl, rfl, rfl, rfl, rfl, trivial⟩ ?_
   rw [← keptTo_no hct, ← isTo_no hct]
   refine rw_round (k + 1, A1, c1) (by show k + 1 ≤ _; omega) (by show _ - _ < _ - _; omega) ⟨rfl, rfl, rfl, rfl, rfl, rfl, trivial⟩ me
 ·obtain rfl : k = l.length := by omega
  refine cw_exit (xw_thenx (xw_thenx (xw_blk (xw_then ?_))))
  refine cw_seq ?_
  refine cw_region ?_
  refine rw_run tab_ok 1 [(1, _), (6, _), (7, _), (10, _)] rfl ⟨rfl, rfl, rfl, rfl, trivial⟩ ?_
  refine rw_end ?_
  refine cw_seq ?_
  refine cw_seq ?_
  refine cw_region ?_
  refine rw_run tab_ok 1 [(6, _), (7, _), (10, _), (40, _)] rfl ⟨rfl, rfl, rfl, rfl, trivial⟩ ?_
  refine rw_s (qs_len Tryz.underlying27 rfl rfl) rfl rfl ?_
  refine rw_run tab_ok 1 [(6, _), (7, _), (10, _), (40, _), (41, _), (42, _)] rfl ⟨rfl, rfl, rfl, rfl, rfl, rfl, trivial⟩ ?_
  refine rw_end ?_
  refine cw_mem (fun w h => Cw.nilO Int h) ?_
  refine cw_block (cw_loop (fun g : Nat × Option Addr × Nat => g.1 ≤ refs.length) (fun g => refs.length - g.1) (fun g => [(6, .slice A1 (keptTo l refs l.length).length c1), (7, .slice (some ⟨gis, 0, none⟩) (l.length + 1) (l.length + 1)), (10, .slice g.2.1 ((refs.map (keptN l refs)).take g.1).length g.2.2), (40, .slice Ar refs.length cr), (41, .int .i64 (refs.length : Int)), (42, .int .i64 (g.1 : Int))]) (fun g => [ROw (.slice g.2.1 ((refs.map (keptN l refs)).take g.1).length g.2.2) ((refs.map (keptN l refs)).take g.1), ROw (.slice A1 (keptTo l refs l.length).length c1) (keptTo l refs l.length), ROw (.slice (some ⟨gis, 0, none⟩) (l.length + 1) (l.length + 1)) (isTo l refs l.length)]) (0, none, 0) (Nat.zero_le _) ⟨rfl, rfl, rfl, rfl, rfl, rfl, trivial⟩ me ?_)
  rintro ⟨i, A5, c5⟩ hi'
  try dsimp only
  have hi : i ≤ refs.length := hi'
  refine cw_seq ?_
  refine cw_region ?_
  refine rw_run tab_ok 1 [(6, _), (7, _), (10, _), (40, _), (41, _), (42, _), (43, _)] rfl ⟨rfl, rfl, rfl, rfl, rfl, rfl, rfl, trivial⟩ ?_
  refine rw_end ?_
  refine cw_seq ?_
  refine cw_condD rfl (fun h2 => ?_) (fun h2 => ?_)
  ·have hlt : i < refs.length := by omega
   have hm : refs.getD i 0 ∈ refs := mem_getD hlt
   have hr := hin _ hm
   have hat := isTo_at hm hr.1 hr.2
   have hval : (refs.map (keptN l refs)).getD i 0 = keptN l refs (refs.getD i 0) := by
    rw [List.getD_eq_getElem?_getD, List.getElem?_map, List.getElem?_eq_getElem hlt, List.getD_eq_getElem?_getD, List.getElem?_eq_getElem hlt]; rfl
   have hsn : (refs.map (keptN l refs)).take (i + 1) = (refs.map (keptN l refs)).take i ++ [keptN l refs (refs.getD i 0)] := by
    rw [take_snoc _ i 0 (by rw [List.length_map]; exact hlt), hval]
   have hlen : ((refs.map (keptN l refs)).take i).length ≤ i := by rw [List.length_take]; omega
   have hir : I64 (keptN l refs (refs.getD i 0)) := by
    unfold keptN
    split
    ·simp [I64]
    ·have := keptTo_len l refs (refs.getD i 0).toNat
     unfold I64
     omega
   refine cw_skip (xw_then ?_)
   refine cw_seq ?_
   refine cw_block ?_
   refine cw_seq ?_
   refine cw_region ?_
   refine rw_s (qs_idx Tryz.underlying27 Tryz.sizeOf3 (.ro hrs) (by omega) rfl rfl rfl) rfl rfl ?_
   refine rw_s (qs_ld (SF.int (.ro hrs) (by omega)) rfl rfl Tryz.isAgg3) rfl rfl ?_
   refine rw_run tab_ok 1 [(6, _), (7, _), (10, _), (12, _), (40, _), (41, _), (42, _)] rfl ⟨rfl, rfl, rfl, rfl, rfl, rfl, rfl, trivial⟩ ?_
   refine rw_end ?_
   refine cw_region ?_
   refine rw_run tab_ok 3 [(6, _), (7, _), (40, _), (41, _), (42, _), (46, _), (47, _), (48, _)] rfl ⟨rfl, rfl, rfl, rfl, rfl, rfl, rfl, rfl, trivial⟩ ?_
   refine rw_s (qs_idxI Tryz.underlying27 Tryz.sizeOf3 (.own (isTo_len _ _ _) .c) (by omega) rfl rfl rfl) rfl rfl ?_
   refine rw_s (qs_ld (SF.int (.own (isTo_len _ _ _) .c) (by omega)) rfl rfl Tryz.isAgg3) rfl rfl ?_
   refine rw_op (ot_bsl (cs := [_]) Tryz.underlying27 Tryz.sizeOf3 Tryz.zeroValue3 rfl rfl rfl rfl rfl) rfl rfl (fun g2 _ => ?_)
   rw [hat]
   refine rw_op (ot_app1 (α := Int) (bytes := 8) (keptN l refs (refs.getD i 0)) [] hsn Tryz.underlying27 (info_ex Tryz.infoInt) rfl (perm2 .b .a) (hel_int hir) (by omega) (by omega) rfl rfl rfl) rfl rfl (fun ⟨A6, c6⟩ _ => ?_)
   try dsimp only
   refine rw_run tab_ok 1 [(6, _), (7, _), (10, _), (40, _), (41, _), (42, _)] rfl ⟨rfl, rfl, rfl, rfl, rfl, rfl, trivial⟩ ?_
   refine rw_endx (xw_blkn (xw_then ?_))
   refine cw_region ?_
   refine rw_s (qs_add rfl rfl rfl (by omega)) rfl rfl ?_
   refine rw_run tab_ok 1 [(6, _), (7, _), (10, _), (40, _), (41, _), (42, _)] rfl ⟨rfl, rfl, rfl, rfl, rfl, rfl, trivial⟩ ?_
   refine rw_round (i + 1, A6, c6) (by show i + 1 ≤ _; omega) (by show _ - _ < _ - _; omega) ⟨rfl, rfl, rfl, rfl, rfl, rfl, trivial⟩ me
  ·obtain rfl : i = refs.length := by omega
   rw [show (refs.map (keptN l refs)).take refs.length = refs.map (keptN l refs) from List.take_of_length_le (by simp)]
   refine cw_exit (xw_thenx (xw_thenx (xw_blk (xw_then ?_))))
   refine cw_seq ?_
   refine cw_region ?_
   refine rw_run tab_ok 4 [(4, _), (5, _)] rfl ⟨rfl, rfl, trivial⟩ ?_
   refine rw_end ?_
   refine cw_ret ?_
   refine xw_ret2 Tryz.results149 (rv_tmp rfl) (rv_tmp rfl) ?_
   intro w hw
   exact ⟨((A1, c1), (A5, c5)), trivial, rfl, Cw.tail (hw.perm (Foc.s (Foc.s Foc.a)))⟩
end Go.Proofs.YtmnkaalchcomlaaGreat
-- Lb2
/- BlockTells is true, whatever it is handed. -/
namespace Go.Proofs.YtmnkaalchcomlaaGreat
open Go.RowKit
def sizeE (l : List (List Int)) (size : Int) : Int := if checkB l = 0 ∧ size < 0 then 3 else checkB l
def keepTo (l : List (List Int)) (refs : List Int) (k : Nat) : Int := if checkB l = 0 then (if (refs.take k).any (outP l.length) then 3 else 0) else checkB l
theorem setL_get {l : List (List Int)} {ref at_ n : Int} (h : setE l ref at_ n = 0) : checkB l = 0 ∧ placeE l ref at_ = 0 ∧ isInt n = true ∧ setL l ref at_ n = put l ref at_ n := by
 unfold setL
 rw [if_pos h]
 unfold setE putE at h
 split at h
 ·rename_i h1
  split at h
  ·rename_i h2
   split at h
   ·rename_i h3; exact ⟨h1, h2, h3, rfl⟩
   ·cases h
  ·rename_i h2; exact absurd h h2
 ·rename_i h1; exact absurd h h1
theorem blocksTrue {P : Program} {f : FuncId} {args : Array Value} {w : World} {l want : List (List Int)} {e x : Int} (h : Calls P f args w fun e' w' => e' = .returned (.bool (decide (e = x) && decide (l = if x = 0 then want else []))) ∧ Below w.heap.size w w') (h1 : e = x) (h2 : l = if x = 0 then want else []) :
  Calls P f args w fun e' w' => e' = .returned (.bool true) ∧ Below w.heap.size w w' := h.mono fun _ _ ⟨h3, h4⟩ => ⟨by rw [h3, decide_eq_true h1, decide_eq_true h2]; rfl, h4⟩
end Go.Proofs.YtmnkaalchcomlaaGreat
-- Lb3
/- BlockRoom is true, whatever it is handed. -/
namespace Go.Proofs.YtmnkaalchcomlaaGreat
open Go.RowKit
def refsN (k : Nat) : List Int := (List.range k).map fun i : Nat => (i : Int) + 1
theorem refsN_has (n k : Nat) : (refsN n).contains ((k : Int) + 1) = decide (k < n) := by
 rw [Bool.eq_iff_iff]
 simp only [List.contains_iff_mem, refsN, List.mem_map, List.mem_range, decide_eq_true_eq]
 constructor
 ·rintro ⟨a, h1, h2⟩; omega
 ·intro h; exact ⟨k, h, rfl⟩
theorem keptTo_refs (m : List (List Int)) (n : Nat) (hn : n ≤ m.length) : ∀ k, k ≤ n → keptTo m (refsN n) k = m.take k
 | 0, _ => by simp [keptTo]
 | k + 1, hk => by
  rw [keptTo_yes (by rw [refsN_has]; exact decide_eq_true (by omega)), keptTo_refs m n hn k (by omega), take_snoc m k [] (by omega)]
theorem newE_zero {l : List (List Int)} {size : Int} (h : newE l size = 0) : checkB l = 0 ∧ 0 ≤ size ∧ l.length ≠ 8 ∧ size ≤ 40 - cellsN l := by
 unfold newE moreE at h
 split at h
 ·rename_i h0
  split at h
  ·cases h
  ·split at h
   ·cases h
   ·rename_i h1 h2; exact ⟨h0, by omega, by omega, by omega⟩
 ·rename_i h0; exact absurd h h0
theorem checkB_zero {l : List (List Int)} (h : checkB l = 0) : l.length ≤ 8 ∧ cellsN l ≤ 40 ∧ l.any badInts = false := by
 unfold checkB at h
 split at h
 ·cases h
 ·split at h
  ·cases h
  ·rename_i h1 h2; exact ⟨by omega, by omega, by simpa using h2⟩
theorem checkB_of {l : List (List Int)} (h1 : l.length ≤ 8) (h2 : cellsN l ≤ 40) (h3 : l.any badInts = false) : checkB l = 0 := by
 unfold checkB
 rw [if_neg (by omega), if_neg (by rw [h3]; decide)]
theorem badInts_zero (n : Nat) : badInts (List.replicate n 0) = false := by
 unfold badInts
 rw [Bool.eq_false_iff]
 intro h
 obtain ⟨x, hx, hb⟩ := List.any_eq_true.1 h
 have := List.eq_of_mem_replicate hx
 subst this
 simp [isInt] at hb
theorem checkB_new {l : List (List Int)} {size : Int} (h : newE l size = 0) : checkB (newL l size) = 0 := by
 obtain ⟨h0, h1, h2, h3⟩ := newE_zero h
 obtain ⟨h4, h5, h6⟩ := checkB_zero h0
 unfold newL
 rw [if_pos h]
 refine checkB_of (by simp; omega) ?_ ?_
 ·rw [cellsN_snoc]; simp; omega
 ·rw [List.any_append, h6]; simp [badInts_zero]
theorem run_eqBd {P : Program} {t : TypeId} (hu : P.underlying t = some .bool) (a b : Bool) (w : World) (d : Nat) : (Op.equalIn (d + 1) t (.bool a) (.bool b)).run P w = .ok (a == b) w := by
 simp [Op.equalIn, run_underlying hu]
theorem run_eqB {P : Program} {t : TypeId} (hu : P.underlying t = some .bool) (a b : Bool) (w : World) : (binOp .eql t (.bool a) (.bool b)).run P w = .ok (.bool (a == b)) w := by
 simp only [binOp, Op.equal, Op.maxDepth, Sem.run_bind]
 rw [show (10000 : Nat) = 9999 + 1 from rfl, run_eqBd hu]
 rfl
theorem qs_eqB {P : Program} {n : NF} {B : Nat} {w0 : World} {o : Oper} {env : Env} {H : List Res} {i j : Operand} {t u : TypeId} {a b : Bool} (hu : P.underlying t = some .bool) (hop : o.op = .binOp .eql t i j u) (hi : opv env i = some (.bool a)) (hj : opv env j = some (.bool b)) : QS P n B w0 o env H (.bool (a == b)) := by
 intro a' w hf hw
 unfold execOp
 have hgd : (eqGuard .eql t i j (.bool a) (.bool b)).run P w = .ok () w := by
  unfold eqGuard
  split <;> simp
 simp only [hop, hf.opv hi, hf.opv hj, Sem.run_bind, hgd, Result.andThen_ok, run_eqB hu, Sem.run_pure]
end Go.Proofs.YtmnkaalchcomlaaGreat
-- Lb4
/- BlockBack is true, whatever it is handed. -/
namespace Go.Proofs.YtmnkaalchcomlaaGreat
open Go.RowKit
theorem put_len {l : List (List Int)} {ref at_ n : Int} (i : Nat) : (put l ref at_ n).length = l.length ∧ ((put l ref at_ n).getD i []).length = (l.getD i []).length := by
 unfold put blk
 refine ⟨by simp, ?_⟩
 by_cases h1 : (ref - 1).toNat = i
 ·subst h1
  by_cases h2 : (ref - 1).toNat < l.length
  ·rw [List.getD_eq_getElem?_getD (l := l.set _ _), List.getElem?_set_self h2]; simp
  ·rw [List.set_eq_of_length_le (by omega)]
 ·rw [List.getD_eq_getElem?_getD (l := l.set _ _), List.getElem?_set_ne h1, ← List.getD_eq_getElem?_getD (l := l)]
theorem cellsN_set {l : List (List Int)} (i : Nat) (b : List Int) (hb : b.length = (l.getD i []).length) : cellsN (l.set i b) = cellsN l := by
 unfold cellsN
 induction l generalizing i with
 | nil => rfl
 | cons a l ih =>
  match i with
  | 0 => simp at hb; simp [hb]
  | i + 1 =>
   have := ih i (by simpa using hb)
   simp only [List.set_cons_succ, List.map_cons, List.sum_cons]
   rw [this]
theorem any_set {α : Type} (p : α → Bool) (l : List α) (i : Nat) (b : α) (h : l.any p = false) (hb : p b = false) : (l.set i b).any p = false := by
 rw [Bool.eq_false_iff] at *
 intro ha
 obtain ⟨x, hx, hp⟩ := List.any_eq_true.1 ha
 rcases List.mem_or_eq_of_mem_set hx with h1 | h1
 ·exact h (List.any_eq_true.2 ⟨x, h1, hp⟩)
 ·subst h1; exact hb hp
theorem checkB_set {l : List (List Int)} {ref at_ n : Int} (h : setE l ref at_ n = 0) : checkB (setL l ref at_ n) = 0 := by
 obtain ⟨h0, h1, h2, h3⟩ := setL_get h
 obtain ⟨h4, h5, h6⟩ := checkB_zero h0
 rw [h3]
 refine checkB_of (by rw [(put_len 0).1]; exact h4) (by unfold put; rw [cellsN_set _ _ (by unfold blk; simp)]; exact h5) ?_
 unfold put
 refine any_set _ _ _ _ h6 ?_
 unfold badInts
 refine any_set _ _ _ _ ?_ (by simp [h2])
 by_cases h7 : (ref - 1).toNat < l.length
 ·rw [Bool.eq_false_iff] at h6 ⊢
  intro ha
  exact h6 (List.any_eq_true.2 ⟨blk l ref, mem_getD h7, ha⟩)
 ·unfold blk; rw [List.getD_eq_getElem?_getD, List.getElem?_eq_none (by omega)]; rfl
end Go.Proofs.YtmnkaalchcomlaaGreat
-- Lb5
/- BlockKeeps is true, whatever it is handed. -/
namespace Go.Proofs.YtmnkaalchcomlaaGreat
open Go.RowKit
theorem keptTo_pre (l : List (List Int)) (refs : List Int) {k m : Nat} (h : k ≤ m) : ∃ r, keptTo l refs m = keptTo l refs k ++ r := by
  induction m with
  | zero => obtain rfl : k = 0 := by omega
            exact ⟨[], by simp⟩
  | succ m ih =>
    rcases Nat.lt_or_ge k (m + 1) with h1 | h1
    · obtain ⟨r, hr⟩ := ih (by omega)
      exact ⟨r ++ (if refs.contains ((m : Int) + 1) then [l.getD m []] else []), by rw [keptTo, hr, List.append_assoc]⟩
    · obtain rfl : k = m + 1 := by omega
      exact ⟨[], by simp⟩
theorem keptN_at {l : List (List Int)} {refs : List Int} {r : Int} (hr : r ∈ refs) (h1 : 1 ≤ r) (h2 : r ≤ l.length) :
  1 ≤ keptN l refs r ∧ keptN l refs r ≤ (keptTo l refs l.length).length ∧ (keptTo l refs l.length).getD (keptN l refs r - 1).toNat [] = l.getD (r - 1).toNat [] := by
 obtain ⟨k, hk⟩ : ∃ k : Nat, r = (k : Int) + 1 := ⟨(r - 1).toNat, by omega⟩
 subst hk
 have hc : refs.contains ((k : Int) + 1) = true := by simpa using hr
 have hy := keptTo_yes (l := l) hc
 obtain ⟨q, hq⟩ := keptTo_pre l refs (k := k + 1) (m := l.length) (by omega)
 have hN : keptN l refs ((k : Int) + 1) = (keptTo l refs k).length + 1 := by
  unfold keptN
  rw [if_neg (by omega), show ((k : Int) + 1).toNat = k + 1 from by omega, hy]
  simp
 rw [hN, hq, hy]
 refine ⟨by omega, by simp; omega, ?_⟩
 rw [show ((keptTo l refs k).length + 1 - 1 : Int).toNat = (keptTo l refs k).length from by omega, show ((k : Int) + 1 - 1).toNat = k from by omega]
 simp [List.getD_eq_getElem?_getD]
theorem keptN_hit (l : List (List Int)) (refs : List Int) : ∀ (m j : Nat), j < (keptTo l refs m).length → ∃ r ∈ refs, 1 ≤ r ∧ r ≤ m ∧ keptN l refs r = j + 1
 | 0, j, h => by simp [keptTo] at h
 | m + 1, j, h => by
  by_cases hc : refs.contains ((m : Int) + 1) = true
  ·rw [keptTo_yes hc, List.length_append, List.length_singleton] at h
   rcases Nat.lt_or_ge j (keptTo l refs m).length with h1 | h1
   ·obtain ⟨r, h2, h3, h4, h5⟩ := keptN_hit l refs m j h1
    exact ⟨r, h2, h3, by omega, h5⟩
   ·obtain rfl : j = (keptTo l refs m).length := by omega
    refine ⟨(m : Int) + 1, by simpa using hc, by omega, by omega, ?_⟩
    unfold keptN
    rw [if_neg (by omega), show ((m : Int) + 1).toNat = m + 1 from by omega, keptTo_yes hc]
    simp
  ·have hc : refs.contains ((m : Int) + 1) = false := by simpa using hc
   rw [keptTo_no hc] at h
   obtain ⟨r, h2, h3, h4, h5⟩ := keptN_hit l refs m j h
   exact ⟨r, h2, h3, by omega, h5⟩
theorem keptTo_allin (m : List (List Int)) (T : List Int) (n : Nat) (hn : n ≤ m.length) (hT : ∀ j, j < n → T.contains ((j : Int) + 1) = true) : ∀ k, k ≤ n → keptTo m T k = m.take k
 | 0, _ => by simp [keptTo]
 | k + 1, hk => by rw [keptTo_yes (hT k (by omega)), keptTo_allin m T n hn hT k (by omega), take_snoc m k [] (by omega)]
theorem cells_kept (l : List (List Int)) (refs : List Int) : ∀ m, m ≤ l.length → cellsN (keptTo l refs m) ≤ cellsN (l.take m)
 | 0, _ => by simp [keptTo, cellsN]
 | m + 1, h => by
  have ih := cells_kept l refs m (by omega)
  rw [cellsN_take l m (by omega)]
  by_cases hc : refs.contains ((m : Int) + 1) = true
  ·rw [keptTo_yes hc, cellsN_snoc]; omega
  ·rw [keptTo_no (by simpa using hc)]; omega
theorem mem_kept (l : List (List Int)) (refs : List Int) : ∀ m, m ≤ l.length → ∀ b ∈ keptTo l refs m, b ∈ l
 | 0, _, b, h => by simp [keptTo] at h
 | m + 1, hm, b, h => by
  by_cases hc : refs.contains ((m : Int) + 1) = true
  ·rw [keptTo_yes hc] at h
   rcases List.mem_append.1 h with h | h
   ·exact mem_kept l refs m (by omega) b h
   ·simp only [List.mem_singleton] at h; rw [h]; exact mem_getD (by omega)
  ·rw [keptTo_no (by simpa using hc)] at h
   exact mem_kept l refs m (by omega) b h
theorem checkB_kept {l : List (List Int)} (refs : List Int) (h : checkB l = 0) : checkB (keptTo l refs l.length) = 0 := by
 obtain ⟨h4, h5, h6⟩ := checkB_zero h
 refine checkB_of (by have := keptTo_len l refs l.length; omega) (by have := cells_kept l refs l.length (Nat.le_refl _); rw [List.take_length] at this; omega) ?_
 rw [Bool.eq_false_iff] at h6 ⊢
 intro ha
 obtain ⟨x, hx, hp⟩ := List.any_eq_true.1 ha
 exact h6 (List.any_eq_true.2 ⟨x, mem_kept l refs _ (Nat.le_refl _) x hx, hp⟩)
section
variable {l : List (List Int)} {refs : List Int} (h : keepE l refs = 0)
include h
end
end Go.Proofs.YtmnkaalchcomlaaGreat
