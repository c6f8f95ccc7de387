/- Texts of one proof, one behind the other: lemmas alone. -/
import Derived.Test.YtmnkaalchcomlaaGreatM38U
import Derived.Test.YtmnkaalchcomlaaGreatM26U
import Derived.Test.YtmnkaalchcomlaaGreatM22U
import Derived.Test.YtmnkaalchcomlaaGreatM33U

-- Co2
/- Collect: the refs, rising. -/
namespace Go.Proofs.YtmnkaalchcomlaaGreat
open Go.RowKit
theorem gets_mem {l : List MVal} {n : Int} : n ∈ gets l ↔ 0 < n ∧ ∃ v ∈ l, v.ref = true ∧ v.n = n := by
 unfold gets
 rw [List.mem_map]
 constructor
 ·rintro ⟨v, hv, rfl⟩
  obtain ⟨h1, h2⟩ := List.mem_filter.1 hv
  simp only [Bool.and_eq_true, decide_eq_true_eq] at h2
  exact ⟨h2.2, v, h1, h2.1, rfl⟩
 ·rintro ⟨h0, v, hv, hr, rfl⟩
  exact ⟨v, List.mem_filter.2 ⟨hv, by simp [hr, h0]⟩, rfl⟩
theorem refsV_mem {m : MMach} {n : Int} : n ∈ refsV m ↔ 0 < n ∧ hasR m n = true := by
 unfold refsV
 rw [List.mem_flatMap, hasR_iff]
 constructor
 ·rintro ⟨x, hx, h⟩
  rcases List.mem_append.1 h with h | h
  ·obtain ⟨h0, v, hv, hr, e⟩ := gets_mem.1 h
   exact ⟨h0, x, hx, v, List.mem_append_left _ hv, hr, e⟩
  ·obtain ⟨h0, v, hv, hr, e⟩ := gets_mem.1 h
   exact ⟨h0, x, hx, v, List.mem_append_right _ hv, hr, e⟩
 ·rintro ⟨h0, x, hx, v, hv, hr, e⟩
  refine ⟨x, hx, ?_⟩
  rcases List.mem_append.1 hv with h | h
  ·exact List.mem_append_left _ (gets_mem.2 ⟨h0, v, h, hr, e⟩)
  ·exact List.mem_append_right _ (gets_mem.2 ⟨h0, v, h, hr, e⟩)
theorem refs_eq {fs : List MFunc} {m : MMach} (hR : RightM fs m) : Lib.compact (sorted (refsV m)) = refsM m := by
 obtain ⟨h1, h2⟩ := compact_of (sorted_le (refsV m))
 refine rising_eq h1 (refs_sorted m) fun n => ?_
 rw [h2, refs_mem]
 unfold sorted
 rw [List.mem_mergeSort, refsV_mem]
 constructor
 ·rintro ⟨h0, h⟩
  obtain ⟨x, hx, v, hv, hr, rfl⟩ := hasR_iff.1 h
  have := val_rng hR hx hv hr
  exact ⟨by omega, h⟩
 ·rintro ⟨h0, h⟩
  exact ⟨by omega, h⟩
theorem refsM_len {m : MMach} : (refsM m).length ≤ m.blocks.length := by
 unfold refsM
 rw [List.length_map]
 exact Nat.le_trans (List.length_filter_le _ _) (by rw [List.length_range]; exact Nat.le_refl _)
/-! No refs at all: nothing is sorted. -/
theorem len64_0 (w : World) : Calls Tryz.prog 228 #[.int .u64 0] w fun e w' => e = .returned (.int .i64 0) ∧ w = w' := by
  go_enter Tryz.func228, Tryz.ntmps228
  go_wp2
  all_goals (go_ret; exact ⟨ret_int (by kernel_rfl), rfl⟩)
set_option maxRecDepth 100000 in
theorem len_0 (w : World) : Calls Tryz.prog 184 #[.int .u64 0] w fun e w' => e = .returned (.int .i64 0) ∧ w = w' := by
  go_enter Tryz.func184, Tryz.ntmps184
  go_wp2_with (first
    | (go_at_call 228; refine (len64_0 _).mono ?_; rintro e w' ⟨rfl, rfl⟩))
  all_goals (go_ret; exact ⟨rfl, rfl⟩)
theorem ins0_any (A : Option Addr) (c : Nat) (w : World) : Calls Tryz.prog 218 #[.slice A 0 c, .int .i64 0, .int .i64 0] w fun e w' => e = .returned (.tuple #[]) ∧ Below w.heap.size w w' := by
 refine enter Tryz.func218 rfl Tryz.ntmps218 rfl ?_
 refine cw_seq ?_
 refine cw_region ?_
 refine rw_run tab_ok 1 [(0, _), (1, _), (2, _), (8, _)] rfl ⟨rfl, rfl, rfl, rfl, trivial⟩ ?_
 refine rw_s (qs_add rfl rfl rfl (by omega)) rfl rfl ?_
 refine rw_run tab_ok 1 [(0, _), (1, _), (2, _), (6, _)] rfl ⟨rfl, rfl, rfl, rfl, trivial⟩ ?_
 refine rw_end ?_
 refine cw_block (cw_loop (fun _ : Unit => True) (fun _ => 0) (fun _ => [(0, .slice A 0 c), (1, .int .i64 0), (2, .int .i64 0), (6, .int .i64 1)]) (fun _ => []) () (trivial) ⟨rfl, rfl, rfl, rfl, trivial⟩ me ?_)
 rintro _ _
 refine cw_seq ?_
 refine cw_seq ?_
 refine cw_region ?_
 refine rw_run tab_ok 3 [(0, _), (1, _), (2, _), (6, _), (12, _)] rfl ⟨rfl, rfl, rfl, rfl, rfl, trivial⟩ ?_
 refine rw_end ?_
 refine cw_condD rfl (fun h => ?_) (fun h => ?_)
 ·exact absurd h (by decide)
 ·refine cw_exit (xw_thenx (xw_thenx (xw_blk ?_)))
  refine xw_end0 Tryz.results218  ?_
  intro w hw
  exact ⟨rfl, hw.below⟩
set_option maxRecDepth 100000 in
theorem pdq0_any (A : Option Addr) (c : Nat) (l : Int) (w : World) : Calls Tryz.prog 183 #[.slice A 0 c, .int .i64 0, .int .i64 0, .int .i64 l] w fun e w' => e = .returned (.tuple #[]) ∧ Below w.heap.size w w' := by
 refine enter Tryz.func183 rfl Tryz.ntmps183 rfl ?_
 refine cw_seq ?_
 refine cw_region ?_
 refine rw_run tab_ok 1 [(0, _), (1, _), (2, _), (3, _), (8, _)] rfl ⟨rfl, rfl, rfl, rfl, rfl, trivial⟩ ?_
 refine rw_end ?_
 refine cw_seq ?_
 refine cw_region ?_
 refine rw_run tab_ok 1 [(0, _), (1, _), (2, _), (3, _), (8, _), (9, _)] rfl ⟨rfl, rfl, rfl, rfl, rfl, rfl, trivial⟩ ?_
 refine rw_end ?_
 refine cw_block (cw_loop (fun _ : Unit => True) (fun _ => 0) (fun _ => [(0, .slice A 0 c), (1, .int .i64 0), (2, .int .i64 0), (3, .int .i64 l), (8, .bool true), (9, .bool true)]) (fun _ => []) () (trivial) ⟨rfl, rfl, rfl, rfl, rfl, rfl, trivial⟩ me ?_)
 rintro _ _
 refine cw_block ?_
 refine cw_seq ?_
 refine cw_region ?_
 refine rw_run tab_ok 2 [(0, _), (1, _), (2, _), (3, _), (8, _), (9, _), (19, _), (20, _)] rfl ⟨rfl, rfl, rfl, rfl, rfl, rfl, rfl, rfl, trivial⟩ ?_
 refine rw_s (qs_sub rfl rfl rfl (by omega)) rfl rfl ?_
 refine rw_run tab_ok 1 [(0, _), (1, _), (2, _), (3, _), (8, _), (9, _), (10, _)] rfl ⟨rfl, rfl, rfl, rfl, rfl, rfl, rfl, trivial⟩ ?_
 refine rw_end ?_
 refine cw_seq ?_
 refine cw_seq ?_
 refine cw_region ?_
 refine rw_run tab_ok 2 [(0, _), (1, _), (2, _), (3, _), (8, _), (9, _), (10, _), (23, _)] rfl ⟨rfl, rfl, rfl, rfl, rfl, rfl, rfl, rfl, trivial⟩ ?_
 refine rw_end ?_
 refine cw_condD rfl (fun h => ?_) (fun h => ?_)
 ·refine cw_seq ?_
  refine cw_region ?_
  refine rw_run tab_ok 3 [(24, _), (25, _), (26, _)] rfl ⟨rfl, rfl, rfl, trivial⟩ ?_
  refine rw_op (ot_c0 rfl rfl rfl Tryz.call218 (fun w hw => ins0_any A c w)) rfl rfl (fun _ _ => ?_)
  refine rw_end ?_
  refine cw_ret (xw_thenr (xw_blkr (xw_thenr (xw_blkr ?_))))
  refine xw_ret0 Tryz.results183  ?_
  intro w hw
  exact ⟨rfl, hw.below⟩
 ·exact absurd (show (0 : Int) ≤ 12 by decide) h
set_option maxRecDepth 100000 in
theorem sort0_any (A : Option Addr) (c : Nat) (w : World) : Calls Tryz.prog 147 #[.slice A 0 c] w fun e w' => e = .returned (.tuple #[]) ∧ Below w.heap.size w w' := by
  go_enter Tryz.func147, Tryz.ntmps147
  go_wp2_with (first
    | (go_at_call 184; refine (len_0 _).mono ?_; rintro e w' ⟨rfl, rfl⟩)
    | (go_at_call 183; refine (pdq0_any _ _ _ _).mono ?_; rintro e w' ⟨rfl, hb⟩))
  all_goals (go_end0; exact ⟨rfl, (by repeat (first | exact Below.refl _ _ | assumption | refine Below.drew ?_ | refine Below.drewN_ ?_ _ | refine below_alloc ?_ _ | refine below_via (by assumption) ?_ | refine below_set ?_ (by simp <;> omega) _))⟩)
theorem compact0_any (A : Option Addr) (c : Nat) (w : World) : Calls Tryz.prog 148 #[.slice A 0 c] w fun e w' => e = .returned (.slice A 0 c) ∧ Below w.heap.size w w' :=
 (Any.slices_Compact_int_empty Tryz.laysCompact A c w).mono fun _ _ ⟨h1, h2⟩ => ⟨h1, by rw [h2]; exact Below.refl _ _⟩
set_option maxRecDepth 100000 in
set_option maxHeartbeats 1000000 in
theorem refs_any (fs : List MFunc) (a : MA) (m : MMach) (w : World) (hm : MIn w.heap.size w a m) (hF : Fitd fs) (hR : RightM fs m) :
  Calls Tryz.prog 108 #[.agg #[.slice a.Af m.frames.length a.cf, .slice a.Ab m.blocks.length a.cb, .slice a.Ai m.inn.length a.ci, .slice a.Ao m.out.length a.co, .int .i64 m.status, .int .i64 m.trap]] w fun e w' => ∃ q : Option Addr × Nat, True ∧ e = .returned (.slice q.1 (refsM m).length q.2) ∧ Cw w.heap.size w [ROw (.slice q.1 (refsM m).length q.2) (refsM m)] w' := by
 have hfs : ∀ x ∈ m.frames, x.locals.length ≤ 1000 ∧ x.stack.length ≤ 8 := fun x hx => by
  obtain ⟨i, hi, rfl⟩ := List.getElem_of_mem hx
  have h := fr_small hF hR hi
  have e : frAt m.frames i = m.frames[i] := by
   unfold frAt
   rw [List.getD_eq_getElem?_getD, List.getElem?_eq_getElem hi]
   rfl
  rw [e] at h
  exact ⟨h.2, h.1⟩
 have heq := refs_eq hR
 refine enter Tryz.func108 rfl Tryz.ntmps108 rfl ?_
 refine cw_seq ?_
 refine cw_region ?_
 refine rw_op (ot_box rfl rfl rfl) rfl rfl (fun g1 _ => ?_)
 refine rw_run tab_ok 1 [(1, _)] rfl ⟨rfl, trivial⟩ ?_
 refine rw_end ?_
 refine cw_seq ?_
 refine cw_region ?_
 refine rw_op (ot_alloc Tryz.zeroValue27 rfl rfl) rfl rfl (fun g2 _ => ?_)
 refine rw_end ?_
 refine cw_mem (fun w h => Cw.nilO Int h) ?_
 refine cw_seq ?_
 refine cw_region ?_
 refine rw_run tab_ok 1 [(1, _), (3, _), (4, _)] rfl ⟨rfl, rfl, rfl, trivial⟩ ?_
 refine rw_op (ot_call rfl rfl rfl Tryz.call145 (fun w hw => eachR_any g1 g2 a m hm hR.n6 hfs none 0 w (hw.msub (.s fc (.s fc (.s fc .r)))))) rfl rfl (fun ⟨A1, c1⟩ _ => ?_)
 try dsimp only
 refine rw_end ?_
 refine cw_seq ?_
 refine cw_region ?_
 refine rw_s (qs_ldb fc Tryz.isAgg27 rfl rfl (by rfl)) rfl rfl ?_
 generalize refsV m = l at heq ⊢
 generalize refsM m = r at heq ⊢
 subst heq
 rcases l with _ | ⟨x, l⟩
 ·rw [show sorted ([] : List Int) = [] from by unfold sorted; simp, show Lib.compact ([] : List Int) = [] from by decide]
  refine rw_op (ot_c0 rfl rfl rfl Tryz.call147 (fun w hw => sort0_any A1 c1 w)) rfl rfl (fun _ _ => ?_)
  refine rw_end ?_
  refine cw_seq ?_
  refine cw_region ?_
  refine rw_s (qs_ldb fc Tryz.isAgg27 rfl rfl (by rfl)) rfl rfl ?_
  refine rw_op (ot_c0 rfl rfl rfl Tryz.call148 (fun w hw => compact0_any A1 c1 w)) rfl rfl (fun _ _ => ?_)
  refine rw_run tab_ok 1 [(2, _)] rfl ⟨rfl, trivial⟩ ?_
  refine rw_end ?_
  refine cw_ret ?_
  refine xw_ret1 Tryz.results108 (rv_tmp rfl) ?_
  intro w hw
  exact ⟨(A1, c1), trivial, rfl, hw.msub ms⟩
 ·have hsl : (sorted (x :: l)).length = (x :: l).length := by unfold sorted; exact List.length_mergeSort _
  refine rw_op (ot_call rfl rfl rfl Tryz.call147 (fun w hw => sort_own (hw.msub (.s fc .r)) (Nat.succ_pos _) (own_i64 hw fc))) rfl rfl (fun _ _ => ?_)
  refine rw_end ?_
  refine cw_seq ?_
  refine cw_region ?_
  refine rw_s (qs_ldb fc Tryz.isAgg27 rfl rfl (by rfl)) rfl rfl ?_
  refine rw_op (ot_call rfl rfl rfl Tryz.call148 (fun w hw => compact_own (hw.msub (.s fc .r)) (Nat.succ_pos _) (own_i64 hw fc))) rfl rfl (fun _ _ => ?_)
  refine rw_run tab_ok 1 [(2, _)] rfl ⟨rfl, trivial⟩ ?_
  refine rw_end ?_
  refine cw_ret ?_
  refine xw_ret1 Tryz.results108 (rv_tmp rfl) ?_
  intro w hw
  exact ⟨(A1, c1), trivial, rfl, hw.msub ms⟩
end Go.Proofs.YtmnkaalchcomlaaGreat
-- Co3
/- Collect: the values of a machine that is one's own are made to be others. -/
namespace Go.Proofs.YtmnkaalchcomlaaGreat
open Go.RowKit
theorem findI_mem {l : List Int} {v : Int} (h : v ∈ l) : ∃ k : Nat, findI l v = k ∧ k < l.length ∧ l.getD k 0 = v := by
 unfold findI
 cases e : l.findIdx? (· == v) with
 | none =>
  rw [List.findIdx?_eq_none_iff] at e
  have := e v h
  simp at this
 | some k =>
  rw [List.findIdx?_eq_some_iff_getElem] at e
  obtain ⟨h1, h2, _⟩ := e
  refine ⟨k, rfl, h1, ?_⟩
  rw [List.getD_eq_getElem?_getD, List.getElem?_eq_getElem h1]
  simpa using h2
def ut_ {α : Type} (l : List α) (f : α → α) (k : Nat) : List α := (l.take k).map f ++ l.drop k
section
variable {B : Nat} {w0 : World} {H : List Res}
set_option maxRecDepth 100000 in
set_option maxHeartbeats 1000000 in
theorem craw_any (g4 g6 : Nat) (R : List Int) (r : Int → Int) (hri : ∀ n ∈ R, I64 (r n)) (T1 R1 : Option Addr) (t1 r1 : Nat) (A : Option Addr) (m c k : Nat) (xs : List MVal) (hk : k < m) (hok : okV (fun n => n ∈ R) (xs.getD k default)) (hpos : (xs.getD k default).ref = true → 0 ≤ (xs.getD k default).n) (w : World)
  (hw : Cw B w0 (ROw (.slice A m c) xs :: RBox g6 [.slice T1 (R.map r).length t1] 27 :: ROw (.slice T1 (R.map r).length t1) (R.map r) :: RBox g4 [.slice R1 R.length r1] 27 :: ROw (.slice R1 R.length r1) R :: H) w) :
  Calls Tryz.prog 150 #[.pointer (some ⟨ab A, ao A + k * 2, none⟩), .pointer (some ⟨g6, 0, none⟩), .pointer (some ⟨g4, 0, none⟩)] w fun e w' => ∃ _ : Unit, True ∧ e = .returned (.tuple #[]) ∧ Cw B w0 (ROw (.slice A m c) (xs.set k (renV r (xs.getD k default))) :: RBox g6 [.slice T1 (R.map r).length t1] 27 :: ROw (.slice T1 (R.map r).length t1) (R.map r) :: RBox g4 [.slice R1 R.length r1] 27 :: ROw (.slice R1 R.length r1) R :: H) w' := by
 have hl : xs.length = m := by
  obtain ⟨F, h, _⟩ := hw.rd Foc.a
  exact SlB.len_eq (OwL.sl (show OwL w F _ xs from h))
 have hself : xs.set k (xs.getD k default) = xs := by
  apply List.ext_getElem?
  intro i
  rw [List.getElem?_set]
  split
  ·rename_i e
   subst e
   rw [List.getD_eq_getElem?_getD, if_pos (by omega), List.getElem?_eq_getElem (by omega)]
   rfl
  ·rfl
 generalize hv : xs.getD k default = v at hok hpos hself ⊢
 refine enter_own Tryz.func150 rfl Tryz.ntmps150 rfl hw ?_
 refine cw_seq ?_
 refine cw_region ?_
 refine rw_run tab_ok 3 [(0, _), (1, _), (2, _), (6, _)] rfl ⟨rfl, rfl, rfl, rfl, trivial⟩ ?_
 refine rw_s (qs_ld (fun w hw => (SF.val (SF.own hl fc) hk default) w hw 0 _ rfl) rfl rfl Tryz.isAgg4) rfl rfl ?_
 refine rw_run tab_ok 1 [(0, _), (1, _), (2, _), (8, _)] rfl ⟨rfl, rfl, rfl, rfl, trivial⟩ ?_
 rw [hv]
 rcases Bool.eq_false_or_eq_true v.ref with hr | hr
 ·rw [hr]
  refine rw_as (t := 8) (v' := .bool true) rfl (rfl) ?_
  refine rw_run tab_ok 3 [(0, _), (1, _), (2, _), (8, _), (11, _)] rfl ⟨rfl, rfl, rfl, rfl, rfl, trivial⟩ ?_
  refine rw_s (qs_ld (fun w hw => (SF.val (SF.own hl fc) hk default) w hw 1 _ rfl) rfl rfl Tryz.isAgg3) rfl rfl ?_
  refine rw_run tab_ok 2 [(0, _), (1, _), (2, _), (14, _)] rfl ⟨rfl, rfl, rfl, rfl, trivial⟩ ?_
  refine rw_end ?_
  rw [hv]
  refine cw_condD rfl (fun hn => ?_) (fun hn => ?_)
  ·have hn : 0 < v.n := hn
   have hin := hok hr (by omega)
   obtain ⟨q, hq1, hq2, hq3⟩ := findI_mem hin
   have hqm : q < (R.map r).length := by rw [List.length_map]; exact hq2
   have hren : renV r v = ⟨true, r v.n⟩ := by unfold renV; rw [if_pos ⟨hr, by omega⟩]
   have hat : (R.map r).getD q 0 = r v.n := by
    rw [List.getD_eq_getElem?_getD, List.getElem?_map, List.getElem?_eq_getElem hq2]
    rw [List.getD_eq_getElem?_getD, List.getElem?_eq_getElem hq2] at hq3
    show r R[q] = _
    rw [show R[q] = v.n from hq3]
   refine cw_draw (.still 0 (.still 1 (.still 2 (.still 3 (.still 4 (.still 5 (.still 6 (.pick 7 (.still 8 (.still 9 (.still 10 (.still 11 (.pick 12 .done .stop))))) .stop)))))))) [12] rfl (by kernel_rfl) (by kernel_rfl) ?_
   refine ro_run tab_ok ha 1 [(0, _), (1, _), (2, _), (15, _)] rfl ⟨rfl, rfl, rfl, rfl, trivial⟩ ?_
   refine ro_s2 rfl (qs_ldb fc Tryz.isAgg27 rfl rfl (by rfl)) rfl rfl ha ?_
   refine ro_s2 rfl (qs_ldb fc Tryz.isAgg27 rfl rfl (by rfl)) rfl rfl ha ?_
   refine ro_run tab_ok ha 3 [(15, _), (16, _), (17, _), (20, _)] rfl ⟨rfl, rfl, rfl, rfl, trivial⟩ ?_
   refine ro_s2 rfl (qs_ld (fun w hw => (SF.val (SF.own hl fc) hk default) w hw 1 _ rfl) rfl rfl Tryz.isAgg3) rfl rfl ha ?_
   rw [hv]
   refine ro_op2 rfl (ot_c0 rfl rfl rfl Tryz.call151 ((fun w hw => cbelow ((fun w hw => index_int _ R v.n w (SF.at_ (SF.own rfl fc) hw)) w hw)))) rfl rfl (.inr fun _ => ha) (fun _ _ => ?_) ro_stop
   rw [hq1]
   refine ro_s2 rfl (qs_idx (k := q) Tryz.underlying27 Tryz.sizeOf3 (SF.own (xs := R.map r) rfl fc) (by omega) rfl rfl rfl) rfl rfl ha ?_
   refine ro_s2 rfl (qs_ld (SF.int (SF.own (xs := R.map r) rfl fc) (by omega)) rfl rfl Tryz.isAgg3) rfl rfl ha ?_
   refine ro_run tab_ok ha 2 [(24, _), (26, _)] rfl ⟨rfl, rfl, trivial⟩ ?_
   rw [hat]
   refine ro_op2 rfl (ot_stE (α := MVal) (f := 1) (us := [.int .i64 (r v.n)]) ⟨true, r v.n⟩ default (xs' := xs.set k (renV r v)) (by rw [hren]) fc hk (hri _ hin) Tryz.sizeOf3 rfl rfl rfl rfl rfl rfl (by rw [hv]; show [Value.bool v.ref, _] = _; rw [hr]; rfl) rfl) rfl rfl (.inl rfl) (fun _ _ => ?_) ro_stop
   refine ro_endx ?_
   refine xw_end0 Tryz.results150  ?_
   intro w hw
   exact ⟨(), trivial, rfl, hw.msub ms⟩
  ·have hn : ¬ 0 < v.n := hn
   have hren : renV r v = v := by unfold renV; rw [if_neg (fun h => by have := hpos hr; have := h.2; omega)]
   rw [hren, hself]
   refine cw_skip ?_
   refine xw_end0 Tryz.results150  ?_
   intro w hw
   exact ⟨(), trivial, rfl, hw.msub ms⟩
 ·rw [hr]
  have hren : renV r v = v := renV_int hr
  rw [hren, hself]
  refine rw_as (t := 8) (v' := .bool false) rfl (rfl) ?_
  refine rw_run tab_ok 6 [(0, _), (1, _), (2, _), (14, _)] rfl ⟨rfl, rfl, rfl, rfl, trivial⟩ ?_
  refine rw_end ?_
  refine cw_cond_f rfl ?_
  refine cw_skip ?_
  refine xw_end0 Tryz.results150  ?_
  intro w hw
  exact ⟨(), trivial, rfl, hw.msub ms⟩
theorem ut_zero {α : Type} (l : List α) (f : α → α) : ut_ l f 0 = l := by unfold ut_; simp
theorem ut_all {α : Type} (l : List α) (f : α → α) : ut_ l f l.length = l.map f := by unfold ut_; simp
theorem ut_len {α : Type} (l : List α) (f : α → α) (k : Nat) : (ut_ l f k).length = l.length := by unfold ut_; simp; omega
theorem ut_at {α : Type} [Inhabited α] {l : List α} {f : α → α} {k : Nat} (hk : k < l.length) : (ut_ l f k).getD k default = l.getD k default := by
 unfold ut_
 rw [List.getD_eq_getElem?_getD, List.getElem?_append_right (by simp; omega), List.length_map, List.length_take, Nat.min_eq_left (by omega), Nat.sub_self, List.getElem?_drop, List.getD_eq_getElem?_getD]
 rfl
theorem ut_set {α : Type} [Inhabited α] {l : List α} {f : α → α} {k : Nat} (hk : k < l.length) : (ut_ l f k).set k (f (l.getD k default)) = ut_ l f (k + 1) := by
 unfold ut_
 have h1 : ((l.take k).map f).length = k := by rw [List.length_map, List.length_take]; omega
 rw [List.set_append_right _ _ (by omega), h1, Nat.sub_self, take_snoc l k default hk, List.map_append, List.append_assoc]
 congr 1
 rw [List.drop_eq_getElem_cons hk, List.set_cons_zero]
 rfl
def renP (r : Int → Int) (p : HFrame × MFrame) : HFrame × MFrame := (p.1, renF r p.2)
def er (l : List (HFrame × MFrame)) (r : Int → Int) (i : Nat) : List (HFrame × MFrame) := (ut_ l (renP r) i).eraseIdx i
theorem rpl_form {l : List (HFrame × MFrame)} {i : Nat} (hi : i < l.length) {w : World} (h : Cw B w0 (RPL l :: H) w) : ∃ A1 c1 A2 c2, l[i].1.lv = .slice A1 l[i].2.locals.length c1 ∧ l[i].1.sv = .slice A2 l[i].2.stack.length c2 := by
 obtain ⟨s1, s2⟩ := rpl_sf hi h
 obtain ⟨A1, c1, e1, _⟩ := s1.form
 obtain ⟨A2, c2, e2, _⟩ := s2.form
 exact ⟨A1, c1, A2, c2, e1, e2⟩
set_option maxRecDepth 100000 in
set_option maxHeartbeats 4000000 in
theorem eachW_any (g3 g4 g6 : Nat) (R : List Int) (r : Int → Int) (hri : ∀ n ∈ R, I64 (r n)) (T1 R1 Af : Option Addr) (t1 r1 n cf : Nat) (rest : List Value) (l : List (HFrame × MFrame)) (hs : List HFrame) (hln : l.length = n) (hls : l.map Prod.fst = hs) (hn6 : n ≤ 6)
  (hok : ∀ p ∈ l, okX (fun n => n ∈ R) p.2) (hpos : ∀ p ∈ l, ∀ v ∈ p.2.locals ++ p.2.stack, v.ref = true → 0 ≤ v.n) (w : World)
  (hw : Cw B w0 (RBox g3 (.slice Af n cf :: rest) 29 :: ROw (.slice Af n cf) hs :: RPL l :: RBox g6 [.slice T1 (R.map r).length t1] 27 :: ROw (.slice T1 (R.map r).length t1) (R.map r) :: RBox g4 [.slice R1 R.length r1] 27 :: ROw (.slice R1 R.length r1) R :: H) w) :
  Calls Tryz.prog 145 #[.pointer (some ⟨g3, 0, none⟩), .func (.func 150) #[] #[.pointer (some ⟨g6, 0, none⟩), .pointer (some ⟨g4, 0, none⟩)]] w fun e w' => ∃ _ : Unit, True ∧ e = .returned (.tuple #[]) ∧ Cw B w0 (RBox g3 (.slice Af n cf :: rest) 29 :: ROw (.slice Af n cf) hs :: RPL (l.map (renP r)) :: RBox g6 [.slice T1 (R.map r).length t1] 27 :: ROw (.slice T1 (R.map r).length t1) (R.map r) :: RBox g4 [.slice R1 R.length r1] 27 :: ROw (.slice R1 R.length r1) R :: H) w' := by
 have hhl : hs.length = n := by rw [← hls, List.length_map, hln]
 refine enter_own Tryz.func145 rfl Tryz.ntmps145 rfl hw ?_
 refine cw_seq ?_
 refine cw_region ?_
 refine rw_run tab_ok 3 [(0, _), (1, _), (10, _)] rfl ⟨rfl, rfl, rfl, trivial⟩ ?_
 refine rw_s (qs_ldb fc Tryz.isAgg25 rfl rfl (by rfl)) rfl rfl ?_
 refine rw_s (qs_len Tryz.underlying25 rfl rfl) rfl rfl ?_
 refine rw_run tab_ok 1 [(0, _), (1, _), (12, _), (13, _)] rfl ⟨rfl, rfl, rfl, rfl, trivial⟩ ?_
 refine rw_end ?_
 refine cw_block (cw_loop (fun i : Nat => i ≤ n) (fun i => n - i) (fun i => [(0, .pointer (some ⟨g3, 0, none⟩)), (1, .func (.func 150) #[] #[.pointer (some ⟨g6, 0, none⟩), .pointer (some ⟨g4, 0, none⟩)]), (12, .int .i64 (n : Int)), (13, .int .i64 (i : Int))]) (fun i => RPL (ut_ l (renP r) i) :: RBox g3 (.slice Af n cf :: rest) 29 :: ROw (.slice Af n cf) hs :: RBox g6 [.slice T1 (R.map r).length t1] 27 :: ROw (.slice T1 (R.map r).length t1) (R.map r) :: RBox g4 [.slice R1 R.length r1] 27 :: ROw (.slice R1 R.length r1) R :: H) 0 (Nat.zero_le _) ⟨rfl, rfl, rfl, rfl, trivial⟩ (fun w h => (show Cw _ _ (RPL (ut_ l (renP r) 0) :: RBox g3 (.slice Af n cf :: rest) 29 :: ROw (.slice Af n cf) hs :: RBox g6 [.slice T1 (R.map r).length t1] 27 :: ROw (.slice T1 (R.map r).length t1) (R.map r) :: RBox g4 [.slice R1 R.length r1] 27 :: ROw (.slice R1 R.length r1) R :: H) w from by rw [ut_zero]; exact h.msub ms)) ?_)
 rintro i hi'
 have hi : i ≤ n := hi'
 refine cw_seq ?_
 refine cw_region ?_
 refine rw_run tab_ok 1 [(0, _), (1, _), (12, _), (13, _), (14, _)] rfl ⟨rfl, rfl, rfl, rfl, rfl, trivial⟩ ?_
 refine rw_end ?_
 refine cw_seq ?_
 refine cw_condD rfl (fun hlt => ?_) (fun hlt => ?_)
 ·have hil : i < l.length := by omega
  have hul := ut_len l (renP r) i
  have hatI : (ut_ l (renP r) i)[i]'(by omega) = l[i] := by
   have := ut_at (f := renP r) hil
   rw [List.getD_eq_getElem?_getD, List.getElem?_eq_getElem (by omega), List.getD_eq_getElem?_getD, List.getElem?_eq_getElem hil] at this
   exact this
  refine cw_fact (p := ∃ A1 c1 A2 c2, l[i].1.lv = .slice A1 l[i].2.locals.length c1 ∧ l[i].1.sv = .slice A2 l[i].2.stack.length c2) (fun w hw => by
   have := rpl_form (l := ut_ l (renP r) i) (i := i) (by omega) hw
   rw [hatI] at this
   exact this) fun ⟨A1, c1, A2, c2, e1, e2⟩ => ?_
  refine cw_mem (fun w h => rpl_at (l := ut_ l (renP r) i) (k := i) (by omega) h) ?_
  rw [hatI]
  have hset : (ut_ l (renP r) i).set i (renP r l[i]) = ut_ l (renP r) (i + 1) := by
   have := ut_set (f := renP r) hil
   rw [List.getD_eq_getElem?_getD, List.getElem?_eq_getElem hil] at this
   exact this
  have hmemI := List.getElem_mem hil
  obtain ⟨hok1, hok2⟩ := hok _ hmemI
  have hpos1 : ∀ v ∈ l[i].2.locals, v.ref = true → 0 ≤ v.n := fun v hv => hpos _ hmemI v (List.mem_append_left _ hv)
  have hpos2 : ∀ v ∈ l[i].2.stack, v.ref = true → 0 ≤ v.n := fun v hv => hpos _ hmemI v (List.mem_append_right _ hv)
  have hhd : hs.getD i default = ⟨l[i].1.func, l[i].1.pc, .slice A1 l[i].2.locals.length c1, .slice A2 l[i].2.stack.length c2⟩ := by
   rw [← hls, List.getD_eq_getElem?_getD, List.getElem?_map, List.getElem?_eq_getElem hil, ← e1, ← e2]
   rfl
  have hback : ∀ w, Cw B w0 (ROw l[i].1.lv (renP r l[i]).2.locals :: ROw l[i].1.sv (renP r l[i]).2.stack :: RPL (er l r i) :: RBox g3 (.slice Af n cf :: rest) 29 :: ROw (.slice Af n cf) hs :: RBox g6 [.slice T1 (R.map r).length t1] 27 :: ROw (.slice T1 (R.map r).length t1) (R.map r) :: RBox g4 [.slice R1 R.length r1] 27 :: ROw (.slice R1 R.length r1) R :: H) w → Cw B w0 (RPL (ut_ l (renP r) (i + 1)) :: RBox g3 (.slice Af n cf :: rest) 29 :: ROw (.slice Af n cf) hs :: RBox g6 [.slice T1 (R.map r).length t1] 27 :: ROw (.slice T1 (R.map r).length t1) (R.map r) :: RBox g4 [.slice R1 R.length r1] 27 :: ROw (.slice R1 R.length r1) R :: H) w := fun w h => by
   have := rpl_set (l := ut_ l (renP r) i) (k := i) (q := renP r l[i]) (by omega) h
   rwa [hset] at this
  show CW _ _ _ _ _ _ _ (ROw l[i].1.lv l[i].2.locals :: ROw l[i].1.sv l[i].2.stack :: RPL (er l r i) :: RBox g3 (.slice Af n cf :: rest) 29 :: ROw (.slice Af n cf) hs :: RBox g6 [.slice T1 (R.map r).length t1] 27 :: ROw (.slice T1 (R.map r).length t1) (R.map r) :: RBox g4 [.slice R1 R.length r1] 27 :: ROw (.slice R1 R.length r1) R :: H)
  rw [e1, e2] at hback ⊢
  have hrl : (renP r l[i]).2.locals = l[i].2.locals.map (renV r) := rfl
  have hrs : (renP r l[i]).2.stack = l[i].2.stack.map (renV r) := rfl
  rw [hrl, hrs] at hback
  generalize l[i].1.func = hf0 at hhd
  generalize l[i].1.pc = hp0 at hhd
  generalize l[i].2.locals = L1 at *
  generalize l[i].2.stack = L2 at *
  refine cw_fact (p := L1.length ≤ 140737488355328 ∧ L2.length ≤ 140737488355328) (fun w hw => ⟨len_bd (SF.at_ (SF.own (α := MVal) (xs := L1) rfl fc) hw), len_bd (SF.at_ (SF.own (α := MVal) (xs := L2) rfl fc) hw)⟩) fun ⟨lb1, lb2⟩ => ?_
  refine cw_skip (xw_then ?_)
  refine cw_seq ?_
  refine cw_block ?_
  refine cw_seq ?_
  refine cw_region ?_
  refine rw_run tab_ok 2 [(0, _), (1, _), (4, _), (12, _), (13, _)] rfl ⟨rfl, rfl, rfl, rfl, rfl, trivial⟩ ?_
  refine rw_end ?_
  refine cw_seq ?_
  refine cw_draw (.still 0 (.still 1 (.still 2 (.still 3 (.still 4 (.still 5 (.still 6 (.still 7 (.still 8 (.still 9 (.still 10 (.still 11 (.still 12 (.still 13 (.still 14 (.still 15 (.still 18 (.pick 16 (.still 17 .done) .stop)))))))))))))))))) [] rfl (by kernel_rfl) (by kernel_rfl) ?_
  refine ro_run tab_ok ha 3 [(0, _), (1, _), (4, _), (12, _), (13, _), (18, _)] rfl ⟨rfl, rfl, rfl, rfl, rfl, rfl, trivial⟩ ?_
  refine ro_s2 rfl (qs_ldb fc Tryz.isAgg25 rfl rfl (by rfl)) rfl rfl ha ?_
  refine ro_run tab_ok ha 1 [(0, _), (1, _), (4, _), (12, _), (13, _), (19, _), (20, _)] rfl ⟨rfl, rfl, rfl, rfl, rfl, rfl, rfl, trivial⟩ ?_
  refine ro_s2 rfl (qs_idx (k := i) Tryz.underlying25 Tryz.sizeOf66 (SF.own (α := HFrame) hhl fc) (by omega) rfl rfl rfl) rfl rfl ha ?_
  refine ro_run tab_ok ha 1 [(0, _), (1, _), (4, _), (12, _), (13, _), (22, _)] rfl ⟨rfl, rfl, rfl, rfl, rfl, rfl, trivial⟩ ?_
  refine ro_s2 rfl (qs_ld (fun w hw => (SF.hfr (SF.own (α := HFrame) hhl fc) (k := i) (by omega) hhd) w hw 2 _ rfl) rfl rfl Tryz.isAgg64) rfl rfl ha ?_
  refine ro_run tab_ok ha 3 [(0, _), (1, _), (4, _), (12, _), (13, _), (23, _), (26, _)] rfl ⟨rfl, rfl, rfl, rfl, rfl, rfl, rfl, trivial⟩ ?_
  refine ro_s2 rfl (qs_ldb fc Tryz.isAgg25 rfl rfl (by rfl)) rfl rfl ha ?_
  refine ro_run tab_ok ha 1 [(0, _), (1, _), (12, _), (13, _), (23, _), (27, _), (28, _)] rfl ⟨rfl, rfl, rfl, rfl, rfl, rfl, rfl, trivial⟩ ?_
  refine ro_s2 rfl (qs_idx (k := i) Tryz.underlying25 Tryz.sizeOf66 (SF.own (α := HFrame) hhl fc) (by omega) rfl rfl rfl) rfl rfl ha ?_
  refine ro_run tab_ok ha 1 [(0, _), (1, _), (12, _), (13, _), (23, _), (30, _)] rfl ⟨rfl, rfl, rfl, rfl, rfl, rfl, trivial⟩ ?_
  refine ro_s2 rfl (qs_ld (fun w hw => (SF.hfr (SF.own (α := HFrame) hhl fc) (k := i) (by omega) hhd) w hw 3 _ rfl) rfl rfl Tryz.isAgg64) rfl rfl ha ?_
  refine ro_run tab_ok ha 1 [(0, _), (1, _), (12, _), (13, _), (23, _), (31, _), (34, _)] rfl ⟨rfl, rfl, rfl, rfl, rfl, rfl, rfl, trivial⟩ ?_
  refine ro_op2 rfl (ot_bsl (cs := [_, _]) Tryz.underlying209 Tryz.sizeOf64 Tryz.zeroValue64 rfl rfl rfl rfl rfl) rfl rfl (.inr fun _ => ha) (fun g1 _ => ?_) ro_stop
  refine ro_s2 rfl (qs_len Tryz.underlying209 rfl rfl) rfl rfl ha ?_
  refine ro_end ?_
  refine cw_block (cw_loop (fun j : Nat => j ≤ 2) (fun j => 2 - j) (fun j => [(0, .pointer (some ⟨g3, 0, none⟩)), (1, .func (.func 150) #[] #[.pointer (some ⟨g6, 0, none⟩), .pointer (some ⟨g4, 0, none⟩)]), (12, .int .i64 (n : Int)), (13, .int .i64 (i : Int)), (32, .slice (some ⟨g1, 0, none⟩) 2 2), (33, .int .i64 2), (34, .int .i64 (j : Int))]) (fun j => ROw (.slice A1 L1.length c1) (if j = 0 then L1 else L1.map (renV r)) :: ROw (.slice A2 L2.length c2) (if j = 2 then L2.map (renV r) else L2) :: RPL (er l r i) :: RBox g1 [.slice A1 L1.length c1, .slice A2 L2.length c2] 64 :: RBox g3 (.slice Af n cf :: rest) 29 :: ROw (.slice Af n cf) hs :: RBox g6 [.slice T1 (R.map r).length t1] 27 :: ROw (.slice T1 (R.map r).length t1) (R.map r) :: RBox g4 [.slice R1 R.length r1] 27 :: ROw (.slice R1 R.length r1) R :: H) 0 (Nat.zero_le _) ⟨rfl, rfl, rfl, rfl, rfl, rfl, rfl, trivial⟩ (fun w h => h.msub ms) ?_)
  rintro j hj'
  have hj : j ≤ 2 := hj'
  refine cw_seq ?_
  refine cw_region ?_
  refine rw_run tab_ok 1 [(0, _), (1, _), (12, _), (13, _), (32, _), (33, _), (34, _), (35, _)] rfl ⟨rfl, rfl, rfl, rfl, rfl, rfl, rfl, rfl, trivial⟩ ?_
  refine rw_end ?_
  refine cw_seq ?_
  refine cw_condD rfl (fun hlt2 => ?_) (fun hlt2 => ?_)
  ·rcases (show j = 0 ∨ j = 1 by omega) with rfl | rfl
   ·rw [if_pos rfl, if_neg (by decide)]
    refine cw_skip (xw_then ?_)
    refine cw_seq ?_
    refine cw_block ?_
    refine cw_seq ?_
    refine cw_region ?_
    refine rw_s (qs_idxP (k := 0) Tryz.underlying209 Tryz.sizeOf64 rfl (by decide) rfl rfl rfl) rfl rfl ?_
    refine rw_s (qs_ld (fun w hw => box_cell (v := .slice A1 L1.length c1) fc rfl w hw) rfl rfl Tryz.isAgg64) rfl rfl ?_
    refine rw_run tab_ok 1 [(0, _), (1, _), (6, _), (12, _), (13, _), (32, _), (33, _), (34, _)] rfl ⟨rfl, rfl, rfl, rfl, rfl, rfl, rfl, rfl, trivial⟩ ?_
    refine rw_end ?_
    refine cw_seq ?_
    refine cw_region ?_
    refine rw_run tab_ok 1 [(0, _), (1, _), (6, _), (12, _), (13, _), (32, _), (33, _), (34, _), (38, _)] rfl ⟨rfl, rfl, rfl, rfl, rfl, rfl, rfl, rfl, rfl, trivial⟩ ?_
    refine rw_s (qs_len Tryz.underlying64 rfl rfl) rfl rfl ?_
    refine rw_run tab_ok 1 [(0, _), (1, _), (6, _), (12, _), (13, _), (32, _), (33, _), (34, _), (39, _), (40, _)] rfl ⟨rfl, rfl, rfl, rfl, rfl, rfl, rfl, rfl, rfl, rfl, trivial⟩ ?_
    refine rw_end ?_
    refine cw_block (cw_loop (fun k : Nat => k ≤ L1.length) (fun k => L1.length - k) (fun k => [(0, .pointer (some ⟨g3, 0, none⟩)), (1, .func (.func 150) #[] #[.pointer (some ⟨g6, 0, none⟩), .pointer (some ⟨g4, 0, none⟩)]), (6, .slice A1 L1.length c1), (12, .int .i64 (n : Int)), (13, .int .i64 (i : Int)), (32, .slice (some ⟨g1, 0, none⟩) 2 2), (33, .int .i64 2), (34, .int .i64 0), (39, .int .i64 (L1.length : Int)), (40, .int .i64 (k : Int))]) (fun k => ROw (.slice A1 L1.length c1) (ut_ L1 (renV r) k) :: ROw (.slice A2 L2.length c2) L2 :: RPL (er l r i) :: RBox g1 [.slice A1 L1.length c1, .slice A2 L2.length c2] 64 :: RBox g3 (.slice Af n cf :: rest) 29 :: ROw (.slice Af n cf) hs :: RBox g6 [.slice T1 (R.map r).length t1] 27 :: ROw (.slice T1 (R.map r).length t1) (R.map r) :: RBox g4 [.slice R1 R.length r1] 27 :: ROw (.slice R1 R.length r1) R :: H) 0 (Nat.zero_le _) ⟨rfl, rfl, rfl, rfl, rfl, rfl, rfl, rfl, rfl, rfl, trivial⟩ (fun w h => (show Cw _ _ (ROw (.slice A1 L1.length c1) (ut_ L1 (renV r) 0) :: ROw (.slice A2 L2.length c2) L2 :: RPL (er l r i) :: RBox g1 [.slice A1 L1.length c1, .slice A2 L2.length c2] 64 :: RBox g3 (.slice Af n cf :: rest) 29 :: ROw (.slice Af n cf) hs :: RBox g6 [.slice T1 (R.map r).length t1] 27 :: ROw (.slice T1 (R.map r).length t1) (R.map r) :: RBox g4 [.slice R1 R.length r1] 27 :: ROw (.slice R1 R.length r1) R :: H) w from by rw [ut_zero]; exact h.msub ms)) ?_)
    rintro k hk'
    have hk : k ≤ L1.length := hk'
    have hul := ut_len L1 (renV r) k
    refine cw_seq ?_
    refine cw_region ?_
    refine rw_run tab_ok 1 [(0, _), (1, _), (6, _), (12, _), (13, _), (32, _), (33, _), (34, _), (39, _), (40, _), (41, _)] rfl ⟨rfl, rfl, rfl, rfl, rfl, rfl, rfl, rfl, rfl, rfl, rfl, trivial⟩ ?_
    refine rw_end ?_
    refine cw_seq ?_
    refine cw_condD rfl (fun hlt3 => ?_) (fun hlt3 => ?_)
    ·have hkl : k < L1.length := by omega
     have hat := ut_at (f := renV r) hkl
     have hmem := getD_mem (d := (default : MVal)) hkl
     refine cw_skip (xw_then ?_)
     refine cw_seq ?_
     refine cw_block ?_
     refine cw_seq ?_
     refine cw_region ?_
     refine rw_run tab_ok 2 [(0, _), (1, _), (6, _), (7, _), (12, _), (13, _), (32, _), (33, _), (34, _), (39, _), (40, _)] rfl ⟨rfl, rfl, rfl, rfl, rfl, rfl, rfl, rfl, rfl, rfl, rfl, trivial⟩ ?_
     refine rw_end ?_
     refine cw_region ?_
     refine rw_run tab_ok 3 [(0, _), (1, _), (6, _), (12, _), (13, _), (32, _), (33, _), (34, _), (39, _), (40, _), (43, _), (44, _), (45, _)] rfl ⟨rfl, rfl, rfl, rfl, rfl, rfl, rfl, rfl, rfl, rfl, rfl, rfl, rfl, trivial⟩ ?_
     refine rw_s (qs_idx (k := k) Tryz.underlying64 Tryz.sizeOf68 (SF.own (xs := ut_ L1 (renV r) k) hul fc) (by omega) rfl rfl rfl) rfl rfl ?_
     refine rw_op (ot_callK rfl rfl rfl Tryz.call150 (fun w hw => craw_any g4 g6 R r hri T1 R1 t1 r1 A1 L1.length c1 k (ut_ L1 (renV r) k) hkl (by rw [hat]; exact hok1 _ hmem) (by rw [hat]; exact hpos1 _ hmem) w (hw.msub (.s fc (.s fc (.s fc (.s fc (.s fc .r)))))))) rfl rfl (fun _ _ => ?_)
     refine rw_endx (xw_blkn (xw_then ?_))
     refine cw_region ?_
     refine rw_s (qs_add rfl rfl rfl (by omega)) rfl rfl ?_
     refine rw_run tab_ok 1 [(0, _), (1, _), (6, _), (12, _), (13, _), (32, _), (33, _), (34, _), (39, _), (40, _)] rfl ⟨rfl, rfl, rfl, rfl, rfl, rfl, rfl, rfl, rfl, rfl, trivial⟩ ?_
     rw [hat, ut_set hkl]
     refine rw_round (k + 1) (by show k + 1 ≤ _; omega) (by show _ - _ < _ - _; omega) ⟨rfl, rfl, rfl, rfl, rfl, rfl, rfl, rfl, rfl, rfl, trivial⟩ (fun w h => h.msub ms)
    ·obtain rfl : k = L1.length := by omega
     rw [ut_all]
     refine cw_exit (xw_thenx (xw_thenx (xw_blk (xw_blkn (xw_then ?_)))))
     refine cw_region ?_
     refine rw_s (qs_add rfl rfl rfl (by omega)) rfl rfl ?_
     refine rw_run tab_ok 1 [(0, _), (1, _), (12, _), (13, _), (32, _), (33, _), (34, _)] rfl ⟨rfl, rfl, rfl, rfl, rfl, rfl, rfl, trivial⟩ ?_
     refine rw_round 1 ((by decide : 1 ≤ 2)) (by show 2 - 1 < 2 - 0; decide) ⟨rfl, rfl, rfl, rfl, rfl, rfl, rfl, trivial⟩ (fun w h => h.msub ms)
   ·rw [if_neg (by decide), if_neg (by decide)]
    refine cw_skip (xw_then ?_)
    refine cw_seq ?_
    refine cw_block ?_
    refine cw_seq ?_
    refine cw_region ?_
    refine rw_s (qs_idxP (k := 1) Tryz.underlying209 Tryz.sizeOf64 rfl (by decide) rfl rfl rfl) rfl rfl ?_
    refine rw_s (qs_ld (fun w hw => box_cell (v := .slice A2 L2.length c2) fc rfl w hw) rfl rfl Tryz.isAgg64) rfl rfl ?_
    refine rw_run tab_ok 1 [(0, _), (1, _), (6, _), (12, _), (13, _), (32, _), (33, _), (34, _)] rfl ⟨rfl, rfl, rfl, rfl, rfl, rfl, rfl, rfl, trivial⟩ ?_
    refine rw_end ?_
    refine cw_seq ?_
    refine cw_region ?_
    refine rw_run tab_ok 1 [(0, _), (1, _), (6, _), (12, _), (13, _), (32, _), (33, _), (34, _), (38, _)] rfl ⟨rfl, rfl, rfl, rfl, rfl, rfl, rfl, rfl, rfl, trivial⟩ ?_
    refine rw_s (qs_len Tryz.underlying64 rfl rfl) rfl rfl ?_
    refine rw_run tab_ok 1 [(0, _), (1, _), (6, _), (12, _), (13, _), (32, _), (33, _), (34, _), (39, _), (40, _)] rfl ⟨rfl, rfl, rfl, rfl, rfl, rfl, rfl, rfl, rfl, rfl, trivial⟩ ?_
    refine rw_end ?_
    refine cw_block (cw_loop (fun k : Nat => k ≤ L2.length) (fun k => L2.length - k) (fun k => [(0, .pointer (some ⟨g3, 0, none⟩)), (1, .func (.func 150) #[] #[.pointer (some ⟨g6, 0, none⟩), .pointer (some ⟨g4, 0, none⟩)]), (6, .slice A2 L2.length c2), (12, .int .i64 (n : Int)), (13, .int .i64 (i : Int)), (32, .slice (some ⟨g1, 0, none⟩) 2 2), (33, .int .i64 2), (34, .int .i64 1), (39, .int .i64 (L2.length : Int)), (40, .int .i64 (k : Int))]) (fun k => ROw (.slice A2 L2.length c2) (ut_ L2 (renV r) k) :: ROw (.slice A1 L1.length c1) (L1.map (renV r)) :: RPL (er l r i) :: RBox g1 [.slice A1 L1.length c1, .slice A2 L2.length c2] 64 :: RBox g3 (.slice Af n cf :: rest) 29 :: ROw (.slice Af n cf) hs :: RBox g6 [.slice T1 (R.map r).length t1] 27 :: ROw (.slice T1 (R.map r).length t1) (R.map r) :: RBox g4 [.slice R1 R.length r1] 27 :: ROw (.slice R1 R.length r1) R :: H) 0 (Nat.zero_le _) ⟨rfl, rfl, rfl, rfl, rfl, rfl, rfl, rfl, rfl, rfl, trivial⟩ (fun w h => (show Cw _ _ (ROw (.slice A2 L2.length c2) (ut_ L2 (renV r) 0) :: ROw (.slice A1 L1.length c1) (L1.map (renV r)) :: RPL (er l r i) :: RBox g1 [.slice A1 L1.length c1, .slice A2 L2.length c2] 64 :: RBox g3 (.slice Af n cf :: rest) 29 :: ROw (.slice Af n cf) hs :: RBox g6 [.slice T1 (R.map r).length t1] 27 :: ROw (.slice T1 (R.map r).length t1) (R.map r) :: RBox g4 [.slice R1 R.length r1] 27 :: ROw (.slice R1 R.length r1) R :: H) w from by rw [ut_zero]; exact h.msub ms)) ?_)
    rintro k hk'
    have hk : k ≤ L2.length := hk'
    have hul := ut_len L2 (renV r) k
    refine cw_seq ?_
    refine cw_region ?_
    refine rw_run tab_ok 1 [(0, _), (1, _), (6, _), (12, _), (13, _), (32, _), (33, _), (34, _), (39, _), (40, _), (41, _)] rfl ⟨rfl, rfl, rfl, rfl, rfl, rfl, rfl, rfl, rfl, rfl, rfl, trivial⟩ ?_
    refine rw_end ?_
    refine cw_seq ?_
    refine cw_condD rfl (fun hlt3 => ?_) (fun hlt3 => ?_)
    ·have hkl : k < L2.length := by omega
     have hat := ut_at (f := renV r) hkl
     have hmem := getD_mem (d := (default : MVal)) hkl
     refine cw_skip (xw_then ?_)
     refine cw_seq ?_
     refine cw_block ?_
     refine cw_seq ?_
     refine cw_region ?_
     refine rw_run tab_ok 2 [(0, _), (1, _), (6, _), (7, _), (12, _), (13, _), (32, _), (33, _), (34, _), (39, _), (40, _)] rfl ⟨rfl, rfl, rfl, rfl, rfl, rfl, rfl, rfl, rfl, rfl, rfl, trivial⟩ ?_
     refine rw_end ?_
     refine cw_region ?_
     refine rw_run tab_ok 3 [(0, _), (1, _), (6, _), (12, _), (13, _), (32, _), (33, _), (34, _), (39, _), (40, _), (43, _), (44, _), (45, _)] rfl ⟨rfl, rfl, rfl, rfl, rfl, rfl, rfl, rfl, rfl, rfl, rfl, rfl, rfl, trivial⟩ ?_
     refine rw_s (qs_idx (k := k) Tryz.underlying64 Tryz.sizeOf68 (SF.own (xs := ut_ L2 (renV r) k) hul fc) (by omega) rfl rfl rfl) rfl rfl ?_
     refine rw_op (ot_callK rfl rfl rfl Tryz.call150 (fun w hw => craw_any g4 g6 R r hri T1 R1 t1 r1 A2 L2.length c2 k (ut_ L2 (renV r) k) hkl (by rw [hat]; exact hok2 _ hmem) (by rw [hat]; exact hpos2 _ hmem) w (hw.msub (.s fc (.s fc (.s fc (.s fc (.s fc .r)))))))) rfl rfl (fun _ _ => ?_)
     refine rw_endx (xw_blkn (xw_then ?_))
     refine cw_region ?_
     refine rw_s (qs_add rfl rfl rfl (by omega)) rfl rfl ?_
     refine rw_run tab_ok 1 [(0, _), (1, _), (6, _), (12, _), (13, _), (32, _), (33, _), (34, _), (39, _), (40, _)] rfl ⟨rfl, rfl, rfl, rfl, rfl, rfl, rfl, rfl, rfl, rfl, trivial⟩ ?_
     rw [hat, ut_set hkl]
     refine rw_round (k + 1) (by show k + 1 ≤ _; omega) (by show _ - _ < _ - _; omega) ⟨rfl, rfl, rfl, rfl, rfl, rfl, rfl, rfl, rfl, rfl, trivial⟩ (fun w h => h.msub ms)
    ·obtain rfl : k = L2.length := by omega
     rw [ut_all]
     refine cw_exit (xw_thenx (xw_thenx (xw_blk (xw_blkn (xw_then ?_)))))
     refine cw_region ?_
     refine rw_s (qs_add rfl rfl rfl (by omega)) rfl rfl ?_
     refine rw_run tab_ok 1 [(0, _), (1, _), (12, _), (13, _), (32, _), (33, _), (34, _)] rfl ⟨rfl, rfl, rfl, rfl, rfl, rfl, rfl, trivial⟩ ?_
     refine rw_round 2 ((by decide : 2 ≤ 2)) (by show 2 - 2 < 2 - 1; decide) ⟨rfl, rfl, rfl, rfl, rfl, rfl, rfl, trivial⟩ (fun w h => h.msub ms)
  ·obtain rfl : j = 2 := by omega
   rw [if_neg (by decide), if_pos rfl]
   refine cw_exit (xw_thenx (xw_thenx (xw_blk (xw_blkn (xw_then ?_)))))
   refine cw_region ?_
   refine rw_s (qs_add rfl rfl rfl (by omega)) rfl rfl ?_
   refine rw_run tab_ok 1 [(0, _), (1, _), (12, _), (13, _)] rfl ⟨rfl, rfl, rfl, rfl, trivial⟩ ?_
   refine rw_round (i + 1) (by show i + 1 ≤ _; omega) (by show _ - _ < _ - _; omega) ⟨rfl, rfl, rfl, rfl, trivial⟩ (fun w h => hback w (h.msub ms))
 ·obtain rfl : i = n := by omega
  rw [← hln, ut_all]
  refine cw_exit (xw_thenx (xw_thenx (xw_blk ?_)))
  refine xw_end0 Tryz.results145  ?_
  intro w hw
  exact ⟨(), trivial, rfl, hw.msub ms⟩
end
end Go.Proofs.YtmnkaalchcomlaaGreat
-- Co4
/- Collect: a machine is collected. -/
namespace Go.Proofs.YtmnkaalchcomlaaGreat
open Go.RowKit
theorem colM_len (m : MMach) : (colM m).frames.length = m.frames.length := by unfold colM; simp
theorem renP_fst (r : Int → Int) (l : List (HFrame × MFrame)) : (l.map (renP r)).map Prod.fst = l.map Prod.fst := by rw [List.map_map]; rfl
theorem renP_snd (r : Int → Int) (l : List (HFrame × MFrame)) : (l.map (renP r)).map Prod.snd = (l.map Prod.snd).map (renF r) := by rw [List.map_map, List.map_map]; rfl
theorem renP_ok {r : Int → Int} {l : List (HFrame × MFrame)} (h : OpnOk l) : OpnOk (l.map (renP r)) := fun p hp => by
 obtain ⟨q, hq, rfl⟩ := List.mem_map.1 hp
 exact h q hq
set_option maxRecDepth 100000 in
set_option maxHeartbeats 4000000 in
theorem colraw_any (fs : List MFunc) (a : MA) (m : MMach) (w : World) (hm : MIn w.heap.size w a m) (hF : Fitd fs) (hR : RightM fs m) :
  Calls Tryz.prog 109 #[.agg #[.slice a.Af m.frames.length a.cf, .slice a.Ab m.blocks.length a.cb, .slice a.Ai m.inn.length a.ci, .slice a.Ao m.out.length a.co, .int .i64 m.status, .int .i64 m.trap]] w fun e w' => ∃ g : MA, True ∧
   e = .returned (.agg #[.slice g.Af (colM m).frames.length g.cf, .slice g.Ab (colM m).blocks.length g.cb, .slice g.Ai (colM m).inn.length g.ci, .slice g.Ao (colM m).out.length g.co, .int .i64 (colM m).status, .int .i64 (colM m).trap]) ∧ Cw w.heap.size w [ROw (.slice g.Af (colM m).frames.length g.cf) (colM m).frames, ROw (.slice g.Ab (colM m).blocks.length g.cb) (colM m).blocks, ROw (.slice g.Ai (colM m).inn.length g.ci) (colM m).inn, ROw (.slice g.Ao (colM m).out.length g.co) (colM m).out] w' := by
 have hb8 := (checkB_le hR.bl).1
 have hrl := refsM_len (m := m)
 have hin : ∀ r ∈ refsM m, 0 ≤ r ∧ r ≤ m.blocks.length := fun r hr => by have := (refs_mem.1 hr).1; omega
 have hri : ∀ n ∈ refsM m, I64 (keptN m.blocks (refsM m) n) := fun n hn => by
  have h1 := hin n hn
  have h2 := keptTo_len m.blocks (refsM m) n.toNat
  unfold keptN
  split
  ·exact ⟨by omega, by omega⟩
  ·exact ⟨by omega, by omega⟩
 rw [colM_len]
 refine enter Tryz.func109 rfl Tryz.ntmps109 rfl ?_
 refine cw_seq ?_
 refine cw_region ?_
 refine rw_op (ot_box rfl rfl rfl) rfl rfl (fun g1 _ => ?_)
 refine rw_op (ot_alloc Tryz.zeroValue29 rfl rfl) rfl rfl (fun g2 _ => ?_)
 refine rw_end ?_
 refine cw_seq ?_
 refine cw_region ?_
 refine rw_s (qs_ldbA (vs := [_, _, _, _, _, _]) fc Tryz.isAgg29 Tryz.sizeOf29 rfl rfl (by rfl) rfl) rfl rfl ?_
 refine rw_op (ot_c rfl rfl rfl Tryz.call133 (fun w hw => ownm_any a m w (MIn.ro hw hm) (fitM_of hF hR))) rfl rfl (fun g0 _ => ?_)
 refine rw_op (ot_alloc Tryz.zeroValue29 rfl rfl) rfl rfl (fun g3 _ => ?_)
 refine rw_op (ot_stb _ fc Tryz.sizeOf29 rfl rfl rfl rfl rfl (by rfl) rfl (by rfl)) rfl rfl (fun _ _ => ?_)
 refine rw_end ?_
 refine cw_seq ?_
 refine cw_region ?_
 refine rw_s (qs_ldbA (vs := [_, _, _, _, _, _]) fc Tryz.isAgg29 Tryz.sizeOf29 rfl rfl (by rfl) rfl) rfl rfl ?_
 refine rw_op (ot_c rfl rfl rfl Tryz.call108 (fun w hw => refs_any fs a m w (MIn.ro hw hm) hF hR)) rfl rfl (fun ⟨R1, r1⟩ _ => ?_)
 try dsimp only
 refine rw_op (ot_alloc Tryz.zeroValue27 rfl rfl) rfl rfl (fun g4 _ => ?_)
 refine rw_op (ot_stb _ fc Tryz.sizeOf27 rfl rfl rfl rfl rfl (by rfl) rfl (by rfl)) rfl rfl (fun _ _ => ?_)
 refine rw_end ?_
 refine cw_seq ?_
 refine cw_region ?_
 refine rw_run tab_ok 1 [(2, _), (3, _), (4, _), (12, _)] rfl ⟨rfl, rfl, rfl, rfl, trivial⟩ ?_
 refine rw_s (qs_ldb fc Tryz.isAgg26 rfl rfl (by rfl)) rfl rfl ?_
 refine rw_s (qs_ldb fc Tryz.isAgg27 rfl rfl (by rfl)) rfl rfl ?_
 refine rw_op (ot_c rfl rfl rfl Tryz.call149 (fun w hw => kept2 a.Ab R1 a.cb r1 m.blocks (refsM m) w (hw.ro hm.b) (SF.at_ (SF.own rfl fc) hw) (Fit.of_check hR.bl) hin (by omega))) rfl rfl (fun ⟨⟨K1, k1⟩, ⟨T1, t1⟩⟩ _ => ?_)
 try dsimp only
 refine rw_run tab_ok 3 [(2, _), (3, _), (4, _), (16, _), (17, _)] rfl ⟨rfl, rfl, rfl, rfl, rfl, trivial⟩ ?_
 refine rw_op (ot_alloc Tryz.zeroValue27 rfl rfl) rfl rfl (fun g5 _ => ?_)
 refine rw_run tab_ok 1 [(2, _), (3, _), (4, _), (5, _), (6, _), (17, _)] rfl ⟨rfl, rfl, rfl, rfl, rfl, rfl, trivial⟩ ?_
 refine rw_op (ot_stb _ fc Tryz.sizeOf27 rfl rfl rfl rfl rfl (by rfl) rfl (by rfl)) rfl rfl (fun _ _ => ?_)
 refine rw_end ?_
 refine cw_seq ?_
 refine cw_region ?_
 refine rw_run tab_ok 2 [(2, _), (3, _), (4, _), (6, _), (18, _), (19, _)] rfl ⟨rfl, rfl, rfl, rfl, rfl, rfl, trivial⟩ ?_
 refine rw_op (ot_stb _ fc Tryz.sizeOf26 rfl rfl rfl rfl rfl (by rfl) rfl (by rfl)) rfl rfl (fun _ _ => ?_)
 refine rw_end ?_
 refine cw_opn (xs := m.frames) (v := .slice g0.Af m.frames.length g0.cf) fc fun l hl hok => ?_
 have hll : l.length = m.frames.length := by rw [← hl, List.length_map]
 have hmem : ∀ p ∈ l, p.2 ∈ m.frames := fun p hp => by rw [← hl]; exact List.mem_map_of_mem hp
 refine cw_seq ?_
 refine cw_region ?_
 refine rw_run tab_ok 1 [(2, _), (3, _), (20, _)] rfl ⟨rfl, rfl, rfl, trivial⟩ ?_
 refine rw_op (ot_call rfl rfl rfl Tryz.call145 (fun w hw => eachW_any g3 g4 g5 (refsM m) (keptN m.blocks (refsM m)) hri T1 R1 g0.Af t1 r1 m.frames.length g0.cf [.slice K1 (keptTo m.blocks (refsM m) m.blocks.length).length k1, .slice g0.Ai m.inn.length g0.ci, .slice g0.Ao m.out.length g0.co, .int .i64 m.status, .int .i64 m.trap] l (l.map Prod.fst) hll rfl hR.n6 (fun p hp => col_ok hR _ (hmem p hp)) (fun p hp v hv hr => (val_rng hR (hmem p hp) hv hr).1) w (hw.msub (.s fc (.s fc (.s fc (.s fc (.s fc (.s fc (.s fc .r)))))))))) rfl rfl (fun _ _ => ?_)
 refine rw_end ?_
 refine cw_seq ?_
 refine cw_region ?_
 refine rw_s (qs_ldbA (vs := [_, _, _, _, _, _]) fc Tryz.isAgg29 Tryz.sizeOf29 rfl rfl (by rfl) rfl) rfl rfl ?_
 refine rw_op (ot_stb _ fc Tryz.sizeOf29 rfl rfl rfl rfl rfl (by rfl) rfl (by rfl)) rfl rfl (fun _ _ => ?_)
 refine rw_end ?_
 refine cw_ret ?_
 refine xw_ret1 Tryz.results109 (rv_box (cs := [_, _, _, _, _, _]) fc Tryz.isAgg29 Tryz.sizeOf29 rfl) ?_
 intro w hw
 refine ⟨⟨g0.Af, g0.cf, K1, k1, g0.Ai, g0.ci, g0.Ao, g0.co⟩, trivial, rfl, ?_⟩
 have h1 := cls_ow (v := .slice g0.Af m.frames.length g0.cf) (l := l.map (renP (keptN m.blocks (refsM m)))) (H := [ROw (.slice K1 (keptTo m.blocks (refsM m) m.blocks.length).length k1) (keptTo m.blocks (refsM m) m.blocks.length), ROw (.slice g0.Ai m.inn.length g0.ci) m.inn, ROw (.slice g0.Ao m.out.length g0.co) m.out]) (renP_ok hok) (by rw [renP_fst]; exact hw.msub ms)
 rw [renP_snd, hl] at h1
 exact h1
def colN (fs : List MFunc) (m : MMach) : MMach × Int := if machE fs m = 0 then (colM m, (m.blocks.length : Int) - (colM m).blocks.length) else (default, 0)
set_option maxRecDepth 100000 in
set_option maxHeartbeats 4000000 in
theorem collect_any (Ap : Option Addr) (cp : Nat) (fs : List MFunc) (a : MA) (m : MMach) (r : MMach × Int) (hr : colN fs m = r) (w : World) (hs : Sl w (.slice Ap fs.length cp) fs) (hm : MIn w.heap.size w a m) (hfit : FitF m.frames) :
  Calls Tryz.prog 50 #[.agg #[.slice Ap fs.length cp], .agg #[.slice a.Af m.frames.length a.cf, .slice a.Ab m.blocks.length a.cb, .slice a.Ai m.inn.length a.ci, .slice a.Ao m.out.length a.co, .int .i64 m.status, .int .i64 m.trap]] w fun e w' => ∃ g : MA, True ∧
   e = .returned (.tuple #[.agg #[.slice g.Af r.1.frames.length g.cf, .slice g.Ab r.1.blocks.length g.cb, .slice g.Ai r.1.inn.length g.ci, .slice g.Ao r.1.out.length g.co, .int .i64 r.1.status, .int .i64 r.1.trap], .int .i64 r.2, .int .i64 (machE fs m)]) ∧ Cw w.heap.size w [ROw (.slice g.Af r.1.frames.length g.cf) r.1.frames, ROw (.slice g.Ab r.1.blocks.length g.cb) r.1.blocks, ROw (.slice g.Ai r.1.inn.length g.ci) r.1.inn, ROw (.slice g.Ao r.1.out.length g.co) r.1.out] w' := by
 refine enter Tryz.func50 rfl Tryz.ntmps50 rfl ?_
 refine cw_seq ?_
 refine cw_region ?_
 refine rw_op (ot_box rfl rfl rfl) rfl rfl (fun g1 _ => ?_)
 refine rw_op (ot_box rfl rfl rfl) rfl rfl (fun g2 _ => ?_)
 refine rw_op (ot_alloc Tryz.zeroValue29 rfl rfl) rfl rfl (fun g3 _ => ?_)
 refine rw_run tab_ok 2 [(2, _), (3, _), (4, _)] rfl ⟨rfl, rfl, rfl, trivial⟩ ?_
 refine rw_end ?_
 refine cw_seq ?_
 refine cw_seq ?_
 refine cw_region ?_
 refine rw_s (qs_ldbA (vs := [_]) fc Tryz.isAgg24 Tryz.sizeOf24 rfl rfl (by rfl) rfl) rfl rfl ?_
 refine rw_s (qs_ldbA (vs := [_, _, _, _, _, _]) fc Tryz.isAgg29 Tryz.sizeOf29 rfl rfl (by rfl) rfl) rfl rfl ?_
 refine rw_op (ot_c0 rfl rfl rfl Tryz.call36 (fun w hw => mcheck_any Ap cp fs a m w (hw.ro hs) (MIn.ro hw hm) hfit)) rfl rfl (fun _ _ => ?_)
 refine rw_run tab_ok 1 [(3, _), (4, _), (7, _)] rfl ⟨rfl, rfl, rfl, trivial⟩ ?_
 refine rw_end ?_
 refine cw_seq ?_
 refine cw_region ?_
 refine rw_run tab_ok 2 [(3, _), (4, _), (7, _), (13, _)] rfl ⟨rfl, rfl, rfl, rfl, trivial⟩ ?_
 refine rw_end ?_
 refine cw_condN rfl (fun h => ?_) (fun h => ?_)
 ·have h : ¬ machE fs m = 0 := h
  have e : r = (default, 0) := by rw [← hr]; unfold colN; rw [if_neg h]
  subst e
  refine cw_seq ?_
  refine cw_region ?_
  refine rw_s (qs_bst (cs := [_, _, _, _, _, _]) plT29 Tryz.zeroValue29 rfl rfl (by rfl)) rfl rfl ?_
  refine rw_run tab_ok 1 [(4, _), (14, _), (15, _)] rfl ⟨rfl, rfl, rfl, trivial⟩ ?_
  refine rw_op (ot_stb _ fc Tryz.sizeOf29 rfl rfl rfl rfl rfl (by rfl) rfl (by rfl)) rfl rfl (fun _ _ => ?_)
  refine rw_run tab_ok 2 [(4, _), (5, _), (6, _)] rfl ⟨rfl, rfl, rfl, trivial⟩ ?_
  refine rw_end ?_
  refine cw_ret (xw_thenr ?_)
  refine xw_ret3 Tryz.results50 (rv_box (cs := [_, _, _, _, _, _]) fc Tryz.isAgg29 Tryz.sizeOf29 rfl) (rv_tmp rfl) (rv_tmp rfl) ?_
  intro w hw
  exact ⟨⟨none, 0, none, 0, none, 0, none, 0⟩, trivial, rfl, (nil_mach hw).msub ms⟩
 ·have h : machE fs m = 0 := h
  obtain ⟨hF, hR⟩ := mach_ok h
  have e : r = (colM m, (m.blocks.length : Int) - (colM m).blocks.length) := by rw [← hr]; unfold colN; rw [if_pos h]
  subst e
  have hb8 := (checkB_le hR.bl).1
  have hc8 := (checkB_le (col_right hR).bl).1
  refine cw_skip (xw_then ?_)
  refine cw_seq ?_
  refine cw_region ?_
  refine rw_s (qs_ldbA (vs := [_, _, _, _, _, _]) fc Tryz.isAgg29 Tryz.sizeOf29 rfl rfl (by rfl) rfl) rfl rfl ?_
  refine rw_op (ot_c rfl rfl rfl Tryz.call109 (fun w hw => colraw_any fs a m w (MIn.ro hw hm) hF hR)) rfl rfl (fun g _ => ?_)
  refine rw_op (ot_alloc Tryz.zeroValue29 rfl rfl) rfl rfl (fun g4 _ => ?_)
  refine rw_op (ot_stb _ fc Tryz.sizeOf29 rfl rfl rfl rfl rfl (by rfl) rfl (by rfl)) rfl rfl (fun _ _ => ?_)
  refine rw_end ?_
  generalize colM m = c at hc8 ⊢
  refine cw_seq ?_
  refine cw_drawq (.still 0 (.still 1 (.still 2 (.still 3 (.still 4 (.still 5 (.still 6 (.still 7 (.pick 8 (.still 9 (.still 10 .done)) .stop))))))))) [] rfl (by kernel_rfl) (by kernel_rfl) [RBox g4 [.slice g.Af c.frames.length g.cf, .slice g.Ab c.blocks.length g.cb, .slice g.Ai c.inn.length g.ci, .slice g.Ao c.out.length g.co, .int .i64 c.status, .int .i64 c.trap] 29, RBox g2 [.slice a.Af m.frames.length a.cf, .slice a.Ab m.blocks.length a.cb, .slice a.Ai m.inn.length a.ci, .slice a.Ao m.out.length a.co, .int .i64 m.status, .int .i64 m.trap] 29] ?_
  refine ro_s2 rfl (qs_ldbA (vs := [_, _, _, _, _, _]) fc Tryz.isAgg29 Tryz.sizeOf29 rfl rfl (by rfl) rfl) rfl rfl ha ?_
  refine ro_run tab_ok ha 1 [(4, _), (8, _), (18, _), (19, _)] rfl ⟨rfl, rfl, rfl, rfl, trivial⟩ ?_
  refine ro_s2 rfl (qs_ldb fc Tryz.isAgg26 rfl rfl (by rfl)) rfl rfl ha ?_
  refine ro_s2 rfl (qs_len Tryz.underlying26 rfl rfl) rfl rfl ha ?_
  refine ro_run tab_ok ha 1 [(4, _), (18, _), (21, _), (22, _)] rfl ⟨rfl, rfl, rfl, rfl, trivial⟩ ?_
  refine ro_s2 rfl (qs_ldb fc Tryz.isAgg26 rfl rfl (by rfl)) rfl rfl ha ?_
  refine ro_s2 rfl (qs_len Tryz.underlying26 rfl rfl) rfl rfl ha ?_
  refine ro_s2 rfl (qs_sub rfl rfl rfl (by omega)) rfl rfl ha ?_
  refine ro_op2 rfl (ot_stb _ fc Tryz.sizeOf29 rfl rfl rfl rfl rfl (by rfl) rfl (by rfl)) rfl rfl (.inr fun _ => ha) (fun _ _ => ?_) ro_stop
  refine ro_run tab_ok ha 2 [(4, _), (5, _), (6, _)] rfl ⟨rfl, rfl, rfl, trivial⟩ ?_
  refine ro_end ?_
  refine cw_ret ?_
  refine xw_ret3 Tryz.results50 (rv_box (cs := [_, _, _, _, _, _]) fc Tryz.isAgg29 Tryz.sizeOf29 rfl) (rv_tmp rfl) (rv_tmp rfl) ?_
  intro w hw
  exact ⟨g, trivial, by rw [h], hw.msub ms⟩
end Go.Proofs.YtmnkaalchcomlaaGreat
-- Me1
/- Meter: what an op costs; one step with fuel. -/
namespace Go.Proofs.YtmnkaalchcomlaaGreat
open Go.RowKit
theorem costof_any (c : Int) (w : World) : Calls Tryz.prog 102 #[.int .i64 c] w fun e w' => e = .returned (.int .i64 (costC c)) ∧ Below w.heap.size w w' := by
 refine enter Tryz.func102 rfl Tryz.ntmps102 rfl ?_
 refine cw_seq ?_
 refine cw_region ?_
 refine rw_run tab_ok 1 [(0, _)] rfl ⟨rfl, trivial⟩ ?_
 refine rw_end ?_
 refine cw_seq ?_
 refine cw_seq ?_
 refine cw_region ?_
 refine rw_run tab_ok 1 [(3, _)] rfl ⟨rfl, trivial⟩ ?_
 refine rw_end ?_
 refine cw_block ?_
 refine cw_seq ?_
 refine cw_region ?_
 refine rw_run tab_ok 2 [(3, _), (4, _)] rfl ⟨rfl, rfl, trivial⟩ ?_
 refine rw_end ?_
 refine cw_condD rfl (fun h1 => ?_) (fun h1 => ?_)
 ·have h1 : c = 14 := h1
  refine cw_seq ?_
  refine cw_region ?_
  refine rw_run tab_ok 1 [(2, _)] rfl ⟨rfl, trivial⟩ ?_
  refine rw_end ?_
  refine cw_ret (xw_blkr (xw_thenr ?_))
  refine xw_ret1 Tryz.results102 (rv_tmp rfl) ?_
  intro w hw
  exact ⟨by rw [h1]; rfl, hw.below⟩
 ·have h1 : ¬ c = 14 := h1
  refine cw_seq ?_
  refine cw_region ?_
  refine rw_run tab_ok 2 [(6, _)] rfl ⟨rfl, trivial⟩ ?_
  refine rw_end ?_
  refine cw_condD rfl (fun h2 => ?_) (fun h2 => ?_)
  ·have h2 : c = 12 := h2
   refine cw_seq ?_
   refine cw_region ?_
   refine rw_run tab_ok 1 [(2, _)] rfl ⟨rfl, trivial⟩ ?_
   refine rw_end ?_
   refine cw_ret (xw_blkr (xw_thenr ?_))
   refine xw_ret1 Tryz.results102 (rv_tmp rfl) ?_
   intro w hw
   exact ⟨by rw [h2]; rfl, hw.below⟩
  ·have h2 : ¬ c = 12 := h2
   refine cw_skip (xw_blkn (xw_then ?_))
   refine cw_seq ?_
   refine cw_region ?_
   refine rw_run tab_ok 1 [(2, _)] rfl ⟨rfl, trivial⟩ ?_
   refine rw_end ?_
   refine cw_ret ?_
   refine xw_ret1 Tryz.results102 (rv_tmp rfl) ?_
   intro w hw
   exact ⟨by unfold costC; rw [if_neg h1, if_neg h2], hw.below⟩
set_option maxRecDepth 100000 in
theorem next_any (Ap : Option Addr) (cp : Nat) (fs : List MFunc) (a : MA) (m : MMach) (w : World) (hs : Sl w (.slice Ap fs.length cp) fs) (hm : MIn w.heap.size w a m) (hF : Fitd fs) (hR : RightM fs m) (hne : m.frames ≠ []) :
  Calls Tryz.prog 179 #[.agg #[.slice Ap fs.length cp], .agg #[.slice a.Af m.frames.length a.cf, .slice a.Ab m.blocks.length a.cb, .slice a.Ai m.inn.length a.ci, .slice a.Ao m.out.length a.co, .int .i64 m.status, .int .i64 m.trap]] w fun e w' => e = .returned (.agg #[.int .i64 (opOf fs m).c, .int .i64 (opOf fs m).a]) ∧ Below w.heap.size w w' := by
 have b1 := len_bd hm.f
 obtain ⟨li, x, e⟩ : ∃ li x, m.frames = li ++ [x] := by
  rcases List.eq_nil_or_concat m.frames with h1 | ⟨l, z, h1⟩
  ·exact absurd h1 hne
  ·exact ⟨l, z, by rw [h1]; simp⟩
 obtain ⟨hx, hk, hop⟩ := top_at (fs := fs) e
 obtain ⟨k, hkl⟩ : ∃ k, li.length = k := ⟨_, rfl⟩
 rw [hkl] at hx hk
 obtain ⟨hfn, hloc, t, he, hts⟩ := hR.top e
 obtain ⟨hp0, hp1, _⟩ := (hF.e x.func.toNat (by omega)).at_ _ _ he
 obtain ⟨A1, c1, A2, c2, h1, h2, hi, hc⟩ := hm.f.fr (k := k) (by omega)
 rw [hx] at h1 h2 hi hc
 obtain ⟨kf, hkf⟩ : ∃ kf : Nat, x.func = kf := ⟨x.func.toNat, by omega⟩
 obtain ⟨kp, hkp⟩ : ∃ kp : Nat, x.pc = kp := ⟨x.pc.toNat, by omega⟩
 rw [hkf, Int.toNat_natCast] at hp1 hop
 rw [hkp, Int.toNat_natCast] at hop
 rw [hkp] at hp1
 have hkfl : kf < fs.length := by omega
 have hkpl : kp < (fnAt fs kf).code.length := by omega
 obtain ⟨F1, d1, F2, d2, hfl, hfc, hfi, hfcell⟩ := hs.fn hkfl
 have bp := len_bd hs
 have bc := len_bd hfc
 rw [hop]
 refine enter Tryz.func179 rfl Tryz.ntmps179 rfl ?_
 refine cw_seq ?_
 refine cw_region ?_
 refine rw_op (ot_box rfl rfl rfl) rfl rfl (fun g1 _ => ?_)
 refine rw_op (ot_box rfl rfl rfl) rfl rfl (fun g2 _ => ?_)
 refine rw_op (ot_alloc Tryz.zeroValue51 rfl rfl) rfl rfl (fun g3 _ => ?_)
 refine rw_end ?_
 refine cw_seq ?_
 refine cw_region ?_
 refine rw_run tab_ok 1 [(2, _), (3, _), (4, _), (6, _)] rfl ⟨rfl, rfl, rfl, rfl, trivial⟩ ?_
 refine rw_s (qs_ldb fc Tryz.isAgg25 rfl rfl (by rfl)) rfl rfl ?_
 refine rw_run tab_ok 1 [(2, _), (4, _), (7, _), (8, _)] rfl ⟨rfl, rfl, rfl, rfl, trivial⟩ ?_
 refine rw_s (qs_ldb fc Tryz.isAgg25 rfl rfl (by rfl)) rfl rfl ?_
 refine rw_s (qs_len Tryz.underlying25 rfl rfl) rfl rfl ?_
 refine rw_s (qs_sub rfl rfl rfl (by omega)) rfl rfl ?_
 refine rw_as (t := 11) (v' := .int .i64 (k : Int)) rfl (congrArg (Value.int .i64) (by omega)) ?_
 refine rw_s (qs_idx (k := k) Tryz.underlying25 Tryz.sizeOf66 (.ro hm.f) (by omega) rfl rfl rfl) rfl rfl ?_
 refine rw_s (qs_ldA (hc _) rfl rfl Tryz.isAgg66 Tryz.sizeOf66) rfl rfl ?_
 refine rw_op (ot_alloc Tryz.zeroValue66 rfl rfl) rfl rfl (fun g4 _ => ?_)
 refine rw_op (ot_stb _ fc Tryz.sizeOf66 rfl rfl rfl rfl rfl (by rfl) rfl (by rfl)) rfl rfl (fun _ _ => ?_)
 refine rw_end ?_
 refine cw_seq ?_
 refine cw_draw (.still 0 (.still 1 (.still 2 (.still 3 (.still 4 (.still 5 (.still 6 (.still 7 (.still 8 (.still 9 (.still 10 (.pick 11 .done .stop)))))))))))) [11] rfl (by kernel_rfl) (by kernel_rfl) ?_
 refine ro_run tab_ok ha 1 [(4, _), (5, _), (14, _)] rfl ⟨rfl, rfl, rfl, trivial⟩ ?_
 refine ro_s2 rfl (qs_ldb fc Tryz.isAgg22 rfl rfl (by rfl)) rfl rfl ha ?_
 refine ro_run tab_ok ha 1 [(4, _), (5, _), (15, _), (16, _)] rfl ⟨rfl, rfl, rfl, rfl, trivial⟩ ?_
 refine ro_s2 rfl (qs_ldb fc Tryz.isAgg3 rfl rfl (by rfl)) rfl rfl ha ?_
 refine ro_as (t := 17) (v' := .int .i64 (kf : Int)) rfl (congrArg (Value.int .i64) hkf) ?_
 refine ro_s2 rfl (qs_idx (k := kf) Tryz.underlying22 Tryz.sizeOf113 (.ro hs) (by omega) rfl rfl rfl) rfl rfl ha ?_
 refine ro_run tab_ok ha 1 [(4, _), (5, _), (19, _)] rfl ⟨rfl, rfl, rfl, trivial⟩ ?_
 refine ro_s2 rfl (qs_ld (fun w hw => hfcell _ w hw 3 _ rfl) rfl rfl Tryz.isAgg111) rfl rfl ha ?_
 refine ro_run tab_ok ha 1 [(4, _), (20, _), (21, _)] rfl ⟨rfl, rfl, rfl, trivial⟩ ?_
 refine ro_s2 rfl (qs_ldb fc Tryz.isAgg3 rfl rfl (by rfl)) rfl rfl ha ?_
 refine ro_as (t := 22) (v' := .int .i64 (kp : Int)) rfl (congrArg (Value.int .i64) hkp) ?_
 refine ro_s2 rfl (qs_idx (k := kp) Tryz.underlying111 Tryz.sizeOf51 (.ro hfc) (by omega) rfl rfl rfl) rfl rfl ha ?_
 refine ro_s2 rfl (qs_ldA (cs := [_, _]) (SF.op (.ro hfc) (by omega)) rfl rfl Tryz.isAgg51 Tryz.sizeOf51) rfl rfl ha ?_
 refine ro_op2 rfl (ot_stb _ fc Tryz.sizeOf51 rfl rfl rfl rfl rfl (by rfl) rfl (by rfl)) rfl rfl (.inl rfl) (fun _ _ => ?_) ro_stop
 refine ro_end ?_
 refine cw_ret ?_
 refine xw_ret1 Tryz.results179 (rv_box (cs := [_, _]) fc Tryz.isAgg51 Tryz.sizeOf51 rfl) ?_
 intro w hw
 exact ⟨rfl, hw.below⟩
def costS (o : MOp) : Int := if checkOp o = 0 then costC o.c else 0
set_option maxRecDepth 100000 in
theorem cost_any (o : MOp) (w : World) : Calls Tryz.prog 42 #[.agg #[.int .i64 o.c, .int .i64 o.a]] w fun e w' => e = .returned (.tuple #[.int .i64 (costS o), .int .i64 (checkOp o)]) ∧ Below w.heap.size w w' := by
 refine enter Tryz.func42 rfl Tryz.ntmps42 rfl ?_
 refine cw_seq ?_
 refine cw_region ?_
 refine rw_op (ot_box rfl rfl rfl) rfl rfl (fun g1 _ => ?_)
 refine rw_run tab_ok 2 [(1, _)] rfl ⟨rfl, trivial⟩ ?_
 refine rw_end ?_
 refine cw_seq ?_
 refine cw_seq ?_
 refine cw_region ?_
 refine rw_s (qs_ldbA (vs := [_, _]) fc Tryz.isAgg51 Tryz.sizeOf51 rfl rfl (by rfl) rfl) rfl rfl ?_
 refine rw_op (ot_c0 rfl rfl rfl Tryz.call101 (fun w hw => check_any o w)) rfl rfl (fun _ _ => ?_)
 refine rw_run tab_ok 1 [(1, _), (4, _)] rfl ⟨rfl, rfl, trivial⟩ ?_
 refine rw_end ?_
 refine cw_seq ?_
 refine cw_region ?_
 refine rw_run tab_ok 2 [(1, _), (4, _), (8, _)] rfl ⟨rfl, rfl, rfl, trivial⟩ ?_
 refine rw_end ?_
 refine cw_condN rfl (fun h => ?_) (fun h => ?_)
 ·have h : ¬ checkOp o = 0 := h
  refine cw_seq ?_
  refine cw_region ?_
  refine rw_run tab_ok 3 [(2, _), (3, _)] rfl ⟨rfl, rfl, trivial⟩ ?_
  refine rw_end ?_
  refine cw_ret (xw_thenr ?_)
  refine xw_ret2 Tryz.results42 (rv_tmp rfl) (rv_tmp rfl) ?_
  intro w hw
  exact ⟨by unfold costS; rw [if_neg h], hw.below⟩
 ·have h : checkOp o = 0 := h
  refine cw_skip (xw_then ?_)
  refine cw_seq ?_
  refine cw_region ?_
  refine rw_run tab_ok 1 [(10, _)] rfl ⟨rfl, trivial⟩ ?_
  refine rw_s (qs_ldb fc Tryz.isAgg3 rfl rfl (by rfl)) rfl rfl ?_
  refine rw_op (ot_c0 rfl rfl rfl Tryz.call102 (fun w hw => costof_any o.c w)) rfl rfl (fun _ _ => ?_)
  refine rw_run tab_ok 2 [(2, _), (3, _)] rfl ⟨rfl, rfl, trivial⟩ ?_
  refine rw_end ?_
  refine cw_ret ?_
  refine xw_ret2 Tryz.results42 (rv_tmp rfl) (rv_tmp rfl) ?_
  intro w hw
  exact ⟨by unfold costS; rw [if_pos h, h], hw.below⟩
/-! A step with fuel -/
def oneS (fs : List MFunc) (m : MMach) (k : Int) : MMach × Int := if haltM m then (m, k) else if k < costC (opOf fs m).c then (m, k) else (stepM fs m, k - costC (opOf fs m).c)
def onS (fs : List MFunc) (m : MMach) (k : Int) : Prop := ¬ haltM m ∧ costC (opOf fs m).c ≤ k ∧ (stepM fs m).status = 0
instance (fs : List MFunc) (m : MMach) (k : Int) : Decidable (onS fs m k) := by unfold onS; infer_instance
theorem one_halt {fs : List MFunc} {m : MMach} {k : Int} (h : haltM m) : oneS fs m k = (m, k) := if_pos h
theorem one_less {fs : List MFunc} {m : MMach} {k : Int} (h : ¬ haltM m) (h2 : k < costC (opOf fs m).c) : oneS fs m k = (m, k) := (if_neg h).trans (if_pos h2)
theorem one_step {fs : List MFunc} {m : MMach} {k : Int} (h : ¬ haltM m) (h2 : ¬ k < costC (opOf fs m).c) : oneS fs m k = (stepM fs m, k - costC (opOf fs m).c) := (if_neg h).trans (if_neg h2)
theorem run_one (fs : List MFunc) (m : MMach) (k : Int) : runM fs m k = if onS fs m k then runM fs (oneS fs m k).1 (oneS fs m k).2 else oneS fs m k := by
 rw [runM_eq]
 by_cases h1 : haltM m
 ·rw [if_pos h1, if_neg (show ¬ onS fs m k from fun h => h.1 h1), one_halt h1]
 ·rw [if_neg h1]
  by_cases h2 : k < costC (opOf fs m).c
  ·rw [if_pos h2, if_neg (show ¬ onS fs m k from fun h => by have := h.2.1; omega), one_less h1 h2]
  ·rw [if_neg h2, one_step h1 h2]
   by_cases h3 : (stepM fs m).status = 0
   ·rw [if_pos h3, if_pos (show onS fs m k from ⟨h1, by omega, h3⟩)]
   ·rw [if_neg h3, if_neg (show ¬ onS fs m k from fun h => h3 h.2.2)]
section
variable {B : Nat} {w0 : World} {H : List Res}
set_option maxRecDepth 100000 in
set_option maxHeartbeats 4000000 in
theorem rstep_any (gd : Nat) (a : MA) (m : MMach) (k : Int) (Ap : Option Addr) (cp : Nat) (fs : List MFunc) (hs : SlB w0 B (.slice Ap fs.length cp) fs) (hF : Fitd fs) (hR : RightM fs m) (hk : 0 ≤ k ∧ k ≤ 10000) (p : MMach × Int) (hpe : oneS fs m k = p) (w : World)
  (hw : Cw B w0 (RBox gd [.slice a.Af m.frames.length a.cf, .slice a.Ab m.blocks.length a.cb, .slice a.Ai m.inn.length a.ci, .slice a.Ao m.out.length a.co, .int .i64 m.status, .int .i64 m.trap, .int .i64 k] 176 :: ROw (.slice a.Af m.frames.length a.cf) m.frames :: ROw (.slice a.Ab m.blocks.length a.cb) m.blocks :: ROw (.slice a.Ai m.inn.length a.ci) m.inn :: ROw (.slice a.Ao m.out.length a.co) m.out :: H) w) :
  Calls Tryz.prog 139 #[.pointer (some ⟨gd, 0, none⟩), .agg #[.slice Ap fs.length cp]] w fun e w' => ∃ g : MA, True ∧ e = .returned (.bool (decide (onS fs m k))) ∧
   Cw B w0 (RBox gd [.slice g.Af p.1.frames.length g.cf, .slice g.Ab p.1.blocks.length g.cb, .slice g.Ai p.1.inn.length g.ci, .slice g.Ao p.1.out.length g.co, .int .i64 p.1.status, .int .i64 p.1.trap, .int .i64 p.2] 176 :: ROw (.slice g.Af p.1.frames.length g.cf) p.1.frames :: ROw (.slice g.Ab p.1.blocks.length g.cb) p.1.blocks :: ROw (.slice g.Ai p.1.inn.length g.ci) p.1.inn :: ROw (.slice g.Ao p.1.out.length g.co) p.1.out :: H) w' := by
 have hp := cost_pos (opOf fs m).c
 have hst := hR.st
 have hst2 : I64 m.status := ⟨by omega, by omega⟩
 have htr2 : I64 m.trap := by
  rcases Decidable.em (m.status = 3) with h3 | h3
  ·have := hR.t3 h3; exact ⟨by omega, by omega⟩
  ·have := hR.t0 h3; exact ⟨by omega, by omega⟩
 refine enter_own Tryz.func139 rfl Tryz.ntmps139 rfl hw ?_
 refine cw_seq ?_
 refine cw_region ?_
 refine rw_op (ot_box rfl rfl rfl) rfl rfl (fun g1 _ => ?_)
 refine rw_run tab_ok 1 [(0, _), (3, _)] rfl ⟨rfl, rfl, trivial⟩ ?_
 refine rw_end ?_
 refine cw_seq ?_
 refine cw_seq ?_
 refine cw_region ?_
 refine rw_run tab_ok 4 [(0, _), (3, _), (9, _)] rfl ⟨rfl, rfl, rfl, trivial⟩ ?_
 refine rw_s (qs_ldb fc Tryz.isAgg25 rfl rfl (by rfl)) rfl rfl ?_
 refine rw_s (qs_len Tryz.underlying25 rfl rfl) rfl rfl ?_
 refine rw_run tab_ok 2 [(0, _), (3, _), (13, _)] rfl ⟨rfl, rfl, rfl, trivial⟩ ?_
 refine rw_split (t := 13) rfl (fun q1 => ?_) (fun q1 => ?_)
 ·have hh : haltM m := .inl (List.eq_nil_of_length_eq_zero (by have := of_decide_eq_true q1; omega))
  have e : p = (m, k) := by rw [← hpe, one_halt hh]
  subst e
  refine rw_run tab_ok 7 [(0, _), (3, _), (20, _)] rfl ⟨rfl, rfl, rfl, trivial⟩ ?_
  refine rw_end ?_
  refine cw_cond_t rfl ?_
  refine cw_seq ?_
  refine cw_region ?_
  refine rw_run tab_ok 1 [(4, _)] rfl ⟨rfl, trivial⟩ ?_
  refine rw_end ?_
  refine cw_ret (xw_thenr ?_)
  refine xw_ret1 Tryz.results139 (rv_tmp rfl) ?_
  intro w hw
  exact ⟨a, trivial, ret_bool (decide_eq_false (fun h => h.1 hh)).symm, hw.msub ms⟩
 ·have hne : m.frames ≠ [] := fun e => by have := of_decide_eq_false q1; rw [e] at this; simp at this
  refine rw_run tab_ok 4 [(0, _), (3, _), (13, _), (17, _)] rfl ⟨rfl, rfl, rfl, rfl, trivial⟩ ?_
  refine rw_s (qs_ldb fc Tryz.isAgg3 rfl rfl (by rfl)) rfl rfl ?_
  refine rw_run tab_ok 2 [(0, _), (3, _), (20, _)] rfl ⟨rfl, rfl, rfl, trivial⟩ ?_
  refine rw_end ?_
  refine cw_condD rfl (fun q2 => ?_) (fun q2 => ?_)
  ·have hh : haltM m := .inr q2
   have e : p = (m, k) := by rw [← hpe, one_halt hh]
   subst e
   refine cw_seq ?_
   refine cw_region ?_
   refine rw_run tab_ok 1 [(4, _)] rfl ⟨rfl, trivial⟩ ?_
   refine rw_end ?_
   refine cw_ret (xw_thenr ?_)
   refine xw_ret1 Tryz.results139 (rv_tmp rfl) ?_
   intro w hw
   exact ⟨a, trivial, ret_bool (decide_eq_false (fun h => h.1 hh)).symm, hw.msub ms⟩
  ·have q2 : ¬ m.status = 3 := q2
   have hh : ¬ haltM m := fun h => h.elim hne q2
   have hst3 : ¬ (m.status = 2 ∨ m.status = 3) := (not_congr (halt_iff hR)).1 hh
   obtain ⟨c, hc⟩ : ∃ c, costC (opOf fs m).c = c := ⟨_, rfl⟩
   refine cw_skip (xw_then ?_)
   refine cw_seq ?_
   refine cw_draw (.still 0 (.still 1 (.still 2 (.still 3 (.still 4 (.pick 5 (.still 6 (.pick 7 (.still 8 .done) .stop)) .stop)))))) [] rfl (by kernel_rfl) (by kernel_rfl) ?_
   refine ro_s2 rfl (qs_ldbA (vs := [_]) fc Tryz.isAgg24 Tryz.sizeOf24 rfl rfl (by rfl) rfl) rfl rfl ha ?_
   refine ro_run tab_ok ha 3 [(0, _), (3, _), (21, _), (24, _)] rfl ⟨rfl, rfl, rfl, rfl, trivial⟩ ?_
   refine ro_s2 rfl (qs_ldbA (vs := [_, _, _, _, _, _]) fc Tryz.isAgg29 Tryz.sizeOf29 rfl rfl (by rfl) rfl) rfl rfl ha ?_
   refine ro_op2 rfl (ot_c0 rfl rfl rfl Tryz.call179 (fun w hw => next_any Ap cp fs a m w (hw.ro hs) (min_own hw fc fc fc fc rfl rfl rfl rfl hst2 htr2) hF hR hne)) rfl rfl (.inr fun _ => ha) (fun _ _ => ?_) ro_stop
   refine ro_s2 rfl (qs_field (ofield _ _) rfl rfl) rfl rfl ha ?_
   refine ro_op2 rfl (ot_c0 rfl rfl rfl Tryz.call102 (fun w hw => costof_any _ w)) rfl rfl (.inr fun _ => ha) (fun _ _ => ?_) ro_stop
   refine ro_run tab_ok ha 1 [(0, _), (3, _), (5, _)] rfl ⟨rfl, rfl, rfl, trivial⟩ ?_
   refine ro_end ?_
   refine cw_seq ?_
   refine cw_seq ?_
   refine cw_region ?_
   refine rw_run tab_ok 4 [(0, _), (3, _), (5, _), (29, _), (32, _)] rfl ⟨rfl, rfl, rfl, rfl, rfl, trivial⟩ ?_
   refine rw_s (qs_ldb fc Tryz.isAgg3 rfl rfl (by rfl)) rfl rfl ?_
   refine rw_run tab_ok 1 [(0, _), (3, _), (5, _), (34, _)] rfl ⟨rfl, rfl, rfl, rfl, trivial⟩ ?_
   refine rw_end ?_
   rw [hc] at hp
   rw [hc]
   have hc3 := cost_le (opOf fs m).c
   refine cw_condD rfl (fun q3 => ?_) (fun q3 => ?_)
   ·have q3 : k < c := q3
    have e : p = (m, k) := by rw [← hpe, one_less hh (by rw [hc]; exact q3)]
    subst e
    refine cw_seq ?_
    refine cw_region ?_
    refine rw_run tab_ok 1 [(4, _)] rfl ⟨rfl, trivial⟩ ?_
    refine rw_end ?_
    refine cw_ret (xw_thenr ?_)
    refine xw_ret1 Tryz.results139 (rv_tmp rfl) ?_
    intro w hw
    exact ⟨a, trivial, ret_bool (decide_eq_false (fun h => by have := h.2.1; omega)).symm, hw.msub ms⟩
   ·have q3 : ¬ k < c := q3
    obtain ⟨m2, hm2⟩ : ∃ m2, stepM fs m = m2 := ⟨_, rfl⟩
    have e : p = (m2, k - c) := by rw [← hpe, one_step hh (by rw [hc]; exact q3), hm2, hc]
    subst e
    have hon : onS fs m k ↔ m2.status = 0 := by
     unfold onS
     rw [hm2, hc]
     exact ⟨fun h => h.2.2, fun h => ⟨hh, by omega, h⟩⟩
    refine cw_skip (xw_then ?_)
    refine cw_seq ?_
    refine cw_region ?_
    refine rw_run tab_ok 3 [(0, _), (3, _), (5, _), (35, _), (37, _)] rfl ⟨rfl, rfl, rfl, rfl, rfl, trivial⟩ ?_
    refine rw_s (qs_ldb fc Tryz.isAgg3 rfl rfl (by rfl)) rfl rfl ?_
    refine rw_run tab_ok 1 [(0, _), (3, _), (35, _), (38, _), (39, _)] rfl ⟨rfl, rfl, rfl, rfl, rfl, trivial⟩ ?_
    refine rw_s (qs_sub rfl rfl rfl (by omega)) rfl rfl ?_
    refine rw_run tab_ok 2 [(0, _), (3, _), (40, _), (42, _)] rfl ⟨rfl, rfl, rfl, rfl, trivial⟩ ?_
    refine rw_op (ot_stb _ fc Tryz.sizeOf3 rfl rfl rfl rfl rfl (by rfl) rfl (by rfl)) rfl rfl (fun _ _ => ?_)
    refine rw_end ?_
    refine cw_seq ?_
    refine cw_draw (.still 0 (.still 1 (.still 2 (.still 3 (.still 4 (.still 5 (.pick 6 (.still 7 (.still 8 (.pick 9 .done .stop))) .stop))))))) [9] rfl (by kernel_rfl) (by kernel_rfl) ?_
    refine ro_run tab_ok ha 1 [(0, _), (3, _), (43, _)] rfl ⟨rfl, rfl, rfl, trivial⟩ ?_
    refine ro_s2 rfl (qs_ldbA (vs := [_]) fc Tryz.isAgg24 Tryz.sizeOf24 rfl rfl (by rfl) rfl) rfl rfl ha ?_
    refine ro_run tab_ok ha 3 [(0, _), (43, _), (44, _), (47, _)] rfl ⟨rfl, rfl, rfl, rfl, trivial⟩ ?_
    refine ro_s2 rfl (qs_ldbA (vs := [_, _, _, _, _, _]) fc Tryz.isAgg29 Tryz.sizeOf29 rfl rfl (by rfl) rfl) rfl rfl ha ?_
    refine ro_op2 rfl (ot_c rfl rfl rfl Tryz.call86 (fun w hw => raw_any Ap cp fs a m m2 hm2 w (hw.ro hs) (min_own hw fc fc fc fc rfl rfl rfl rfl hst2 htr2) (fitM_of hF hR) (fun hst => stepOk_of hs hF hR hst))) rfl rfl (.inr fun _ => ha) (fun g5 _ => ?_) ro_stop
    refine ro_run tab_ok ha 2 [(0, _), (49, _), (51, _)] rfl ⟨rfl, rfl, rfl, trivial⟩ ?_
    refine ro_op2 rfl (ot_stb _ fc Tryz.sizeOf29 rfl rfl rfl rfl rfl (by rfl) rfl (by rfl)) rfl rfl (.inl rfl) (fun _ _ => ?_) ro_stop
    refine ro_end ?_
    refine cw_seq ?_
    refine cw_region ?_
    refine rw_run tab_ok 4 [(55, _)] rfl ⟨rfl, trivial⟩ ?_
    refine rw_s (qs_ldb fc Tryz.isAgg3 rfl rfl (by rfl)) rfl rfl ?_
    refine rw_run tab_ok 2 [(4, _)] rfl ⟨rfl, trivial⟩ ?_
    refine rw_end ?_
    refine cw_ret ?_
    refine xw_ret1 Tryz.results139 (rv_tmp rfl) ?_
    intro w hw
    exact ⟨g5, trivial, ret_bool (decide_eq_decide.2 hon).symm, hw.msub ms⟩
end
end Go.Proofs.YtmnkaalchcomlaaGreat
-- Me2
/- Meter: a machine runs. -/
namespace Go.Proofs.YtmnkaalchcomlaaGreat
open Go.RowKit
theorem one_right {fs : List MFunc} (_ : Fitd fs) {m : MMach} (_ : RightM fs m) {k : Int} (hon : onS fs m k) : oneS fs m k = (stepM fs m, k - costC (opOf fs m).c) := by
 exact one_step hon.1 (by have := hon.2.1; omega)
set_option maxRecDepth 100000 in
set_option maxHeartbeats 4000000 in
theorem mraw_any (Ap : Option Addr) (cp : Nat) (fs : List MFunc) (a : MA) (m : MMach) (k : Int) (r : MMach × Int) (hr : runM fs m k = r) (w : World) (hs : Sl w (.slice Ap fs.length cp) fs) (hm : MIn w.heap.size w a m) (hF : Fitd fs) (hR : RightM fs m) (hk : 0 ≤ k ∧ k ≤ 10000) :
  Calls Tryz.prog 100 #[.agg #[.slice Ap fs.length cp], .agg #[.slice a.Af m.frames.length a.cf, .slice a.Ab m.blocks.length a.cb, .slice a.Ai m.inn.length a.ci, .slice a.Ao m.out.length a.co, .int .i64 m.status, .int .i64 m.trap], .int .i64 k] w fun e w' => ∃ g : MA, True ∧
   e = .returned (.tuple #[.agg #[.slice g.Af r.1.frames.length g.cf, .slice g.Ab r.1.blocks.length g.cb, .slice g.Ai r.1.inn.length g.ci, .slice g.Ao r.1.out.length g.co, .int .i64 r.1.status, .int .i64 r.1.trap], .int .i64 r.2]) ∧ Cw w.heap.size w [ROw (.slice g.Af r.1.frames.length g.cf) r.1.frames, ROw (.slice g.Ab r.1.blocks.length g.cb) r.1.blocks, ROw (.slice g.Ai r.1.inn.length g.ci) r.1.inn, ROw (.slice g.Ao r.1.out.length g.co) r.1.out] w' := by
 refine enter Tryz.func100 rfl Tryz.ntmps100 rfl ?_
 refine cw_seq ?_
 refine cw_region ?_
 refine rw_op (ot_box rfl rfl rfl) rfl rfl (fun g1 _ => ?_)
 refine rw_op (ot_box rfl rfl rfl) rfl rfl (fun g2 _ => ?_)
 refine rw_op (ot_alloc Tryz.zeroValue29 rfl rfl) rfl rfl (fun g3 _ => ?_)
 refine rw_run tab_ok 1 [(2, _), (3, _), (4, _), (6, _)] rfl ⟨rfl, rfl, rfl, rfl, trivial⟩ ?_
 refine rw_end ?_
 refine cw_seq ?_
 refine cw_region ?_
 refine rw_s (qs_ldbA (vs := [_, _, _, _, _, _]) fc Tryz.isAgg29 Tryz.sizeOf29 rfl rfl (by rfl) rfl) rfl rfl ?_
 refine rw_op (ot_c rfl rfl rfl Tryz.call133 (fun w hw => ownm_any a m w (MIn.ro hw hm) (fitM_of hF hR))) rfl rfl (fun g0 _ => ?_)
 refine rw_run tab_ok 1 [(3, _), (6, _), (10, _), (11, _)] rfl ⟨rfl, rfl, rfl, rfl, trivial⟩ ?_
 refine rw_s (qs_bst (cs := [_, _, _, _, _, _, _]) plT176 Tryz.zeroValue176 rfl rfl (by rfl)) rfl rfl ?_
 refine rw_op (ot_box rfl rfl rfl) rfl rfl (fun g4 _ => ?_)
 refine rw_run tab_ok 1 [(3, _), (6, _), (8, _)] rfl ⟨rfl, rfl, rfl, trivial⟩ ?_
 refine rw_end ?_
 refine cw_seq ?_
 refine cw_block (cw_loop (fun g : (MMach × Int) × MA => (RightM fs g.1.1 ∧ 0 ≤ g.1.2 ∧ g.1.2 ≤ 10000) ∧ runM fs g.1.1 g.1.2 = r) (fun g => g.1.2.toNat) (fun _ => [(3, .pointer (some ⟨g1, 0, none⟩)), (6, .pointer (some ⟨g3, 0, none⟩)), (8, .pointer (some ⟨g4, 0, none⟩))]) (fun g => [RBox g4 [.slice g.2.Af g.1.1.frames.length g.2.cf, .slice g.2.Ab g.1.1.blocks.length g.2.cb, .slice g.2.Ai g.1.1.inn.length g.2.ci, .slice g.2.Ao g.1.1.out.length g.2.co, .int .i64 g.1.1.status, .int .i64 g.1.1.trap, .int .i64 g.1.2] 176, ROw (.slice g.2.Af g.1.1.frames.length g.2.cf) g.1.1.frames, ROw (.slice g.2.Ab g.1.1.blocks.length g.2.cb) g.1.1.blocks, ROw (.slice g.2.Ai g.1.1.inn.length g.2.ci) g.1.1.inn, ROw (.slice g.2.Ao g.1.1.out.length g.2.co) g.1.1.out, RBox g1 [.slice Ap fs.length cp] 24, RBox g3 [.slice none 0 0, .slice none 0 0, .slice none 0 0, .slice none 0 0, .int .i64 0, .int .i64 0] 29]) ((m, k), g0) (⟨⟨hR, hk⟩, hr⟩) ⟨rfl, rfl, rfl, trivial⟩ me ?_)
 rintro ⟨⟨q, z⟩, g⟩ hq
 try dsimp only
 obtain ⟨⟨hRq, hz⟩, hrq⟩ : (RightM fs q ∧ 0 ≤ z ∧ z ≤ 10000) ∧ runM fs q z = r := hq
 obtain ⟨p, hpe⟩ : ∃ p, oneS fs q z = p := ⟨_, rfl⟩
 refine cw_seq ?_
 refine cw_seq ?_
 refine cw_region ?_
 refine rw_run tab_ok 1 [(3, _), (6, _), (8, _), (14, _)] rfl ⟨rfl, rfl, rfl, rfl, trivial⟩ ?_
 refine rw_s (qs_ldbA (vs := [_]) fc Tryz.isAgg24 Tryz.sizeOf24 rfl rfl (by rfl) rfl) rfl rfl ?_
 refine rw_op (ot_call rfl rfl rfl Tryz.call139 (fun w hw => rstep_any g4 g q z Ap cp fs hs hF hRq hz p hpe w (hw.msub (.s fc (.s fc (.s fc (.s fc (.s fc .r)))))))) rfl rfl (fun g5 _ => ?_)
 refine rw_end ?_
 refine cw_condD rfl (fun hon => ?_) (fun hon => ?_)
 ·have hon : onS fs q z := hon
  have e1 := (one_right hF hRq hon).symm.trans hpe
  have hp := cost_pos (opOf fs q).c
  have h2 := hon.2.1
  refine cw_skip (xw_then ?_)
  refine cw_block ?_
  refine cw_skip (xw_blkn ?_)
  refine xw_round (p, g5) (by rw [← e1]; exact ⟨⟨step_right hF hRq, by show 0 ≤ z - _; omega, by show z - _ ≤ _; omega⟩, by show runM fs (stepM fs q) _ = r; rw [← hrq, run_one fs q z, if_pos hon, hpe, ← e1]⟩) (by rw [← e1]; show (z - _).toNat < z.toNat; omega) ⟨rfl, rfl, rfl, trivial⟩ me
 ·have hon : ¬ onS fs q z := hon
  have e1 : p = r := by rw [← hrq, run_one fs q z, if_neg hon, hpe]
  subst e1
  refine cw_exit (xw_thenx (xw_thenx (xw_blk (xw_then ?_))))
  refine cw_seq ?_
  refine cw_drawq (.still 0 (.still 1 (.still 2 (.still 3 (.still 4 (.still 5 (.still 6 (.still 7 (.pick 8 (.still 9 .done) .stop))))))))) [] rfl (by kernel_rfl) (by kernel_rfl) [RBox g4 [.slice g5.Af p.1.frames.length g5.cf, .slice g5.Ab p.1.blocks.length g5.cb, .slice g5.Ai p.1.inn.length g5.ci, .slice g5.Ao p.1.out.length g5.co, .int .i64 p.1.status, .int .i64 p.1.trap, .int .i64 p.2] 176] ?_
  refine ro_run tab_ok ha 3 [(6, _), (8, _), (19, _)] rfl ⟨rfl, rfl, rfl, trivial⟩ ?_
  refine ro_s2 rfl (qs_ldbA (vs := [_, _, _, _, _, _]) fc Tryz.isAgg29 Tryz.sizeOf29 rfl rfl (by rfl) rfl) rfl rfl ha ?_
  refine ro_run tab_ok ha 3 [(6, _), (20, _), (23, _)] rfl ⟨rfl, rfl, rfl, trivial⟩ ?_
  refine ro_s2 rfl (qs_ldb fc Tryz.isAgg3 rfl rfl (by rfl)) rfl rfl ha ?_
  refine ro_op2 rfl (ot_stb _ fc Tryz.sizeOf29 rfl rfl rfl rfl rfl (by rfl) rfl (by rfl)) rfl rfl (.inr fun _ => ha) (fun _ _ => ?_) ro_stop
  refine ro_run tab_ok ha 1 [(6, _), (7, _)] rfl ⟨rfl, rfl, trivial⟩ ?_
  refine ro_end ?_
  refine cw_ret ?_
  refine xw_ret2 Tryz.results100 (rv_box (cs := [_, _, _, _, _, _]) fc Tryz.isAgg29 Tryz.sizeOf29 rfl) (rv_tmp rfl) ?_
  intro w hw
  exact ⟨g5, trivial, rfl, hw.msub ms⟩
def runE (fs : List MFunc) (m : MMach) (k : Int) : Int := if machE fs m ≠ 0 then machE fs m else if k < 0 ∨ 10000 < k then 3 else 0
def runR (fs : List MFunc) (m : MMach) (k : Int) : MMach × Int := if runE fs m k = 0 then runM fs m k else (default, 0)
set_option maxRecDepth 100000 in
set_option maxHeartbeats 4000000 in
theorem mrun_any (Ap : Option Addr) (cp : Nat) (fs : List MFunc) (a : MA) (m : MMach) (k : Int) (r : MMach × Int) (hr : runR fs m k = r) (w : World) (hs : Sl w (.slice Ap fs.length cp) fs) (hm : MIn w.heap.size w a m) (hfit : FitF m.frames) :
  Calls Tryz.prog 41 #[.agg #[.slice Ap fs.length cp], .agg #[.slice a.Af m.frames.length a.cf, .slice a.Ab m.blocks.length a.cb, .slice a.Ai m.inn.length a.ci, .slice a.Ao m.out.length a.co, .int .i64 m.status, .int .i64 m.trap], .int .i64 k] w fun e w' => ∃ g : MA, True ∧
   e = .returned (.tuple #[.agg #[.slice g.Af r.1.frames.length g.cf, .slice g.Ab r.1.blocks.length g.cb, .slice g.Ai r.1.inn.length g.ci, .slice g.Ao r.1.out.length g.co, .int .i64 r.1.status, .int .i64 r.1.trap], .int .i64 r.2, .int .i64 (runE fs m k)]) ∧ Cw w.heap.size w [ROw (.slice g.Af r.1.frames.length g.cf) r.1.frames, ROw (.slice g.Ab r.1.blocks.length g.cb) r.1.blocks, ROw (.slice g.Ai r.1.inn.length g.ci) r.1.inn, ROw (.slice g.Ao r.1.out.length g.co) r.1.out] w' := by
 refine enter Tryz.func41 rfl Tryz.ntmps41 rfl ?_
 refine cw_seq ?_
 refine cw_region ?_
 refine rw_op (ot_box rfl rfl rfl) rfl rfl (fun g1 _ => ?_)
 refine rw_op (ot_box rfl rfl rfl) rfl rfl (fun g2 _ => ?_)
 refine rw_op (ot_alloc Tryz.zeroValue29 rfl rfl) rfl rfl (fun g3 _ => ?_)
 refine rw_run tab_ok 2 [(2, _), (3, _), (4, _), (6, _)] rfl ⟨rfl, rfl, rfl, rfl, trivial⟩ ?_
 refine rw_end ?_
 refine cw_seq ?_
 refine cw_region ?_
 refine rw_s (qs_ldbA (vs := [_]) fc Tryz.isAgg24 Tryz.sizeOf24 rfl rfl (by rfl) rfl) rfl rfl ?_
 refine rw_s (qs_ldbA (vs := [_, _, _, _, _, _]) fc Tryz.isAgg29 Tryz.sizeOf29 rfl rfl (by rfl) rfl) rfl rfl ?_
 refine rw_op (ot_c0 rfl rfl rfl Tryz.call36 (fun w hw => mcheck_any Ap cp fs a m w (hw.ro hs) (MIn.ro hw hm) hfit)) rfl rfl (fun _ _ => ?_)
 refine rw_run tab_ok 1 [(2, _), (3, _), (4, _), (6, _), (9, _)] rfl ⟨rfl, rfl, rfl, rfl, rfl, trivial⟩ ?_
 refine rw_end ?_
 refine cw_seq ?_
 refine cw_seq ?_
 refine cw_region ?_
 refine rw_run tab_ok 3 [(2, _), (3, _), (4, _), (6, _), (9, _), (17, _)] rfl ⟨rfl, rfl, rfl, rfl, rfl, rfl, trivial⟩ ?_
 unfold runR at hr
 by_cases hE : machE fs m = 0
 ·obtain ⟨hF, hR⟩ := mach_ok hE
  have hE2 : runE fs m k = if k < 0 ∨ 10000 < k then 3 else 0 := by unfold runE; rw [if_neg (fun h => h hE)]
  rw [hE]
  refine rw_as (t := 17) (v' := .bool true) rfl (rfl) ?_
  refine rw_run tab_ok 3 [(2, _), (3, _), (4, _), (6, _), (9, _), (17, _), (20, _)] rfl ⟨rfl, rfl, rfl, rfl, rfl, rfl, rfl, trivial⟩ ?_
  by_cases hb0 : k < 0
  ·have hE3 : runE fs m k = 3 := by rw [hE2, if_pos (.inl hb0)]
   rw [hE3, if_neg (by decide)] at hr
   subst hr
   rw [hE3]
   refine rw_as (t := 20) (v' := .bool true) rfl (congrArg Value.bool (decide_eq_true hb0)) ?_
   refine rw_run tab_ok 4 [(2, _), (3, _), (4, _), (6, _), (9, _), (24, _)] rfl ⟨rfl, rfl, rfl, rfl, rfl, rfl, trivial⟩ ?_
   refine rw_end ?_
   refine cw_cond_t rfl ?_
   refine cw_region ?_
   refine rw_run tab_ok 1 [(2, _), (3, _), (4, _), (6, _), (9, _)] rfl ⟨rfl, rfl, rfl, rfl, rfl, trivial⟩ ?_
   refine rw_end ?_
   refine cw_seq ?_
   refine cw_seq ?_
   refine cw_region ?_
   refine rw_run tab_ok 2 [(2, _), (3, _), (4, _), (6, _), (9, _), (26, _)] rfl ⟨rfl, rfl, rfl, rfl, rfl, rfl, trivial⟩ ?_
   refine rw_end ?_
   refine cw_as (t := 26) (v' := .bool true) rfl (rfl) ?_
   refine cw_cond_t rfl ?_
   refine cw_seq ?_
   refine cw_region ?_
   refine rw_s (qs_bst (cs := [_, _, _, _, _, _]) plT29 Tryz.zeroValue29 rfl rfl (by rfl)) rfl rfl ?_
   refine rw_run tab_ok 1 [(6, _), (27, _), (28, _)] rfl ⟨rfl, rfl, rfl, trivial⟩ ?_
   refine rw_op (ot_stb _ fc Tryz.sizeOf29 rfl rfl rfl rfl rfl (by rfl) rfl (by rfl)) rfl rfl (fun _ _ => ?_)
   refine rw_run tab_ok 2 [(6, _), (7, _), (8, _)] rfl ⟨rfl, rfl, rfl, trivial⟩ ?_
   refine rw_end ?_
   refine cw_ret (xw_thenr ?_)
   refine xw_ret3 Tryz.results41 (rv_box (cs := [_, _, _, _, _, _]) fc Tryz.isAgg29 Tryz.sizeOf29 rfl) (rv_tmp rfl) (rv_tmp rfl) ?_
   intro w hw
   exact ⟨⟨none, 0, none, 0, none, 0, none, 0⟩, trivial, rfl, (nil_mach hw).msub ms⟩
  ·refine rw_as (t := 20) (v' := .bool false) rfl (congrArg Value.bool (decide_eq_false hb0)) ?_
   refine rw_run tab_ok 4 [(2, _), (3, _), (4, _), (6, _), (9, _), (24, _)] rfl ⟨rfl, rfl, rfl, rfl, rfl, rfl, trivial⟩ ?_
   refine rw_end ?_
   by_cases hb1 : 10000 < k
   ·have hE3 : runE fs m k = 3 := by rw [hE2, if_pos (.inr hb1)]
    rw [hE3, if_neg (by decide)] at hr
    subst hr
    rw [hE3]
    refine cw_as (t := 24) (v' := .bool true) rfl (congrArg Value.bool (decide_eq_true hb1)) ?_
    refine cw_cond_t rfl ?_
    refine cw_region ?_
    refine rw_run tab_ok 1 [(2, _), (3, _), (4, _), (6, _), (9, _)] rfl ⟨rfl, rfl, rfl, rfl, rfl, trivial⟩ ?_
    refine rw_end ?_
    refine cw_seq ?_
    refine cw_seq ?_
    refine cw_region ?_
    refine rw_run tab_ok 2 [(2, _), (3, _), (4, _), (6, _), (9, _), (26, _)] rfl ⟨rfl, rfl, rfl, rfl, rfl, rfl, trivial⟩ ?_
    refine rw_end ?_
    refine cw_as (t := 26) (v' := .bool true) rfl (rfl) ?_
    refine cw_cond_t rfl ?_
    refine cw_seq ?_
    refine cw_region ?_
    refine rw_s (qs_bst (cs := [_, _, _, _, _, _]) plT29 Tryz.zeroValue29 rfl rfl (by rfl)) rfl rfl ?_
    refine rw_run tab_ok 1 [(6, _), (27, _), (28, _)] rfl ⟨rfl, rfl, rfl, trivial⟩ ?_
    refine rw_op (ot_stb _ fc Tryz.sizeOf29 rfl rfl rfl rfl rfl (by rfl) rfl (by rfl)) rfl rfl (fun _ _ => ?_)
    refine rw_run tab_ok 2 [(6, _), (7, _), (8, _)] rfl ⟨rfl, rfl, rfl, trivial⟩ ?_
    refine rw_end ?_
    refine cw_ret (xw_thenr ?_)
    refine xw_ret3 Tryz.results41 (rv_box (cs := [_, _, _, _, _, _]) fc Tryz.isAgg29 Tryz.sizeOf29 rfl) (rv_tmp rfl) (rv_tmp rfl) ?_
    intro w hw
    exact ⟨⟨none, 0, none, 0, none, 0, none, 0⟩, trivial, rfl, (nil_mach hw).msub ms⟩
   ·have hE3 : runE fs m k = 0 := by rw [hE2, if_neg (by omega)]
    rw [hE3, if_pos rfl] at hr
    rw [hE3]
    refine cw_as (t := 24) (v' := .bool false) rfl (congrArg Value.bool (decide_eq_false hb1)) ?_
    refine cw_cond_f rfl ?_
    refine cw_skip (xw_then ?_)
    refine cw_seq ?_
    refine cw_seq ?_
    refine cw_region ?_
    refine rw_run tab_ok 2 [(2, _), (3, _), (4, _), (6, _), (9, _), (26, _)] rfl ⟨rfl, rfl, rfl, rfl, rfl, rfl, trivial⟩ ?_
    refine rw_end ?_
    refine cw_as (t := 26) (v' := .bool false) rfl (rfl) ?_
    refine cw_cond_f rfl ?_
    refine cw_skip (xw_then ?_)
    refine cw_seq ?_
    refine cw_region ?_
    refine rw_s (qs_ldbA (vs := [_]) fc Tryz.isAgg24 Tryz.sizeOf24 rfl rfl (by rfl) rfl) rfl rfl ?_
    refine rw_s (qs_ldbA (vs := [_, _, _, _, _, _]) fc Tryz.isAgg29 Tryz.sizeOf29 rfl rfl (by rfl) rfl) rfl rfl ?_
    refine rw_run tab_ok 1 [(6, _), (30, _), (31, _), (32, _)] rfl ⟨rfl, rfl, rfl, rfl, trivial⟩ ?_
    refine rw_op (ot_c rfl rfl rfl Tryz.call100 (fun w hw => mraw_any Ap cp fs a m k r hr w (hw.ro hs) (MIn.ro hw hm) hF hR (by omega))) rfl rfl (fun g _ => ?_)
    refine rw_run tab_ok 3 [(6, _), (34, _), (35, _)] rfl ⟨rfl, rfl, rfl, trivial⟩ ?_
    refine rw_op (ot_alloc Tryz.zeroValue29 rfl rfl) rfl rfl (fun g4 _ => ?_)
    refine rw_op (ot_stb _ fc Tryz.sizeOf29 rfl rfl rfl rfl rfl (by rfl) rfl (by rfl)) rfl rfl (fun _ _ => ?_)
    refine rw_run tab_ok 1 [(6, _), (10, _), (11, _)] rfl ⟨rfl, rfl, rfl, trivial⟩ ?_
    refine rw_end ?_
    refine cw_seq ?_
    refine cw_region ?_
    refine rw_s (qs_ldbA (vs := [_, _, _, _, _, _]) fc Tryz.isAgg29 Tryz.sizeOf29 rfl rfl (by rfl) rfl) rfl rfl ?_
    refine rw_run tab_ok 1 [(6, _), (36, _), (37, _)] rfl ⟨rfl, rfl, rfl, trivial⟩ ?_
    refine rw_op (ot_stb _ fc Tryz.sizeOf29 rfl rfl rfl rfl rfl (by rfl) rfl (by rfl)) rfl rfl (fun _ _ => ?_)
    refine rw_run tab_ok 2 [(6, _), (7, _), (8, _)] rfl ⟨rfl, rfl, rfl, trivial⟩ ?_
    refine rw_end ?_
    refine cw_ret ?_
    refine xw_ret3 Tryz.results41 (rv_box (cs := [_, _, _, _, _, _]) fc Tryz.isAgg29 Tryz.sizeOf29 rfl) (rv_tmp rfl) (rv_tmp rfl) ?_
    intro w hw
    exact ⟨g, trivial, rfl, hw.msub ms⟩
 ·have hE3 : runE fs m k = machE fs m := by unfold runE; rw [if_pos hE]
  rw [hE3, if_neg hE] at hr
  subst hr
  rw [hE3]
  refine rw_as (t := 17) (v' := .bool false) rfl (congrArg Value.bool (decide_eq_false hE)) ?_
  refine rw_run tab_ok 7 [(2, _), (3, _), (4, _), (6, _), (9, _), (24, _)] rfl ⟨rfl, rfl, rfl, rfl, rfl, rfl, trivial⟩ ?_
  refine rw_end ?_
  refine cw_cond_f rfl ?_
  refine cw_skip (xw_then ?_)
  refine cw_seq ?_
  refine cw_seq ?_
  refine cw_region ?_
  refine rw_run tab_ok 2 [(2, _), (3, _), (4, _), (6, _), (9, _), (26, _)] rfl ⟨rfl, rfl, rfl, rfl, rfl, rfl, trivial⟩ ?_
  refine rw_end ?_
  refine cw_as (t := 26) (v' := .bool true) rfl (congrArg Value.bool (by simp [hE])) ?_
  refine cw_cond_t rfl ?_
  refine cw_seq ?_
  refine cw_region ?_
  refine rw_s (qs_bst (cs := [_, _, _, _, _, _]) plT29 Tryz.zeroValue29 rfl rfl (by rfl)) rfl rfl ?_
  refine rw_run tab_ok 1 [(6, _), (27, _), (28, _)] rfl ⟨rfl, rfl, rfl, trivial⟩ ?_
  refine rw_op (ot_stb _ fc Tryz.sizeOf29 rfl rfl rfl rfl rfl (by rfl) rfl (by rfl)) rfl rfl (fun _ _ => ?_)
  refine rw_run tab_ok 2 [(6, _), (7, _), (8, _)] rfl ⟨rfl, rfl, rfl, trivial⟩ ?_
  refine rw_end ?_
  refine cw_ret (xw_thenr ?_)
  refine xw_ret3 Tryz.results41 (rv_box (cs := [_, _, _, _, _, _]) fc Tryz.isAgg29 Tryz.sizeOf29 rfl) (rv_tmp rfl) (rv_tmp rfl) ?_
  intro w hw
  exact ⟨⟨none, 0, none, 0, none, 0, none, 0⟩, trivial, rfl, (nil_mach hw).msub ms⟩
end Go.Proofs.YtmnkaalchcomlaaGreat
-- Me3
/- Meter: what must be in any case. -/
namespace Go.Proofs.YtmnkaalchcomlaaGreat
open Go.RowKit
def mrA : MMach := ⟨[], [], [], [3, 2, 1], 2, 0⟩
def mrB : MMach := ⟨[⟨0, 5, [], [⟨false, 2⟩]⟩], [], [], [3], 0, 0⟩
set_option maxRecDepth 100000 in
theorem meter_facts : runE counterM mc1 100 = 0 ∧ runR counterM mc1 100 = (mrA, 77) ∧ runE counterM mc1 5 = 0 ∧ runR counterM mc1 5 = (mrB, 0) ∧ checkOp ⟨14, 0⟩ = 0 ∧ costS ⟨14, 0⟩ = 3 := by
 refine ⟨?_, ?_, ?_, ?_, ?_, ?_⟩ <;> kernel_rfl
theorem begun_runA (A : Option Addr) (c : Nat) (a : MA) (w : World) (hs : Sl w (.slice A 1 c) counterM) (hm : MIn w.heap.size w a mc1) :
  Calls Tryz.prog 41 #[.agg #[.slice A 1 c], .agg #[.slice a.Af 1 a.cf, .slice a.Ab 0 a.cb, .slice a.Ai 0 a.ci, .slice a.Ao 0 a.co, .int .i64 0, .int .i64 0], .int .i64 100] w fun e w' => ∃ g : MA, True ∧
   e = .returned (.tuple #[.agg #[.slice g.Af 0 g.cf, .slice g.Ab 0 g.cb, .slice g.Ai 0 g.ci, .slice g.Ao 3 g.co, .int .i64 2, .int .i64 0], .int .i64 77, .int .i64 0]) ∧ Cw w.heap.size w [ROw (.slice g.Af 0 g.cf) mrA.frames, ROw (.slice g.Ab 0 g.cb) mrA.blocks, ROw (.slice g.Ai 0 g.ci) mrA.inn, ROw (.slice g.Ao 3 g.co) mrA.out] w' := by
 have := mrun_any A c counterM a mc1 100 _ meter_facts.2.1 w hs hm fit_mc1
 rw [meter_facts.1] at this
 exact this
theorem begun_runB (A : Option Addr) (c : Nat) (a : MA) (w : World) (hs : Sl w (.slice A 1 c) counterM) (hm : MIn w.heap.size w a mc1) :
  Calls Tryz.prog 41 #[.agg #[.slice A 1 c], .agg #[.slice a.Af 1 a.cf, .slice a.Ab 0 a.cb, .slice a.Ai 0 a.ci, .slice a.Ao 0 a.co, .int .i64 0, .int .i64 0], .int .i64 5] w fun e w' => ∃ g : MA, True ∧
   e = .returned (.tuple #[.agg #[.slice g.Af 1 g.cf, .slice g.Ab 0 g.cb, .slice g.Ai 0 g.ci, .slice g.Ao 1 g.co, .int .i64 0, .int .i64 0], .int .i64 0, .int .i64 0]) ∧ Cw w.heap.size w [ROw (.slice g.Af 1 g.cf) mrB.frames, ROw (.slice g.Ab 0 g.cb) mrB.blocks, ROw (.slice g.Ai 0 g.ci) mrB.inn, ROw (.slice g.Ao 1 g.co) mrB.out] w' := by
 have := mrun_any A c counterM a mc1 5 _ meter_facts.2.2.2.1 w hs hm fit_mc1
 rw [meter_facts.2.2.1] at this
 exact this
theorem begun_cost (w : World) : Calls Tryz.prog 42 #[.agg #[.int .i64 14, .int .i64 0]] w fun e w' => e = .returned (.tuple #[.int .i64 3, .int .i64 0]) ∧ Below w.heap.size w w' := by
 have := cost_any ⟨14, 0⟩ w
 rw [meter_facts.2.2.2.2.1, meter_facts.2.2.2.2.2] at this
 exact this
set_option maxRecDepth 100000 in
set_option maxHeartbeats 4000000 in
theorem meterBegun_any (w : World) : Calls Tryz.prog 46 #[] w fun e w' => e = .returned (.bool true) ∧ Below w.heap.size w w' := by
 obtain ⟨f1, f2, f3, f4, f5, f6, f7, f8, f9⟩ := mach_facts
 refine enter Tryz.func46 rfl Tryz.ntmps46 rfl ?_
 refine cw_seq ?_
 refine cw_region ?_
 refine rw_run tab_ok 1 [] rfl trivial ?_
 refine rw_end ?_
 refine cw_seq ?_
 refine cw_region ?_
 refine rw_op (ot_c rfl rfl rfl Tryz.call94 (fun w hw => counter_any w)) rfl rfl (fun gp _ => ?_)
 refine rw_op (ot_c rfl rfl rfl Tryz.call31 (fun w hw => begun_start f1 f2 rfl _ _ w (SF.at_ (SF.own rfl fc) hw))) rfl rfl (fun a1 _ => ?_)
 refine rw_run tab_ok 3 [(14, _), (15, _)] rfl ⟨rfl, rfl, trivial⟩ ?_
 refine rw_op (ot_alloc Tryz.zeroValue29 rfl rfl) rfl rfl (fun g1 _ => ?_)
 refine rw_op (ot_stb _ fc Tryz.sizeOf29 rfl rfl rfl rfl rfl (by rfl) rfl (by rfl)) rfl rfl (fun _ _ => ?_)
 refine rw_run tab_ok 1 [(1, _)] rfl ⟨rfl, trivial⟩ ?_
 refine rw_end ?_
 refine cw_cut (fun _ : Nat × MA => True) (fun g => [(1, .pointer (some ⟨g1, 0, none⟩)), (3, .pointer (some ⟨g.1, 0, none⟩)), (4, .int .i64 77), (5, .int .i64 0)]) (fun g => [RBox g.1 [.slice g.2.Af 0 g.2.cf, .slice g.2.Ab 0 g.2.cb, .slice g.2.Ai 0 g.2.ci, .slice g.2.Ao 3 g.2.co, .int .i64 2, .int .i64 0] 29, ROw (.slice g.2.Ao 3 g.2.co) mrA.out, RBox g1 [.slice a1.Af 1 a1.cf, .slice a1.Ab 0 a1.cb, .slice a1.Ai 0 a1.ci, .slice a1.Ao 0 a1.co, .int .i64 0, .int .i64 0] 29, ROw (.slice a1.Af 1 a1.cf) mc1.frames, ROw (.slice a1.Ab 0 a1.cb) mc1.blocks, ROw (.slice a1.Ai 0 a1.ci) mc1.inn, ROw (.slice a1.Ao 0 a1.co) mc1.out]) ?_ ?_
 ·refine cw_draw (.still 1 (.pick 0 (.pick 2 (.calm 3 (.calm 4 (.calm 5 (.calm 6 (.pick 7 (.pick 8 (.calm 9 (.calm 10 .done)) .stop) .stop))))) (.pick 7 (.pick 2 (.calm 3 (.calm 4 (.calm 5 (.calm 6 (.pick 8 (.calm 9 (.calm 10 .done)) .stop))))) .stop) .stop)) (.pick 7 (.pick 0 (.pick 2 (.calm 3 (.calm 4 (.calm 5 (.calm 6 (.pick 8 (.calm 9 (.calm 10 .done)) .stop))))) .stop) .stop) .stop))) [2, 3, 4, 5, 6, 8, 9, 10] rfl (by kernel_rfl) (by kernel_rfl) ?_
  refine ro_s2 rfl (qs_ldbA (vs := [_, _, _, _, _, _]) fc Tryz.isAgg29 Tryz.sizeOf29 rfl rfl (by rfl) rfl) rfl rfl ha ?_
  refine ro_op2 rfl (ot_c rfl rfl rfl Tryz.call94 (fun w hw => counter_any w)) rfl rfl (.inr fun _ => ha) (fun gq _ => ?_) ?_
  ·refine ro_op2 rfl (ot_c rfl rfl rfl Tryz.call41 (fun w hw => begun_runA _ _ a1 w (SF.at_ (SF.own rfl fc) hw) (min_own hw fc fc fc fc rfl rfl rfl rfl (by decide) (by decide)))) rfl rfl (.inl rfl) (fun a2 _ => ?_) ?_
   ·refine ro_runC tab_ok 4 [(1, _), (20, _), (21, _), (22, _)] rfl ⟨rfl, rfl, rfl, rfl, trivial⟩ ?_
    refine ro_op2 rfl (ot_alloc Tryz.zeroValue29 rfl rfl) rfl rfl (.inr fun _ => ha) (fun q _ => ?_) ro_stop
    refine ro_op2 rfl (ot_stb [_, _, _, _, _, _] fc Tryz.sizeOf29 rfl rfl rfl rfl rfl (by rfl) rfl (by rfl)) rfl rfl (.inl rfl) (fun _ _ => ?_) ro_stop
    refine ro_runC tab_ok 2 [(1, _), (3, _), (4, _), (5, _)] rfl ⟨rfl, rfl, rfl, rfl, trivial⟩ ?_
    refine ro_endx <| xw_join (q, a2) (trivial) ⟨rfl, rfl, rfl, rfl, trivial⟩ (fun _ h => h.msub ms)
   ·refine ro_op2 rfl (ot_alloc Tryz.zeroValue29 rfl rfl) rfl rfl (.inr fun _ => ha) (fun q _ => ?_) ro_stop
    refine ro_op2 rfl (ot_c rfl rfl rfl Tryz.call41 (fun w hw => begun_runA _ _ a1 w (SF.at_ (SF.own rfl fc) hw) (min_own hw fc fc fc fc rfl rfl rfl rfl (by decide) (by decide)))) rfl rfl (.inl rfl) (fun a2 _ => ?_) ro_stop
    refine ro_runC tab_ok 4 [(1, _), (3, _), (20, _), (21, _), (22, _)] rfl ⟨rfl, rfl, rfl, rfl, rfl, trivial⟩ ?_
    refine ro_op2 rfl (ot_stb [_, _, _, _, _, _] fc Tryz.sizeOf29 rfl rfl rfl rfl rfl (by rfl) rfl (by rfl)) rfl rfl (.inl rfl) (fun _ _ => ?_) ro_stop
    refine ro_runC tab_ok 2 [(1, _), (3, _), (4, _), (5, _)] rfl ⟨rfl, rfl, rfl, rfl, trivial⟩ ?_
    refine ro_endx <| xw_join (q, a2) (trivial) ⟨rfl, rfl, rfl, rfl, trivial⟩ (fun _ h => h.msub ms)
  ·refine ro_op2 rfl (ot_alloc Tryz.zeroValue29 rfl rfl) rfl rfl (.inr fun _ => ha) (fun q _ => ?_) ro_stop
   refine ro_op2 rfl (ot_c rfl rfl rfl Tryz.call94 (fun w hw => counter_any w)) rfl rfl (.inr fun _ => ha) (fun gq _ => ?_) ro_stop
   refine ro_op2 rfl (ot_c rfl rfl rfl Tryz.call41 (fun w hw => begun_runA _ _ a1 w (SF.at_ (SF.own rfl fc) hw) (min_own hw fc fc fc fc rfl rfl rfl rfl (by decide) (by decide)))) rfl rfl (.inl rfl) (fun a2 _ => ?_) ro_stop
   refine ro_runC tab_ok 4 [(1, _), (3, _), (20, _), (21, _), (22, _)] rfl ⟨rfl, rfl, rfl, rfl, rfl, trivial⟩ ?_
   refine ro_op2 rfl (ot_stb [_, _, _, _, _, _] fc Tryz.sizeOf29 rfl rfl rfl rfl rfl (by rfl) rfl (by rfl)) rfl rfl (.inl rfl) (fun _ _ => ?_) ro_stop
   refine ro_runC tab_ok 2 [(1, _), (3, _), (4, _), (5, _)] rfl ⟨rfl, rfl, rfl, rfl, trivial⟩ ?_
   refine ro_endx <| xw_join (q, a2) (trivial) ⟨rfl, rfl, rfl, rfl, trivial⟩ (fun _ h => h.msub ms)
 ·rintro ⟨ga, a2⟩ _
  try dsimp only
  refine cw_cut (fun _ : Nat × MA => True) (fun g => [(3, .pointer (some ⟨ga, 0, none⟩)), (4, .int .i64 77), (5, .int .i64 0), (6, .pointer (some ⟨g.1, 0, none⟩)), (7, .int .i64 0), (8, .int .i64 0)]) (fun g => [RBox g.1 [.slice g.2.Af 1 g.2.cf, .slice g.2.Ab 0 g.2.cb, .slice g.2.Ai 0 g.2.ci, .slice g.2.Ao 1 g.2.co, .int .i64 0, .int .i64 0] 29, ROw (.slice g.2.Af 1 g.2.cf) mrB.frames, RBox ga [.slice a2.Af 0 a2.cf, .slice a2.Ab 0 a2.cb, .slice a2.Ai 0 a2.ci, .slice a2.Ao 3 a2.co, .int .i64 2, .int .i64 0] 29, ROw (.slice a2.Ao 3 a2.co) mrA.out]) ?_ ?_
  ·refine cw_draw (.still 1 (.pick 0 (.pick 2 (.calm 3 (.calm 4 (.calm 5 (.calm 6 (.pick 7 (.pick 8 (.calm 9 (.calm 10 .done)) .stop) .stop))))) (.pick 7 (.pick 2 (.calm 3 (.calm 4 (.calm 5 (.calm 6 (.pick 8 (.calm 9 (.calm 10 .done)) .stop))))) .stop) .stop)) (.pick 7 (.pick 0 (.pick 2 (.calm 3 (.calm 4 (.calm 5 (.calm 6 (.pick 8 (.calm 9 (.calm 10 .done)) .stop))))) .stop) .stop) .stop))) [2, 3, 4, 5, 6, 8, 9, 10] rfl (by kernel_rfl) (by kernel_rfl) ?_
   refine ro_s2 rfl (qs_ldbA (vs := [_, _, _, _, _, _]) fc Tryz.isAgg29 Tryz.sizeOf29 rfl rfl (by rfl) rfl) rfl rfl ha ?_
   refine ro_op2 rfl (ot_c rfl rfl rfl Tryz.call94 (fun w hw => counter_any w)) rfl rfl (.inr fun _ => ha) (fun gq _ => ?_) ?_
   ·refine ro_op2 rfl (ot_c rfl rfl rfl Tryz.call41 (fun w hw => begun_runB _ _ a1 w (SF.at_ (SF.own rfl fc) hw) (min_own hw fc fc fc fc rfl rfl rfl rfl (by decide) (by decide)))) rfl rfl (.inl rfl) (fun a3 _ => ?_) ?_
    ·refine ro_runC tab_ok 4 [(3, _), (4, _), (5, _), (27, _), (28, _), (29, _)] rfl ⟨rfl, rfl, rfl, rfl, rfl, rfl, trivial⟩ ?_
     refine ro_op2 rfl (ot_alloc Tryz.zeroValue29 rfl rfl) rfl rfl (.inr fun _ => ha) (fun q _ => ?_) ro_stop
     refine ro_op2 rfl (ot_stb [_, _, _, _, _, _] fc Tryz.sizeOf29 rfl rfl rfl rfl rfl (by rfl) rfl (by rfl)) rfl rfl (.inl rfl) (fun _ _ => ?_) ro_stop
     refine ro_runC tab_ok 2 [(3, _), (4, _), (5, _), (6, _), (7, _), (8, _)] rfl ⟨rfl, rfl, rfl, rfl, rfl, rfl, trivial⟩ ?_
     refine ro_endx <| xw_join (q, a3) (trivial) ⟨rfl, rfl, rfl, rfl, rfl, rfl, trivial⟩ (fun _ h => h.msub ms)
    ·refine ro_op2 rfl (ot_alloc Tryz.zeroValue29 rfl rfl) rfl rfl (.inr fun _ => ha) (fun q _ => ?_) ro_stop
     refine ro_op2 rfl (ot_c rfl rfl rfl Tryz.call41 (fun w hw => begun_runB _ _ a1 w (SF.at_ (SF.own rfl fc) hw) (min_own hw fc fc fc fc rfl rfl rfl rfl (by decide) (by decide)))) rfl rfl (.inl rfl) (fun a3 _ => ?_) ro_stop
     refine ro_runC tab_ok 4 [(3, _), (4, _), (5, _), (6, _), (27, _), (28, _), (29, _)] rfl ⟨rfl, rfl, rfl, rfl, rfl, rfl, rfl, trivial⟩ ?_
     refine ro_op2 rfl (ot_stb [_, _, _, _, _, _] fc Tryz.sizeOf29 rfl rfl rfl rfl rfl (by rfl) rfl (by rfl)) rfl rfl (.inl rfl) (fun _ _ => ?_) ro_stop
     refine ro_runC tab_ok 2 [(3, _), (4, _), (5, _), (6, _), (7, _), (8, _)] rfl ⟨rfl, rfl, rfl, rfl, rfl, rfl, trivial⟩ ?_
     refine ro_endx <| xw_join (q, a3) (trivial) ⟨rfl, rfl, rfl, rfl, rfl, rfl, trivial⟩ (fun _ h => h.msub ms)
   ·refine ro_op2 rfl (ot_alloc Tryz.zeroValue29 rfl rfl) rfl rfl (.inr fun _ => ha) (fun q _ => ?_) ro_stop
    refine ro_op2 rfl (ot_c rfl rfl rfl Tryz.call94 (fun w hw => counter_any w)) rfl rfl (.inr fun _ => ha) (fun gq _ => ?_) ro_stop
    refine ro_op2 rfl (ot_c rfl rfl rfl Tryz.call41 (fun w hw => begun_runB _ _ a1 w (SF.at_ (SF.own rfl fc) hw) (min_own hw fc fc fc fc rfl rfl rfl rfl (by decide) (by decide)))) rfl rfl (.inl rfl) (fun a3 _ => ?_) ro_stop
    refine ro_runC tab_ok 4 [(3, _), (4, _), (5, _), (6, _), (27, _), (28, _), (29, _)] rfl ⟨rfl, rfl, rfl, rfl, rfl, rfl, rfl, trivial⟩ ?_
    refine ro_op2 rfl (ot_stb [_, _, _, _, _, _] fc Tryz.sizeOf29 rfl rfl rfl rfl rfl (by rfl) rfl (by rfl)) rfl rfl (.inl rfl) (fun _ _ => ?_) ro_stop
    refine ro_runC tab_ok 2 [(3, _), (4, _), (5, _), (6, _), (7, _), (8, _)] rfl ⟨rfl, rfl, rfl, rfl, rfl, rfl, trivial⟩ ?_
    refine ro_endx <| xw_join (q, a3) (trivial) ⟨rfl, rfl, rfl, rfl, rfl, rfl, trivial⟩ (fun _ h => h.msub ms)
  ·rintro ⟨gb, a3⟩ _
   try dsimp only
   refine cw_rdF (k := 1) (c := a3.cf) (A := a3.Af) (fr := mrB.frames) rfl fc fun X hsX hX => ?_
   obtain ⟨B1, d1, B2, d2, e1, hX1⟩ := hX.el 0 (by decide)
   refine cw_seq ?_
   refine cw_region ?_
   refine rw_s (qs_bst (cs := [_, _]) plT51 Tryz.zeroValue51 rfl rfl (by rfl)) rfl rfl ?_
   refine rw_op (ot_c0 rfl rfl rfl Tryz.call42 (fun w hw => begun_cost w)) rfl rfl (fun _ _ => ?_)
   refine rw_run tab_ok 5 [(3, _), (4, _), (5, _), (6, _), (7, _), (8, _), (9, _), (10, _)] rfl ⟨rfl, rfl, rfl, rfl, rfl, rfl, rfl, rfl, trivial⟩ ?_
   refine rw_end ?_
   refine cw_seq ?_
   refine cw_region ?_
   refine rw_run tab_ok 3 [(3, _), (4, _), (6, _), (7, _), (8, _), (9, _), (10, _), (37, _)] rfl ⟨rfl, rfl, rfl, rfl, rfl, rfl, rfl, rfl, trivial⟩ ?_
   refine rw_as (t := 37) (v' := .bool true) rfl (rfl) ?_
   refine rw_run tab_ok 4 [(3, _), (4, _), (6, _), (7, _), (9, _), (10, _), (41, _)] rfl ⟨rfl, rfl, rfl, rfl, rfl, rfl, rfl, trivial⟩ ?_
   refine rw_as (t := 41) (v' := .bool true) rfl (rfl) ?_
   refine rw_run tab_ok 4 [(3, _), (4, _), (6, _), (7, _), (9, _), (45, _)] rfl ⟨rfl, rfl, rfl, rfl, rfl, rfl, trivial⟩ ?_
   refine rw_as (t := 45) (v' := .bool true) rfl (rfl) ?_
   refine rw_run tab_ok 1 [(3, _), (4, _), (6, _), (7, _), (9, _), (45, _), (46, _)] rfl ⟨rfl, rfl, rfl, rfl, rfl, rfl, rfl, trivial⟩ ?_
   refine rw_s (qs_ldb fc Tryz.isAgg3 rfl rfl (by rfl)) rfl rfl ?_
   refine rw_run tab_ok 3 [(3, _), (4, _), (6, _), (7, _), (9, _), (50, _)] rfl ⟨rfl, rfl, rfl, rfl, rfl, rfl, trivial⟩ ?_
   refine rw_as (t := 50) (v' := .bool true) rfl (rfl) ?_
   refine rw_run tab_ok 1 [(4, _), (6, _), (7, _), (9, _), (50, _), (51, _)] rfl ⟨rfl, rfl, rfl, rfl, rfl, rfl, trivial⟩ ?_
   refine rw_s (qs_ldb fc Tryz.isAgg27 rfl rfl (by rfl)) rfl rfl ?_
   refine rw_op (ot_bsl (cs := [_, _, _]) Tryz.underlying27 Tryz.sizeOf3 Tryz.zeroValue3 rfl rfl rfl rfl rfl) rfl rfl (fun g2 _ => ?_)
   refine rw_mem (fun w h => row_ow (α := Int) (m := 3) [3, 2, 1] rfl (by intro x hx; simp at hx; rcases hx with rfl | rfl | rfl <;> (show I64 _; decide)) rfl (by decide) (h.msub (T := [RBox g2 _ _, ROw (.slice a3.Af 1 a3.cf) hsX, X, RBox gb [.slice a3.Af 1 a3.cf, .slice a3.Ab 0 a3.cb, .slice a3.Ai 0 a3.ci, .slice a3.Ao 1 a3.co, .int .i64 0, .int .i64 0] 29, RBox ga [.slice a2.Af 0 a2.cf, .slice a2.Ab 0 a2.cb, .slice a2.Ai 0 a2.ci, .slice a2.Ao 3 a2.co, .int .i64 2, .int .i64 0] 29, ROw (.slice a2.Ao 3 a2.co) mrA.out]) ms)) ?_
   refine rw_op (ot_c0 rfl rfl rfl Tryz.call38 (fun w hw => sameInts_w a2.Ao (some ⟨g2, 0, none⟩) a2.co 3 [3, 2, 1] [3, 2, 1] w (SF.at_ (SF.own (A := a2.Ao) (m := 3) (c := a2.co) (xs := mrA.out) rfl fc) hw) (SF.at_ (SF.own (A := some ⟨g2, 0, none⟩) (m := 3) (c := 3) (xs := [3, 2, 1]) rfl fc) hw))) rfl rfl (fun _ _ => ?_)
   refine rw_run tab_ok 2 [(4, _), (6, _), (7, _), (9, _), (56, _)] rfl ⟨rfl, rfl, rfl, rfl, rfl, trivial⟩ ?_
   refine rw_as (t := 56) (v' := .bool true) rfl (congrArg Value.bool (decide_eq_true rfl)) ?_
   refine rw_run tab_ok 4 [(6, _), (7, _), (9, _), (60, _)] rfl ⟨rfl, rfl, rfl, rfl, trivial⟩ ?_
   refine rw_as (t := 60) (v' := .bool true) rfl (rfl) ?_
   refine rw_run tab_ok 1 [(6, _), (7, _), (9, _), (60, _), (61, _)] rfl ⟨rfl, rfl, rfl, rfl, rfl, trivial⟩ ?_
   refine rw_s (qs_ldb fc Tryz.isAgg3 rfl rfl (by rfl)) rfl rfl ?_
   refine rw_run tab_ok 3 [(6, _), (7, _), (9, _), (65, _)] rfl ⟨rfl, rfl, rfl, rfl, trivial⟩ ?_
   refine rw_as (t := 65) (v' := .bool true) rfl (rfl) ?_
   refine rw_run tab_ok 4 [(6, _), (9, _), (69, _)] rfl ⟨rfl, rfl, rfl, trivial⟩ ?_
   refine rw_as (t := 69) (v' := .bool true) rfl (rfl) ?_
   refine rw_run tab_ok 1 [(9, _), (69, _), (70, _)] rfl ⟨rfl, rfl, rfl, trivial⟩ ?_
   refine rw_s (qs_ldb fc Tryz.isAgg25 rfl rfl (by rfl)) rfl rfl ?_
   refine rw_s (qs_idx (k := 0) Tryz.underlying25 Tryz.sizeOf66 (SF.own (α := HFrame) hX.len fc) (by omega) rfl rfl rfl) rfl rfl ?_
   refine rw_run tab_ok 1 [(9, _), (69, _), (73, _)] rfl ⟨rfl, rfl, rfl, trivial⟩ ?_
   refine rw_s (qs_ld (fun w hw => (SF.hfr (SF.own (α := HFrame) hX.len fc) (k := 0) (by decide) e1) w hw 1 _ rfl) rfl rfl Tryz.isAgg3) rfl rfl ?_
   refine rw_run tab_ok 3 [(9, _), (77, _)] rfl ⟨rfl, rfl, trivial⟩ ?_
   refine rw_as (t := 77) (v' := .bool true) rfl (rfl) ?_
   refine rw_run tab_ok 4 [(0, _)] rfl ⟨rfl, trivial⟩ ?_
   refine rw_end ?_
   refine cw_ret ?_
   refine xw_ret1 Tryz.results46 (rv_tmp rfl) ?_
   intro w hw
   exact ⟨rfl, hw.below⟩
end Go.Proofs.YtmnkaalchcomlaaGreat
-- Co5
/- Collect: what must be in any case. -/
namespace Go.Proofs.YtmnkaalchcomlaaGreat
open Go.RowKit
def holderM : List MFunc := [⟨0, [2], 0, [⟨1, 2⟩, ⟨14, 0⟩, ⟨2, 0⟩, ⟨1, 1⟩, ⟨14, 0⟩, ⟨9, 0⟩, ⟨8, 0⟩, ⟨1, 0⟩, ⟨15, 0⟩, ⟨20, 0⟩, ⟨13, 0⟩]⟩]
def hd1 : MMach := ⟨[⟨0, 0, [⟨true, 0⟩], []⟩], [], [], [], 0, 0⟩
def hdA : MMach := ⟨[⟨0, 6, [⟨true, 2⟩], []⟩], [[0, 0], [0]], [], [], 0, 0⟩
def hdB : MMach := ⟨[⟨0, 6, [⟨true, 1⟩], []⟩], [[0]], [], [], 0, 0⟩
set_option maxRecDepth 100000 in
theorem holder_any (w : World) : Calls Tryz.prog 84 #[] w fun e w' => ∃ g : Nat, True ∧ e = .returned (.agg #[.slice (some ⟨g, 0, none⟩) 1 1]) ∧ Cw w.heap.size w [ROw (.slice (some ⟨g, 0, none⟩) 1 1) holderM] w' := by
 refine enter Tryz.func84 rfl Tryz.ntmps84 rfl ?_
 refine cw_seq ?_
 refine cw_region ?_
 refine rw_op (ot_alloc Tryz.zeroValue24 rfl rfl) rfl rfl (fun g1 _ => ?_)
 refine rw_end ?_
 refine cw_seq ?_
 refine cw_region ?_
 refine rw_op (ot_bsl (cs := [_]) Tryz.underlying27 Tryz.sizeOf3 Tryz.zeroValue3 rfl rfl rfl rfl rfl) rfl rfl (fun g2 _ => ?_)
 refine rw_s (qs_bst (cs := [_, _]) plT51 Tryz.zeroValue51 rfl rfl (by rfl)) rfl rfl ?_
 refine rw_s (qs_bst (cs := [_, _]) plT51 Tryz.zeroValue51 rfl rfl (by rfl)) rfl rfl ?_
 refine rw_s (qs_bst (cs := [_, _]) plT51 Tryz.zeroValue51 rfl rfl (by rfl)) rfl rfl ?_
 refine rw_s (qs_bst (cs := [_, _]) plT51 Tryz.zeroValue51 rfl rfl (by rfl)) rfl rfl ?_
 refine rw_s (qs_bst (cs := [_, _]) plT51 Tryz.zeroValue51 rfl rfl (by rfl)) rfl rfl ?_
 refine rw_s (qs_bst (cs := [_, _]) plT51 Tryz.zeroValue51 rfl rfl (by rfl)) rfl rfl ?_
 refine rw_s (qs_bst (cs := [_, _]) plT51 Tryz.zeroValue51 rfl rfl (by rfl)) rfl rfl ?_
 refine rw_s (qs_bst (cs := [_, _]) plT51 Tryz.zeroValue51 rfl rfl (by rfl)) rfl rfl ?_
 refine rw_s (qs_bst (cs := [_, _]) plT51 Tryz.zeroValue51 rfl rfl (by rfl)) rfl rfl ?_
 refine rw_s (qs_bst (cs := [_, _]) plT51 Tryz.zeroValue51 rfl rfl (by rfl)) rfl rfl ?_
 refine rw_s (qs_bst (cs := [_, _]) plT51 Tryz.zeroValue51 rfl rfl (by rfl)) rfl rfl ?_
 refine rw_op (ot_bsl (cs := [_, _, _, _, _, _, _, _, _, _, _, _, _, _, _, _, _, _, _, _, _, _]) Tryz.underlying111 Tryz.sizeOf51 Tryz.zeroValue51 rfl rfl rfl rfl rfl) rfl rfl (fun g3 _ => ?_)
 refine rw_s (qs_bst (cs := [_, _, _, _]) plT113 Tryz.zeroValue113 rfl rfl (by rfl)) rfl rfl ?_
 refine rw_op (ot_bsl (cs := [_, _, _, _]) Tryz.underlying22 Tryz.sizeOf113 Tryz.zeroValue113 rfl rfl rfl rfl rfl) rfl rfl (fun g4 _ => ?_)
 refine rw_s (qs_bst (cs := [_]) plT24 Tryz.zeroValue24 rfl rfl (by rfl)) rfl rfl ?_
 refine rw_op (ot_stb _ fc Tryz.sizeOf24 rfl rfl rfl rfl rfl (by rfl) rfl (by rfl)) rfl rfl (fun _ _ => ?_)
 refine rw_end ?_
 refine cw_ret ?_
 refine xw_ret1 Tryz.results84 (rv_box (cs := [_]) fc Tryz.isAgg24 Tryz.sizeOf24 rfl) ?_
 intro w hw
 refine ⟨_, trivial, rfl, ?_⟩
 have h := row_ow (α := MOp) (m := 11) [⟨1, 2⟩, ⟨14, 0⟩, ⟨2, 0⟩, ⟨1, 1⟩, ⟨14, 0⟩, ⟨9, 0⟩, ⟨8, 0⟩, ⟨1, 0⟩, ⟨15, 0⟩, ⟨20, 0⟩, ⟨13, 0⟩] rfl (show ∀ o ∈ [(⟨1, 2⟩ : MOp), ⟨14, 0⟩, ⟨2, 0⟩, ⟨1, 1⟩, ⟨14, 0⟩, ⟨9, 0⟩, ⟨8, 0⟩, ⟨1, 0⟩, ⟨15, 0⟩, ⟨20, 0⟩, ⟨13, 0⟩], I64 o.c ∧ I64 o.a from by decide) rfl (by decide) (hw.msub (T := [RBox g3 _ _, RBox g2 _ _, RBox g4 _ _]) ms)
 have h := row_ow (α := Int) (m := 1) [2] rfl (one_i64 (by decide)) rfl (by decide) (h.msub (T := [RBox g2 _ _, ROw (.slice (some ⟨g3, 0, none⟩) 11 11) _, RBox g4 _ _]) ms)
 refine row_els (H := []) (xs := holderM) (Els.cons (Hel := [ROw (.slice (some ⟨g2, 0, none⟩) 1 1) [(2 : Int)], ROw (.slice (some ⟨g3, 0, none⟩) 11 11) [(⟨1, 2⟩ : MOp), ⟨14, 0⟩, ⟨2, 0⟩, ⟨1, 1⟩, ⟨14, 0⟩, ⟨9, 0⟩, ⟨8, 0⟩, ⟨1, 0⟩, ⟨15, 0⟩, ⟨20, 0⟩, ⟨13, 0⟩]]) (cs := [_, _, _, _]) (hel_fn (f := ⟨0, [2], 0, [⟨1, 2⟩, ⟨14, 0⟩, ⟨2, 0⟩, ⟨1, 1⟩, ⟨14, 0⟩, ⟨9, 0⟩, ⟨8, 0⟩, ⟨1, 0⟩, ⟨15, 0⟩, ⟨20, 0⟩, ⟨13, 0⟩]⟩) (by decide)) Els.nil_) rfl (by decide) ?_
 exact h.msub (T := [RBox g4 _ _, ROw (.slice (some ⟨g2, 0, none⟩) 1 1) _, ROw (.slice (some ⟨g3, 0, none⟩) 11 11) _]) ms
set_option maxRecDepth 100000 in
theorem holder_facts : progS holderM = 0 ∧ startM holderM = hd1 ∧ runE holderM hd1 10 = 0 ∧ runR holderM hd1 10 = (hdA, 0) ∧ machE holderM hdA = 0 ∧ colN holderM hdA = (hdB, 1) ∧ refsM hdA = [2] := by
 refine ⟨?_, ?_, ?_, ?_, ?_, ?_, ?_⟩ <;> kernel_rfl
theorem eq_V (w : World) (a c : Bool) (b d : Int) : (binOp .eql 68 (.agg #[.bool a, .int .i64 b]) (.agg #[.bool c, .int .i64 d])).run Tryz.prog w = .ok (.bool (a == c && b == d)) w := by
  have h := heldV
  by_cases h1 : a = c <;> by_cases h2 : b = d <;> simp [go_sem, h, h1, h2]
theorem eq_GV (x y : Operand) (u v : Array Value) (w : World) : (eqGuard .eql 68 x y (.agg u) (.agg v)).run Tryz.prog w = .ok () w := by
  have h := eqGuardV
  simp [eqGuard, go_sem, h]
def rootsR (fs : List MFunc) (m : MMach) : List Int := if machE fs m = 0 then refsM m else []
set_option maxRecDepth 100000 in
theorem roots_any (Ap : Option Addr) (cp : Nat) (fs : List MFunc) (a : MA) (m : MMach) (r : List Int) (hr : rootsR fs m = r) (w : World) (hs : Sl w (.slice Ap fs.length cp) fs) (hm : MIn w.heap.size w a m) (hfit : FitF m.frames) :
  Calls Tryz.prog 49 #[.agg #[.slice Ap fs.length cp], .agg #[.slice a.Af m.frames.length a.cf, .slice a.Ab m.blocks.length a.cb, .slice a.Ai m.inn.length a.ci, .slice a.Ao m.out.length a.co, .int .i64 m.status, .int .i64 m.trap]] w fun e w' => ∃ q : Option Addr × Nat, True ∧ e = .returned (.tuple #[.slice q.1 r.length q.2, .int .i64 (machE fs m)]) ∧ Cw w.heap.size w [ROw (.slice q.1 r.length q.2) r] w' := by
 refine enter Tryz.func49 rfl Tryz.ntmps49 rfl ?_
 refine cw_seq ?_
 refine cw_region ?_
 refine rw_op (ot_box rfl rfl rfl) rfl rfl (fun g1 _ => ?_)
 refine rw_op (ot_box rfl rfl rfl) rfl rfl (fun g2 _ => ?_)
 refine rw_run tab_ok 2 [(2, _), (3, _)] rfl ⟨rfl, rfl, trivial⟩ ?_
 refine rw_end ?_
 refine cw_seq ?_
 refine cw_seq ?_
 refine cw_region ?_
 refine rw_s (qs_ldbA (vs := [_]) fc Tryz.isAgg24 Tryz.sizeOf24 rfl rfl (by rfl) rfl) rfl rfl ?_
 refine rw_s (qs_ldbA (vs := [_, _, _, _, _, _]) fc Tryz.isAgg29 Tryz.sizeOf29 rfl rfl (by rfl) rfl) rfl rfl ?_
 refine rw_op (ot_c0 rfl rfl rfl Tryz.call36 (fun w hw => mcheck_any Ap cp fs a m w (hw.ro hs) (MIn.ro hw hm) hfit)) rfl rfl (fun _ _ => ?_)
 refine rw_run tab_ok 1 [(3, _), (6, _)] rfl ⟨rfl, rfl, trivial⟩ ?_
 refine rw_end ?_
 refine cw_seq ?_
 refine cw_region ?_
 refine rw_run tab_ok 2 [(3, _), (6, _), (11, _)] rfl ⟨rfl, rfl, rfl, trivial⟩ ?_
 refine rw_end ?_
 refine cw_condN rfl (fun h => ?_) (fun h => ?_)
 ·have h : ¬ machE fs m = 0 := h
  have e : r = [] := by rw [← hr]; unfold rootsR; rw [if_neg h]
  subst e
  refine cw_seq ?_
  refine cw_region ?_
  refine rw_run tab_ok 3 [(4, _), (5, _)] rfl ⟨rfl, rfl, trivial⟩ ?_
  refine rw_end ?_
  refine cw_ret (xw_thenr ?_)
  refine xw_ret2 Tryz.results49 (rv_tmp rfl) (rv_tmp rfl) ?_
  intro w hw
  exact ⟨(none, 0), trivial, rfl, (Cw.nilO Int hw).msub ms⟩
 ·have h : machE fs m = 0 := h
  obtain ⟨hF, hR⟩ := mach_ok h
  have e : r = refsM m := by rw [← hr]; unfold rootsR; rw [if_pos h]
  subst e
  refine cw_skip (xw_then ?_)
  refine cw_seq ?_
  refine cw_region ?_
  refine rw_s (qs_ldbA (vs := [_, _, _, _, _, _]) fc Tryz.isAgg29 Tryz.sizeOf29 rfl rfl (by rfl) rfl) rfl rfl ?_
  refine rw_op (ot_c rfl rfl rfl Tryz.call108 (fun w hw => refs_any fs a m w (MIn.ro hw hm) hF hR)) rfl rfl (fun ⟨R1, r1⟩ _ => ?_)
  try dsimp only
  refine rw_run tab_ok 2 [(4, _), (5, _)] rfl ⟨rfl, rfl, trivial⟩ ?_
  refine rw_end ?_
  refine cw_ret ?_
  refine xw_ret2 Tryz.results49 (rv_tmp rfl) (rv_tmp rfl) ?_
  intro w hw
  exact ⟨(R1, r1), trivial, by rw [h], hw.msub ms⟩
theorem fit_hd1 : FitF hd1.frames := by
 refine ⟨by decide, fun x hx => ?_⟩
 have : x = ⟨0, 0, [⟨true, 0⟩], []⟩ := by simpa [hd1] using hx
 subst this
 decide
theorem fit_hdA : FitF hdA.frames := by
 refine ⟨by decide, fun x hx => ?_⟩
 have : x = ⟨0, 6, [⟨true, 2⟩], []⟩ := by simpa [hdA] using hx
 subst this
 decide
theorem hold_start (A : Option Addr) (c : Nat) (w : World) (hs : Sl w (.slice A 1 c) holderM) :
  Calls Tryz.prog 31 #[.agg #[.slice A 1 c]] w fun e w' => ∃ g : MA, True ∧
   e = .returned (.tuple #[.agg #[.slice g.Af 1 g.cf, .slice g.Ab 0 g.cb, .slice g.Ai 0 g.ci, .slice g.Ao 0 g.co, .int .i64 0, .int .i64 0], .int .i64 0]) ∧ Cw w.heap.size w [ROw (.slice g.Af 1 g.cf) hd1.frames, ROw (.slice g.Ab 0 g.cb) hd1.blocks, ROw (.slice g.Ai 0 g.ci) hd1.inn, ROw (.slice g.Ao 0 g.co) hd1.out] w' := by
 have := mstart_any A c holderM hd1 holder_facts.2.1 w hs
 rw [holder_facts.1] at this
 exact this
theorem hold_run (A : Option Addr) (c : Nat) (a : MA) (w : World) (hs : Sl w (.slice A 1 c) holderM) (hm : MIn w.heap.size w a hd1) :
  Calls Tryz.prog 41 #[.agg #[.slice A 1 c], .agg #[.slice a.Af 1 a.cf, .slice a.Ab 0 a.cb, .slice a.Ai 0 a.ci, .slice a.Ao 0 a.co, .int .i64 0, .int .i64 0], .int .i64 10] w fun e w' => ∃ g : MA, True ∧
   e = .returned (.tuple #[.agg #[.slice g.Af 1 g.cf, .slice g.Ab 2 g.cb, .slice g.Ai 0 g.ci, .slice g.Ao 0 g.co, .int .i64 0, .int .i64 0], .int .i64 0, .int .i64 0]) ∧ Cw w.heap.size w [ROw (.slice g.Af 1 g.cf) hdA.frames, ROw (.slice g.Ab 2 g.cb) hdA.blocks, ROw (.slice g.Ai 0 g.ci) hdA.inn, ROw (.slice g.Ao 0 g.co) hdA.out] w' := by
 have := mrun_any A c holderM a hd1 10 _ holder_facts.2.2.2.1 w hs hm fit_hd1
 rw [holder_facts.2.2.1] at this
 exact this
theorem hold_roots (A : Option Addr) (c : Nat) (a : MA) (w : World) (hs : Sl w (.slice A 1 c) holderM) (hm : MIn w.heap.size w a hdA) :
  Calls Tryz.prog 49 #[.agg #[.slice A 1 c], .agg #[.slice a.Af 1 a.cf, .slice a.Ab 2 a.cb, .slice a.Ai 0 a.ci, .slice a.Ao 0 a.co, .int .i64 0, .int .i64 0]] w fun e w' => ∃ q : Option Addr × Nat, True ∧ e = .returned (.tuple #[.slice q.1 1 q.2, .int .i64 0]) ∧ Cw w.heap.size w [ROw (.slice q.1 1 q.2) [(2 : Int)]] w' := by
 have := roots_any A c holderM a hdA [2] (by unfold rootsR; rw [if_pos holder_facts.2.2.2.2.1]; exact holder_facts.2.2.2.2.2.2) w hs hm fit_hdA
 rw [holder_facts.2.2.2.2.1] at this
 exact this
theorem hold_col (A : Option Addr) (c : Nat) (a : MA) (w : World) (hs : Sl w (.slice A 1 c) holderM) (hm : MIn w.heap.size w a hdA) :
  Calls Tryz.prog 50 #[.agg #[.slice A 1 c], .agg #[.slice a.Af 1 a.cf, .slice a.Ab 2 a.cb, .slice a.Ai 0 a.ci, .slice a.Ao 0 a.co, .int .i64 0, .int .i64 0]] w fun e w' => ∃ g : MA, True ∧
   e = .returned (.tuple #[.agg #[.slice g.Af 1 g.cf, .slice g.Ab 1 g.cb, .slice g.Ai 0 g.ci, .slice g.Ao 0 g.co, .int .i64 0, .int .i64 0], .int .i64 1, .int .i64 0]) ∧ Cw w.heap.size w [ROw (.slice g.Af 1 g.cf) hdB.frames, ROw (.slice g.Ab 1 g.cb) hdB.blocks, ROw (.slice g.Ai 0 g.ci) hdB.inn, ROw (.slice g.Ao 0 g.co) hdB.out] w' := by
 have := collect_any A c holderM a hdA _ holder_facts.2.2.2.2.2.1 w hs hm fit_hdA
 rw [holder_facts.2.2.2.2.1] at this
 exact this
set_option maxRecDepth 100000 in
set_option maxHeartbeats 4000000 in
theorem collectBegun_any (w : World) : Calls Tryz.prog 53 #[] w fun e w' => e = .returned (.bool true) ∧ Below w.heap.size w w' := by
 refine enter Tryz.func53 rfl Tryz.ntmps53 rfl ?_
 refine cw_seq ?_
 refine cw_region ?_
 refine rw_run tab_ok 1 [] rfl trivial ?_
 refine rw_end ?_
 refine cw_seq ?_
 refine cw_region ?_
 refine rw_op (ot_c rfl rfl rfl Tryz.call84 (fun w hw => holder_any w)) rfl rfl (fun gp _ => ?_)
 refine rw_op (ot_c rfl rfl rfl Tryz.call31 (fun w hw => hold_start _ _ w (SF.at_ (SF.own rfl fc) hw))) rfl rfl (fun a1 _ => ?_)
 refine rw_run tab_ok 3 [(14, _), (15, _)] rfl ⟨rfl, rfl, trivial⟩ ?_
 refine rw_op (ot_alloc Tryz.zeroValue29 rfl rfl) rfl rfl (fun g1 _ => ?_)
 refine rw_op (ot_stb _ fc Tryz.sizeOf29 rfl rfl rfl rfl rfl (by rfl) rfl (by rfl)) rfl rfl (fun _ _ => ?_)
 refine rw_run tab_ok 1 [(1, _)] rfl ⟨rfl, trivial⟩ ?_
 refine rw_end ?_
 refine cw_cut (fun _ : Nat × MA => True) (fun g => [(3, .pointer (some ⟨g.1, 0, none⟩)), (5, .int .i64 0)]) (fun g => [RBox g.1 [.slice g.2.Af 1 g.2.cf, .slice g.2.Ab 2 g.2.cb, .slice g.2.Ai 0 g.2.ci, .slice g.2.Ao 0 g.2.co, .int .i64 0, .int .i64 0] 29, ROw (.slice g.2.Af 1 g.2.cf) hdA.frames, ROw (.slice g.2.Ab 2 g.2.cb) hdA.blocks, ROw (.slice g.2.Ai 0 g.2.ci) hdA.inn, ROw (.slice g.2.Ao 0 g.2.co) hdA.out]) ?_ ?_
 ·refine cw_draw (.still 1 (.pick 0 (.pick 2 (.calm 3 (.calm 4 (.calm 5 (.calm 6 (.pick 7 (.pick 8 (.calm 9 (.calm 10 .done)) .stop) .stop))))) (.pick 7 (.pick 2 (.calm 3 (.calm 4 (.calm 5 (.calm 6 (.pick 8 (.calm 9 (.calm 10 .done)) .stop))))) .stop) .stop)) (.pick 7 (.pick 0 (.pick 2 (.calm 3 (.calm 4 (.calm 5 (.calm 6 (.pick 8 (.calm 9 (.calm 10 .done)) .stop))))) .stop) .stop) .stop))) [2, 3, 4, 5, 6, 8, 9, 10] rfl (by kernel_rfl) (by kernel_rfl) ?_
  refine ro_s2 rfl (qs_ldbA (vs := [_, _, _, _, _, _]) fc Tryz.isAgg29 Tryz.sizeOf29 rfl rfl (by rfl) rfl) rfl rfl ha ?_
  refine ro_op2 rfl (ot_c rfl rfl rfl Tryz.call84 (fun w hw => holder_any w)) rfl rfl (.inr fun _ => ha) (fun gq _ => ?_) ?_
  ·refine ro_op2 rfl (ot_c rfl rfl rfl Tryz.call41 (fun w hw => hold_run _ _ a1 w (SF.at_ (SF.own rfl fc) hw) (min_own (m := hd1) hw fc fc fc fc rfl rfl rfl rfl (by decide) (by decide)))) rfl rfl (.inl rfl) (fun a2 _ => ?_) ?_
   ·refine ro_runC tab_ok 4 [(20, _), (21, _), (22, _)] rfl ⟨rfl, rfl, rfl, trivial⟩ ?_
    refine ro_op2 rfl (ot_alloc Tryz.zeroValue29 rfl rfl) rfl rfl (.inr fun _ => ha) (fun q _ => ?_) ro_stop
    refine ro_op2 rfl (ot_stb [_, _, _, _, _, _] fc Tryz.sizeOf29 rfl rfl rfl rfl rfl (by rfl) rfl (by rfl)) rfl rfl (.inl rfl) (fun _ _ => ?_) ro_stop
    refine ro_runC tab_ok 2 [(3, _), (5, _)] rfl ⟨rfl, rfl, trivial⟩ ?_
    refine ro_endx <| xw_join (q, a2) (trivial) ⟨rfl, rfl, trivial⟩ (fun _ h => h.msub ms)
   ·refine ro_op2 rfl (ot_alloc Tryz.zeroValue29 rfl rfl) rfl rfl (.inr fun _ => ha) (fun q _ => ?_) ro_stop
    refine ro_op2 rfl (ot_c rfl rfl rfl Tryz.call41 (fun w hw => hold_run _ _ a1 w (SF.at_ (SF.own rfl fc) hw) (min_own (m := hd1) hw fc fc fc fc rfl rfl rfl rfl (by decide) (by decide)))) rfl rfl (.inl rfl) (fun a2 _ => ?_) ro_stop
    refine ro_runC tab_ok 4 [(3, _), (20, _), (21, _), (22, _)] rfl ⟨rfl, rfl, rfl, rfl, trivial⟩ ?_
    refine ro_op2 rfl (ot_stb [_, _, _, _, _, _] fc Tryz.sizeOf29 rfl rfl rfl rfl rfl (by rfl) rfl (by rfl)) rfl rfl (.inl rfl) (fun _ _ => ?_) ro_stop
    refine ro_runC tab_ok 2 [(3, _), (5, _)] rfl ⟨rfl, rfl, trivial⟩ ?_
    refine ro_endx <| xw_join (q, a2) (trivial) ⟨rfl, rfl, trivial⟩ (fun _ h => h.msub ms)
  ·refine ro_op2 rfl (ot_alloc Tryz.zeroValue29 rfl rfl) rfl rfl (.inr fun _ => ha) (fun q _ => ?_) ro_stop
   refine ro_op2 rfl (ot_c rfl rfl rfl Tryz.call84 (fun w hw => holder_any w)) rfl rfl (.inr fun _ => ha) (fun gq _ => ?_) ro_stop
   refine ro_op2 rfl (ot_c rfl rfl rfl Tryz.call41 (fun w hw => hold_run _ _ a1 w (SF.at_ (SF.own rfl fc) hw) (min_own (m := hd1) hw fc fc fc fc rfl rfl rfl rfl (by decide) (by decide)))) rfl rfl (.inl rfl) (fun a2 _ => ?_) ro_stop
   refine ro_runC tab_ok 4 [(3, _), (20, _), (21, _), (22, _)] rfl ⟨rfl, rfl, rfl, rfl, trivial⟩ ?_
   refine ro_op2 rfl (ot_stb [_, _, _, _, _, _] fc Tryz.sizeOf29 rfl rfl rfl rfl rfl (by rfl) rfl (by rfl)) rfl rfl (.inl rfl) (fun _ _ => ?_) ro_stop
   refine ro_runC tab_ok 2 [(3, _), (5, _)] rfl ⟨rfl, rfl, trivial⟩ ?_
   refine ro_endx <| xw_join (q, a2) (trivial) ⟨rfl, rfl, trivial⟩ (fun _ h => h.msub ms)
 ·rintro ⟨ga, a2⟩ _
  try dsimp only
  refine cw_seq ?_
  refine cw_draw (.still 1 (.pick 0 (.pick 2 (.calm 3 (.calm 4 (.calm 5 (.calm 6 (.calm 7 .done))))) .stop) .stop)) [2, 3, 4, 5, 6, 7] rfl (by kernel_rfl) (by kernel_rfl) ?_
  refine ro_s2 rfl (qs_ldbA (vs := [_, _, _, _, _, _]) fc Tryz.isAgg29 Tryz.sizeOf29 rfl rfl (by rfl) rfl) rfl rfl ha ?_
  refine ro_op2 rfl (ot_c rfl rfl rfl Tryz.call84 (fun w hw => holder_any w)) rfl rfl (.inr fun _ => ha) (fun gq _ => ?_) ro_stop
  refine ro_op2 rfl (ot_c rfl rfl rfl Tryz.call49 (fun w hw => hold_roots _ _ a2 w (SF.at_ (SF.own rfl fc) hw) (min_own (m := hdA) hw fc fc fc fc rfl rfl rfl rfl (by decide) (by decide)))) rfl rfl (.inl rfl) (fun ⟨Q1, q1⟩ _ => ?_) ro_stop
  try dsimp only
  refine ro_runC tab_ok 5 [(3, _), (5, _), (6, _), (7, _)] rfl ⟨rfl, rfl, rfl, rfl, trivial⟩ ?_
  refine ro_end ?_
  refine cw_cut (fun _ : Nat × MA => True) (fun g => [(3, .pointer (some ⟨ga, 0, none⟩)), (5, .int .i64 0), (6, .slice Q1 1 q1), (7, .int .i64 0), (8, .pointer (some ⟨g.1, 0, none⟩)), (9, .int .i64 1), (10, .int .i64 0)]) (fun g => [RBox g.1 [.slice g.2.Af 1 g.2.cf, .slice g.2.Ab 1 g.2.cb, .slice g.2.Ai 0 g.2.ci, .slice g.2.Ao 0 g.2.co, .int .i64 0, .int .i64 0] 29, ROw (.slice g.2.Af 1 g.2.cf) hdB.frames, RBox ga [.slice a2.Af 1 a2.cf, .slice a2.Ab 2 a2.cb, .slice a2.Ai 0 a2.ci, .slice a2.Ao 0 a2.co, .int .i64 0, .int .i64 0] 29, ROw (.slice Q1 1 q1) [(2 : Int)]]) ?_ ?_
  ·refine cw_draw (.still 1 (.pick 0 (.pick 2 (.calm 3 (.calm 4 (.calm 5 (.calm 6 (.pick 7 (.pick 8 (.calm 9 (.calm 10 .done)) .stop) .stop))))) (.pick 7 (.pick 2 (.calm 3 (.calm 4 (.calm 5 (.calm 6 (.pick 8 (.calm 9 (.calm 10 .done)) .stop))))) .stop) .stop)) (.pick 7 (.pick 0 (.pick 2 (.calm 3 (.calm 4 (.calm 5 (.calm 6 (.pick 8 (.calm 9 (.calm 10 .done)) .stop))))) .stop) .stop) .stop))) [2, 3, 4, 5, 6, 8, 9, 10] rfl (by kernel_rfl) (by kernel_rfl) ?_
   refine ro_s2 rfl (qs_ldbA (vs := [_, _, _, _, _, _]) fc Tryz.isAgg29 Tryz.sizeOf29 rfl rfl (by rfl) rfl) rfl rfl ha ?_
   refine ro_op2 rfl (ot_c rfl rfl rfl Tryz.call84 (fun w hw => holder_any w)) rfl rfl (.inr fun _ => ha) (fun gr _ => ?_) ?_
   ·refine ro_op2 rfl (ot_c rfl rfl rfl Tryz.call50 (fun w hw => hold_col _ _ a2 w (SF.at_ (SF.own rfl fc) hw) (min_own (m := hdA) hw fc fc fc fc rfl rfl rfl rfl (by decide) (by decide)))) rfl rfl (.inl rfl) (fun a3 _ => ?_) ?_
    ·refine ro_runC tab_ok 4 [(3, _), (5, _), (6, _), (7, _), (33, _), (34, _), (35, _)] rfl ⟨rfl, rfl, rfl, rfl, rfl, rfl, rfl, trivial⟩ ?_
     refine ro_op2 rfl (ot_alloc Tryz.zeroValue29 rfl rfl) rfl rfl (.inr fun _ => ha) (fun q _ => ?_) ro_stop
     refine ro_op2 rfl (ot_stb [_, _, _, _, _, _] fc Tryz.sizeOf29 rfl rfl rfl rfl rfl (by rfl) rfl (by rfl)) rfl rfl (.inl rfl) (fun _ _ => ?_) ro_stop
     refine ro_runC tab_ok 2 [(3, _), (5, _), (6, _), (7, _), (8, _), (9, _), (10, _)] rfl ⟨rfl, rfl, rfl, rfl, rfl, rfl, rfl, trivial⟩ ?_
     refine ro_endx <| xw_join (q, a3) (trivial) ⟨rfl, rfl, rfl, rfl, rfl, rfl, rfl, trivial⟩ (fun _ h => h.msub ms)
    ·refine ro_op2 rfl (ot_alloc Tryz.zeroValue29 rfl rfl) rfl rfl (.inr fun _ => ha) (fun q _ => ?_) ro_stop
     refine ro_op2 rfl (ot_c rfl rfl rfl Tryz.call50 (fun w hw => hold_col _ _ a2 w (SF.at_ (SF.own rfl fc) hw) (min_own (m := hdA) hw fc fc fc fc rfl rfl rfl rfl (by decide) (by decide)))) rfl rfl (.inl rfl) (fun a3 _ => ?_) ro_stop
     refine ro_runC tab_ok 4 [(3, _), (5, _), (6, _), (7, _), (8, _), (33, _), (34, _), (35, _)] rfl ⟨rfl, rfl, rfl, rfl, rfl, rfl, rfl, rfl, trivial⟩ ?_
     refine ro_op2 rfl (ot_stb [_, _, _, _, _, _] fc Tryz.sizeOf29 rfl rfl rfl rfl rfl (by rfl) rfl (by rfl)) rfl rfl (.inl rfl) (fun _ _ => ?_) ro_stop
     refine ro_runC tab_ok 2 [(3, _), (5, _), (6, _), (7, _), (8, _), (9, _), (10, _)] rfl ⟨rfl, rfl, rfl, rfl, rfl, rfl, rfl, trivial⟩ ?_
     refine ro_endx <| xw_join (q, a3) (trivial) ⟨rfl, rfl, rfl, rfl, rfl, rfl, rfl, trivial⟩ (fun _ h => h.msub ms)
   ·refine ro_op2 rfl (ot_alloc Tryz.zeroValue29 rfl rfl) rfl rfl (.inr fun _ => ha) (fun q _ => ?_) ro_stop
    refine ro_op2 rfl (ot_c rfl rfl rfl Tryz.call84 (fun w hw => holder_any w)) rfl rfl (.inr fun _ => ha) (fun gr _ => ?_) ro_stop
    refine ro_op2 rfl (ot_c rfl rfl rfl Tryz.call50 (fun w hw => hold_col _ _ a2 w (SF.at_ (SF.own rfl fc) hw) (min_own (m := hdA) hw fc fc fc fc rfl rfl rfl rfl (by decide) (by decide)))) rfl rfl (.inl rfl) (fun a3 _ => ?_) ro_stop
    refine ro_runC tab_ok 4 [(3, _), (5, _), (6, _), (7, _), (8, _), (33, _), (34, _), (35, _)] rfl ⟨rfl, rfl, rfl, rfl, rfl, rfl, rfl, rfl, trivial⟩ ?_
    refine ro_op2 rfl (ot_stb [_, _, _, _, _, _] fc Tryz.sizeOf29 rfl rfl rfl rfl rfl (by rfl) rfl (by rfl)) rfl rfl (.inl rfl) (fun _ _ => ?_) ro_stop
    refine ro_runC tab_ok 2 [(3, _), (5, _), (6, _), (7, _), (8, _), (9, _), (10, _)] rfl ⟨rfl, rfl, rfl, rfl, rfl, rfl, rfl, trivial⟩ ?_
    refine ro_endx <| xw_join (q, a3) (trivial) ⟨rfl, rfl, rfl, rfl, rfl, rfl, rfl, trivial⟩ (fun _ h => h.msub ms)
  ·rintro ⟨gb, a3⟩ _
   try dsimp only
   refine cw_rdF (k := 1) (c := a3.cf) (A := a3.Af) (fr := hdB.frames) rfl fc fun X hsX hX => ?_
   obtain ⟨B1, d1, B2, d2, e1, hX1⟩ := hX.el 0 (by decide)
   have hS : ∀ H H', Foc H X H' → SF w.heap.size w H B1 1 d1 [(⟨true, 1⟩ : MVal)] := fun _ _ f => (hX1 _ _ f).1
   refine cw_seq ?_
   refine cw_region ?_
   refine rw_run tab_ok 3 [(3, _), (6, _), (7, _), (8, _), (9, _), (10, _), (38, _)] rfl ⟨rfl, rfl, rfl, rfl, rfl, rfl, rfl, trivial⟩ ?_
   refine rw_as (t := 38) (v' := .bool true) rfl (rfl) ?_
   refine rw_run tab_ok 4 [(3, _), (6, _), (8, _), (9, _), (10, _), (42, _)] rfl ⟨rfl, rfl, rfl, rfl, rfl, rfl, trivial⟩ ?_
   refine rw_as (t := 42) (v' := .bool true) rfl (rfl) ?_
   refine rw_run tab_ok 4 [(3, _), (6, _), (8, _), (9, _), (46, _)] rfl ⟨rfl, rfl, rfl, rfl, rfl, trivial⟩ ?_
   refine rw_as (t := 46) (v' := .bool true) rfl (rfl) ?_
   refine rw_run tab_ok 1 [(6, _), (8, _), (9, _), (46, _), (47, _)] rfl ⟨rfl, rfl, rfl, rfl, rfl, trivial⟩ ?_
   refine rw_s (qs_ldb fc Tryz.isAgg26 rfl rfl (by rfl)) rfl rfl ?_
   refine rw_s (qs_len Tryz.underlying26 rfl rfl) rfl rfl ?_
   refine rw_run tab_ok 3 [(6, _), (8, _), (9, _), (52, _)] rfl ⟨rfl, rfl, rfl, rfl, trivial⟩ ?_
   refine rw_as (t := 52) (v' := .bool true) rfl (rfl) ?_
   refine rw_run tab_ok 1 [(8, _), (9, _), (52, _), (53, _)] rfl ⟨rfl, rfl, rfl, rfl, trivial⟩ ?_
   refine rw_op (ot_bsl (cs := [_]) Tryz.underlying27 Tryz.sizeOf3 Tryz.zeroValue3 rfl rfl rfl rfl rfl) rfl rfl (fun g2 _ => ?_)
   refine rw_mem (fun w h => row_ow (α := Int) (m := 1) [2] rfl (one_i64 (by decide)) rfl (by decide) (h.msub (T := [RBox g2 _ _, ROw (.slice a3.Af 1 a3.cf) hsX, X, RBox gb [.slice a3.Af 1 a3.cf, .slice a3.Ab 1 a3.cb, .slice a3.Ai 0 a3.ci, .slice a3.Ao 0 a3.co, .int .i64 0, .int .i64 0] 29, RBox ga [.slice a2.Af 1 a2.cf, .slice a2.Ab 2 a2.cb, .slice a2.Ai 0 a2.ci, .slice a2.Ao 0 a2.co, .int .i64 0, .int .i64 0] 29, ROw (.slice Q1 1 q1) [(2 : Int)]]) ms)) ?_
   refine rw_op (ot_c0 rfl rfl rfl Tryz.call38 (fun w hw => sameInts_w Q1 (some ⟨g2, 0, none⟩) q1 1 [2] [2] w (SF.at_ (SF.own (A := Q1) (m := 1) (c := q1) (xs := [(2 : Int)]) rfl fc) hw) (SF.at_ (SF.own (A := some ⟨g2, 0, none⟩) (m := 1) (c := 1) (xs := [(2 : Int)]) rfl fc) hw))) rfl rfl (fun _ _ => ?_)
   refine rw_run tab_ok 2 [(8, _), (9, _), (57, _)] rfl ⟨rfl, rfl, rfl, trivial⟩ ?_
   refine rw_as (t := 57) (v' := .bool true) rfl (congrArg Value.bool (decide_eq_true rfl)) ?_
   refine rw_run tab_ok 4 [(8, _), (61, _)] rfl ⟨rfl, rfl, trivial⟩ ?_
   refine rw_as (t := 61) (v' := .bool true) rfl (rfl) ?_
   refine rw_run tab_ok 1 [(8, _), (61, _), (62, _)] rfl ⟨rfl, rfl, rfl, trivial⟩ ?_
   refine rw_s (qs_ldb fc Tryz.isAgg26 rfl rfl (by rfl)) rfl rfl ?_
   refine rw_s (qs_len Tryz.underlying26 rfl rfl) rfl rfl ?_
   refine rw_run tab_ok 3 [(8, _), (67, _)] rfl ⟨rfl, rfl, trivial⟩ ?_
   refine rw_as (t := 67) (v' := .bool true) rfl (rfl) ?_
   refine rw_run tab_ok 1 [(67, _), (68, _)] rfl ⟨rfl, rfl, trivial⟩ ?_
   refine rw_s (qs_ldb fc Tryz.isAgg25 rfl rfl (by rfl)) rfl rfl ?_
   refine rw_s (qs_idx (k := 0) Tryz.underlying25 Tryz.sizeOf66 (SF.own (α := HFrame) hX.len fc) (by omega) rfl rfl rfl) rfl rfl ?_
   refine rw_run tab_ok 1 [(67, _), (71, _)] rfl ⟨rfl, rfl, trivial⟩ ?_
   refine rw_s (qs_ld (fun w hw => (SF.hfr (SF.own (α := HFrame) hX.len fc) (k := 0) (by decide) e1) w hw 2 _ rfl) rfl rfl Tryz.isAgg64) rfl rfl ?_
   refine rw_s (qs_idx (k := 0) Tryz.underlying64 Tryz.sizeOf68 (hS _ _ fc) (by omega) rfl rfl rfl) rfl rfl ?_
   refine rw_s (qs_ldA (SF.val (k := 0) (hS _ _ fc) (by decide) default) rfl rfl Tryz.isAgg68 Tryz.sizeOf68) rfl rfl ?_
   refine rw_s (qs_bst (cs := [_, _]) plT68 Tryz.zeroValue68 rfl rfl (by rfl)) rfl rfl ?_
   refine rw_s (qs_binop rfl rfl rfl (fun w => eq_V w _ _ _ _) (fun w => eq_GV _ _ _ _ w)) rfl rfl ?_
   refine rw_run tab_ok 2 [(0, _)] rfl ⟨rfl, trivial⟩ ?_
   refine rw_end ?_
   refine cw_ret ?_
   refine xw_ret1 Tryz.results53 (rv_tmp rfl) ?_
   intro w hw
   exact ⟨rfl, hw.below⟩
end Go.Proofs.YtmnkaalchcomlaaGreat
-- Me4
/- MeterSplit and MeterFree, walked. -/
namespace Go.Proofs.YtmnkaalchcomlaaGreat
open Go.RowKit
theorem right_i64 {fs : List MFunc} {m : MMach} (h : RightM fs m) : I64 m.status ∧ I64 m.trap := by
 have hs := h.st
 refine ⟨⟨by omega, by omega⟩, ?_⟩
 rcases Decidable.em (m.status = 3) with h3 | h3
 ·have := h.t3 h3; exact ⟨by omega, by omega⟩
 ·have := h.t0 h3; exact ⟨by omega, by omega⟩
theorem runE_ok {fs : List MFunc} {m : MMach} {k : Int} (h : machE fs m = 0) (hk : 0 ≤ k ∧ k ≤ 10000) : runE fs m k = 0 := by
 unfold runE
 rw [if_neg (fun h' => h' h), if_neg (by omega)]
theorem runR_ok {fs : List MFunc} {m : MMach} {k : Int} (h : machE fs m = 0) (hk : 0 ≤ k ∧ k ≤ 10000) : runR fs m k = runM fs m k := by
 unfold runR
 rw [if_pos (runE_ok h hk)]
theorem runE_zero {fs : List MFunc} {m : MMach} {k : Int} (h : runE fs m k = 0) : machE fs m = 0 ∧ 0 ≤ k ∧ k ≤ 10000 := by
 unfold runE at h
 split at h
 ·rename_i h2; exact absurd h h2
 ·rename_i h2
  split at h
  ·cases h
  ·exact ⟨Classical.not_not.1 h2, by omega⟩
theorem mrun_ok (Ap : Option Addr) (cp : Nat) (fs : List MFunc) (a : MA) (m : MMach) (k : Int) (r : MMach × Int) (hr : runM fs m k = r) (w : World) (hs : Sl w (.slice Ap fs.length cp) fs) (hm : MIn w.heap.size w a m) (hp : progS fs = 0) (hR : RightM fs m) (hk : 0 ≤ k ∧ k ≤ 10000) :
  Calls Tryz.prog 41 #[.agg #[.slice Ap fs.length cp], .agg #[.slice a.Af m.frames.length a.cf, .slice a.Ab m.blocks.length a.cb, .slice a.Ai m.inn.length a.ci, .slice a.Ao m.out.length a.co, .int .i64 m.status, .int .i64 m.trap], .int .i64 k] w fun e w' => ∃ g : MA, True ∧
   e = .returned (.tuple #[.agg #[.slice g.Af r.1.frames.length g.cf, .slice g.Ab r.1.blocks.length g.cb, .slice g.Ai r.1.inn.length g.ci, .slice g.Ao r.1.out.length g.co, .int .i64 r.1.status, .int .i64 r.1.trap], .int .i64 r.2, .int .i64 0]) ∧ Cw w.heap.size w [ROw (.slice g.Af r.1.frames.length g.cf) r.1.frames, ROw (.slice g.Ab r.1.blocks.length g.cb) r.1.blocks, ROw (.slice g.Ai r.1.inn.length g.ci) r.1.inn, ROw (.slice g.Ao r.1.out.length g.co) r.1.out] w' := by
 have hE := mach_of_right hp hR
 have := mrun_any Ap cp fs a m k r ((runR_ok hE hk).trans hr) w hs hm (fitM_of (fitd hp) hR).f
 rw [runE_ok hE hk] at this
 exact this
theorem same_two (a b : MA) (m n : MMach) (he : m = n) (w : World) (h1 : MIn w.heap.size w a m) (h2 : MIn w.heap.size w b n) :
  Calls Tryz.prog 37 #[.agg #[.slice a.Af m.frames.length a.cf, .slice a.Ab m.blocks.length a.cb, .slice a.Ai m.inn.length a.ci, .slice a.Ao m.out.length a.co, .int .i64 m.status, .int .i64 m.trap],
   .agg #[.slice b.Af n.frames.length b.cf, .slice b.Ab n.blocks.length b.cb, .slice b.Ai n.inn.length b.ci, .slice b.Ao n.out.length b.co, .int .i64 n.status, .int .i64 n.trap]] w fun e w' => e = .returned (.bool true) ∧ Below w.heap.size w w' := by
 have := sameMach_any a b m n w h1 h2
 rwa [decide_eq_true he] at this
theorem ints_two (A1 A2 : Option Addr) (c1 c2 : Nat) (l : List Int) (w : World) (h1 : Sl w (.slice A1 l.length c1) l) (h2 : Sl w (.slice A2 l.length c2) l) : Calls Tryz.prog 38 #[.slice A1 l.length c1, .slice A2 l.length c2] w fun e w' => e = .returned (.bool true) ∧ Below w.heap.size w w' := by
 have := sameInts_w A1 A2 c1 c2 l l w h1 h2
 rwa [decide_eq_true rfl] at this
end Go.Proofs.YtmnkaalchcomlaaGreat
-- Co6
/- CollectSame and CollectRuns, walked. -/
namespace Go.Proofs.YtmnkaalchcomlaaGreat
open Go.RowKit
theorem collect_ok (Ap : Option Addr) (cp : Nat) (fs : List MFunc) (a : MA) (m c : MMach) (hc : colM m = c) (w : World) (hs : Sl w (.slice Ap fs.length cp) fs) (hm : MIn w.heap.size w a m) (hp : progS fs = 0) (hR : RightM fs m) :
  Calls Tryz.prog 50 #[.agg #[.slice Ap fs.length cp], .agg #[.slice a.Af m.frames.length a.cf, .slice a.Ab m.blocks.length a.cb, .slice a.Ai m.inn.length a.ci, .slice a.Ao m.out.length a.co, .int .i64 m.status, .int .i64 m.trap]] w fun e w' => ∃ g : MA, True ∧
   e = .returned (.tuple #[.agg #[.slice g.Af c.frames.length g.cf, .slice g.Ab c.blocks.length g.cb, .slice g.Ai c.inn.length g.ci, .slice g.Ao c.out.length g.co, .int .i64 c.status, .int .i64 c.trap], .int .i64 ((m.blocks.length : Int) - c.blocks.length), .int .i64 0]) ∧ Cw w.heap.size w [ROw (.slice g.Af c.frames.length g.cf) c.frames, ROw (.slice g.Ab c.blocks.length g.cb) c.blocks, ROw (.slice g.Ai c.inn.length g.ci) c.inn, ROw (.slice g.Ao c.out.length g.co) c.out] w' := by
 have hE := mach_of_right hp hR
 have := collect_any Ap cp fs a m (c, (m.blocks.length : Int) - c.blocks.length) (by unfold colN; rw [if_pos hE, hc]) w hs hm (fitM_of (fitd hp) hR).f
 rw [hE] at this
 exact this
theorem step_ok (Ap : Option Addr) (cp : Nat) (fs : List MFunc) (a : MA) (m y : MMach) (hy : stepM fs m = y) (w : World) (hs : Sl w (.slice Ap fs.length cp) fs) (hm : MIn w.heap.size w a m) (hp : progS fs = 0) (hR : RightM fs m) :
  Calls Tryz.prog 32 #[.agg #[.slice Ap fs.length cp], .agg #[.slice a.Af m.frames.length a.cf, .slice a.Ab m.blocks.length a.cb, .slice a.Ai m.inn.length a.ci, .slice a.Ao m.out.length a.co, .int .i64 m.status, .int .i64 m.trap]] w fun e w' => ∃ g : MA, True ∧
   e = .returned (.tuple #[.agg #[.slice g.Af y.frames.length g.cf, .slice g.Ab y.blocks.length g.cb, .slice g.Ai y.inn.length g.ci, .slice g.Ao y.out.length g.co, .int .i64 y.status, .int .i64 y.trap], .int .i64 0]) ∧ Cw w.heap.size w [ROw (.slice g.Af y.frames.length g.cf) y.frames, ROw (.slice g.Ab y.blocks.length g.cb) y.blocks, ROw (.slice g.Ai y.inn.length g.ci) y.inn, ROw (.slice g.Ao y.out.length g.co) y.out] w' := by
 have hE := mach_of_right hp hR
 have := mstep_all Ap cp fs a m y (by unfold stepR; rw [if_pos hE]; exact hy) w hs hm (fitM_of (fitd hp) hR).f
 rwa [hE] at this
theorem check_ok (Ap : Option Addr) (cp : Nat) (fs : List MFunc) (a : MA) (m : MMach) (w : World) (hs : Sl w (.slice Ap fs.length cp) fs) (hm : MIn w.heap.size w a m) (hp : progS fs = 0) (hR : RightM fs m) :
  Calls Tryz.prog 36 #[.agg #[.slice Ap fs.length cp], .agg #[.slice a.Af m.frames.length a.cf, .slice a.Ab m.blocks.length a.cb, .slice a.Ai m.inn.length a.ci, .slice a.Ao m.out.length a.co, .int .i64 m.status, .int .i64 m.trap]] w fun e w' => e = .returned (.int .i64 0) ∧ Below w.heap.size w w' := by
 have := mcheck_any Ap cp fs a m w hs hm (fitM_of (fitd hp) hR).f
 rwa [mach_of_right hp hR] at this
set_option maxRecDepth 100000 in
set_option maxHeartbeats 4000000 in
theorem collectSame_any (Ap : Option Addr) (cp : Nat) (fs : List MFunc) (a : MA) (m : MMach) (w : World) (hs : Sl w (.slice Ap fs.length cp) fs) (hm : MIn w.heap.size w a m) (hfit : FitF m.frames) :
  Calls Tryz.prog 13 #[.agg #[.slice Ap fs.length cp], .agg #[.slice a.Af m.frames.length a.cf, .slice a.Ab m.blocks.length a.cb, .slice a.Ai m.inn.length a.ci, .slice a.Ao m.out.length a.co, .int .i64 m.status, .int .i64 m.trap]] w fun e w' => e = .returned (.bool true) ∧ Below w.heap.size w w' := by
 obtain ⟨rc, hrc⟩ : ∃ rc, colN fs m = rc := ⟨_, rfl⟩
 refine enter Tryz.func13 rfl Tryz.ntmps13 rfl ?_
 refine cw_seq ?_
 refine cw_region ?_
 refine rw_op (ot_box rfl rfl rfl) rfl rfl (fun g1 _ => ?_)
 refine rw_op (ot_box rfl rfl rfl) rfl rfl (fun g2 _ => ?_)
 refine rw_run tab_ok 1 [(2, _), (3, _)] rfl ⟨rfl, rfl, trivial⟩ ?_
 refine rw_end ?_
 refine cw_seq ?_
 refine cw_seq ?_
 refine cw_region ?_
 refine rw_op (ot_c0 rfl rfl rfl Tryz.call53 (fun w hw => collectBegun_any w)) rfl rfl (fun _ _ => ?_)
 refine rw_run tab_ok 2 [(2, _), (3, _), (19, _)] rfl ⟨rfl, rfl, rfl, trivial⟩ ?_
 refine rw_op (ot_c0 rfl rfl rfl Tryz.call35 (fun w hw => machineBegun_any w)) rfl rfl (fun _ _ => ?_)
 refine rw_run tab_ok 2 [(2, _), (3, _), (22, _)] rfl ⟨rfl, rfl, rfl, trivial⟩ ?_
 refine rw_end ?_
 refine cw_cond_f rfl ?_
 refine cw_skip (xw_then ?_)
 refine cw_seq ?_
 refine cw_region ?_
 refine rw_s (qs_ldbA (vs := [_]) fc Tryz.isAgg24 Tryz.sizeOf24 rfl rfl (by rfl) rfl) rfl rfl ?_
 refine rw_s (qs_ldbA (vs := [_, _, _, _, _, _]) fc Tryz.isAgg29 Tryz.sizeOf29 rfl rfl (by rfl) rfl) rfl rfl ?_
 refine rw_op (ot_c rfl rfl rfl Tryz.call50 (fun w hw => collect_any Ap cp fs a m rc hrc w (hw.ro hs) (MIn.ro hw hm) hfit)) rfl rfl (fun gc _ => ?_)
 refine rw_run tab_ok 4 [(2, _), (3, _), (27, _), (28, _), (29, _)] rfl ⟨rfl, rfl, rfl, rfl, rfl, trivial⟩ ?_
 refine rw_op (ot_alloc Tryz.zeroValue29 rfl rfl) rfl rfl (fun g3 _ => ?_)
 refine rw_op (ot_stb _ fc Tryz.sizeOf29 rfl rfl rfl rfl rfl (by rfl) rfl (by rfl)) rfl rfl (fun _ _ => ?_)
 refine rw_run tab_ok 2 [(2, _), (3, _), (5, _), (6, _), (7, _)] rfl ⟨rfl, rfl, rfl, rfl, rfl, trivial⟩ ?_
 refine rw_end ?_
 refine cw_seq ?_
 refine cw_seq ?_
 refine cw_region ?_
 refine rw_run tab_ok 2 [(2, _), (3, _), (5, _), (6, _), (31, _)] rfl ⟨rfl, rfl, rfl, rfl, rfl, trivial⟩ ?_
 refine rw_end ?_
 refine cw_condN rfl (fun h => ?_) (fun h => ?_)
 ·have h : ¬ machE fs m = 0 := h
  have e2 : rc = (default, 0) := by rw [← hrc]; unfold colN; rw [if_neg h]
  subst e2
  refine cw_seq ?_
  refine cw_region ?_
  refine rw_run tab_ok 3 [(5, _), (34, _)] rfl ⟨rfl, rfl, trivial⟩ ?_
  refine rw_as (t := 34) (v' := .bool true) rfl (rfl) ?_
  refine rw_run tab_ok 1 [(34, _), (35, _)] rfl ⟨rfl, rfl, trivial⟩ ?_
  refine rw_s (qs_ldb fc Tryz.isAgg25 rfl rfl (by rfl)) rfl rfl ?_
  refine rw_s (qs_len Tryz.underlying25 rfl rfl) rfl rfl ?_
  refine rw_run tab_ok 3 [(4, _)] rfl ⟨rfl, trivial⟩ ?_
  refine rw_end ?_
  refine cw_ret (xw_thenr ?_)
  refine xw_ret1 Tryz.results13 (rv_tmp rfl) ?_
  intro w hw
  exact ⟨rfl, hw.below⟩
 ·have h : machE fs m = 0 := h
  have hp := mach_prog h
  obtain ⟨hF, hR⟩ := mach_ok h
  obtain ⟨c, hc⟩ : ∃ c, colM m = c := ⟨_, rfl⟩
  have e2 : rc = (c, (m.blocks.length : Int) - c.blocks.length) := by rw [← hrc]; unfold colN; rw [if_pos h, hc]
  subst e2
  have hRc : RightM fs c := by rw [← hc]; exact col_right hR
  have hcc : colM c = c := by rw [← hc]; exact col_col hR
  obtain ⟨isc, itc⟩ := right_i64 hRc
  obtain ⟨x, hx⟩ : ∃ x, stepM fs m = x := ⟨_, rfl⟩
  obtain ⟨y, hy⟩ : ∃ y, stepM fs c = y := ⟨_, rfl⟩
  have hRx : RightM fs x := by rw [← hx]; exact step_right hF hR
  have hRy : RightM fs y := by rw [← hy]; exact step_right hF hRc
  obtain ⟨isx, itx⟩ := right_i64 hRx
  obtain ⟨isy, ity⟩ := right_i64 hRy
  have hcs := col_step hF hR
  rw [hc, hx, hy] at hcs
  refine cw_skip (xw_then ?_)
  refine cw_seq ?_
  refine cw_region ?_
  refine rw_s (qs_ldbA (vs := [_]) fc Tryz.isAgg24 Tryz.sizeOf24 rfl rfl (by rfl) rfl) rfl rfl ?_
  refine rw_s (qs_ldbA (vs := [_, _, _, _, _, _]) fc Tryz.isAgg29 Tryz.sizeOf29 rfl rfl (by rfl) rfl) rfl rfl ?_
  refine rw_op (ot_c rfl rfl rfl Tryz.call50 (fun w hw => collect_ok Ap cp fs gc c c hcc w (hw.ro hs) (min_own (m := c) hw fc fc fc fc rfl rfl rfl rfl isc itc) hp hRc)) rfl rfl (fun gd _ => ?_)
  refine rw_run tab_ok 4 [(2, _), (3, _), (5, _), (44, _), (45, _), (46, _)] rfl ⟨rfl, rfl, rfl, rfl, rfl, rfl, trivial⟩ ?_
  refine rw_op (ot_alloc Tryz.zeroValue29 rfl rfl) rfl rfl (fun g4 _ => ?_)
  refine rw_op (ot_stb _ fc Tryz.sizeOf29 rfl rfl rfl rfl rfl (by rfl) rfl (by rfl)) rfl rfl (fun _ _ => ?_)
  refine rw_run tab_ok 2 [(2, _), (3, _), (5, _), (7, _), (8, _), (9, _)] rfl ⟨rfl, rfl, rfl, rfl, rfl, rfl, trivial⟩ ?_
  refine rw_end ?_
  refine cw_seq ?_
  refine cw_seq ?_
  refine cw_region ?_
  refine rw_run tab_ok 3 [(2, _), (3, _), (5, _), (8, _), (9, _), (49, _)] rfl ⟨rfl, rfl, rfl, rfl, rfl, rfl, trivial⟩ ?_
  refine rw_as (t := 49) (v' := .bool false) rfl (rfl) ?_
  refine rw_run tab_ok 4 [(2, _), (3, _), (5, _), (8, _), (53, _)] rfl ⟨rfl, rfl, rfl, rfl, rfl, trivial⟩ ?_
  refine rw_as (t := 53) (v' := .bool false) rfl (congrArg Value.bool (by simp)) ?_
  refine rw_s (qs_ldbA (vs := [_, _, _, _, _, _]) fc Tryz.isAgg29 Tryz.sizeOf29 rfl rfl (by rfl) rfl) rfl rfl ?_
  refine rw_s (qs_ldbA (vs := [_, _, _, _, _, _]) fc Tryz.isAgg29 Tryz.sizeOf29 rfl rfl (by rfl) rfl) rfl rfl ?_
  refine rw_op (ot_c0 rfl rfl rfl Tryz.call37 (fun w hw => same_two gc gd c c rfl w (min_own (m := c) hw fc fc fc fc rfl rfl rfl rfl isc itc) (min_own (m := c) hw fc fc fc fc rfl rfl rfl rfl isc itc))) rfl rfl (fun _ _ => ?_)
  refine rw_run tab_ok 3 [(2, _), (3, _), (5, _), (59, _)] rfl ⟨rfl, rfl, rfl, rfl, trivial⟩ ?_
  refine rw_s (qs_ldbA (vs := [_]) fc Tryz.isAgg24 Tryz.sizeOf24 rfl rfl (by rfl) rfl) rfl rfl ?_
  refine rw_s (qs_ldbA (vs := [_, _, _, _, _, _]) fc Tryz.isAgg29 Tryz.sizeOf29 rfl rfl (by rfl) rfl) rfl rfl ?_
  refine rw_op (ot_c0 rfl rfl rfl Tryz.call36 (fun w hw => check_ok Ap cp fs gc c w (hw.ro hs) (min_own (m := c) hw fc fc fc fc rfl rfl rfl rfl isc itc) hp hRc)) rfl rfl (fun _ _ => ?_)
  refine rw_run tab_ok 2 [(2, _), (3, _), (5, _), (64, _)] rfl ⟨rfl, rfl, rfl, rfl, trivial⟩ ?_
  refine rw_end ?_
  refine cw_as (t := 64) (v' := .bool false) rfl (rfl) ?_
  refine cw_cond_f rfl ?_
  refine cw_skip (xw_then ?_)
  refine cw_seq ?_
  refine cw_region ?_
  refine rw_s (qs_ldbA (vs := [_]) fc Tryz.isAgg24 Tryz.sizeOf24 rfl rfl (by rfl) rfl) rfl rfl ?_
  refine rw_s (qs_ldbA (vs := [_, _, _, _, _, _]) fc Tryz.isAgg29 Tryz.sizeOf29 rfl rfl (by rfl) rfl) rfl rfl ?_
  refine rw_op (ot_c rfl rfl rfl Tryz.call32 (fun w hw => step_ok Ap cp fs a m x hx w (hw.ro hs) (MIn.ro hw hm) hp hR)) rfl rfl (fun gx _ => ?_)
  refine rw_run tab_ok 3 [(2, _), (3, _), (5, _), (69, _), (70, _)] rfl ⟨rfl, rfl, rfl, rfl, rfl, trivial⟩ ?_
  refine rw_op (ot_alloc Tryz.zeroValue29 rfl rfl) rfl rfl (fun g5 _ => ?_)
  refine rw_op (ot_stb _ fc Tryz.sizeOf29 rfl rfl rfl rfl rfl (by rfl) rfl (by rfl)) rfl rfl (fun _ _ => ?_)
  refine rw_run tab_ok 1 [(2, _), (3, _), (5, _), (7, _), (10, _)] rfl ⟨rfl, rfl, rfl, rfl, rfl, trivial⟩ ?_
  refine rw_end ?_
  refine cw_seq ?_
  refine cw_region ?_
  refine rw_s (qs_ldbA (vs := [_]) fc Tryz.isAgg24 Tryz.sizeOf24 rfl rfl (by rfl) rfl) rfl rfl ?_
  refine rw_s (qs_ldbA (vs := [_, _, _, _, _, _]) fc Tryz.isAgg29 Tryz.sizeOf29 rfl rfl (by rfl) rfl) rfl rfl ?_
  refine rw_op (ot_c rfl rfl rfl Tryz.call32 (fun w hw => step_ok Ap cp fs gc c y hy w (hw.ro hs) (min_own (m := c) hw fc fc fc fc rfl rfl rfl rfl isc itc) hp hRc)) rfl rfl (fun gy _ => ?_)
  refine rw_run tab_ok 3 [(2, _), (3, _), (7, _), (10, _), (75, _), (76, _)] rfl ⟨rfl, rfl, rfl, rfl, rfl, rfl, trivial⟩ ?_
  refine rw_op (ot_alloc Tryz.zeroValue29 rfl rfl) rfl rfl (fun g6 _ => ?_)
  refine rw_op (ot_stb _ fc Tryz.sizeOf29 rfl rfl rfl rfl rfl (by rfl) rfl (by rfl)) rfl rfl (fun _ _ => ?_)
  refine rw_run tab_ok 1 [(2, _), (3, _), (7, _), (10, _), (11, _), (12, _)] rfl ⟨rfl, rfl, rfl, rfl, rfl, rfl, trivial⟩ ?_
  refine rw_end ?_
  refine cw_seq ?_
  refine cw_seq ?_
  refine cw_region ?_
  refine rw_run tab_ok 3 [(2, _), (3, _), (10, _), (11, _), (12, _), (79, _)] rfl ⟨rfl, rfl, rfl, rfl, rfl, rfl, trivial⟩ ?_
  refine rw_as (t := 79) (v' := .bool false) rfl (rfl) ?_
  refine rw_run tab_ok 3 [(2, _), (3, _), (10, _), (11, _), (82, _)] rfl ⟨rfl, rfl, rfl, rfl, rfl, trivial⟩ ?_
  refine rw_end ?_
  refine cw_as (t := 82) (v' := .bool false) rfl (rfl) ?_
  refine cw_cond_f rfl ?_
  refine cw_skip (xw_then ?_)
  refine cw_seq ?_
  refine cw_seq ?_
  refine cw_region ?_
  refine rw_run tab_ok 1 [(2, _), (10, _), (11, _), (83, _)] rfl ⟨rfl, rfl, rfl, rfl, trivial⟩ ?_
  refine rw_s (qs_ldb fc Tryz.isAgg3 rfl rfl (by rfl)) rfl rfl ?_
  refine rw_run tab_ok 2 [(2, _), (10, _), (11, _), (86, _)] rfl ⟨rfl, rfl, rfl, rfl, trivial⟩ ?_
  rcases hcs with ⟨t1, t2, t3, t4⟩ | ⟨t1, t2⟩
  ·refine rw_as (t := 86) (v' := .bool true) rfl (congrArg Value.bool (decide_eq_true t1)) ?_
   refine rw_run tab_ok 1 [(2, _), (10, _), (11, _), (86, _), (87, _)] rfl ⟨rfl, rfl, rfl, rfl, rfl, trivial⟩ ?_
   refine rw_s (qs_ldb fc Tryz.isAgg3 rfl rfl (by rfl)) rfl rfl ?_
   refine rw_run tab_ok 3 [(2, _), (10, _), (11, _), (91, _)] rfl ⟨rfl, rfl, rfl, rfl, trivial⟩ ?_
   refine rw_as (t := 91) (v' := .bool true) rfl (congrArg Value.bool (decide_eq_true t2)) ?_
   refine rw_run tab_ok 1 [(2, _), (10, _), (11, _), (91, _), (92, _)] rfl ⟨rfl, rfl, rfl, rfl, rfl, trivial⟩ ?_
   refine rw_s (qs_ldb fc Tryz.isAgg3 rfl rfl (by rfl)) rfl rfl ?_
   refine rw_run tab_ok 2 [(2, _), (10, _), (11, _), (95, _)] rfl ⟨rfl, rfl, rfl, rfl, trivial⟩ ?_
   refine rw_end ?_
   refine cw_as (t := 95) (v' := .bool true) rfl (congrArg Value.bool (decide_eq_true t3)) ?_
   refine cw_cond_t rfl ?_
   refine cw_seq ?_
   refine cw_region ?_
   refine rw_run tab_ok 1 [(11, _), (96, _)] rfl ⟨rfl, rfl, trivial⟩ ?_
   refine rw_s (qs_ldb fc Tryz.isAgg3 rfl rfl (by rfl)) rfl rfl ?_
   refine rw_run tab_ok 2 [(11, _), (99, _)] rfl ⟨rfl, rfl, trivial⟩ ?_
   refine rw_split (t := 99) rfl (fun u => ?_) (fun u => ?_)
   ·refine rw_run tab_ok 5 [(4, _)] rfl ⟨rfl, trivial⟩ ?_
    refine rw_end ?_
    refine cw_ret (xw_thenr ?_)
    refine xw_ret1 Tryz.results13 (rv_tmp rfl) ?_
    intro w hw
    exact ⟨rfl, hw.below⟩
   ·have u := of_decide_eq_false u
    refine rw_run tab_ok 1 [(99, _), (100, _)] rfl ⟨rfl, rfl, trivial⟩ ?_
    refine rw_s (qs_ldb fc Tryz.isAgg3 rfl rfl (by rfl)) rfl rfl ?_
    refine rw_run tab_ok 3 [(4, _)] rfl ⟨rfl, trivial⟩ ?_
    refine rw_end ?_
    refine cw_ret (xw_thenr ?_)
    refine xw_ret1 Tryz.results13 (rv_tmp rfl) ?_
    intro w hw
    exact ⟨ret_bool (decide_eq_true (t4.elim (fun h => absurd h u) id)), hw.below⟩
  ·refine rw_share 9 rfl [(2, _), (10, _), (11, _)] [(95, .bool false)] ⟨rfl, rfl, rfl, trivial⟩ (fun K => ?_) ?_
   ·refine rw_split (t := 86) rfl (fun u1 => ?_) (fun u1 => ?_)
    ·have u1 := of_decide_eq_true u1
     refine rw_run tab_ok 1 [(2, _), (10, _), (11, _), (86, _), (87, _)] rfl ⟨rfl, rfl, rfl, rfl, rfl, trivial⟩ ?_
     refine rw_s (qs_ldb fc Tryz.isAgg3 rfl rfl (by rfl)) rfl rfl ?_
     refine rw_run tab_ok 3 [(2, _), (10, _), (11, _), (91, _)] rfl ⟨rfl, rfl, rfl, rfl, trivial⟩ ?_
     refine rw_split (t := 91) rfl (fun u2 => ?_) (fun u2 => ?_)
     ·have u2 := of_decide_eq_true u2
      refine rw_run tab_ok 1 [(2, _), (10, _), (11, _), (91, _), (92, _)] rfl ⟨rfl, rfl, rfl, rfl, rfl, trivial⟩ ?_
      refine rw_s (qs_ldb fc Tryz.isAgg3 rfl rfl (by rfl)) rfl rfl ?_
      refine rw_run tab_ok 2 [(2, _), (10, _), (11, _), (95, _)] rfl ⟨rfl, rfl, rfl, rfl, trivial⟩ ?_
      refine rw_as (t := 95) (v' := .bool false) rfl (congrArg Value.bool (decide_eq_false (fun u3 => t1 ⟨u1, u2, u3⟩))) ?_
      exact rw_subK K ⟨rfl, rfl, rfl, rfl, trivial⟩
     ·refine rw_run tab_ok 4 [(2, _), (10, _), (11, _), (95, _)] rfl ⟨rfl, rfl, rfl, rfl, trivial⟩ ?_
      exact rw_subK K ⟨rfl, rfl, rfl, rfl, trivial⟩
    ·refine rw_run tab_ok 9 [(2, _), (10, _), (11, _), (95, _)] rfl ⟨rfl, rfl, rfl, rfl, trivial⟩ ?_
     exact rw_subK K ⟨rfl, rfl, rfl, rfl, trivial⟩
   ·obtain ⟨cx, hcx⟩ : ∃ cx, colM x = cx := ⟨_, rfl⟩
    have hcy : colM y = cx := t2.trans hcx
    have hRcx : RightM fs cx := by rw [← hcx]; exact col_right hRx
    obtain ⟨iscx, itcx⟩ := right_i64 hRcx
    refine rw_end ?_
    refine cw_cond_f rfl ?_
    refine cw_skip (xw_then ?_)
    refine cw_mem (fun w h => h.msub (T := [RBox g1 [.slice Ap fs.length cp] 24, RBox g5 [.slice gx.Af x.frames.length gx.cf, .slice gx.Ab x.blocks.length gx.cb, .slice gx.Ai x.inn.length gx.ci, .slice gx.Ao x.out.length gx.co, .int .i64 x.status, .int .i64 x.trap] 29, ROw (.slice gx.Af x.frames.length gx.cf) x.frames, ROw (.slice gx.Ab x.blocks.length gx.cb) x.blocks, ROw (.slice gx.Ai x.inn.length gx.ci) x.inn, ROw (.slice gx.Ao x.out.length gx.co) x.out, RBox g6 [.slice gy.Af y.frames.length gy.cf, .slice gy.Ab y.blocks.length gy.cb, .slice gy.Ai y.inn.length gy.ci, .slice gy.Ao y.out.length gy.co, .int .i64 y.status, .int .i64 y.trap] 29, ROw (.slice gy.Af y.frames.length gy.cf) y.frames, ROw (.slice gy.Ab y.blocks.length gy.cb) y.blocks, ROw (.slice gy.Ai y.inn.length gy.ci) y.inn, ROw (.slice gy.Ao y.out.length gy.co) y.out]) ms) ?_
    refine cw_seq ?_
    refine cw_region ?_
    refine rw_s (qs_ldbA (vs := [_]) fc Tryz.isAgg24 Tryz.sizeOf24 rfl rfl (by rfl) rfl) rfl rfl ?_
    refine rw_s (qs_ldbA (vs := [_, _, _, _, _, _]) fc Tryz.isAgg29 Tryz.sizeOf29 rfl rfl (by rfl) rfl) rfl rfl ?_
    refine rw_op (ot_c rfl rfl rfl Tryz.call50 (fun w hw => collect_ok Ap cp fs gx x cx hcx w (hw.ro hs) (min_own (m := x) hw fc fc fc fc rfl rfl rfl rfl isx itx) hp hRx)) rfl rfl (fun ga _ => ?_)
    refine rw_run tab_ok 4 [(2, _), (11, _), (108, _), (109, _), (110, _)] rfl ⟨rfl, rfl, rfl, rfl, rfl, trivial⟩ ?_
    refine rw_op (ot_alloc Tryz.zeroValue29 rfl rfl) rfl rfl (fun g7 _ => ?_)
    refine rw_op (ot_stb _ fc Tryz.sizeOf29 rfl rfl rfl rfl rfl (by rfl) rfl (by rfl)) rfl rfl (fun _ _ => ?_)
    refine rw_run tab_ok 2 [(2, _), (7, _), (11, _), (13, _)] rfl ⟨rfl, rfl, rfl, rfl, trivial⟩ ?_
    refine rw_end ?_
    refine cw_seq ?_
    refine cw_region ?_
    refine rw_s (qs_ldbA (vs := [_]) fc Tryz.isAgg24 Tryz.sizeOf24 rfl rfl (by rfl) rfl) rfl rfl ?_
    refine rw_s (qs_ldbA (vs := [_, _, _, _, _, _]) fc Tryz.isAgg29 Tryz.sizeOf29 rfl rfl (by rfl) rfl) rfl rfl ?_
    refine rw_op (ot_c rfl rfl rfl Tryz.call50 (fun w hw => collect_ok Ap cp fs gy y cx hcy w (hw.ro hs) (min_own (m := y) hw fc fc fc fc rfl rfl rfl rfl isy ity) hp hRy)) rfl rfl (fun gb _ => ?_)
    refine rw_run tab_ok 4 [(7, _), (13, _), (115, _), (116, _), (117, _)] rfl ⟨rfl, rfl, rfl, rfl, rfl, trivial⟩ ?_
    refine rw_op (ot_alloc Tryz.zeroValue29 rfl rfl) rfl rfl (fun g8 _ => ?_)
    refine rw_op (ot_stb _ fc Tryz.sizeOf29 rfl rfl rfl rfl rfl (by rfl) rfl (by rfl)) rfl rfl (fun _ _ => ?_)
    refine rw_run tab_ok 2 [(7, _), (12, _), (13, _), (15, _)] rfl ⟨rfl, rfl, rfl, rfl, trivial⟩ ?_
    refine rw_end ?_
    refine cw_seq ?_
    refine cw_region ?_
    refine rw_run tab_ok 3 [(12, _), (13, _), (15, _), (120, _)] rfl ⟨rfl, rfl, rfl, rfl, trivial⟩ ?_
    refine rw_as (t := 120) (v' := .bool true) rfl (rfl) ?_
    refine rw_run tab_ok 4 [(13, _), (15, _), (124, _)] rfl ⟨rfl, rfl, rfl, trivial⟩ ?_
    refine rw_as (t := 124) (v' := .bool true) rfl (rfl) ?_
    refine rw_s (qs_ldbA (vs := [_, _, _, _, _, _]) fc Tryz.isAgg29 Tryz.sizeOf29 rfl rfl (by rfl) rfl) rfl rfl ?_
    refine rw_s (qs_ldbA (vs := [_, _, _, _, _, _]) fc Tryz.isAgg29 Tryz.sizeOf29 rfl rfl (by rfl) rfl) rfl rfl ?_
    refine rw_op (ot_c0 rfl rfl rfl Tryz.call37 (fun w hw => same_two ga gb cx cx rfl w (min_own (m := cx) hw fc fc fc fc rfl rfl rfl rfl iscx itcx) (min_own (m := cx) hw fc fc fc fc rfl rfl rfl rfl iscx itcx))) rfl rfl (fun _ _ => ?_)
    refine rw_run tab_ok 2 [(4, _)] rfl ⟨rfl, trivial⟩ ?_
    refine rw_end ?_
    refine cw_ret ?_
    refine xw_ret1 Tryz.results13 (rv_tmp rfl) ?_
    intro w hw
    exact ⟨rfl, hw.below⟩
set_option maxRecDepth 100000 in
set_option maxHeartbeats 4000000 in
theorem collectRuns_any (Ap : Option Addr) (cp : Nat) (fs : List MFunc) (a : MA) (m : MMach) (k : Int) (w : World) (hs : Sl w (.slice Ap fs.length cp) fs) (hm : MIn w.heap.size w a m) (hfit : FitF m.frames) :
  Calls Tryz.prog 14 #[.agg #[.slice Ap fs.length cp], .agg #[.slice a.Af m.frames.length a.cf, .slice a.Ab m.blocks.length a.cb, .slice a.Ai m.inn.length a.ci, .slice a.Ao m.out.length a.co, .int .i64 m.status, .int .i64 m.trap], .int .i64 k] w fun e w' => e = .returned (.bool true) ∧ Below w.heap.size w w' := by
 obtain ⟨rc, hrc⟩ : ∃ rc, colN fs m = rc := ⟨_, rfl⟩
 obtain ⟨ra, hra⟩ : ∃ ra, runR fs m k = ra := ⟨_, rfl⟩
 refine enter Tryz.func14 rfl Tryz.ntmps14 rfl ?_
 refine cw_seq ?_
 refine cw_region ?_
 refine rw_op (ot_box rfl rfl rfl) rfl rfl (fun g1 _ => ?_)
 refine rw_op (ot_box rfl rfl rfl) rfl rfl (fun g2 _ => ?_)
 refine rw_run tab_ok 1 [(2, _), (3, _), (4, _)] rfl ⟨rfl, rfl, rfl, trivial⟩ ?_
 refine rw_end ?_
 refine cw_seq ?_
 refine cw_seq ?_
 refine cw_region ?_
 refine rw_op (ot_c0 rfl rfl rfl Tryz.call53 (fun w hw => collectBegun_any w)) rfl rfl (fun _ _ => ?_)
 refine rw_run tab_ok 2 [(2, _), (3, _), (4, _), (18, _)] rfl ⟨rfl, rfl, rfl, rfl, trivial⟩ ?_
 refine rw_op (ot_c0 rfl rfl rfl Tryz.call46 (fun w hw => meterBegun_any w)) rfl rfl (fun _ _ => ?_)
 refine rw_run tab_ok 2 [(2, _), (3, _), (4, _), (21, _)] rfl ⟨rfl, rfl, rfl, rfl, trivial⟩ ?_
 refine rw_end ?_
 refine cw_cond_f rfl ?_
 refine cw_skip (xw_then ?_)
 refine cw_seq ?_
 refine cw_region ?_
 refine rw_s (qs_ldbA (vs := [_]) fc Tryz.isAgg24 Tryz.sizeOf24 rfl rfl (by rfl) rfl) rfl rfl ?_
 refine rw_s (qs_ldbA (vs := [_, _, _, _, _, _]) fc Tryz.isAgg29 Tryz.sizeOf29 rfl rfl (by rfl) rfl) rfl rfl ?_
 refine rw_op (ot_c rfl rfl rfl Tryz.call50 (fun w hw => collect_any Ap cp fs a m rc hrc w (hw.ro hs) (MIn.ro hw hm) hfit)) rfl rfl (fun gc _ => ?_)
 refine rw_run tab_ok 4 [(2, _), (3, _), (4, _), (26, _), (27, _), (28, _)] rfl ⟨rfl, rfl, rfl, rfl, rfl, rfl, trivial⟩ ?_
 refine rw_op (ot_alloc Tryz.zeroValue29 rfl rfl) rfl rfl (fun g3 _ => ?_)
 refine rw_op (ot_stb _ fc Tryz.sizeOf29 rfl rfl rfl rfl rfl (by rfl) rfl (by rfl)) rfl rfl (fun _ _ => ?_)
 refine rw_run tab_ok 2 [(2, _), (3, _), (4, _), (7, _), (9, _)] rfl ⟨rfl, rfl, rfl, rfl, rfl, trivial⟩ ?_
 refine rw_end ?_
 refine cw_seq ?_
 refine cw_region ?_
 refine rw_s (qs_ldbA (vs := [_]) fc Tryz.isAgg24 Tryz.sizeOf24 rfl rfl (by rfl) rfl) rfl rfl ?_
 refine rw_s (qs_ldbA (vs := [_, _, _, _, _, _]) fc Tryz.isAgg29 Tryz.sizeOf29 rfl rfl (by rfl) rfl) rfl rfl ?_
 refine rw_run tab_ok 1 [(2, _), (3, _), (4, _), (7, _), (9, _), (30, _), (31, _), (32, _)] rfl ⟨rfl, rfl, rfl, rfl, rfl, rfl, rfl, rfl, trivial⟩ ?_
 refine rw_op (ot_c rfl rfl rfl Tryz.call41 (fun w hw => mrun_any Ap cp fs a m k ra hra w (hw.ro hs) (MIn.ro hw hm) hfit)) rfl rfl (fun ga _ => ?_)
 refine rw_run tab_ok 4 [(2, _), (3, _), (4, _), (7, _), (9, _), (34, _), (35, _), (36, _)] rfl ⟨rfl, rfl, rfl, rfl, rfl, rfl, rfl, rfl, trivial⟩ ?_
 refine rw_op (ot_alloc Tryz.zeroValue29 rfl rfl) rfl rfl (fun g4 _ => ?_)
 refine rw_op (ot_stb _ fc Tryz.sizeOf29 rfl rfl rfl rfl rfl (by rfl) rfl (by rfl)) rfl rfl (fun _ _ => ?_)
 refine rw_run tab_ok 2 [(2, _), (3, _), (4, _), (7, _), (9, _), (10, _), (11, _), (12, _)] rfl ⟨rfl, rfl, rfl, rfl, rfl, rfl, rfl, rfl, trivial⟩ ?_
 refine rw_end ?_
 refine cw_seq ?_
 refine cw_seq ?_
 refine cw_region ?_
 refine rw_run tab_ok 3 [(2, _), (3, _), (4, _), (7, _), (9, _), (10, _), (11, _), (12, _), (39, _)] rfl ⟨rfl, rfl, rfl, rfl, rfl, rfl, rfl, rfl, rfl, trivial⟩ ?_
 by_cases h : machE fs m = 0
 ·refine rw_as (t := 39) (v' := .bool false) rfl (congrArg Value.bool (by rw [h]; rfl)) ?_
  refine rw_run tab_ok 3 [(2, _), (3, _), (4, _), (7, _), (9, _), (10, _), (11, _), (12, _), (42, _)] rfl ⟨rfl, rfl, rfl, rfl, rfl, rfl, rfl, rfl, rfl, trivial⟩ ?_
  refine rw_end ?_
  by_cases h2 : runE fs m k = 0
  ·refine cw_as (t := 42) (v' := .bool false) rfl (congrArg Value.bool (by rw [h2]; rfl)) ?_
   refine cw_cond_f rfl ?_
   refine cw_skip (xw_then ?_)
   refine cw_seq ?_
   refine cw_region ?_
   refine rw_s (qs_ldbA (vs := [_]) fc Tryz.isAgg24 Tryz.sizeOf24 rfl rfl (by rfl) rfl) rfl rfl ?_
   refine rw_s (qs_ldbA (vs := [_, _, _, _, _, _]) fc Tryz.isAgg29 Tryz.sizeOf29 rfl rfl (by rfl) rfl) rfl rfl ?_
   refine rw_run tab_ok 1 [(4, _), (10, _), (11, _), (51, _), (52, _), (53, _)] rfl ⟨rfl, rfl, rfl, rfl, rfl, rfl, trivial⟩ ?_
   obtain ⟨_, hk⟩ := runE_zero h2
   have hp := mach_prog h
   obtain ⟨hF, hR⟩ := mach_ok h
   obtain ⟨c, hc⟩ : ∃ c, colM m = c := ⟨_, rfl⟩
   have e2 : rc = (c, (m.blocks.length : Int) - c.blocks.length) := by rw [← hrc]; unfold colN; rw [if_pos h, hc]
   subst e2
   have hRc : RightM fs c := by rw [← hc]; exact col_right hR
   obtain ⟨isc, itc⟩ := right_i64 hRc
   have e3 : runM fs m k = ra := by rw [← hra, runR_ok h hk]
   obtain ⟨rb, hrb⟩ : ∃ rb, runM fs c k = rb := ⟨_, rfl⟩
   have hsim := run_sim hF m k hR hk.1 c _ _ (by rw [← hc]; exact sim_col hR)
   rw [e3, hrb] at hsim
   have hRa := (run_facts hF m k hR hk.1).right
   rw [e3] at hRa
   have hRb := (run_facts hF c k hRc hk.1).right
   rw [hrb] at hRb
   have c2 := hRa.ob
   have c3 := hRb.ob
   refine rw_op (ot_c rfl rfl rfl Tryz.call41 (fun w hw => mrun_ok Ap cp fs gc c k rb hrb w (hw.ro hs) (min_own (m := c) hw fc fc fc fc rfl rfl rfl rfl isc itc) hp hRc hk)) rfl rfl (fun gb _ => ?_)
   refine rw_run tab_ok 4 [(4, _), (10, _), (11, _), (55, _), (56, _), (57, _)] rfl ⟨rfl, rfl, rfl, rfl, rfl, rfl, trivial⟩ ?_
   refine rw_op (ot_alloc Tryz.zeroValue29 rfl rfl) rfl rfl (fun g5 _ => ?_)
   refine rw_op (ot_stb _ fc Tryz.sizeOf29 rfl rfl rfl rfl rfl (by rfl) rfl (by rfl)) rfl rfl (fun _ _ => ?_)
   refine rw_run tab_ok 2 [(4, _), (10, _), (11, _), (13, _), (14, _), (15, _)] rfl ⟨rfl, rfl, rfl, rfl, rfl, rfl, trivial⟩ ?_
   refine rw_end ?_
   refine cw_seq ?_
   refine cw_seq ?_
   refine cw_region ?_
   refine rw_run tab_ok 2 [(4, _), (10, _), (11, _), (13, _), (14, _), (59, _)] rfl ⟨rfl, rfl, rfl, rfl, rfl, rfl, trivial⟩ ?_
   refine rw_end ?_
   refine cw_as (t := 59) (v' := .bool false) rfl (rfl) ?_
   refine cw_cond_f rfl ?_
   refine cw_skip (xw_then ?_)
   refine cw_fact (p := rb.1.out.length ≤ gb.co) (fun w hw => (SF.at_ (SF.own (α := Int) rfl fc) hw).cap) fun cap1 => ?_
   refine cw_seq ?_
   refine cw_seq ?_
   refine cw_region ?_
   refine rw_run tab_ok 1 [(10, _), (11, _), (13, _), (14, _), (60, _)] rfl ⟨rfl, rfl, rfl, rfl, rfl, trivial⟩ ?_
   refine rw_s (qs_ldb fc Tryz.isAgg3 rfl rfl (by rfl)) rfl rfl ?_
   refine rw_run tab_ok 2 [(10, _), (11, _), (13, _), (14, _), (63, _)] rfl ⟨rfl, rfl, rfl, rfl, rfl, trivial⟩ ?_
   by_cases hT : m.status ≠ 3 ∧ ra.1.status = 3 ∧ ra.1.trap = 3
   ·have ho : ra.1.out.length ≤ rb.1.out.length ∧ rb.1.out.take ra.1.out.length = ra.1.out := by
     rcases hsim with ⟨_, _, h1⟩ | ⟨_, D', r', h1⟩
     ·exact h1
     ·rw [h1.out]; exact ⟨Nat.le_refl _, List.take_length⟩
    refine rw_as (t := 63) (v' := .bool true) rfl (congrArg Value.bool (by simp [hT.1])) ?_
    refine rw_run tab_ok 1 [(10, _), (11, _), (13, _), (14, _), (63, _), (64, _)] rfl ⟨rfl, rfl, rfl, rfl, rfl, rfl, trivial⟩ ?_
    refine rw_s (qs_ldb fc Tryz.isAgg3 rfl rfl (by rfl)) rfl rfl ?_
    refine rw_run tab_ok 3 [(10, _), (11, _), (13, _), (14, _), (68, _)] rfl ⟨rfl, rfl, rfl, rfl, rfl, trivial⟩ ?_
    refine rw_as (t := 68) (v' := .bool true) rfl (congrArg Value.bool (decide_eq_true hT.2.1)) ?_
    refine rw_run tab_ok 1 [(10, _), (11, _), (13, _), (14, _), (68, _), (69, _)] rfl ⟨rfl, rfl, rfl, rfl, rfl, rfl, trivial⟩ ?_
    refine rw_s (qs_ldb fc Tryz.isAgg3 rfl rfl (by rfl)) rfl rfl ?_
    refine rw_run tab_ok 2 [(10, _), (11, _), (13, _), (14, _), (72, _)] rfl ⟨rfl, rfl, rfl, rfl, rfl, trivial⟩ ?_
    refine rw_end ?_
    refine cw_as (t := 72) (v' := .bool true) rfl (congrArg Value.bool (decide_eq_true hT.2.2)) ?_
    refine cw_cond_t rfl ?_
    refine cw_seq ?_
    refine cw_draw (.still 0 (.still 1 (.still 2 (.still 3 (.still 4 (.still 5 (.still 6 (.still 7 (.still 8 (.still 9 (.still 10 (.still 11 (.still 12 (.still 13 (.still 14 (.still 15 (.pick 16 (.still 17 (.still 18 .done)) .stop))))))))))))))))) [] rfl (by kernel_rfl) (by kernel_rfl) ?_
    refine ro_run tab_ok ha 1 [(10, _), (13, _), (73, _)] rfl ⟨rfl, rfl, rfl, trivial⟩ ?_
    refine ro_s2 rfl (qs_ldb fc Tryz.isAgg27 rfl rfl (by rfl)) rfl rfl ha ?_
    refine ro_s2 rfl (qs_len Tryz.underlying27 rfl rfl) rfl rfl ha ?_
    refine ro_run tab_ok ha 1 [(10, _), (13, _), (75, _), (76, _)] rfl ⟨rfl, rfl, rfl, rfl, trivial⟩ ?_
    refine ro_s2 rfl (qs_ldb fc Tryz.isAgg27 rfl rfl (by rfl)) rfl rfl ha ?_
    refine ro_s2 rfl (qs_len Tryz.underlying27 rfl rfl) rfl rfl ha ?_
    refine ro_run tab_ok ha 2 [(10, _), (13, _), (80, _)] rfl ⟨rfl, rfl, rfl, trivial⟩ ?_
    refine ro_as (t := 80) (v' := .bool true) rfl (congrArg Value.bool (decide_eq_true (by omega))) ?_
    refine ro_run tab_ok ha 1 [(10, _), (80, _), (81, _)] rfl ⟨rfl, rfl, rfl, trivial⟩ ?_
    refine ro_s2 rfl (qs_ldb fc Tryz.isAgg27 rfl rfl (by rfl)) rfl rfl ha ?_
    refine ro_run tab_ok ha 1 [(10, _), (80, _), (82, _), (83, _)] rfl ⟨rfl, rfl, rfl, rfl, trivial⟩ ?_
    refine ro_s2 rfl (qs_ldb fc Tryz.isAgg27 rfl rfl (by rfl)) rfl rfl ha ?_
    refine ro_s2 rfl (qs_len Tryz.underlying27 rfl rfl) rfl rfl ha ?_
    refine ro_s2 rfl (qs_sliceK (lo := 0) (hi := ra.1.out.length) (k := ra.1.out.length) Tryz.underlying27 Tryz.sizeOf3 ⟨by omega, by omega⟩ rfl rfl rfl rfl rfl) rfl rfl ha ?_
    refine ro_run tab_ok ha 1 [(80, _), (86, _), (87, _)] rfl ⟨rfl, rfl, rfl, trivial⟩ ?_
    refine ro_s2 rfl (qs_ldb fc Tryz.isAgg27 rfl rfl (by rfl)) rfl rfl ha ?_
    refine ro_op2 rfl (ot_c0 rfl rfl rfl Tryz.call38 (fun w hw => ints_two _ _ _ _ ra.1.out w (by have := SlB.cut (SF.at_ (SF.own (α := Int) (xs := rb.1.out) rfl fc) hw) 0 ra.1.out.length (Nat.zero_le _) ho.1; rw [List.drop_zero, Nat.sub_zero, ho.2] at this; exact this) (SF.at_ (SF.own rfl fc) hw))) rfl rfl (.inr fun _ => ha) (fun _ _ => ?_) ro_stop
    refine ro_run tab_ok ha 2 [(6, _)] rfl ⟨rfl, trivial⟩ ?_
    refine ro_end ?_
    refine cw_ret (xw_thenr ?_)
    refine xw_ret1 Tryz.results14 (rv_tmp rfl) ?_
    intro w hw
    exact ⟨rfl, hw.below⟩
   ·obtain ⟨hn, D', r', hS⟩ : ra.2 = rb.2 ∧ ∃ D' r', Sim D' r' ra.1 rb.1 := hsim.elim (fun h => absurd ⟨h.1, h.2.1.1, h.2.1.2⟩ hT) id
    have hst := hS.st
    have htr := hS.tr
    have hlf := hS.top.2.2
    have hou := hS.out
    have hin := hS.inn
    refine rw_share 9 rfl [(10, _), (11, _), (13, _), (14, _)] [(72, .bool false)] ⟨rfl, rfl, rfl, rfl, trivial⟩ (fun K => ?_) ?_
    ·refine rw_split (t := 63) rfl (fun u1 => ?_) (fun u1 => ?_)
     ·have u1 : m.status ≠ 3 := by simpa using u1
      refine rw_run tab_ok 1 [(10, _), (11, _), (13, _), (14, _), (63, _), (64, _)] rfl ⟨rfl, rfl, rfl, rfl, rfl, rfl, trivial⟩ ?_
      refine rw_s (qs_ldb fc Tryz.isAgg3 rfl rfl (by rfl)) rfl rfl ?_
      refine rw_run tab_ok 3 [(10, _), (11, _), (13, _), (14, _), (68, _)] rfl ⟨rfl, rfl, rfl, rfl, rfl, trivial⟩ ?_
      refine rw_split (t := 68) rfl (fun u2 => ?_) (fun u2 => ?_)
      ·have u2 := of_decide_eq_true u2
       refine rw_run tab_ok 1 [(10, _), (11, _), (13, _), (14, _), (68, _), (69, _)] rfl ⟨rfl, rfl, rfl, rfl, rfl, rfl, trivial⟩ ?_
       refine rw_s (qs_ldb fc Tryz.isAgg3 rfl rfl (by rfl)) rfl rfl ?_
       refine rw_run tab_ok 2 [(10, _), (11, _), (13, _), (14, _), (72, _)] rfl ⟨rfl, rfl, rfl, rfl, rfl, trivial⟩ ?_
       refine rw_as (t := 72) (v' := .bool false) rfl (congrArg Value.bool (decide_eq_false (fun u3 => hT ⟨u1, u2, u3⟩))) ?_
       exact rw_subK K ⟨rfl, rfl, rfl, rfl, rfl, trivial⟩
      ·refine rw_run tab_ok 4 [(10, _), (11, _), (13, _), (14, _), (72, _)] rfl ⟨rfl, rfl, rfl, rfl, rfl, trivial⟩ ?_
       exact rw_subK K ⟨rfl, rfl, rfl, rfl, rfl, trivial⟩
     ·refine rw_run tab_ok 9 [(10, _), (11, _), (13, _), (14, _), (72, _)] rfl ⟨rfl, rfl, rfl, rfl, rfl, trivial⟩ ?_
      exact rw_subK K ⟨rfl, rfl, rfl, rfl, rfl, trivial⟩
    ·refine rw_end ?_
     refine cw_cond_f rfl ?_
     refine cw_skip (xw_then ?_)
     refine cw_seq ?_
     refine cw_region ?_
     refine rw_run tab_ok 4 [(10, _), (13, _), (94, _)] rfl ⟨rfl, rfl, rfl, trivial⟩ ?_
     refine rw_as (t := 94) (v' := .bool true) rfl (congrArg Value.bool (decide_eq_true hn)) ?_
     refine rw_run tab_ok 1 [(10, _), (13, _), (94, _), (95, _)] rfl ⟨rfl, rfl, rfl, rfl, trivial⟩ ?_
     refine rw_s (qs_ldb fc Tryz.isAgg3 rfl rfl (by rfl)) rfl rfl ?_
     refine rw_run tab_ok 1 [(10, _), (13, _), (94, _), (96, _), (97, _)] rfl ⟨rfl, rfl, rfl, rfl, rfl, trivial⟩ ?_
     refine rw_s (qs_ldb fc Tryz.isAgg3 rfl rfl (by rfl)) rfl rfl ?_
     refine rw_run tab_ok 3 [(10, _), (13, _), (101, _)] rfl ⟨rfl, rfl, rfl, trivial⟩ ?_
     refine rw_as (t := 101) (v' := .bool true) rfl (congrArg Value.bool (decide_eq_true hst.symm)) ?_
     refine rw_run tab_ok 1 [(10, _), (13, _), (101, _), (102, _)] rfl ⟨rfl, rfl, rfl, rfl, trivial⟩ ?_
     refine rw_s (qs_ldb fc Tryz.isAgg3 rfl rfl (by rfl)) rfl rfl ?_
     refine rw_run tab_ok 1 [(10, _), (13, _), (101, _), (103, _), (104, _)] rfl ⟨rfl, rfl, rfl, rfl, rfl, trivial⟩ ?_
     refine rw_s (qs_ldb fc Tryz.isAgg3 rfl rfl (by rfl)) rfl rfl ?_
     refine rw_run tab_ok 3 [(10, _), (13, _), (108, _)] rfl ⟨rfl, rfl, rfl, trivial⟩ ?_
     refine rw_as (t := 108) (v' := .bool true) rfl (congrArg Value.bool (decide_eq_true htr.symm)) ?_
     refine rw_run tab_ok 1 [(10, _), (13, _), (108, _), (109, _)] rfl ⟨rfl, rfl, rfl, rfl, trivial⟩ ?_
     refine rw_s (qs_ldb fc Tryz.isAgg25 rfl rfl (by rfl)) rfl rfl ?_
     refine rw_s (qs_len Tryz.underlying25 rfl rfl) rfl rfl ?_
     refine rw_run tab_ok 1 [(10, _), (13, _), (108, _), (111, _), (112, _)] rfl ⟨rfl, rfl, rfl, rfl, rfl, trivial⟩ ?_
     refine rw_s (qs_ldb fc Tryz.isAgg25 rfl rfl (by rfl)) rfl rfl ?_
     refine rw_s (qs_len Tryz.underlying25 rfl rfl) rfl rfl ?_
     refine rw_run tab_ok 3 [(10, _), (13, _), (117, _)] rfl ⟨rfl, rfl, rfl, trivial⟩ ?_
     refine rw_as (t := 117) (v' := .bool true) rfl (congrArg Value.bool (decide_eq_true (by omega))) ?_
     refine rw_run tab_ok 1 [(10, _), (13, _), (117, _), (118, _)] rfl ⟨rfl, rfl, rfl, rfl, trivial⟩ ?_
     refine rw_s (qs_ldb fc Tryz.isAgg27 rfl rfl (by rfl)) rfl rfl ?_
     refine rw_run tab_ok 1 [(10, _), (13, _), (117, _), (119, _), (120, _)] rfl ⟨rfl, rfl, rfl, rfl, rfl, trivial⟩ ?_
     refine rw_s (qs_ldb fc Tryz.isAgg27 rfl rfl (by rfl)) rfl rfl ?_
     refine rw_op (ot_c0 rfl rfl rfl Tryz.call38 (fun w hw => sameInts_w _ _ _ _ ra.1.out rb.1.out w (SF.at_ (SF.own rfl fc) hw) (SF.at_ (SF.own rfl fc) hw))) rfl rfl (fun _ _ => ?_)
     refine rw_run tab_ok 2 [(10, _), (13, _), (124, _)] rfl ⟨rfl, rfl, rfl, trivial⟩ ?_
     refine rw_as (t := 124) (v' := .bool true) rfl (congrArg Value.bool (decide_eq_true hou.symm)) ?_
     refine rw_run tab_ok 1 [(13, _), (124, _), (125, _)] rfl ⟨rfl, rfl, rfl, trivial⟩ ?_
     refine rw_s (qs_ldb fc Tryz.isAgg27 rfl rfl (by rfl)) rfl rfl ?_
     refine rw_run tab_ok 1 [(124, _), (126, _), (127, _)] rfl ⟨rfl, rfl, rfl, trivial⟩ ?_
     refine rw_s (qs_ldb fc Tryz.isAgg27 rfl rfl (by rfl)) rfl rfl ?_
     refine rw_op (ot_c0 rfl rfl rfl Tryz.call38 (fun w hw => sameInts_w _ _ _ _ ra.1.inn rb.1.inn w (SF.at_ (SF.own rfl fc) hw) (SF.at_ (SF.own rfl fc) hw))) rfl rfl (fun _ _ => ?_)
     refine rw_run tab_ok 2 [(6, _)] rfl ⟨rfl, trivial⟩ ?_
     refine rw_end ?_
     refine cw_ret ?_
     refine xw_ret1 Tryz.results14 (rv_tmp rfl) ?_
     intro w hw
     exact ⟨ret_bool (decide_eq_true hin.symm), hw.below⟩
  ·refine cw_as (t := 42) (v' := .bool true) rfl (congrArg Value.bool (by simp [h2])) ?_
   refine cw_cond_t rfl ?_
   refine cw_seq ?_
   refine cw_region ?_
   refine rw_run tab_ok 3 [(9, _), (12, _), (45, _)] rfl ⟨rfl, rfl, rfl, trivial⟩ ?_
   refine rw_as (t := 45) (v' := .bool true) rfl (congrArg Value.bool (decide_eq_true h)) ?_
   refine rw_run tab_ok 5 [(6, _)] rfl ⟨rfl, trivial⟩ ?_
   refine rw_end ?_
   refine cw_ret (xw_thenr ?_)
   refine xw_ret1 Tryz.results14 (rv_tmp rfl) ?_
   intro w hw
   exact ⟨rfl, hw.below⟩
 ·have h2 : runE fs m k = machE fs m := by unfold runE; rw [if_pos h]
  refine rw_as (t := 39) (v' := .bool true) rfl (congrArg Value.bool (by simp [h])) ?_
  refine rw_run tab_ok 3 [(2, _), (3, _), (4, _), (7, _), (9, _), (10, _), (11, _), (12, _), (42, _)] rfl ⟨rfl, rfl, rfl, rfl, rfl, rfl, rfl, rfl, rfl, trivial⟩ ?_
  refine rw_end ?_
  refine cw_cond_t rfl ?_
  refine cw_seq ?_
  refine cw_region ?_
  refine rw_run tab_ok 3 [(9, _), (12, _), (45, _)] rfl ⟨rfl, rfl, rfl, trivial⟩ ?_
  refine rw_as (t := 45) (v' := .bool false) rfl (congrArg Value.bool (decide_eq_false h)) ?_
  refine rw_run tab_ok 5 [(6, _)] rfl ⟨rfl, trivial⟩ ?_
  refine rw_end ?_
  refine cw_ret (xw_thenr ?_)
  refine xw_ret1 Tryz.results14 (rv_tmp rfl) ?_
  intro w hw
  exact ⟨ret_bool (decide_eq_true h2), hw.below⟩
end Go.Proofs.YtmnkaalchcomlaaGreat
