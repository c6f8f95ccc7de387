/- Flow: All, Reach; the document's. -/
import Derived.Test.YtjojipeodionmaaFl5
namespace Go.Proofs.Ytjojipeodionmaa
open Go.RowKit

theorem reachR_of {l : List MOp} (h : flowE l = 0) : reachR l = reachL l := by unfold reachR; rw [if_pos h]
theorem reachR_no {l : List MOp} (h : ¬ flowE l = 0) : reachR l = [] := by unfold reachR; rw [if_neg h]
set_option maxRecDepth 100000 in
set_option maxHeartbeats 1000000 in
theorem all_any (A : Option Addr) (c : Nat) (l : List MOp) (w : World) (hs : Sl w (.slice A l.length c) l) (hf : flowE l = 0) :
    Calls Try.prog 107 #[.slice A l.length c] w fun e w' => ∃ g : Option Addr × Nat, True ∧ e = .returned (.slice g.1 (reachL l).length g.2) ∧ Cw w.heap.size w [ROw (.slice g.1 (reachL l).length g.2) (reachL l)] w' := by
  have b1 := len_bd hs
  have h40 := codeErr_len (flowE_zero hf).1
  refine enter Try.func107 rfl Try.ntmps107 rfl ?_
  refine cw_seq ?_
  refine cw_region ?_
  refine rw_op (ot_box rfl rfl rfl) rfl rfl (fun g1 _ => ?_)
  refine rw_run tab_ok 1 [(1, _)] rfl ⟨rfl, trivial⟩ ?_
  refine rw_end ?_
  refine cw_seq ?_
  refine cw_region ?_
  refine rw_s (qs_ldb (by first | exact .a | exact .b | exact .c | exact .d | exact .e | exact .s .e | exact .s (.s .e) | exact .s (.s (.s .e))) Try.isAgg24 rfl rfl (by rfl)) rfl rfl ?_
  refine rw_s (qs_len Try.underlying24 rfl rfl) rfl rfl ?_
  refine rw_s (qs_add rfl rfl rfl (by omega)) rfl rfl ?_
  refine rw_op (ot_make (α := Bool) (m := l.length + 1) false Try.underlying126 Try.inB rfl (fun w => ⟨rfl, fun _ h => h⟩) rfl (by omega) rfl rfl rfl) rfl rfl (fun gm0 _ => ?_)
  refine rw_op (ot_alloc Try.zeroValue126 rfl rfl) rfl rfl (fun g2 _ => ?_)
  refine rw_op (ot_stb _ (by first | exact .a | exact .b | exact .c | exact .d | exact .e | exact .s .e | exact .s (.s .e) | exact .s (.s (.s .e))) Try.sizeOf126 rfl rfl rfl rfl rfl (by rfl) rfl (by rfl)) rfl rfl (fun _ _ => ?_)
  refine rw_end ?_
  refine cw_seq ?_
  refine cw_region ?_
  refine rw_op (ot_alloc Try.zeroValue141 rfl rfl) rfl rfl (fun g3 _ => ?_)
  refine rw_end ?_
  refine cw_seq ?_
  refine cw_region ?_
  refine rw_run tab_ok 1 [(1, _), (3, _), (4, _), (11, _)] rfl ⟨rfl, rfl, rfl, rfl, trivial⟩ ?_
  refine rw_op (ot_stb _ (by first | exact .a | exact .b | exact .c | exact .d | exact .e | exact .s .e | exact .s (.s .e) | exact .s (.s (.s .e))) Try.sizeOf141 rfl rfl rfl rfl rfl (by rfl) rfl (by rfl)) rfl rfl (fun _ _ => ?_)
  refine rw_end ?_
  refine cw_seq ?_
  refine cw_region ?_
  refine rw_s (qs_ldb (by first | exact .a | exact .b | exact .c | exact .d | exact .e | exact .s .e | exact .s (.s .e) | exact .s (.s (.s .e))) Try.isAgg141 rfl rfl (by rfl)) rfl rfl ?_
  refine rw_op (ot_callK rfl rfl rfl Try.call132 (fun w hw => visit_any hs hf g2 g1 g3 (some ⟨gm0, 0, none⟩) (l.length + 1) _ [] (List.replicate (l.length + 1) false) 0 0 w rfl (by simp) (Nat.zero_le _) rfl (hw.msub (by repeat (first | exact .r | exact .z | refine .s (by first | exact .a | exact .b | exact .c | exact .d | exact .e | exact .s .e | exact .s (.s .e) | exact .s (.s (.s .e))) ?_ | refine .d ?_))))) rfl rfl (fun m hv => ?_)
  refine rw_end ?_
  refine cw_seq ?_
  refine cw_region ?_
  refine rw_run tab_ok 1 [(1, _), (3, _), (5, _)] rfl ⟨rfl, rfl, rfl, trivial⟩ ?_
  refine rw_end ?_
  refine cw_seq ?_
  refine cw_seq ?_
  refine cw_region ?_
  refine rw_s (qs_ldb (by first | exact .a | exact .b | exact .c | exact .d | exact .e | exact .s .e | exact .s (.s .e) | exact .s (.s (.s .e))) Try.isAgg24 rfl rfl (by rfl)) rfl rfl ?_
  refine rw_s (qs_len Try.underlying24 rfl rfl) rfl rfl ?_
  refine rw_s (qs_add rfl rfl rfl (by omega)) rfl rfl ?_
  refine rw_run tab_ok 1 [(3, _), (5, _), (16, _), (17, _)] rfl ⟨rfl, rfl, rfl, rfl, trivial⟩ ?_
  refine rw_end ?_
  have hml : m.length = l.length + 1 := by rw [hv.met.1]; simp
  have hall := hv.all rfl hf
  refine cw_mem (fun w h => Cw.nilO Int h) ?_
  refine cw_block (cw_loop (fun g : Nat × Option Addr × Nat => g.1 ≤ l.length + 1) (fun g => l.length + 1 - g.1) (fun g => [(3, .pointer (some ⟨g2, 0, none⟩)), (5, .slice g.2.1 ((upto g.1).filter (rchB l)).length g.2.2), (16, .int .i64 (((l.length + 1 : Nat)) : Int)), (17, .int .i64 (g.1 : Int))]) (fun g => [ROw (.slice g.2.1 ((upto g.1).filter (rchB l)).length g.2.2) ((upto g.1).filter (rchB l)), RBox g2 [.slice (some ⟨gm0, 0, none⟩) (l.length + 1) (l.length + 1)] 126, ROw (.slice (some ⟨gm0, 0, none⟩) (l.length + 1) (l.length + 1)) m]) (0, none, 0) (Nat.zero_le _) ⟨rfl, rfl, rfl, rfl, trivial⟩ (by first | exact fun _ h => h | exact fun _ h => h.msub (by repeat (first | exact .z | refine .s (by first | exact .a | exact .b | exact .c | exact .d | exact .e | exact .s .e | exact .s (.s .e) | exact .s (.s (.s .e))) ?_))) ?_)
  rintro ⟨k, A1, c1⟩ hk'
  try dsimp only
  have hk : k ≤ l.length + 1 := hk'
  have hfl := filter_len (rchB l) k
  refine cw_seq ?_
  refine cw_region ?_
  refine rw_run tab_ok 1 [(3, _), (5, _), (16, _), (17, _), (18, _)] rfl ⟨rfl, rfl, rfl, rfl, rfl, trivial⟩ ?_
  refine rw_end ?_
  refine cw_seq ?_
  refine cw_condD rfl (fun hlt => ?_) (fun hlt => ?_)
  · refine cw_skip (xw_then ?_)
    refine cw_seq ?_
    refine cw_block ?_
    refine cw_seq ?_
    refine cw_region ?_
    refine rw_run tab_ok 2 [(3, _), (5, _), (6, _), (16, _), (17, _)] rfl ⟨rfl, rfl, rfl, rfl, rfl, trivial⟩ ?_
    refine rw_end ?_
    refine cw_seq ?_
    refine cw_region ?_
    refine rw_s (qs_ldb (by first | exact .a | exact .b | exact .c | exact .d | exact .e | exact .s .e | exact .s (.s .e) | exact .s (.s (.s .e))) Try.isAgg126 rfl rfl (by rfl)) rfl rfl ?_
    refine rw_run tab_ok 1 [(3, _), (5, _), (6, _), (16, _), (17, _), (20, _), (21, _)] rfl ⟨rfl, rfl, rfl, rfl, rfl, rfl, rfl, trivial⟩ ?_
    refine rw_s (qs_idx Try.underlying126 Try.sizeOf4 (.own hml (by first | exact .a | exact .b | exact .c | exact .d | exact .e | exact .s .e | exact .s (.s .e) | exact .s (.s (.s .e)))) (by omega) rfl rfl rfl) rfl rfl ?_
    refine rw_s (qs_ld (SF.bool (.own hml (by first | exact .a | exact .b | exact .c | exact .d | exact .e | exact .s .e | exact .s (.s .e) | exact .s (.s (.s .e)))) (by omega)) rfl rfl Try.isAgg4) rfl rfl ?_
    refine rw_end ?_
    refine cw_cond rfl (fun hg => ?_) (fun hg => ?_)
    · have hg : (rchB l) (k : Int) = true := rchB_iff.2 ((hall k).1 hg)
      refine cw_region ?_
      refine rw_run tab_ok 2 [(3, _), (16, _), (17, _), (24, _), (25, _)] rfl ⟨rfl, rfl, rfl, rfl, rfl, trivial⟩ ?_
      refine rw_op (ot_bsl (cs := [_]) Try.underlying41 Try.sizeOf3 Try.zeroValue3 rfl rfl rfl rfl rfl) rfl rfl (fun g4 _ => ?_)
      refine rw_op (ot_app1 (α := Int) (bytes := 8) (k : Int) [] (filter_yes hg) Try.underlying41 (info_ex Try.inI) rfl (perm2 (by first | exact .a | exact .b | exact .c | exact .d | exact .e | exact .s .e | exact .s (.s .e) | exact .s (.s (.s .e))) (by first | exact .a | exact .b | exact .c | exact .d | exact .e | exact .s .e | exact .s (.s .e) | exact .s (.s (.s .e)))) (hel_int (by unfold I64; omega)) (by omega) (by omega) rfl rfl rfl) rfl rfl (fun ⟨A4, c4⟩ _ => ?_)
      try dsimp only
      refine rw_run tab_ok 1 [(3, _), (5, _), (16, _), (17, _)] rfl ⟨rfl, rfl, rfl, rfl, trivial⟩ ?_
      refine rw_endx (xw_blkn (xw_then ?_))
      refine cw_region ?_
      refine rw_s (qs_add rfl rfl rfl (by omega)) rfl rfl ?_
      refine rw_run tab_ok 1 [(3, _), (5, _), (16, _), (17, _)] rfl ⟨rfl, rfl, rfl, rfl, trivial⟩ ?_
      refine rw_round (k + 1, A4, c4) (by show k + 1 ≤ _; omega) (by show _ - _ < _ - _; omega) ⟨rfl, rfl, rfl, rfl, trivial⟩ (by first | exact fun _ h => h | exact fun _ h => h.msub (by repeat (first | exact .z | refine .s (by first | exact .a | exact .b | exact .c | exact .d | exact .e | exact .s .e | exact .s (.s .e) | exact .s (.s (.s .e))) ?_)))
    · have hg : ¬ (rchB l) (k : Int) = true := fun e => by rw [(hall k).2 (rchB_iff.1 e)] at hg; cases hg
      refine cw_skip (xw_blkn (xw_then ?_))
      refine cw_region ?_
      refine rw_s (qs_add rfl rfl rfl (by omega)) rfl rfl ?_
      refine rw_run tab_ok 1 [(3, _), (5, _), (16, _), (17, _)] rfl ⟨rfl, rfl, rfl, rfl, trivial⟩ ?_
      rw [← filter_no hg]
      refine rw_round (k + 1, A1, c1) (by show k + 1 ≤ _; omega) (by show _ - _ < _ - _; omega) ⟨rfl, rfl, rfl, rfl, trivial⟩ (by first | exact fun _ h => h | exact fun _ h => h.msub (by repeat (first | exact .z | refine .s (by first | exact .a | exact .b | exact .c | exact .d | exact .e | exact .s .e | exact .s (.s .e) | exact .s (.s (.s .e))) ?_)))
  · obtain rfl : k = l.length + 1 := by omega
    refine cw_exit (xw_thenx (xw_thenx (xw_blk (xw_then ?_))))
    refine cw_seq ?_
    refine cw_region ?_
    refine rw_run tab_ok 2 [(2, _)] rfl ⟨rfl, trivial⟩ ?_
    refine rw_end ?_
    refine cw_ret ?_
    refine xw_ret1 Try.results107 (rv_tmp rfl) ?_
    intro w hw
    exact ⟨(A1, c1), trivial, rfl, hw.msub (by repeat (first | exact .z | refine .s (by first | exact .a | exact .b | exact .c | exact .d | exact .e | exact .s .e | exact .s (.s .e) | exact .s (.s (.s .e))) ?_))⟩
set_option maxRecDepth 100000 in
theorem reach_any (A : Option Addr) (c : Nat) (l : List MOp) (w : World) (hs : Sl w (.slice A l.length c) l) :
    Calls Try.prog 58 #[.slice A l.length c] w fun e w' => ∃ g : Option Addr × Nat, True ∧ e = .returned (.tuple #[.slice g.1 (reachR l).length g.2, .int .i64 (flowE l)]) ∧ Cw w.heap.size w [ROw (.slice g.1 (reachR l).length g.2) (reachR l)] w' := by
  have b1 := len_bd hs
  refine enter Try.func58 rfl Try.ntmps58 rfl ?_
  refine cw_seq ?_
  refine cw_region ?_
  refine rw_run tab_ok 2 [(0, _)] rfl ⟨rfl, trivial⟩ ?_
  refine rw_end ?_
  refine cw_seq ?_
  refine cw_seq ?_
  refine cw_region ?_
  refine rw_run tab_ok 1 [(0, _), (5, _)] rfl ⟨rfl, rfl, trivial⟩ ?_
  refine rw_op (ot_c0 rfl rfl rfl Try.call104 (fun w hw => ready_any A c l w (hw.ro hs))) rfl rfl (fun _ _ => ?_)
  refine rw_run tab_ok 1 [(0, _), (4, _)] rfl ⟨rfl, rfl, trivial⟩ ?_
  refine rw_end ?_
  refine cw_seq ?_
  refine cw_region ?_
  refine rw_run tab_ok 2 [(0, _), (4, _), (8, _)] rfl ⟨rfl, rfl, rfl, trivial⟩ ?_
  refine rw_end ?_
  refine cw_condN rfl (fun hz => ?_) (fun hz => ?_)
  · have e := reachR_no hz
    refine cw_seq ?_
    refine cw_region ?_
    refine rw_run tab_ok 3 [(2, _), (3, _)] rfl ⟨rfl, rfl, trivial⟩ ?_
    refine rw_end ?_
    refine cw_ret (xw_thenr ?_)
    refine xw_ret2 Try.results58 (rv_tmp rfl) (rv_tmp rfl) ?_
    intro w hw
    refine ⟨(none, 0), trivial, by rw [e]; rfl, ?_⟩
    rw [e]
    exact (Cw.nilO Int hw).msub (by repeat (first | exact .z | refine .s (by first | exact .a | exact .b | exact .c | exact .d | exact .e | exact .s .e | exact .s (.s .e) | exact .s (.s (.s .e))) ?_))
  · have e := reachR_of hz
    rw [e, hz]
    refine cw_skip (xw_then ?_)
    refine cw_seq ?_
    refine cw_region ?_
    refine rw_run tab_ok 1 [(10, _)] rfl ⟨rfl, trivial⟩ ?_
    refine rw_op (ot_c rfl rfl rfl Try.call107 (fun w hw => all_any A c l w (hw.ro hs) hz)) rfl rfl (fun ⟨A1, c1⟩ _ => ?_)
    try dsimp only
    refine rw_run tab_ok 2 [(2, _), (3, _)] rfl ⟨rfl, rfl, trivial⟩ ?_
    refine rw_end ?_
    refine cw_ret ?_
    refine xw_ret2 Try.results58 (rv_tmp rfl) (rv_tmp rfl) ?_
    intro w hw
    exact ⟨(A1, c1), trivial, rfl, hw.msub (by repeat (first | exact .z | refine .s (by first | exact .a | exact .b | exact .c | exact .d | exact .e | exact .s .e | exact .s (.s .e) | exact .s (.s (.s .e))) ?_))⟩

/-- Some that may be come to. -/
def MRo (l : List MOp) (m : List Bool) : Prop := m.length = l.length + 1 ∧ m.getD 0 false = true ∧ ∀ i, m.getD i false = true → Rch l i
def Closed (l : List MOp) (m : List Bool) : Prop := ∀ p q, p < l.length → q ≤ l.length → m.getD p false = true → goesOn (opAt l p) p q = true → m.getD q false = true
structure RI (l : List MOp) (m : List Bool) (p q : Nat) (m2 : List Bool) (b : Bool) : Prop where
  ro : MRo l m2
  met : Met m m2
  lt : b = true → unmet m2 < unmet m
  eq : b = false → m2 = m ∧ ∀ p' q' : Nat, (p' < p ∨ p' = p ∧ q' < q) → p' < l.length → q' ≤ l.length → m.getD p' false = true → goesOn (opAt l p') p' q' = true → m.getD q' false = true
section
variable {l : List MOp} {m m2 : List Bool} {p q : Nat} {b : Bool}
theorem RI.start (h : MRo l m) : RI l m 0 0 m false := ⟨h, .refl _, (fun h => by cases h), fun _ => ⟨rfl, fun p' q' h => by omega⟩⟩
theorem RI.row (h : RI l m p (l.length + 1) m2 b) : RI l m (p + 1) 0 m2 b := ⟨h.ro, h.met, h.lt, fun e => ⟨(h.eq e).1, fun p' q' h1 h2 h3 => (h.eq e).2 p' q' (by omega) h2 h3⟩⟩
theorem RI.skip (h : RI l m p q m2 b) (hn : m2.getD p false = true → goesOn (opAt l p) p q = true → m2.getD q false = true) : RI l m p (q + 1) m2 b := by
  refine ⟨h.ro, h.met, h.lt, fun e => ⟨(h.eq e).1, fun p' q' h1 h2 h3 h4 h5 => ?_⟩⟩
  obtain ⟨e1, e2⟩ := h.eq e
  subst e1
  by_cases h6 : p' = p ∧ q' = q
  · obtain ⟨rfl, rfl⟩ := h6; exact hn h4 h5
  · exact e2 p' q' (by omega) h2 h3 h4 h5
theorem RI.set (h : RI l m p q m2 b) (hp : p < l.length) (hq : q ≤ l.length) (h1 : m2.getD p false = true) (h2 : m2.getD q false = false) (h3 : goesOn (opAt l p) p q = true) : RI l m p (q + 1) (m2.set q true) true := by
  have hl := h.ro.1
  have hu := unmet_set (m := m2) (k := q) (by omega) h2
  have hu2 := h.met.unmet
  refine ⟨⟨by simp [hl], ?_, fun i hi => ?_⟩, h.met.trans (.set (by omega)), fun _ => by omega, fun e => by cases e⟩
  · rw [set_getD _ _ _ (by omega)]; split; rfl; exact h.ro.2.1
  · rw [set_getD _ _ _ (by omega)] at hi
    split at hi
    · rename_i e; subst e; exact .step (h.ro.2.2 p h1) hp h3
    · exact h.ro.2.2 i hi
theorem RI.done (h : RI l m l.length 0 m2 b) : MRo l m2 ∧ (b = false → Closed l m2) ∧ unmet m2 + b.toNat < unmet m + true.toNat := by
  refine ⟨h.ro, fun e p q hp hq h1 h2 => ?_, ?_⟩
  · obtain ⟨e1, e2⟩ := h.eq e
    subst e1
    exact e2 p q (.inl hp) hp hq h1 h2
  · cases b
    · rw [(h.eq rfl).1]; simp
    · have := h.lt rfl; simpa using this
theorem MRo.all (h : MRo l m) (hc : Closed l m) (hf : flowE l = 0) (q : Nat) : m.getD q false = true ↔ Rch l q := by
  refine ⟨h.2.2 q, fun hr => ?_⟩
  induction hr with
  | refl => exact h.2.1
  | step h1 h2 h3 ih => exact hc _ _ h2 (by have := goes_in hf h2 h3; omega) ih h3
theorem MRo.first (l : List MOp) : MRo l ((List.replicate (l.length + 1) false).set 0 true) := by
  refine ⟨by simp, by rw [set_getD _ _ _ (by simp), if_pos rfl], fun i hi => ?_⟩
  rw [set_getD _ _ _ (by simp)] at hi
  split at hi
  · rename_i e; subst e; exact .refl
  · rw [List.getD_eq_getElem?_getD, List.getElem?_replicate] at hi
    split at hi <;> cases hi
end
set_option maxRecDepth 100000 in
set_option maxHeartbeats 1000000 in
theorem rreachOf (A : Option Addr) (c : Nat) (l : List MOp) (w : World) (hs : Sl w (.slice A l.length c) l) (hf : flowE l = 0) :
    Calls Try.prog 61 #[.slice A l.length c] w fun e w' => ∃ g : Option Addr × Nat, True ∧ e = .returned (.slice g.1 (reachL l).length g.2) ∧ Cw w.heap.size w [ROw (.slice g.1 (reachL l).length g.2) (reachL l)] w' := by
  have b1 := len_bd hs
  have h40 := codeErr_len (flowE_zero hf).1
  refine enter Try.func61 rfl Try.ntmps61 rfl ?_
  refine cw_seq ?_
  refine cw_region ?_
  refine rw_run tab_ok 1 [(0, _)] rfl ⟨rfl, trivial⟩ ?_
  refine rw_end ?_
  refine cw_seq ?_
  refine cw_region ?_
  refine rw_run tab_ok 1 [(0, _), (9, _)] rfl ⟨rfl, rfl, trivial⟩ ?_
  refine rw_s (qs_len Try.underlying24 rfl rfl) rfl rfl ?_
  refine rw_s (qs_add rfl rfl rfl (by omega)) rfl rfl ?_
  refine rw_op (ot_make (α := Bool) (m := l.length + 1) false Try.underlying126 Try.inB rfl (fun w => ⟨rfl, fun _ h => h⟩) rfl (by omega) rfl rfl rfl) rfl rfl (fun gm _ => ?_)
  refine rw_run tab_ok 1 [(0, _), (3, _)] rfl ⟨rfl, rfl, trivial⟩ ?_
  refine rw_end ?_
  refine cw_seq ?_
  refine cw_region ?_
  refine rw_run tab_ok 1 [(0, _), (3, _), (13, _)] rfl ⟨rfl, rfl, rfl, trivial⟩ ?_
  refine rw_s (qs_idx (k := 0) Try.underlying126 Try.sizeOf4 (.own (xs := List.replicate (l.length + 1) false) List.length_replicate (by first | exact .a | exact .b | exact .c | exact .d | exact .e | exact .s .e | exact .s (.s .e) | exact .s (.s (.s .e)))) (by omega) rfl rfl rfl) rfl rfl ?_
  refine rw_op (ot_stB (k := 0) (xs' := (List.replicate (l.length + 1) false).set 0 true) rfl (by first | exact .a | exact .b | exact .c | exact .d | exact .e | exact .s .e | exact .s (.s .e) | exact .s (.s (.s .e))) (by omega) Try.sizeOf4 rfl rfl rfl) rfl rfl (fun _ _ => ?_)
  refine rw_end ?_
  refine cw_seq ?_
  refine cw_seq ?_
  refine cw_region ?_
  refine rw_run tab_ok 1 [(0, _), (3, _), (4, _)] rfl ⟨rfl, rfl, rfl, trivial⟩ ?_
  refine rw_end ?_
  refine cw_block (cw_loop (fun g : List Bool × Bool => MRo l g.1 ∧ (g.2 = false → Closed l g.1)) (fun g => unmet g.1 + g.2.toNat) (fun g => [(0, .slice A l.length c), (3, .slice (some ⟨gm, 0, none⟩) (l.length + 1) (l.length + 1)), (4, .bool g.2)]) (fun g => [ROw (.slice (some ⟨gm, 0, none⟩) (l.length + 1) (l.length + 1)) g.1]) ((List.replicate (l.length + 1) false).set 0 true, true) (⟨MRo.first l, fun h => by cases h⟩) ⟨rfl, rfl, rfl, trivial⟩ (by first | exact fun _ h => h | exact fun _ h => h.msub (by repeat (first | exact .z | refine .s (by first | exact .a | exact .b | exact .c | exact .d | exact .e | exact .s .e | exact .s (.s .e) | exact .s (.s (.s .e))) ?_))) ?_)
  rintro ⟨m, more⟩ hm'
  try dsimp only
  obtain ⟨hro, hcl⟩ : MRo l m ∧ (more = false → Closed l m) := hm'
  refine cw_seq ?_
  refine cw_seq ?_
  refine cw_region ?_
  refine rw_run tab_ok 1 [(0, _), (3, _), (15, _)] rfl ⟨rfl, rfl, rfl, trivial⟩ ?_
  refine rw_end ?_
  refine cw_cond rfl (fun hmore => ?_) (fun hmore => ?_)
  · have hmore : more = true := hmore
    subst hmore
    refine cw_skip (xw_then ?_)
    refine cw_block ?_
    refine cw_seq ?_
    refine cw_region ?_
    refine rw_run tab_ok 1 [(0, _), (3, _), (4, _)] rfl ⟨rfl, rfl, rfl, trivial⟩ ?_
    refine rw_end ?_
    refine cw_seq ?_
    refine cw_region ?_
    refine rw_run tab_ok 1 [(0, _), (3, _), (4, _), (5, _)] rfl ⟨rfl, rfl, rfl, rfl, trivial⟩ ?_
    refine rw_end ?_
    refine cw_block (cw_loop (fun g : Nat × List Bool × Bool => g.1 ≤ l.length ∧ RI l m g.1 0 g.2.1 g.2.2) (fun g => l.length - g.1) (fun g => [(0, .slice A l.length c), (3, .slice (some ⟨gm, 0, none⟩) (l.length + 1) (l.length + 1)), (4, .bool g.2.2), (5, .int .i64 (g.1 : Int))]) (fun g => [ROw (.slice (some ⟨gm, 0, none⟩) (l.length + 1) (l.length + 1)) g.2.1]) (0, m, false) (⟨Nat.zero_le _, .start hro⟩) ⟨rfl, rfl, rfl, rfl, trivial⟩ (by first | exact fun _ h => h | exact fun _ h => h.msub (by repeat (first | exact .z | refine .s (by first | exact .a | exact .b | exact .c | exact .d | exact .e | exact .s .e | exact .s (.s .e) | exact .s (.s (.s .e))) ?_))) ?_)
    rintro ⟨p, m1, b⟩ hp'
    try dsimp only
    obtain ⟨hp, hri⟩ : p ≤ l.length ∧ RI l m p 0 m1 b := hp'
    refine cw_seq ?_
    refine cw_seq ?_
    refine cw_region ?_
    refine rw_run tab_ok 2 [(0, _), (3, _), (4, _), (5, _), (16, _), (17, _)] rfl ⟨rfl, rfl, rfl, rfl, rfl, rfl, trivial⟩ ?_
    refine rw_s (qs_len Try.underlying24 rfl rfl) rfl rfl ?_
    refine rw_run tab_ok 1 [(0, _), (3, _), (4, _), (5, _), (19, _)] rfl ⟨rfl, rfl, rfl, rfl, rfl, trivial⟩ ?_
    refine rw_end ?_
    refine cw_condD rfl (fun hlt => ?_) (fun hlt => ?_)
    · have hpl : p < l.length := by omega
      refine cw_skip (xw_then ?_)
      refine cw_seq ?_
      refine cw_block ?_
      refine cw_seq ?_
      refine cw_region ?_
      refine rw_run tab_ok 1 [(0, _), (3, _), (4, _), (5, _), (6, _)] rfl ⟨rfl, rfl, rfl, rfl, rfl, trivial⟩ ?_
      refine rw_end ?_
      refine cw_block (cw_loop (fun g : Nat × List Bool × Bool => g.1 ≤ l.length + 1 ∧ RI l m p g.1 g.2.1 g.2.2) (fun g => l.length + 1 - g.1) (fun g => [(0, .slice A l.length c), (3, .slice (some ⟨gm, 0, none⟩) (l.length + 1) (l.length + 1)), (4, .bool g.2.2), (5, .int .i64 (p : Int)), (6, .int .i64 (g.1 : Int))]) (fun g => [ROw (.slice (some ⟨gm, 0, none⟩) (l.length + 1) (l.length + 1)) g.2.1]) (0, m1, b) (⟨Nat.zero_le _, hri⟩) ⟨rfl, rfl, rfl, rfl, rfl, trivial⟩ (by first | exact fun _ h => h | exact fun _ h => h.msub (by repeat (first | exact .z | refine .s (by first | exact .a | exact .b | exact .c | exact .d | exact .e | exact .s .e | exact .s (.s .e) | exact .s (.s (.s .e))) ?_))) ?_)
      rintro ⟨q, m2, b2⟩ hq'
      try dsimp only
      obtain ⟨hq, hri2⟩ : q ≤ l.length + 1 ∧ RI l m p q m2 b2 := hq'
      have hml := hri2.ro.1
      refine cw_seq ?_
      refine cw_seq ?_
      refine cw_region ?_
      refine rw_run tab_ok 2 [(0, _), (3, _), (4, _), (5, _), (6, _), (22, _), (23, _)] rfl ⟨rfl, rfl, rfl, rfl, rfl, rfl, rfl, trivial⟩ ?_
      refine rw_s (qs_len Try.underlying24 rfl rfl) rfl rfl ?_
      refine rw_run tab_ok 1 [(0, _), (3, _), (4, _), (5, _), (6, _), (25, _)] rfl ⟨rfl, rfl, rfl, rfl, rfl, rfl, trivial⟩ ?_
      refine rw_end ?_
      refine cw_condD rfl (fun hlt2 => ?_) (fun hlt2 => ?_)
      · refine cw_skip (xw_then ?_)
        refine cw_seq ?_
        refine cw_block ?_
        refine cw_seq ?_
        refine cw_region ?_
        refine rw_run tab_ok 2 [(0, _), (3, _), (4, _), (5, _), (6, _), (28, _), (29, _)] rfl ⟨rfl, rfl, rfl, rfl, rfl, rfl, rfl, trivial⟩ ?_
        refine rw_s (qs_idx Try.underlying126 Try.sizeOf4 (.own hml (by first | exact .a | exact .b | exact .c | exact .d | exact .e | exact .s .e | exact .s (.s .e) | exact .s (.s (.s .e)))) (by omega) rfl rfl rfl) rfl rfl ?_
        refine rw_s (qs_ld (SF.bool (.own hml (by first | exact .a | exact .b | exact .c | exact .d | exact .e | exact .s .e | exact .s (.s .e) | exact .s (.s (.s .e)))) (by omega)) rfl rfl Try.isAgg4) rfl rfl ?_
        refine rw_run tab_ok 1 [(0, _), (3, _), (4, _), (5, _), (6, _), (32, _)] rfl ⟨rfl, rfl, rfl, rfl, rfl, rfl, trivial⟩ ?_
        refine rw_split (t := 32) rfl (fun h1 => ?_) (fun h1 => ?_)
        · refine rw_run tab_ok 2 [(0, _), (3, _), (4, _), (5, _), (6, _), (32, _), (33, _), (34, _)] rfl ⟨rfl, rfl, rfl, rfl, rfl, rfl, rfl, rfl, trivial⟩ ?_
          refine rw_s (qs_idx Try.underlying126 Try.sizeOf4 (.own hml (by first | exact .a | exact .b | exact .c | exact .d | exact .e | exact .s .e | exact .s (.s .e) | exact .s (.s (.s .e)))) (by omega) rfl rfl rfl) rfl rfl ?_
          refine rw_s (qs_ld (SF.bool (.own hml (by first | exact .a | exact .b | exact .c | exact .d | exact .e | exact .s .e | exact .s (.s .e) | exact .s (.s (.s .e)))) (by omega)) rfl rfl Try.isAgg4) rfl rfl ?_
          refine rw_run tab_ok 3 [(0, _), (3, _), (4, _), (5, _), (6, _), (39, _)] rfl ⟨rfl, rfl, rfl, rfl, rfl, rfl, trivial⟩ ?_
          refine rw_split (t := 39) rfl (fun h2 => ?_) (fun h2 => ?_)
          · have h2 : m2.getD q false = false := by simpa using h2
            refine rw_run tab_ok 3 [(0, _), (3, _), (4, _), (5, _), (6, _), (39, _), (40, _), (41, _), (42, _)] rfl ⟨rfl, rfl, rfl, rfl, rfl, rfl, rfl, rfl, rfl, trivial⟩ ?_
            refine rw_op (ot_c0 rfl rfl rfl Try.call108 (fun w hw => goesOn_any A c l p (q : Int) w (hw.ro hs) hpl)) rfl rfl (fun _ _ => ?_)
            refine rw_run tab_ok 1 [(0, _), (3, _), (4, _), (5, _), (6, _), (44, _)] rfl ⟨rfl, rfl, rfl, rfl, rfl, rfl, trivial⟩ ?_
            refine rw_end ?_
            refine cw_cond rfl (fun h3 => ?_) (fun h3 => ?_)
            · refine cw_seq ?_
              refine cw_region ?_
              refine rw_run tab_ok 2 [(0, _), (3, _), (5, _), (6, _), (45, _), (46, _)] rfl ⟨rfl, rfl, rfl, rfl, rfl, rfl, trivial⟩ ?_
              refine rw_s (qs_idx Try.underlying126 Try.sizeOf4 (.own hml (by first | exact .a | exact .b | exact .c | exact .d | exact .e | exact .s .e | exact .s (.s .e) | exact .s (.s (.s .e)))) (by omega) rfl rfl rfl) rfl rfl ?_
              refine rw_op (ot_stB (k := q) (xs' := m2.set q true) rfl (by first | exact .a | exact .b | exact .c | exact .d | exact .e | exact .s .e | exact .s (.s .e) | exact .s (.s (.s .e))) (by omega) Try.sizeOf4 rfl rfl rfl) rfl rfl (fun _ _ => ?_)
              refine rw_end ?_
              refine cw_region ?_
              refine rw_run tab_ok 1 [(0, _), (3, _), (4, _), (5, _), (6, _)] rfl ⟨rfl, rfl, rfl, rfl, rfl, trivial⟩ ?_
              refine rw_endx (xw_blkn (xw_then ?_))
              refine cw_region ?_
              refine rw_run tab_ok 1 [(0, _), (3, _), (4, _), (5, _), (26, _)] rfl ⟨rfl, rfl, rfl, rfl, rfl, trivial⟩ ?_
              refine rw_s (qs_add rfl rfl rfl (by omega)) rfl rfl ?_
              refine rw_run tab_ok 1 [(0, _), (3, _), (4, _), (5, _), (6, _)] rfl ⟨rfl, rfl, rfl, rfl, rfl, trivial⟩ ?_
              refine rw_round (q + 1, m2.set q true, true) (⟨by show q + 1 ≤ _; omega, hri2.set hpl (by omega) h1 h2 h3⟩) (by show _ - _ < _ - _; omega) ⟨rfl, rfl, rfl, rfl, rfl, trivial⟩ (by first | exact fun _ h => h | exact fun _ h => h.msub (by repeat (first | exact .z | refine .s (by first | exact .a | exact .b | exact .c | exact .d | exact .e | exact .s .e | exact .s (.s .e) | exact .s (.s (.s .e))) ?_)))
            · refine cw_skip (xw_blkn (xw_then ?_))
              refine cw_region ?_
              refine rw_run tab_ok 1 [(0, _), (3, _), (4, _), (5, _), (26, _)] rfl ⟨rfl, rfl, rfl, rfl, rfl, trivial⟩ ?_
              refine rw_s (qs_add rfl rfl rfl (by omega)) rfl rfl ?_
              refine rw_run tab_ok 1 [(0, _), (3, _), (4, _), (5, _), (6, _)] rfl ⟨rfl, rfl, rfl, rfl, rfl, trivial⟩ ?_
              refine rw_round (q + 1, m2, b2) (⟨by show q + 1 ≤ _; omega, hri2.skip fun _ e => by rw [e] at h3; cases h3⟩) (by show _ - _ < _ - _; omega) ⟨rfl, rfl, rfl, rfl, rfl, trivial⟩ (by first | exact fun _ h => h | exact fun _ h => h.msub (by repeat (first | exact .z | refine .s (by first | exact .a | exact .b | exact .c | exact .d | exact .e | exact .s .e | exact .s (.s .e) | exact .s (.s (.s .e))) ?_)))
          · have h2 : m2.getD q false = true := by simpa using h2
            refine rw_run tab_ok 5 [(0, _), (3, _), (4, _), (5, _), (6, _), (44, _)] rfl ⟨rfl, rfl, rfl, rfl, rfl, rfl, trivial⟩ ?_
            refine rw_end ?_
            refine cw_cond_f rfl ?_
            refine cw_skip (xw_blkn (xw_then ?_))
            refine cw_region ?_
            refine rw_run tab_ok 1 [(0, _), (3, _), (4, _), (5, _), (26, _)] rfl ⟨rfl, rfl, rfl, rfl, rfl, trivial⟩ ?_
            refine rw_s (qs_add rfl rfl rfl (by omega)) rfl rfl ?_
            refine rw_run tab_ok 1 [(0, _), (3, _), (4, _), (5, _), (6, _)] rfl ⟨rfl, rfl, rfl, rfl, rfl, trivial⟩ ?_
            refine rw_round (q + 1, m2, b2) (⟨by show q + 1 ≤ _; omega, hri2.skip fun _ _ => h2⟩) (by show _ - _ < _ - _; omega) ⟨rfl, rfl, rfl, rfl, rfl, trivial⟩ (by first | exact fun _ h => h | exact fun _ h => h.msub (by repeat (first | exact .z | refine .s (by first | exact .a | exact .b | exact .c | exact .d | exact .e | exact .s .e | exact .s (.s .e) | exact .s (.s (.s .e))) ?_)))
        · refine rw_run tab_ok 12 [(0, _), (3, _), (4, _), (5, _), (6, _), (44, _)] rfl ⟨rfl, rfl, rfl, rfl, rfl, rfl, trivial⟩ ?_
          refine rw_end ?_
          refine cw_cond_f rfl ?_
          refine cw_skip (xw_blkn (xw_then ?_))
          refine cw_region ?_
          refine rw_run tab_ok 1 [(0, _), (3, _), (4, _), (5, _), (26, _)] rfl ⟨rfl, rfl, rfl, rfl, rfl, trivial⟩ ?_
          refine rw_s (qs_add rfl rfl rfl (by omega)) rfl rfl ?_
          refine rw_run tab_ok 1 [(0, _), (3, _), (4, _), (5, _), (6, _)] rfl ⟨rfl, rfl, rfl, rfl, rfl, trivial⟩ ?_
          refine rw_round (q + 1, m2, b2) (⟨by show q + 1 ≤ _; omega, hri2.skip fun e _ => by rw [e] at h1; cases h1⟩) (by show _ - _ < _ - _; omega) ⟨rfl, rfl, rfl, rfl, rfl, trivial⟩ (by first | exact fun _ h => h | exact fun _ h => h.msub (by repeat (first | exact .z | refine .s (by first | exact .a | exact .b | exact .c | exact .d | exact .e | exact .s .e | exact .s (.s .e) | exact .s (.s (.s .e))) ?_)))
      · obtain rfl : q = l.length + 1 := by omega
        refine cw_exit (xw_thenx (xw_thenx (xw_blk (xw_blkn (xw_then ?_)))))
        refine cw_region ?_
        refine rw_run tab_ok 1 [(0, _), (3, _), (4, _), (20, _)] rfl ⟨rfl, rfl, rfl, rfl, trivial⟩ ?_
        refine rw_s (qs_add rfl rfl rfl (by omega)) rfl rfl ?_
        refine rw_run tab_ok 1 [(0, _), (3, _), (4, _), (5, _)] rfl ⟨rfl, rfl, rfl, rfl, trivial⟩ ?_
        refine rw_round (p + 1, m2, b2) (⟨by show p + 1 ≤ _; omega, hri2.row⟩) (by show _ - _ < _ - _; omega) ⟨rfl, rfl, rfl, rfl, trivial⟩ (by first | exact fun _ h => h | exact fun _ h => h.msub (by repeat (first | exact .z | refine .s (by first | exact .a | exact .b | exact .c | exact .d | exact .e | exact .s .e | exact .s (.s .e) | exact .s (.s (.s .e))) ?_)))
    · obtain rfl : p = l.length := by omega
      have hd := hri.done
      refine cw_exit (xw_thenx (xw_thenx (xw_blk (xw_blkn ?_))))
      refine xw_round (m1, b) (⟨hd.1, hd.2.1⟩) (hd.2.2) ⟨rfl, rfl, rfl, trivial⟩ (by first | exact fun _ h => h | exact fun _ h => h.msub (by repeat (first | exact .z | refine .s (by first | exact .a | exact .b | exact .c | exact .d | exact .e | exact .s .e | exact .s (.s .e) | exact .s (.s (.s .e))) ?_)))
  · have hmore : more = false := hmore
    have hall := hro.all (hcl hmore) hf
    have hml := hro.1
    refine cw_exit (xw_thenx (xw_thenx (xw_blk (xw_then ?_))))
    refine cw_seq ?_
    refine cw_region ?_
    refine rw_run tab_ok 1 [(0, _), (3, _), (7, _)] rfl ⟨rfl, rfl, rfl, trivial⟩ ?_
    refine rw_end ?_
    refine cw_seq ?_
    refine cw_seq ?_
    refine cw_region ?_
    refine rw_run tab_ok 1 [(0, _), (3, _), (7, _), (8, _)] rfl ⟨rfl, rfl, rfl, rfl, trivial⟩ ?_
    refine rw_end ?_
    refine cw_mem (fun w h => Cw.nilO Int h) ?_
    refine cw_block (cw_loop (fun g : Nat × Option Addr × Nat => g.1 ≤ l.length + 1) (fun g => l.length + 1 - g.1) (fun g => [(0, .slice A l.length c), (3, .slice (some ⟨gm, 0, none⟩) (l.length + 1) (l.length + 1)), (7, .slice g.2.1 ((upto g.1).filter (rchB l)).length g.2.2), (8, .int .i64 (g.1 : Int))]) (fun g => [ROw (.slice g.2.1 ((upto g.1).filter (rchB l)).length g.2.2) ((upto g.1).filter (rchB l)), ROw (.slice (some ⟨gm, 0, none⟩) (l.length + 1) (l.length + 1)) m]) (0, none, 0) (Nat.zero_le _) ⟨rfl, rfl, rfl, rfl, trivial⟩ (by first | exact fun _ h => h | exact fun _ h => h.msub (by repeat (first | exact .z | refine .s (by first | exact .a | exact .b | exact .c | exact .d | exact .e | exact .s .e | exact .s (.s .e) | exact .s (.s (.s .e))) ?_))) ?_)
    rintro ⟨k, A1, c1⟩ hk'
    try dsimp only
    have hk : k ≤ l.length + 1 := hk'
    have hfl := filter_len (rchB l) k
    refine cw_seq ?_
    refine cw_seq ?_
    refine cw_region ?_
    refine rw_run tab_ok 2 [(0, _), (3, _), (7, _), (8, _), (48, _), (49, _)] rfl ⟨rfl, rfl, rfl, rfl, rfl, rfl, trivial⟩ ?_
    refine rw_s (qs_len Try.underlying24 rfl rfl) rfl rfl ?_
    refine rw_run tab_ok 1 [(0, _), (3, _), (7, _), (8, _), (51, _)] rfl ⟨rfl, rfl, rfl, rfl, rfl, trivial⟩ ?_
    refine rw_end ?_
    refine cw_condD rfl (fun hlt => ?_) (fun hlt => ?_)
    · refine cw_skip (xw_then ?_)
      refine cw_seq ?_
      refine cw_block ?_
      refine cw_seq ?_
      refine cw_region ?_
      refine rw_run tab_ok 2 [(0, _), (3, _), (7, _), (8, _), (54, _), (55, _)] rfl ⟨rfl, rfl, rfl, rfl, rfl, rfl, trivial⟩ ?_
      refine rw_s (qs_idx Try.underlying126 Try.sizeOf4 (.own hml (by first | exact .a | exact .b | exact .c | exact .d | exact .e | exact .s .e | exact .s (.s .e) | exact .s (.s (.s .e)))) (by omega) rfl rfl rfl) rfl rfl ?_
      refine rw_s (qs_ld (SF.bool (.own hml (by first | exact .a | exact .b | exact .c | exact .d | exact .e | exact .s .e | exact .s (.s .e) | exact .s (.s (.s .e)))) (by omega)) rfl rfl Try.isAgg4) rfl rfl ?_
      refine rw_end ?_
      refine cw_cond rfl (fun hg => ?_) (fun hg => ?_)
      · have hg : (rchB l) (k : Int) = true := rchB_iff.2 ((hall k).1 hg)
        refine cw_region ?_
        refine rw_run tab_ok 2 [(0, _), (3, _), (8, _), (58, _), (59, _)] rfl ⟨rfl, rfl, rfl, rfl, rfl, trivial⟩ ?_
        refine rw_op (ot_bsl (cs := [_]) Try.underlying41 Try.sizeOf3 Try.zeroValue3 rfl rfl rfl rfl rfl) rfl rfl (fun g1 _ => ?_)
        refine rw_op (ot_app1 (α := Int) (bytes := 8) (k : Int) [] (filter_yes hg) Try.underlying41 (info_ex Try.inI) rfl (perm2 (by first | exact .a | exact .b | exact .c | exact .d | exact .e | exact .s .e | exact .s (.s .e) | exact .s (.s (.s .e))) (by first | exact .a | exact .b | exact .c | exact .d | exact .e | exact .s .e | exact .s (.s .e) | exact .s (.s (.s .e)))) (hel_int (by unfold I64; omega)) (by omega) (by omega) rfl rfl rfl) rfl rfl (fun ⟨A4, c4⟩ _ => ?_)
        try dsimp only
        refine rw_run tab_ok 1 [(0, _), (3, _), (7, _), (8, _)] rfl ⟨rfl, rfl, rfl, rfl, trivial⟩ ?_
        refine rw_endx (xw_blkn (xw_then ?_))
        refine cw_region ?_
        refine rw_run tab_ok 1 [(0, _), (3, _), (7, _), (52, _)] rfl ⟨rfl, rfl, rfl, rfl, trivial⟩ ?_
        refine rw_s (qs_add rfl rfl rfl (by omega)) rfl rfl ?_
        refine rw_run tab_ok 1 [(0, _), (3, _), (7, _), (8, _)] rfl ⟨rfl, rfl, rfl, rfl, trivial⟩ ?_
        refine rw_round (k + 1, A4, c4) (by show k + 1 ≤ _; omega) (by show _ - _ < _ - _; omega) ⟨rfl, rfl, rfl, rfl, trivial⟩ (by first | exact fun _ h => h | exact fun _ h => h.msub (by repeat (first | exact .z | refine .s (by first | exact .a | exact .b | exact .c | exact .d | exact .e | exact .s .e | exact .s (.s .e) | exact .s (.s (.s .e))) ?_)))
      · have hg : ¬ (rchB l) (k : Int) = true := fun e => by rw [(hall k).2 (rchB_iff.1 e)] at hg; cases hg
        refine cw_skip (xw_blkn (xw_then ?_))
        refine cw_region ?_
        refine rw_run tab_ok 1 [(0, _), (3, _), (7, _), (52, _)] rfl ⟨rfl, rfl, rfl, rfl, trivial⟩ ?_
        refine rw_s (qs_add rfl rfl rfl (by omega)) rfl rfl ?_
        refine rw_run tab_ok 1 [(0, _), (3, _), (7, _), (8, _)] rfl ⟨rfl, rfl, rfl, rfl, trivial⟩ ?_
        rw [← filter_no hg]
        refine rw_round (k + 1, A1, c1) (by show k + 1 ≤ _; omega) (by show _ - _ < _ - _; omega) ⟨rfl, rfl, rfl, rfl, trivial⟩ (by first | exact fun _ h => h | exact fun _ h => h.msub (by repeat (first | exact .z | refine .s (by first | exact .a | exact .b | exact .c | exact .d | exact .e | exact .s .e | exact .s (.s .e) | exact .s (.s (.s .e))) ?_)))
    · obtain rfl : k = l.length + 1 := by omega
      refine cw_exit (xw_thenx (xw_thenx (xw_blk (xw_then ?_))))
      refine cw_seq ?_
      refine cw_region ?_
      refine rw_run tab_ok 2 [(2, _)] rfl ⟨rfl, trivial⟩ ?_
      refine rw_end ?_
      refine cw_ret ?_
      refine xw_ret1 Try.results61 (rv_tmp rfl) ?_
      intro w hw
      exact ⟨(A1, c1), trivial, rfl, hw.msub (by repeat (first | exact .z | refine .s (by first | exact .a | exact .b | exact .c | exact .d | exact .e | exact .s .e | exact .s (.s .e) | exact .s (.s (.s .e))) ?_))⟩
end Go.Proofs.Ytjojipeodionmaa
