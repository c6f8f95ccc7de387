/- Texts of one proof, one behind the other: lemmas alone. -/
import Derived.Test.YtejpkcheimgdfaaM6Q
import Derived.Test.YtejpkcheimgdfaaM5Q
import Derived.Test.YtejpkcheimgdfaaM3Q

-- V11
/- Verify: Func, Program, Join. -/
namespace Go.Proofs.Ytejpkcheimgdfaa
open Go.RowKit

theorem fnAt_mem {fs : List MFunc} {k : Nat} (hk : k < fs.length) : fnAt fs k ∈ fs := by
  unfold fnAt
  rw [List.getD_eq_getElem?_getD, List.getElem?_eq_getElem hk]
  exact List.getElem_mem hk
/-- What Check says of a program makes its functions right. -/
theorem fn_ok {fs : List MFunc} (h : checkP fs = 0) {k : Nat} (hk : k < fs.length) : FnOk fs (fnAt fs k) ∧ 0 < (fnAt fs k).code.length := by
  obtain ⟨_, _, hall⟩ := checkP_zero h
  obtain ⟨_, _, h3, h4, h5, h6, h7⟩ := oneE_all (hall _ (fnAt_mem hk))
  obtain ⟨h40, _⟩ := codeErr_ops h6
  refine ⟨⟨fun i hi => ?_, fun i hi q hq => ?_, h40⟩, by omega⟩
  · have hf := h7 _ (opAt_mem hi)
    refine ⟨fun hc => ?_, fun hc => ?_, fun j hj => ?_, ⟨by omega, by omega⟩⟩
    · unfold fitsO at hf
      rw [if_pos hc] at hf
      have := within_iff.1 hf
      omega
    · unfold fitsO at hf
      rw [if_neg (by omega), if_neg (by omega), if_pos hc] at hf
      have := within_iff.1 hf
      omega
    · obtain ⟨g1, g2, _⟩ := oneE_all (hall _ (fnAt_mem hj))
      exact ⟨g2, g1⟩
  · have hf := h7 _ (opAt_mem hi)
    have hg := (after_mem (opAt (fnAt fs k).code i) i q).1 hq
    have hjz : ((opAt (fnAt fs k).code i).c = 10 ∨ (opAt (fnAt fs k).code i).c = 11) → 0 ≤ (opAt (fnAt fs k).code i).a ∧ (opAt (fnAt fs k).code i).a < (fnAt fs k).code.length := fun hc => by
      unfold fitsO at hf
      rw [if_neg (by omega), if_pos hc] at hf
      have := within_iff.1 hf
      omega
    unfold goesOn at hg
    split at hg
    · simp at hg
    · split at hg
      · rename_i hc
        have := hjz (.inl hc)
        simp at hg
        omega
      · split at hg
        · rename_i hc
          have := hjz (.inr hc)
          simp at hg
          omega
        · simp at hg
          omega
def funcS (fs : List MFunc) (z : Int) : List MEntry × Int :=
  if checkP fs ≠ 0 then ([], checkP fs) else if z < 0 ∨ (fs.length : Int) ≤ z then ([], 3) else if (entriesS fs (fnAt fs z.toNat)).2 = true then ((entriesS fs (fnAt fs z.toNat)).1, 0) else ([], 4)
def progS (fs : List MFunc) : Int := if checkP fs ≠ 0 then checkP fs else if fs.all (fun f => (entriesS fs f).2) = true then 0 else 4
theorem all_take_snoc {α : Type} {p : α → Bool} {l : List α} {k : Nat} (d : α) (hk : k < l.length) : (l.take (k + 1)).all p = ((l.take k).all p && p (l.getD k d)) := by
  rw [List.take_add_one, List.getElem?_eq_getElem hk, List.getD_eq_getElem?_getD, List.getElem?_eq_getElem hk, List.all_append]
  simp
set_option maxRecDepth 100000 in
set_option maxHeartbeats 1000000 in
theorem vfunc_own (A : Option Addr) (c : Nat) (fs : List MFunc) (z : Int) (w : World) (hs : Sl w (.slice A fs.length c) fs) :
    Calls Try.prog 18 #[.agg #[.slice A fs.length c], .int .i64 z] w fun e w' => ∃ g : (Option Addr × Nat) × List HEnt × List (Value × List Int), RelE g.2.1 g.2.2 (funcS fs z).1 ∧ e = .returned (.tuple #[.slice g.1.1 g.2.1.length g.1.2, .int .i64 (funcS fs z).2]) ∧
      Cw w.heap.size w [ROw (.slice g.1.1 g.2.1.length g.1.2) g.2.1, RPool g.2.2] w' := by
  have b1 := len_bd hs
  refine enter Try.func18 rfl Try.ntmps18 rfl ?_
  refine cw_seq ?_
  refine cw_region ?_
  refine rw_op (ot_box rfl rfl rfl) rfl rfl (fun g1 _ => ?_)
  refine rw_run tab_ok 2 [(1, _), (2, _)] rfl ⟨rfl, rfl, trivial⟩ ?_
  refine rw_end ?_
  refine cw_seq ?_
  refine cw_region ?_
  refine rw_s (qs_ldbA (vs := [_]) fc Try.isAgg24 Try.sizeOf24 rfl rfl (by rfl) rfl) rfl rfl ?_
  obtain ⟨E, hE⟩ : ∃ E : Int, (if checkP fs ≠ 0 then checkP fs else if z < 0 ∨ (fs.length : Int) ≤ z then 3 else 0) = E := ⟨_, rfl⟩
  refine rw_op (ot_c0 rfl rfl rfl Try.call16 (fun w hw => pcheck_any A c fs w (hw.ro hs))) rfl rfl (fun _ _ => ?_)
  refine rw_run tab_ok 1 [(1, _), (2, _), (6, _)] rfl ⟨rfl, rfl, rfl, trivial⟩ ?_
  refine rw_end ?_
  refine cw_cut (fun _ : Unit => True) (fun _ => [(1, .int .i64 z), (2, .pointer (some ⟨g1, 0, none⟩)), (6, .int .i64 E)]) (fun _ => [RBox g1 [.slice A fs.length c] 24]) ?_ ?_
  · refine cw_seq ?_
    refine cw_region ?_
    refine rw_run tab_ok 3 [(1, _), (2, _), (6, _), (13, _)] rfl ⟨rfl, rfl, rfl, rfl, trivial⟩ ?_
    refine rw_split (t := 13) rfl (fun h1 => ?_) (fun h1 => ?_)
    · have h1 := of_decide_eq_true h1
      rw [if_neg (by simpa using h1)] at hE
      refine rw_run tab_ok 3 [(1, _), (2, _), (6, _), (13, _), (16, _)] rfl ⟨rfl, rfl, rfl, rfl, rfl, trivial⟩ ?_
      refine rw_split (t := 16) rfl (fun h2 => ?_) (fun h2 => ?_)
      · have h2 := of_decide_eq_true h2
        rw [if_pos (.inl h2)] at hE
        subst hE
        refine rw_run tab_ok 7 [(1, _), (2, _), (6, _), (23, _)] rfl ⟨rfl, rfl, rfl, rfl, trivial⟩ ?_
        refine rw_end ?_
        refine cw_cond_t rfl ?_
        refine cw_region ?_
        refine rw_run tab_ok 1 [(1, _), (2, _), (6, _)] rfl ⟨rfl, rfl, rfl, trivial⟩ ?_
        refine rw_join () (trivial) ⟨rfl, rfl, rfl, trivial⟩ me
      · have h2 := of_decide_eq_false h2
        refine rw_run tab_ok 2 [(1, _), (2, _), (6, _), (13, _), (16, _), (17, _), (18, _)] rfl ⟨rfl, rfl, rfl, rfl, rfl, rfl, rfl, trivial⟩ ?_
        refine rw_s (qs_ldb fc Try.isAgg22 rfl rfl (by rfl)) rfl rfl ?_
        refine rw_s (qs_len Try.underlying22 rfl rfl) rfl rfl ?_
        refine rw_run tab_ok 3 [(1, _), (2, _), (6, _), (23, _)] rfl ⟨rfl, rfl, rfl, rfl, trivial⟩ ?_
        refine rw_end ?_
        refine cw_condD rfl (fun h3 => ?_) (fun h3 => ?_)
        · rw [if_pos (.inr (by omega))] at hE
          subst hE
          refine cw_region ?_
          refine rw_run tab_ok 1 [(1, _), (2, _), (6, _)] rfl ⟨rfl, rfl, rfl, trivial⟩ ?_
          refine rw_join () (trivial) ⟨rfl, rfl, rfl, trivial⟩ me
        · rw [if_neg (by omega)] at hE
          subst hE
          rw [h1]
          refine cw_skip ?_
          refine xw_join () (trivial) ⟨rfl, rfl, rfl, trivial⟩ me
    · have h1 := of_decide_eq_false h1
      rw [if_pos h1] at hE
      subst hE
      refine rw_run tab_ok 10 [(1, _), (2, _), (6, _), (23, _)] rfl ⟨rfl, rfl, rfl, rfl, trivial⟩ ?_
      refine rw_end ?_
      refine cw_cond_f rfl ?_
      refine cw_skip ?_
      refine xw_join () (trivial) ⟨rfl, rfl, rfl, trivial⟩ me
  · rintro _ _
    refine cw_seq ?_
    refine cw_seq ?_
    refine cw_region ?_
    refine rw_run tab_ok 2 [(1, _), (2, _), (6, _), (25, _)] rfl ⟨rfl, rfl, rfl, rfl, trivial⟩ ?_
    refine rw_end ?_
    refine cw_condN rfl (fun h0 => ?_) (fun h0 => ?_)
    · have hf : funcS fs z = ([], E) := by
        unfold funcS
        by_cases h1 : checkP fs = 0
        · rw [if_neg (by simpa using h1)] at hE ⊢
          by_cases h2 : z < 0 ∨ (fs.length : Int) ≤ z
          · rw [if_pos h2] at hE ⊢; rw [hE]
          · rw [if_neg h2] at hE; exact absurd hE.symm h0
        · rw [if_pos h1] at hE ⊢; rw [hE]
      rw [hf]
      refine cw_seq ?_
      refine cw_region ?_
      refine rw_run tab_ok 3 [(4, _), (5, _)] rfl ⟨rfl, rfl, trivial⟩ ?_
      refine rw_end ?_
      refine cw_ret (xw_thenr ?_)
      refine xw_ret2 Try.results18 (rv_tmp rfl) (rv_tmp rfl) ?_
      intro w hw
      exact ⟨((none, 0), [], []), .nil_, rfl, Cw.nilO HEnt (pool_nil (hw.msub (T := []) ms))⟩
    · subst h0
      have h1 : checkP fs = 0 := by
        by_cases h1 : checkP fs = 0
        · exact h1
        · rw [if_pos h1] at hE; exact absurd hE h1
      rw [if_neg (by simpa using h1)] at hE
      have h2 : ¬ (z < 0 ∨ (fs.length : Int) ≤ z) := fun h => by rw [if_pos h] at hE; cases hE
      obtain ⟨k, rfl⟩ : ∃ k : Nat, z = (k : Int) := ⟨z.toNat, by omega⟩
      have hk : k < fs.length := by omega
      obtain ⟨hok, hn0⟩ := fn_ok h1 hk
      have hf : funcS fs (k : Int) = if (entriesS fs (fnAt fs k)).2 = true then ((entriesS fs (fnAt fs k)).1, 0) else ([], 4) := by
        unfold funcS
        rw [if_neg (by simpa using h1), if_neg h2, Int.toNat_natCast]
      refine cw_skip (xw_then ?_)
      refine cw_seq ?_
      refine cw_region ?_
      refine rw_s (qs_ldbA (vs := [_]) fc Try.isAgg24 Try.sizeOf24 rfl rfl (by rfl) rfl) rfl rfl ?_
      refine rw_run tab_ok 1 [(28, _), (29, _)] rfl ⟨rfl, rfl, trivial⟩ ?_
      refine rw_op (ot_c rfl rfl rfl Try.call49 (fun w hw => entries_own A c fs k w (hw.ro hs) hk hok hn0)) rfl rfl (fun ⟨⟨A1, c1⟩, es, L⟩ hre => ?_)
      try dsimp only
      refine rw_run tab_ok 5 [(7, _), (8, _)] rfl ⟨rfl, rfl, trivial⟩ ?_
      refine rw_end ?_
      refine cw_seq ?_
      refine cw_seq ?_
      refine cw_region ?_
      refine rw_run tab_ok 2 [(7, _), (34, _)] rfl ⟨rfl, rfl, trivial⟩ ?_
      refine rw_end ?_
      refine cw_cond rfl (fun h3 => ?_) (fun h3 => ?_)
      · rw [hf, if_neg (by simpa using h3)]
        refine cw_seq ?_
        refine cw_region ?_
        refine rw_run tab_ok 2 [(4, _), (5, _)] rfl ⟨rfl, rfl, trivial⟩ ?_
        refine rw_end ?_
        refine cw_ret (xw_thenr ?_)
        refine xw_ret2 Try.results18 (rv_tmp rfl) (rv_tmp rfl) ?_
        intro w hw
        exact ⟨((none, 0), [], []), .nil_, rfl, Cw.nilO HEnt (pool_nil (hw.msub (T := []) ms))⟩
      · rw [hf, if_pos (by simpa using h3)]
        refine cw_skip (xw_then ?_)
        refine cw_seq ?_
        refine cw_region ?_
        refine rw_run tab_ok 3 [(4, _), (5, _)] rfl ⟨rfl, rfl, trivial⟩ ?_
        refine rw_end ?_
        refine cw_ret ?_
        refine xw_ret2 Try.results18 (rv_tmp rfl) (rv_tmp rfl) ?_
        intro w hw
        exact ⟨((A1, c1), es, L), hre, rfl, hw.msub ms⟩
theorem vfunc_any (A : Option Addr) (c : Nat) (fs : List MFunc) (z : Int) (w : World) (hs : Sl w (.slice A fs.length c) fs) :
    Calls Try.prog 18 #[.agg #[.slice A fs.length c], .int .i64 z] w fun e w' => ∃ g : Option Addr × Nat, True ∧ e = .returned (.tuple #[.slice g.1 (funcS fs z).1.length g.2, .int .i64 (funcS fs z).2]) ∧
      Cw w.heap.size w [RRd (.slice g.1 (funcS fs z).1.length g.2) (funcS fs z).1] w' :=
  (vfunc_own A c fs z w hs).mono fun e w' ⟨g, h1, h2, h3⟩ => ⟨g.1, trivial, by rw [← h1.len]; exact h2, by rw [← h1.len]; exact freeze_of (Hel := [ROw (.slice g.1.1 g.2.1.length g.1.2) g.2.1, RPool g.2.2]) (H := []) (read_ents h1) h3⟩
set_option maxRecDepth 100000 in
set_option maxHeartbeats 1000000 in
theorem vprog_any (A : Option Addr) (c : Nat) (fs : List MFunc) (w : World) (hs : Sl w (.slice A fs.length c) fs) :
    Calls Try.prog 25 #[.agg #[.slice A fs.length c]] w fun e w' => e = .returned (.int .i64 (progS fs)) ∧ Below w.heap.size w w' := by
  have b1 := len_bd hs
  refine enter Try.func25 rfl Try.ntmps25 rfl ?_
  refine cw_seq ?_
  refine cw_region ?_
  refine rw_op (ot_box rfl rfl rfl) rfl rfl (fun g1 _ => ?_)
  refine rw_run tab_ok 1 [(1, _)] rfl ⟨rfl, trivial⟩ ?_
  refine rw_end ?_
  refine cw_seq ?_
  refine cw_seq ?_
  refine cw_region ?_
  refine rw_s (qs_ldbA (vs := [_]) fc Try.isAgg24 Try.sizeOf24 rfl rfl (by rfl) rfl) rfl rfl ?_
  refine rw_op (ot_c0 rfl rfl rfl Try.call16 (fun w hw => pcheck_any A c fs w (hw.ro hs))) rfl rfl (fun _ _ => ?_)
  refine rw_run tab_ok 1 [(1, _), (3, _)] rfl ⟨rfl, rfl, trivial⟩ ?_
  refine rw_end ?_
  refine cw_seq ?_
  refine cw_region ?_
  refine rw_run tab_ok 2 [(1, _), (3, _), (10, _)] rfl ⟨rfl, rfl, rfl, trivial⟩ ?_
  refine rw_end ?_
  refine cw_condN rfl (fun h0 => ?_) (fun h0 => ?_)
  · refine cw_seq ?_
    refine cw_region ?_
    refine rw_run tab_ok 2 [(2, _)] rfl ⟨rfl, trivial⟩ ?_
    refine rw_end ?_
    refine cw_ret (xw_thenr ?_)
    refine xw_ret1 Try.results25 (rv_tmp rfl) ?_
    intro w hw
    exact ⟨reti (by unfold progS; rw [if_pos h0]), hw.below⟩
  · have hp : progS fs = if fs.all (fun f => (entriesS fs f).2) = true then 0 else 4 := by unfold progS; rw [if_neg (by simpa using h0)]
    refine cw_skip (xw_then ?_)
    refine cw_seq ?_
    refine cw_seq ?_
    refine cw_region ?_
    refine rw_run tab_ok 1 [(1, _), (12, _)] rfl ⟨rfl, rfl, trivial⟩ ?_
    refine rw_s (qs_ldb fc Try.isAgg22 rfl rfl (by rfl)) rfl rfl ?_
    refine rw_s (qs_len Try.underlying22 rfl rfl) rfl rfl ?_
    refine rw_run tab_ok 1 [(1, _), (14, _), (15, _)] rfl ⟨rfl, rfl, rfl, trivial⟩ ?_
    refine rw_end ?_
    refine cw_block (cw_loop (fun k : Nat => k ≤ fs.length ∧ (fs.take k).all (fun f => (entriesS fs f).2) = true) (fun k => fs.length - k) (fun k => [(1, .pointer (some ⟨g1, 0, none⟩)), (14, .int .i64 (fs.length : Int)), (15, .int .i64 (k : Int))]) (fun _ => [RBox g1 [.slice A fs.length c] 24]) 0 (⟨Nat.zero_le _, rfl⟩) ⟨rfl, rfl, rfl, trivial⟩ me ?_)
    rintro k hk'
    obtain ⟨hk, hall⟩ : k ≤ fs.length ∧ (fs.take k).all (fun f => (entriesS fs f).2) = true := hk'
    refine cw_seq ?_
    refine cw_region ?_
    refine rw_run tab_ok 1 [(1, _), (14, _), (15, _), (16, _)] rfl ⟨rfl, rfl, rfl, rfl, trivial⟩ ?_
    refine rw_end ?_
    refine cw_seq ?_
    refine cw_condD rfl (fun hlt => ?_) (fun hlt => ?_)
    · have hkl : k < fs.length := by omega
      obtain ⟨hok, hn0⟩ := fn_ok h0 hkl
      have hsn := all_take_snoc (p := fun f => (entriesS fs f).2) (default : MFunc) hkl
      refine cw_skip (xw_then ?_)
      refine cw_seq ?_
      refine cw_block ?_
      refine cw_seq ?_
      refine cw_region ?_
      refine rw_run tab_ok 2 [(1, _), (4, _), (14, _), (15, _)] rfl ⟨rfl, rfl, rfl, rfl, trivial⟩ ?_
      refine rw_end ?_
      refine cw_seq ?_
      refine cw_region ?_
      refine rw_s (qs_ldbA (vs := [_]) fc Try.isAgg24 Try.sizeOf24 rfl rfl (by rfl) rfl) rfl rfl ?_
      refine rw_run tab_ok 1 [(1, _), (14, _), (15, _), (19, _), (20, _)] rfl ⟨rfl, rfl, rfl, rfl, rfl, trivial⟩ ?_
      refine rw_op (ot_c rfl rfl rfl Try.call49 (fun w hw => entries_any A c fs k w (hw.ro hs) hkl hok hn0)) rfl rfl (fun ⟨A1, c1⟩ _ => ?_)
      try dsimp only
      refine rw_run tab_ok 5 [(1, _), (6, _), (14, _), (15, _)] rfl ⟨rfl, rfl, rfl, rfl, trivial⟩ ?_
      refine rw_end ?_
      refine cw_seq ?_
      refine cw_region ?_
      refine rw_run tab_ok 2 [(1, _), (14, _), (15, _), (25, _)] rfl ⟨rfl, rfl, rfl, rfl, trivial⟩ ?_
      refine rw_end ?_
      refine cw_cond rfl (fun h3 => ?_) (fun h3 => ?_)
      · have h3 : (entriesS fs (fnAt fs k)).2 = false := by simpa using h3
        refine cw_seq ?_
        refine cw_region ?_
        refine rw_run tab_ok 1 [(2, _)] rfl ⟨rfl, trivial⟩ ?_
        refine rw_end ?_
        refine cw_ret (xw_blkr (xw_thenr (xw_thenr (xw_blkr (xw_thenr ?_)))))
        refine xw_ret1 Try.results25 (rv_tmp rfl) ?_
        intro w hw
        refine ⟨reti ?_, hw.below⟩
        rw [hp, if_neg]
        intro h
        rw [List.all_eq_true] at h
        have := h _ (fnAt_mem hkl)
        rw [h3] at this
        cases this
      · have h3 : (entriesS fs (fnAt fs k)).2 = true := by simpa using h3
        refine cw_skip (xw_blkn (xw_then ?_))
        refine cw_region ?_
        refine rw_s (qs_add rfl rfl rfl (by omega)) rfl rfl ?_
        refine rw_run tab_ok 1 [(1, _), (14, _), (15, _)] rfl ⟨rfl, rfl, rfl, trivial⟩ ?_
        refine rw_round (k + 1) (⟨hkl, by rw [hsn, hall]; exact h3⟩) (by show _ - _ < _ - _; omega) ⟨rfl, rfl, rfl, trivial⟩ me
    · obtain rfl : k = fs.length := by omega
      rw [List.take_length] at hall
      refine cw_exit (xw_thenx (xw_thenx (xw_blk (xw_then ?_))))
      refine cw_seq ?_
      refine cw_region ?_
      refine rw_run tab_ok 1 [(2, _)] rfl ⟨rfl, trivial⟩ ?_
      refine rw_end ?_
      refine cw_ret ?_
      refine xw_ret1 Try.results25 (rv_tmp rfl) ?_
      intro w hw
      exact ⟨reti (by rw [hp, if_pos hall]), hw.below⟩
theorem joinE_le {a b : List Int} (h : joinE a b = 0) : a.length ≤ 8 ∧ b.length ≤ 8 := by
  unfold joinE at h
  split at h
  · cases h
  split at h
  · cases h
  split at h
  · cases h
  · omega
theorem Try.hdrs (A1 A2 : Option Addr) (n1 n2 c1 c2 : Nat) : ∀ x ∈ [(⟨.slice A1 n1 c1⟩ : Hdr), ⟨.slice A2 n2 c2⟩], FOw.wf x := by
  intro x hx
  rcases List.mem_cons.1 hx with rfl | hx
  · rfl
  · rw [List.mem_singleton.1 hx]; rfl
set_option maxRecDepth 100000 in
set_option maxHeartbeats 2000000 in
theorem join_any (A1 A2 : Option Addr) (c1 c2 : Nat) (a b : List Int) (w : World) (h1 : Sl w (.slice A1 a.length c1) a) (h2 : Sl w (.slice A2 b.length c2) b) :
    Calls Try.prog 19 #[.slice A1 a.length c1, .slice A2 b.length c2] w fun e w' => ∃ u, e = .returned (.tuple #[u, .int .i64 (joinE a b)]) ∧ Below w.heap.size w w' ∧ OwN w' w.heap.size u (joinR a b) := by
  have b1 := len_bd h1
  have b2 := len_bd h2
  refine enter Try.func19 rfl Try.ntmps19 rfl ?_
  refine cw_seq ?_
  refine cw_region ?_
  refine rw_run tab_ok 2 [(0, _), (1, _)] rfl ⟨rfl, rfl, trivial⟩ ?_
  refine rw_end ?_
  refine cw_seq ?_
  refine cw_seq ?_
  refine cw_region ?_
  refine rw_run tab_ok 2 [(0, _), (1, _), (10, _), (11, _)] rfl ⟨rfl, rfl, rfl, rfl, trivial⟩ ?_
  refine rw_op (ot_bsl (cs := [_, _]) Try.underlying58 Try.sizeOf35 Try.zeroValue35 rfl rfl rfl rfl rfl) rfl rfl (fun g1 _ => ?_)
  refine rw_s (qs_len Try.underlying58 rfl rfl) rfl rfl ?_
  refine rw_run tab_ok 1 [(0, _), (1, _), (12, _), (13, _), (14, _)] rfl ⟨rfl, rfl, rfl, rfl, rfl, trivial⟩ ?_
  refine rw_end ?_
  refine cw_mem (fun w h => row_ow (α := Hdr) (m := 2) [⟨.slice A1 a.length c1⟩, ⟨.slice A2 b.length c2⟩] rfl (Try.hdrs _ _ _ _ _ _) rfl (by decide) h) ?_
  refine cw_cutk (fun _ : Unit => a.any badT = false ∧ b.any badT = false) (fun _ => [(0, .slice A1 a.length c1), (1, .slice A2 b.length c2)]) (fun _ => []) ?_ ?_
  · refine cw_block (cw_loop (fun i : Nat => i ≤ 2 ∧ ((0 < i → a.any badT = false) ∧ (1 < i → b.any badT = false))) (fun i => 2 - i) (fun i => [(0, .slice A1 a.length c1), (1, .slice A2 b.length c2), (12, .slice (some ⟨g1, 0, none⟩) 2 2), (13, .int .i64 2), (14, .int .i64 (i : Int))]) (fun _ => [ROw (.slice (some ⟨g1, 0, none⟩) 2 2) [(⟨.slice A1 a.length c1⟩ : Hdr), ⟨.slice A2 b.length c2⟩]]) 0 (⟨by decide, by omega, by omega⟩) ⟨rfl, rfl, rfl, rfl, rfl, trivial⟩ me ?_)
    rintro i hi'
    obtain ⟨hi, hia, hib⟩ : i ≤ 2 ∧ ((0 < i → a.any badT = false) ∧ (1 < i → b.any badT = false)) := hi'
    refine cw_seq ?_
    refine cw_region ?_
    refine rw_run tab_ok 1 [(0, _), (1, _), (12, _), (13, _), (14, _), (15, _)] rfl ⟨rfl, rfl, rfl, rfl, rfl, rfl, trivial⟩ ?_
    refine rw_end ?_
    refine cw_seq ?_
    refine cw_condD rfl (fun hlt => ?_) (fun hlt => ?_)
    · have hil : i < 2 := by omega
      obtain ⟨Ai, ci, li, hli, hv, hcase⟩ : ∃ Ai ci li, Sl w (.slice Ai li.length ci) li ∧ ([(⟨.slice A1 a.length c1⟩ : Hdr), ⟨.slice A2 b.length c2⟩].getD i nilH).v = .slice Ai li.length ci ∧ ((i = 0 ∧ li = a) ∨ (i = 1 ∧ li = b)) := by
        rcases (show i = 0 ∨ i = 1 from by omega) with rfl | rfl
        · exact ⟨A1, c1, a, h1, rfl, .inl ⟨rfl, rfl⟩⟩
        · exact ⟨A2, c2, b, h2, rfl, .inr ⟨rfl, rfl⟩⟩
      refine cw_skip (xw_then ?_)
      refine cw_seq ?_
      refine cw_block ?_
      refine cw_seq ?_
      refine cw_region ?_
      refine rw_s (qs_idx Try.underlying58 Try.sizeOf35 (SF.own (α := Hdr) (xs := [⟨.slice A1 a.length c1⟩, ⟨.slice A2 b.length c2⟩]) (m := 2) rfl fc) (by omega) rfl rfl rfl) rfl rfl ?_
      refine rw_s (qs_ld (v := .slice Ai li.length ci) (by rw [← hv]; exact SF.hdr (SF.own (m := 2) rfl fc) hil) rfl rfl Try.isAgg35) rfl rfl ?_
      refine rw_run tab_ok 1 [(0, _), (1, _), (7, _), (12, _), (13, _), (14, _)] rfl ⟨rfl, rfl, rfl, rfl, rfl, rfl, trivial⟩ ?_
      refine rw_end ?_
      refine cw_seq ?_
      refine cw_region ?_
      refine rw_run tab_ok 1 [(0, _), (1, _), (12, _), (13, _), (14, _), (18, _)] rfl ⟨rfl, rfl, rfl, rfl, rfl, rfl, trivial⟩ ?_
      refine rw_op (ot_c0 rfl rfl rfl Try.call50 (fun w hw => containsfInt Ai ci li 51 #[] badT w (hw.ro hli) Try.call51 (fun w1 _ x _ => badT_any x w1))) rfl rfl (fun _ _ => ?_)
      refine rw_end ?_
      refine cw_cond rfl (fun hb => ?_) (fun hb => ?_)
      · have hj : joinE a b = 6 := by
          unfold joinE
          rcases hcase with ⟨_, rfl⟩ | ⟨rfl, rfl⟩
          · rw [if_pos hb]
          · rw [if_neg (by rw [hia (by omega)]; decide), if_pos hb]
        have hr : joinR a b = [] := by unfold joinR; rw [hj]; rfl
        refine cw_seq ?_
        refine cw_region ?_
        refine rw_run tab_ok 2 [(4, _), (5, _)] rfl ⟨rfl, rfl, trivial⟩ ?_
        refine rw_end ?_
        refine cw_ret (xw_blkr (xw_thenr (xw_thenr (xw_blkr (xw_thenr ?_)))))
        refine xw_ret2 Try.results19 (rv_tmp rfl) (rv_tmp rfl) ?_
        intro w hw
        rw [hj, hr]
        exact ⟨_, rfl, nil_ret hw⟩
      · refine cw_skip (xw_blkn (xw_then ?_))
        refine cw_region ?_
        refine rw_s (qs_add rfl rfl rfl (by omega)) rfl rfl ?_
        refine rw_run tab_ok 1 [(0, _), (1, _), (12, _), (13, _), (14, _)] rfl ⟨rfl, rfl, rfl, rfl, rfl, trivial⟩ ?_
        refine rw_round (i + 1) (⟨hil, by rcases hcase with ⟨_, rfl⟩ | ⟨rfl, rfl⟩; (· exact ⟨fun _ => hb, by omega⟩); (· exact ⟨fun _ => hia (by omega), fun _ => hb⟩)⟩) (by show _ - _ < _ - _; omega) ⟨rfl, rfl, rfl, rfl, rfl, trivial⟩ me
    · refine cw_exit (xw_thenx (xw_thenx (xw_blk ?_)))
      refine xw_join () (⟨hia (by omega), hib (by omega)⟩) ⟨rfl, rfl, trivial⟩ me
  · rintro _ ⟨ha, hb⟩
    have hj : joinE a b = if 8 < a.length ∨ 8 < b.length then 2 else if joinL a b = none then 4 else 0 := by
      unfold joinE
      rw [if_neg (by rw [ha]; decide), if_neg (by rw [hb]; decide)]
    refine cw_cut (fun _ : Unit => ¬ (8 < a.length ∨ 8 < b.length)) (fun _ => [(0, .slice A1 a.length c1), (1, .slice A2 b.length c2)]) (fun _ => []) ?_ ?_
    · refine cw_seq ?_
      refine cw_region ?_
      refine rw_run tab_ok 1 [(0, _), (1, _), (21, _)] rfl ⟨rfl, rfl, rfl, trivial⟩ ?_
      refine rw_s (qs_len Try.underlying35 rfl rfl) rfl rfl ?_
      refine rw_run tab_ok 2 [(0, _), (1, _), (24, _)] rfl ⟨rfl, rfl, rfl, trivial⟩ ?_
      refine rw_split (t := 24) rfl (fun h8 => ?_) (fun h8 => ?_)
      · have h8 := of_decide_eq_true h8
        have h8 : (8 : Int) < a.length := h8
        rw [if_pos (.inl (by omega))] at hj
        have hr : joinR a b = [] := by unfold joinR; rw [hj]; rfl
        refine rw_run tab_ok 4 [(0, _), (1, _), (28, _)] rfl ⟨rfl, rfl, rfl, trivial⟩ ?_
        refine rw_end ?_
        refine cw_cond_t rfl ?_
        refine cw_seq ?_
        refine cw_region ?_
        refine rw_run tab_ok 2 [(4, _), (5, _)] rfl ⟨rfl, rfl, trivial⟩ ?_
        refine rw_end ?_
        refine cw_ret (xw_thenr ?_)
        refine xw_ret2 Try.results19 (rv_tmp rfl) (rv_tmp rfl) ?_
        intro w hw
        rw [hj, hr]
        exact ⟨_, rfl, nil_ret hw⟩
      · have h8 := of_decide_eq_false h8
        have h8 : ¬ (8 : Int) < a.length := h8
        refine rw_run tab_ok 1 [(0, _), (1, _), (24, _), (25, _)] rfl ⟨rfl, rfl, rfl, rfl, trivial⟩ ?_
        refine rw_s (qs_len Try.underlying35 rfl rfl) rfl rfl ?_
        refine rw_run tab_ok 2 [(0, _), (1, _), (28, _)] rfl ⟨rfl, rfl, rfl, trivial⟩ ?_
        refine rw_end ?_
        refine cw_condD rfl (fun h9 => ?_) (fun h9 => ?_)
        · have h9 : (8 : Int) < b.length := h9
          rw [if_pos (.inr (by omega))] at hj
          have hr : joinR a b = [] := by unfold joinR; rw [hj]; rfl
          refine cw_seq ?_
          refine cw_region ?_
          refine rw_run tab_ok 2 [(4, _), (5, _)] rfl ⟨rfl, rfl, trivial⟩ ?_
          refine rw_end ?_
          refine cw_ret (xw_thenr ?_)
          refine xw_ret2 Try.results19 (rv_tmp rfl) (rv_tmp rfl) ?_
          intro w hw
          rw [hj, hr]
          exact ⟨_, rfl, nil_ret hw⟩
        · have h9 : ¬ (8 : Int) < b.length := h9
          refine cw_skip ?_
          refine xw_join () (by omega) ⟨rfl, rfl, trivial⟩ me
    · rintro _ h8
      have h8 : ¬ (8 < a.length ∨ 8 < b.length) := h8
      rw [if_neg h8] at hj
      refine cw_seq ?_
      refine cw_region ?_
      refine rw_run tab_ok 2 [(30, _), (31, _)] rfl ⟨rfl, rfl, trivial⟩ ?_
      refine rw_op (ot_cO rfl rfl rfl Try.call52 (fun w hw => joined_any A1 A2 c1 c2 a b w (hw.ro h1) (hw.ro h2) (by omega))) rfl rfl (fun ⟨A4, c4⟩ _ => ?_)
      try dsimp only
      refine rw_run tab_ok 5 [(8, _), (9, _)] rfl ⟨rfl, rfl, trivial⟩ ?_
      refine rw_end ?_
      refine cw_seq ?_
      refine cw_seq ?_
      refine cw_region ?_
      refine rw_run tab_ok 2 [(8, _), (36, _)] rfl ⟨rfl, rfl, trivial⟩ ?_
      refine rw_end ?_
      refine cw_cond rfl (fun h9 => ?_) (fun h9 => ?_)
      · have h9 : joinL a b = none := by
          cases e : joinL a b with
          | none => rfl
          | some j => rw [e] at h9; cases h9
        rw [if_pos h9] at hj
        have hr : joinR a b = [] := by unfold joinR; rw [hj]; rfl
        refine cw_seq ?_
        refine cw_region ?_
        refine rw_run tab_ok 2 [(4, _), (5, _)] rfl ⟨rfl, rfl, trivial⟩ ?_
        refine rw_end ?_
        refine cw_ret (xw_thenr ?_)
        refine xw_ret2 Try.results19 (rv_tmp rfl) (rv_tmp rfl) ?_
        intro w hw
        rw [hj, hr]
        exact ⟨_, rfl, nil_ret hw⟩
      · have h9 : ¬ joinL a b = none := fun e => by rw [e] at h9; cases h9
        rw [if_neg h9] at hj
        have hr : joinR a b = (joinL a b).getD [] := by unfold joinR; rw [if_pos hj]
        refine cw_skip (xw_then ?_)
        refine cw_seq ?_
        refine cw_region ?_
        refine rw_run tab_ok 3 [(4, _), (5, _)] rfl ⟨rfl, rfl, trivial⟩ ?_
        refine rw_end ?_
        refine cw_ret ?_
        refine xw_ret2 Try.results19 (rv_tmp rfl) (rv_tmp rfl) ?_
        intro w hw
        rw [hj, hr]
        exact ⟨_, rfl, own_ret hw⟩
end Go.Proofs.Ytejpkcheimgdfaa

-- Pr13
/- Programs: the square; what must be in any case. -/
namespace Go.Proofs.Ytejpkcheimgdfaa
open Go.RowKit

def squareM : List MFunc := [⟨0, [], 0, [⟨21, 0⟩, ⟨12, 1⟩, ⟨20, 0⟩, ⟨10, 0⟩]⟩, ⟨1, [1], 1, [⟨8, 0⟩, ⟨3, 0⟩, ⟨7, 0⟩, ⟨13, 0⟩]⟩]
set_option maxRecDepth 100000 in
set_option maxHeartbeats 1000000 in
theorem square_any (w : World) : Calls Try.prog 46 #[] w fun e w' => ∃ g : Nat, True ∧ e = .returned (.agg #[.slice (some ⟨g, 0, none⟩) 2 2]) ∧ Cw w.heap.size w [ROw (.slice (some ⟨g, 0, none⟩) 2 2) squareM] w' := by
  refine enter Try.func46 rfl Try.ntmps46 rfl ?_
  refine cw_seq ?_
  refine cw_region ?_
  refine rw_op (ot_alloc Try.zeroValue24 rfl rfl) rfl rfl (fun g1 _ => ?_)
  refine rw_end ?_
  refine cw_seq ?_
  refine cw_region ?_
  refine rw_s (qs_bst (cs := [_, _]) plT61 Try.zeroValue61 rfl rfl (by rfl)) rfl rfl ?_
  refine rw_s (qs_bst (cs := [_, _]) plT61 Try.zeroValue61 rfl rfl (by rfl)) rfl rfl ?_
  refine rw_s (qs_bst (cs := [_, _]) plT61 Try.zeroValue61 rfl rfl (by rfl)) rfl rfl ?_
  refine rw_s (qs_bst (cs := [_, _]) plT61 Try.zeroValue61 rfl rfl (by rfl)) rfl rfl ?_
  refine rw_op (ot_bsl (cs := [_, _, _, _, _, _, _, _]) Try.underlying52 Try.sizeOf61 Try.zeroValue61 rfl rfl rfl rfl rfl) rfl rfl (fun g2 _ => ?_)
  refine rw_s (qs_bst (cs := [_, _, _, _]) plT54 Try.zeroValue54 rfl rfl (by rfl)) rfl rfl ?_
  refine rw_op (ot_bsl (cs := [_]) Try.underlying35 Try.sizeOf3 Try.zeroValue3 rfl rfl rfl rfl rfl) rfl rfl (fun g3 _ => ?_)
  refine rw_s (qs_bst (cs := [_, _]) plT61 Try.zeroValue61 rfl rfl (by rfl)) rfl rfl ?_
  refine rw_s (qs_bst (cs := [_, _]) plT61 Try.zeroValue61 rfl rfl (by rfl)) rfl rfl ?_
  refine rw_s (qs_bst (cs := [_, _]) plT61 Try.zeroValue61 rfl rfl (by rfl)) rfl rfl ?_
  refine rw_s (qs_bst (cs := [_, _]) plT61 Try.zeroValue61 rfl rfl (by rfl)) rfl rfl ?_
  refine rw_op (ot_bsl (cs := [_, _, _, _, _, _, _, _]) Try.underlying52 Try.sizeOf61 Try.zeroValue61 rfl rfl rfl rfl rfl) rfl rfl (fun g4 _ => ?_)
  refine rw_s (qs_bst (cs := [_, _, _, _]) plT54 Try.zeroValue54 rfl rfl (by rfl)) rfl rfl ?_
  refine rw_op (ot_bsl (cs := [_, _, _, _, _, _, _, _]) Try.underlying22 Try.sizeOf54 Try.zeroValue54 rfl rfl rfl rfl rfl) rfl rfl (fun g5 _ => ?_)
  refine rw_s (qs_bst (cs := [_]) plT24 Try.zeroValue24 rfl rfl (by rfl)) rfl rfl ?_
  refine rw_op (ot_stb _ fc Try.sizeOf24 rfl rfl rfl rfl rfl (by rfl) rfl (by rfl)) rfl rfl (fun _ _ => ?_)
  refine rw_end ?_
  refine cw_ret ?_
  refine xw_ret1 Try.results46 (rv_box (cs := [_]) fc Try.isAgg24 Try.sizeOf24 rfl) ?_
  intro w hw
  refine ⟨_, trivial, rfl, ?_⟩
  have h := row_ow (α := MOp) (m := 4) [⟨21, 0⟩, ⟨12, 1⟩, ⟨20, 0⟩, ⟨10, 0⟩] rfl (show ∀ o ∈ [(⟨21, 0⟩ : MOp), ⟨12, 1⟩, ⟨20, 0⟩, ⟨10, 0⟩], I64 o.c ∧ I64 o.a from by decide) rfl (by decide) (hw.msub (T := [RBox g2 _ _, RBox g3 _ _, RBox g4 _ _, RBox g5 _ _]) ms)
  have h := row_ow (α := MOp) (m := 4) [⟨8, 0⟩, ⟨3, 0⟩, ⟨7, 0⟩, ⟨13, 0⟩] rfl (show ∀ o ∈ [(⟨8, 0⟩ : MOp), ⟨3, 0⟩, ⟨7, 0⟩, ⟨13, 0⟩], I64 o.c ∧ I64 o.a from by decide) rfl (by decide) (h.msub (T := [RBox g4 _ _, ROw (.slice (some ⟨g2, 0, none⟩) 4 4) _, RBox g3 _ _, RBox g5 _ _]) ms)
  have h := row_ow (α := Int) (m := 1) [1] rfl (one_i64 (by decide)) rfl (by decide) (h.msub (T := [RBox g3 _ _, ROw (.slice (some ⟨g4, 0, none⟩) 4 4) _, ROw (.slice (some ⟨g2, 0, none⟩) 4 4) _, RBox g5 _ _]) ms)
  have h := Cw.nilO Int h
  refine row_els (H := []) (xs := squareM) (Els.cons (Hel := [ROw (.slice none 0 0) ([] : List Int), ROw (.slice (some ⟨g2, 0, none⟩) 4 4) [(⟨21, 0⟩ : MOp), ⟨12, 1⟩, ⟨20, 0⟩, ⟨10, 0⟩]]) (cs := [_, _, _, _]) (hel_fn (f := ⟨0, [], 0, [⟨21, 0⟩, ⟨12, 1⟩, ⟨20, 0⟩, ⟨10, 0⟩]⟩) (by decide))
    (Els.cons (Hel := [ROw (.slice (some ⟨g3, 0, none⟩) 1 1) [(1 : Int)], ROw (.slice (some ⟨g4, 0, none⟩) 4 4) [(⟨8, 0⟩ : MOp), ⟨3, 0⟩, ⟨7, 0⟩, ⟨13, 0⟩]]) (cs := [_, _, _, _]) (hel_fn (f := ⟨1, [1], 1, [⟨8, 0⟩, ⟨3, 0⟩, ⟨7, 0⟩, ⟨13, 0⟩]⟩) (by decide)) Els.nil_)) rfl (by decide) ?_
  exact h.msub (T := [RBox g5 _ _, ROw (.slice none 0 0) ([] : List Int), ROw (.slice (some ⟨g2, 0, none⟩) 4 4) _, ROw (.slice (some ⟨g3, 0, none⟩) 1 1) _, ROw (.slice (some ⟨g4, 0, none⟩) 4 4) _]) ms
theorem square_enc : (encodeP squareM).2 = 0 ∧ (encodeP squareM).1.length = 32 ∧ decodeP (encodeP squareM).1 = (squareM, 0) ∧ (decodeP ((encodeP squareM).1 ++ [122])).2 = 1 ∧ checkP squareM = 0 := by decide +kernel
set_option maxRecDepth 100000 in
set_option maxHeartbeats 1000000 in
theorem progBegun_any (w : World) : Calls Try.prog 15 #[] w fun e w' => e = .returned (.bool true) ∧ Below w.heap.size w w' := by
  obtain ⟨q1, q2, q3, q4, q5⟩ := square_enc
  obtain ⟨E, hE⟩ : ∃ E, (encodeP squareM).1 = E := ⟨_, rfl⟩
  rw [hE] at q2 q3 q4
  refine enter Try.func15 rfl Try.ntmps15 rfl ?_
  refine cw_seq ?_
  refine cw_region ?_
  refine rw_run tab_ok 1 [] rfl trivial ?_
  refine rw_end ?_
  refine cw_seq ?_
  refine cw_region ?_
  refine rw_op (ot_call rfl rfl rfl Try.call46 (fun w hw => (square_any w).mono fun _ _ ⟨g, h1, h2, h3⟩ => ⟨g, h1, h2, hw.app h3⟩)) rfl rfl (fun gs _ => ?_)
  have henc : ∀ w1 v c, Sl w1 (.slice v 2 c) squareM → Calls Try.prog 10 #[.agg #[.slice v 2 c]] w1 fun e w' => e = .returned (.tuple #[.string ⟨E.toArray⟩, .int .i64 0]) ∧ Below w1.heap.size w1 w' := fun w1 v c h => by
    have := pencode_any v c squareM w1 h
    rw [hE, q1] at this
    exact this
  have hdec : ∀ w1, Calls Try.prog 11 #[.string ⟨E.toArray⟩] w1 fun e w' => ∃ u, e = .returned (.tuple #[.agg #[u], .int .i64 0]) ∧ Below w1.heap.size w1 w' ∧ OwN w' w1.heap.size u squareM := fun w1 => by
    have := pdecode_any E w1 (by omega)
    rw [q3] at this
    exact this
  have hdec2 : ∀ w1, Calls Try.prog 11 #[.string ⟨(E ++ [122]).toArray⟩] w1 fun e w' => ∃ u, e = .returned (.tuple #[.agg #[u], .int .i64 1]) ∧ Below w1.heap.size w1 w' ∧ OwN w' w1.heap.size u (decodeP (E ++ [122])).1 := fun w1 => by
    have := pdecode_any (E ++ [122]) w1 (by rw [List.length_append, q2]; decide)
    rw [q4] at this
    exact this
  have hchk : ∀ w1 v c, Sl w1 (.slice v 2 c) squareM → Calls Try.prog 16 #[.agg #[.slice v 2 c]] w1 fun e w' => e = .returned (.int .i64 0) ∧ Below w1.heap.size w1 w' := fun w1 v c h => by
    have := pcheck_any v c squareM w1 h
    rw [q5] at this
    exact this
  refine rw_op (ot_c0 rfl rfl rfl Try.call10 (fun w hw => henc w _ _ (SF.at_ (xs := squareM) (m := 2) (SF.own rfl fc) hw))) rfl rfl (fun _ _ => ?_)
  refine rw_run tab_ok 5 [(1, _), (2, _)] rfl ⟨rfl, rfl, trivial⟩ ?_
  refine rw_end ?_
  refine cw_seq ?_
  refine cw_region ?_
  refine rw_run tab_ok 1 [(1, _), (2, _), (13, _)] rfl ⟨rfl, rfl, rfl, trivial⟩ ?_
  refine rw_op (ot_cO rfl rfl rfl Try.call11 (fun w hw => hdec w)) rfl rfl (fun ⟨A1, c1⟩ _ => ?_)
  try dsimp only
  refine rw_run tab_ok 3 [(1, _), (2, _), (15, _), (16, _)] rfl ⟨rfl, rfl, rfl, rfl, trivial⟩ ?_
  refine rw_op (ot_alloc Try.zeroValue24 rfl rfl) rfl rfl (fun g1 _ => ?_)
  refine rw_op (ot_stb _ fc Try.sizeOf24 rfl rfl rfl rfl rfl (by rfl) rfl (by rfl)) rfl rfl (fun _ _ => ?_)
  refine rw_run tab_ok 1 [(1, _), (2, _), (3, _), (4, _)] rfl ⟨rfl, rfl, rfl, rfl, trivial⟩ ?_
  refine rw_end ?_
  refine cw_seq ?_
  refine cw_region ?_
  refine rw_run tab_ok 1 [(1, _), (2, _), (3, _), (4, _), (18, _)] rfl ⟨rfl, rfl, rfl, rfl, rfl, trivial⟩ ?_
  refine rw_s (qs_catS (by rw [q2]; decide) rfl rfl rfl) rfl rfl ?_
  refine rw_op (ot_cO rfl rfl rfl Try.call11 (fun w hw => hdec2 w)) rfl rfl (fun ⟨A2, c2⟩ _ => ?_)
  try dsimp only
  refine rw_run tab_ok 3 [(1, _), (2, _), (3, _), (4, _), (21, _), (22, _)] rfl ⟨rfl, rfl, rfl, rfl, rfl, rfl, trivial⟩ ?_
  refine rw_op (ot_alloc Try.zeroValue24 rfl rfl) rfl rfl (fun g2 _ => ?_)
  refine rw_op (ot_stb _ fc Try.sizeOf24 rfl rfl rfl rfl rfl (by rfl) rfl (by rfl)) rfl rfl (fun _ _ => ?_)
  refine rw_run tab_ok 1 [(1, _), (2, _), (3, _), (4, _), (6, _)] rfl ⟨rfl, rfl, rfl, rfl, rfl, trivial⟩ ?_
  refine rw_end ?_
  refine cw_seq ?_
  refine cw_draw (.pick 0 (.pick 1 (.still 2 (.still 3 (.still 4 (.still 5 (.still 6 (.still 7 (.still 8 (.still 9 (.still 10 (.still 11 (.still 12 (.still 13 (.still 14 (.still 15 (.still 16 (.still 17 (.still 18 (.still 19 (.still 20 (.still 21 (.pick 22 (.pick 23 (.still 24 (.still 25 .done)) .stop) .stop))))))))))))))))))))) .stop) .stop) [] rfl (by kernel_rfl) (by kernel_rfl) ?_
  refine ro_op2 rfl (ot_call rfl rfl rfl Try.call46 (fun w hw => (square_any w).mono fun _ _ ⟨g, h1, h2, h3⟩ => ⟨g, h1, h2, hw.app h3⟩)) rfl rfl (.inr fun _ => ha) (fun gs2 _ => ?_) ro_stop
  refine ro_op2 rfl (ot_c0 rfl rfl rfl Try.call16 (fun w hw => hchk w _ _ (SF.at_ (xs := squareM) (m := 2) (SF.own rfl fc) hw))) rfl rfl (.inr fun _ => ha) (fun _ _ => ?_) ro_stop
  refine ro_run tab_ok ha 2 [(1, _), (2, _), (3, _), (4, _), (6, _), (26, _)] rfl ⟨rfl, rfl, rfl, rfl, rfl, rfl, trivial⟩ ?_
  refine ro_as (t := 26) (v' := .bool true) rfl (rfl) ?_
  refine ro_run tab_ok ha 4 [(1, _), (3, _), (4, _), (6, _), (30, _)] rfl ⟨rfl, rfl, rfl, rfl, rfl, trivial⟩ ?_
  refine ro_as (t := 30) (v' := .bool true) rfl (rfl) ?_
  refine ro_run tab_ok ha 4 [(1, _), (3, _), (6, _), (34, _)] rfl ⟨rfl, rfl, rfl, rfl, trivial⟩ ?_
  refine ro_as (t := 34) (v' := .bool true) rfl (rfl) ?_
  refine ro_run tab_ok ha 4 [(1, _), (3, _), (38, _)] rfl ⟨rfl, rfl, rfl, trivial⟩ ?_
  refine ro_as (t := 38) (v' := .bool true) rfl (rfl) ?_
  refine ro_run tab_ok ha 1 [(3, _), (38, _), (39, _)] rfl ⟨rfl, rfl, rfl, trivial⟩ ?_
  refine ro_s2 rfl (qs_lenS Try.underlying9 rfl rfl) rfl rfl ha ?_
  refine ro_run tab_ok ha 3 [(3, _), (43, _)] rfl ⟨rfl, rfl, trivial⟩ ?_
  refine ro_as (t := 43) (v' := .bool true) rfl (by rw [q2]; rfl) ?_
  refine ro_s2 rfl (qs_ldbA (vs := [_]) fc Try.isAgg24 Try.sizeOf24 rfl rfl (by rfl) rfl) rfl rfl ha ?_
  refine ro_op2 rfl (ot_call rfl rfl rfl Try.call46 (fun w hw => (square_any w).mono fun _ _ ⟨g, h1, h2, h3⟩ => ⟨g, h1, h2, hw.app h3⟩)) rfl rfl (.inr fun _ => ha) (fun gs3 _ => ?_) ro_stop
  have hsame : ∀ w1 v c v2 c2, Sl w1 (.slice v 2 c) squareM → Sl w1 (.slice v2 2 c2) squareM → Calls Try.prog 17 #[.agg #[.slice v 2 c], .agg #[.slice v2 2 c2]] w1 fun e w' => e = .returned (.bool true) ∧ Below w1.heap.size w1 w' := fun w1 v c v2 c2 h1 h2 => by
    have := rsameP_any v v2 c c2 squareM squareM w1 h1 h2
    rw [decide_eq_true rfl] at this
    exact this
  refine ro_op2 rfl (ot_c0 rfl rfl rfl Try.call17 (fun w hw => hsame w _ _ _ _ (SF.at_ (xs := squareM) (m := 2) (SF.own rfl fc) hw) (SF.at_ (xs := squareM) (m := 2) (SF.own rfl fc) hw))) rfl rfl (.inr fun _ => ha) (fun _ _ => ?_) ro_stop
  refine ro_run tab_ok ha 2 [(0, _)] rfl ⟨rfl, trivial⟩ ?_
  refine ro_end ?_
  refine cw_ret ?_
  refine xw_ret1 Try.results15 (rv_tmp rfl) ?_
  intro w hw
  exact ⟨rfl, hw.below⟩
end Go.Proofs.Ytejpkcheimgdfaa

-- Lp
/- The code of loop. -/
namespace Go.Proofs.Ytejpkcheimgdfaa
open Go.RowKit

def loopL : List MOp := [⟨1, 3⟩, ⟨3, 0⟩, ⟨20, 0⟩, ⟨1, 1⟩, ⟨6, 0⟩, ⟨3, 0⟩, ⟨11, 8⟩, ⟨10, 1⟩, ⟨2, 0⟩, ⟨13, 0⟩]
theorem i64s_of (l : List MOp) (h : (l.all fun o => decide (I64 o.c ∧ I64 o.a)) = true) : ∀ o ∈ l, FOw.wf o := fun o ho => by
  have := of_decide_eq_true (List.all_eq_true.1 h o ho)
  exact this
set_option maxRecDepth 100000 in
theorem loop_any (w : World) : Calls Try.prog 55 #[] w fun e w' => ∃ g : Nat, True ∧ e = .returned (.slice (some ⟨g, 0, none⟩) 10 10) ∧ Cw w.heap.size w [ROw (.slice (some ⟨g, 0, none⟩) 10 10) loopL] w' := by
  refine enter Try.func55 rfl Try.ntmps55 rfl ?_
  refine cw_seq ?_
  refine cw_region ?_
  refine rw_run tab_ok 1 [] rfl trivial ?_
  refine rw_end ?_
  refine cw_seq ?_
  refine cw_region ?_
  refine rw_s (qs_bst (cs := [_, _]) plT61 Try.zeroValue61 rfl rfl (by rfl)) rfl rfl ?_
  refine rw_s (qs_bst (cs := [_, _]) plT61 Try.zeroValue61 rfl rfl (by rfl)) rfl rfl ?_
  refine rw_s (qs_bst (cs := [_, _]) plT61 Try.zeroValue61 rfl rfl (by rfl)) rfl rfl ?_
  refine rw_s (qs_bst (cs := [_, _]) plT61 Try.zeroValue61 rfl rfl (by rfl)) rfl rfl ?_
  refine rw_s (qs_bst (cs := [_, _]) plT61 Try.zeroValue61 rfl rfl (by rfl)) rfl rfl ?_
  refine rw_s (qs_bst (cs := [_, _]) plT61 Try.zeroValue61 rfl rfl (by rfl)) rfl rfl ?_
  refine rw_s (qs_bst (cs := [_, _]) plT61 Try.zeroValue61 rfl rfl (by rfl)) rfl rfl ?_
  refine rw_s (qs_bst (cs := [_, _]) plT61 Try.zeroValue61 rfl rfl (by rfl)) rfl rfl ?_
  refine rw_s (qs_bst (cs := [_, _]) plT61 Try.zeroValue61 rfl rfl (by rfl)) rfl rfl ?_
  refine rw_s (qs_bst (cs := [_, _]) plT61 Try.zeroValue61 rfl rfl (by rfl)) rfl rfl ?_
  refine rw_op (ot_bsl (cs := [_, _, _, _, _, _, _, _, _, _, _, _, _, _, _, _, _, _, _, _]) Try.underlying52 Try.sizeOf61 Try.zeroValue61 rfl rfl rfl rfl rfl) rfl rfl (fun g1 _ => ?_)
  refine rw_run tab_ok 1 [(0, _)] rfl ⟨rfl, trivial⟩ ?_
  refine rw_end ?_
  refine cw_mem (fun w h => row_ow (α := MOp) (m := 10) loopL rfl (i64s_of _ (by decide)) rfl (by decide) h) ?_
  refine cw_ret ?_
  refine xw_ret1 Try.results55 (rv_tmp rfl) ?_
  intro w hw
  exact ⟨g1, trivial, rfl, hw⟩
end Go.Proofs.Ytejpkcheimgdfaa

-- V12
/- Verify: what must be in any case. -/
namespace Go.Proofs.Ytejpkcheimgdfaa
open Go.RowKit

def counterM : List MFunc := [⟨0, [], 0, loopL⟩]
def badM : List MFunc := [⟨0, [], 0, [⟨2, 0⟩, ⟨13, 0⟩]⟩]
set_option maxRecDepth 100000 in
theorem counter_any (w : World) : Calls Try.prog 54 #[] w fun e w' => ∃ g : Nat, True ∧ e = .returned (.agg #[.slice (some ⟨g, 0, none⟩) 1 1]) ∧ Cw w.heap.size w [ROw (.slice (some ⟨g, 0, none⟩) 1 1) counterM] w' := by
  refine enter Try.func54 rfl Try.ntmps54 rfl ?_
  refine cw_seq ?_
  refine cw_region ?_
  refine rw_op (ot_alloc Try.zeroValue24 rfl rfl) rfl rfl (fun g1 _ => ?_)
  refine rw_end ?_
  refine cw_seq ?_
  refine cw_region ?_
  refine rw_op (ot_c rfl rfl rfl Try.call55 (fun w hw => loop_any w)) rfl rfl (fun gl _ => ?_)
  refine rw_s (qs_bst (cs := [_, _, _, _]) plT54 Try.zeroValue54 rfl rfl (by rfl)) rfl rfl ?_
  refine rw_op (ot_bsl (cs := [_, _, _, _]) Try.underlying22 Try.sizeOf54 Try.zeroValue54 rfl rfl rfl rfl rfl) rfl rfl (fun g2 _ => ?_)
  refine rw_s (qs_bst (cs := [_]) plT24 Try.zeroValue24 rfl rfl (by rfl)) rfl rfl ?_
  refine rw_op (ot_stb _ fc Try.sizeOf24 rfl rfl rfl rfl rfl (by rfl) rfl (by rfl)) rfl rfl (fun _ _ => ?_)
  refine rw_end ?_
  refine cw_ret ?_
  refine xw_ret1 Try.results54 (rv_box (cs := [_]) fc Try.isAgg24 Try.sizeOf24 rfl) ?_
  intro w hw
  refine ⟨g2, trivial, rfl, ?_⟩
  have h := Cw.nilO Int hw
  exact row_els (H := []) (xs := counterM) (Els.cons (Hel := [ROw (.slice none 0 0) ([] : List Int), ROw (.slice (some ⟨gl, 0, none⟩) 10 10) loopL]) (cs := [_, _, _, _]) (hel_fn (f := ⟨0, [], 0, loopL⟩) (by decide)) Els.nil_) rfl (by decide) (h.msub (T := [RBox g2 _ _, ROw (.slice none 0 0) ([] : List Int), ROw (.slice (some ⟨gl, 0, none⟩) 10 10) _]) ms)
theorem ver_facts : (funcS counterM 0).2 = 0 ∧ (funcS counterM 0).1.length = 10 ∧ ((funcS counterM 0).1.getD 3 ⟨0, []⟩).stack = [1] ∧ joinE [3, 1] [2, 1] = 0 ∧ joinR [3, 1] [2, 1] = [2, 1] ∧ joinE [1] [2] = 4 ∧ progS squareM = 0 ∧ progS badM = 4 := by decide +kernel
end Go.Proofs.Ytejpkcheimgdfaa

-- V13
/- Verify: what must be in any case, walked. -/
namespace Go.Proofs.Ytejpkcheimgdfaa
open Go.RowKit

def entAt (es : List HEnt) (k : Nat) : HEnt := es.getD k ⟨0, .slice none 0 0⟩
theorem SF.entS {B : Nat} {w0 : World} {H : List Res} {A : Option Addr} {es : List HEnt} {m c k : Nat} (hs : SF B w0 H A m c es) (hk : k < m) : ∀ w, Cw B w0 H w → w.cell? ⟨ab A, ao A + k * 2 + 1, none⟩ = some (entAt es k).v :=
  fun w hw => SF.cell hs hk ⟨0, .slice none 0 0⟩ (j := 1) rfl w hw
theorem SF.entP {B : Nat} {w0 : World} {H : List Res} {A : Option Addr} {es : List HEnt} {m c k : Nat} (hs : SF B w0 H A m c es) (hk : k < m) : ∀ w, Cw B w0 H w → w.cell? ⟨ab A, ao A + k * 2, none⟩ = some (.int .i64 (entAt es k).pc) :=
  fun w hw => SF.cell hs hk ⟨0, .slice none 0 0⟩ (j := 0) rfl w hw
theorem RelE.at_ {es : List HEnt} {L : List (Value × List Int)} {xs : List MEntry} (h : RelE es L xs) {k : Nat} (hk : k < xs.length) (d : MEntry) : (entAt es k).pc = (xs.getD k d).pc ∧ InP L (entAt es k).v (xs.getD k d).stack := by
  have hk2 : k < es.length := by rw [h.len]; exact hk
  have := h.el k hk2 hk
  unfold entAt
  rw [List.getD_eq_getElem?_getD, List.getElem?_eq_getElem hk2, List.getD_eq_getElem?_getD, List.getElem?_eq_getElem hk]
  exact this
set_option maxRecDepth 100000 in
set_option maxHeartbeats 2000000 in
theorem verifyBegun_any (w : World) : Calls Try.prog 23 #[] w fun e w' => e = .returned (.bool true) ∧ Below w.heap.size w w' := by
  obtain ⟨q1, q2, q3, q4, q5, q6, q7, q8⟩ := ver_facts
  generalize hF : (funcS counterM 0).1 = F at q2 q3
  have hvf : ∀ w1 v c, Sl w1 (.slice v 1 c) counterM → Calls Try.prog 18 #[.agg #[.slice v 1 c], .int .i64 0] w1 fun e w' => ∃ g : (Option Addr × Nat) × List HEnt × List (Value × List Int), RelE g.2.1 g.2.2 F ∧ e = .returned (.tuple #[.slice g.1.1 g.2.1.length g.1.2, .int .i64 0]) ∧ Cw w1.heap.size w1 [ROw (.slice g.1.1 g.2.1.length g.1.2) g.2.1, RPool g.2.2] w' := fun w1 v c h => by
    have := vfunc_own v c counterM 0 w1 h
    rw [hF, q1] at this
    exact this
  have hj1 : ∀ w1 A1 A2, Sl w1 (.slice A1 2 2) ([3, 1] : List Int) → Sl w1 (.slice A2 2 2) ([2, 1] : List Int) → Calls Try.prog 19 #[.slice A1 2 2, .slice A2 2 2] w1 fun e w' => ∃ u, e = .returned (.tuple #[u, .int .i64 0]) ∧ Below w1.heap.size w1 w' ∧ OwN w' w1.heap.size u ([2, 1] : List Int) := fun w1 A1 A2 h1 h2 => by
    have := join_any A1 A2 2 2 [3, 1] [2, 1] w1 h1 h2
    rw [q4, q5] at this
    exact this
  have hj2 : ∀ w1 A1 A2, Sl w1 (.slice A1 1 1) ([1] : List Int) → Sl w1 (.slice A2 1 1) ([2] : List Int) → Calls Try.prog 19 #[.slice A1 1 1, .slice A2 1 1] w1 fun e w' => ∃ u, e = .returned (.tuple #[u, .int .i64 4]) ∧ Below w1.heap.size w1 w' ∧ OwN w' w1.heap.size u (joinR [1] [2]) := fun w1 A1 A2 h1 h2 => by
    have := join_any A1 A2 1 1 [1] [2] w1 h1 h2
    rw [q6] at this
    exact this
  have hp1 : ∀ w1 v c, Sl w1 (.slice v 2 c) squareM → Calls Try.prog 25 #[.agg #[.slice v 2 c]] w1 fun e w' => e = .returned (.int .i64 0) ∧ Below w1.heap.size w1 w' := fun w1 v c h => by
    have := vprog_any v c squareM w1 h
    rw [q7] at this
    exact this
  have hp2 : ∀ w1 v c, Sl w1 (.slice v 1 c) badM → Calls Try.prog 25 #[.agg #[.slice v 1 c]] w1 fun e w' => e = .returned (.int .i64 4) ∧ Below w1.heap.size w1 w' := fun w1 v c h => by
    have := vprog_any v c badM w1 h
    rw [q8] at this
    exact this
  refine enter Try.func23 rfl Try.ntmps23 rfl ?_
  refine cw_seq ?_
  refine cw_region ?_
  refine rw_run tab_ok 1 [] rfl trivial ?_
  refine rw_end ?_
  refine cw_seq ?_
  refine cw_region ?_
  refine rw_op (ot_call rfl rfl rfl Try.call54 (fun w hw => (counter_any w).mono fun _ _ ⟨g, h1, h2, h3⟩ => ⟨g, h1, h2, hw.app h3⟩)) rfl rfl (fun gc _ => ?_)
  refine rw_op (ot_c rfl rfl rfl Try.call18 (fun w hw => hvf w _ _ (SF.at_ (xs := counterM) (m := 1) (SF.own rfl fc) hw))) rfl rfl (fun ⟨⟨Ae, ce⟩, es, Lp⟩ hre => ?_)
  try dsimp only
  refine rw_run tab_ok 5 [(1, _), (2, _)] rfl ⟨rfl, rfl, trivial⟩ ?_
  refine rw_end ?_
  refine cw_seq ?_
  refine cw_region ?_
  refine rw_op (ot_bsl (cs := [_, _]) Try.underlying35 Try.sizeOf3 Try.zeroValue3 rfl rfl rfl rfl rfl) rfl rfl (fun g1 _ => ?_)
  refine rw_op (ot_bsl (cs := [_, _]) Try.underlying35 Try.sizeOf3 Try.zeroValue3 rfl rfl rfl rfl rfl) rfl rfl (fun g2 _ => ?_)
  have hes : es.length = 10 := by rw [hre.len, q2]
  refine rw_mem (fun w h => row_ow (α := Int) (m := 2) [2, 1] rfl (two_i64 (by decide) (by decide)) rfl (by decide) h) ?_
  refine rw_mem (fun w h => row_ow (α := Int) (m := 2) [3, 1] rfl (two_i64 (by decide) (by decide)) rfl (by decide) (h.msub (T := RBox g1 _ _ :: _) (.s fc .r))) ?_
  refine rw_op (ot_cO rfl rfl rfl Try.call19 (fun w hw => hj1 w _ _ (SF.at_ (xs := ([3, 1] : List Int)) (m := 2) (SF.own rfl fc) hw) (SF.at_ (xs := ([2, 1] : List Int)) (m := 2) (SF.own rfl fc) hw))) rfl rfl (fun ⟨A3, c3⟩ _ => ?_)
  try dsimp only
  refine rw_run tab_ok 5 [(1, _), (2, _), (3, _), (4, _)] rfl ⟨rfl, rfl, rfl, rfl, trivial⟩ ?_
  refine rw_end ?_
  refine cw_seq ?_
  refine cw_region ?_
  refine rw_op (ot_bsl (cs := [_]) Try.underlying35 Try.sizeOf3 Try.zeroValue3 rfl rfl rfl rfl rfl) rfl rfl (fun g3 _ => ?_)
  refine rw_op (ot_bsl (cs := [_]) Try.underlying35 Try.sizeOf3 Try.zeroValue3 rfl rfl rfl rfl rfl) rfl rfl (fun g4 _ => ?_)
  refine rw_mem (fun w h => row_ow (α := Int) (m := 1) [2] rfl (one_i64 (by decide)) rfl (by decide) h) ?_
  refine rw_mem (fun w h => row_ow (α := Int) (m := 1) [1] rfl (one_i64 (by decide)) rfl (by decide) (h.msub (T := RBox g3 _ _ :: _) (.s fc .r))) ?_
  refine rw_op (ot_cO rfl rfl rfl Try.call19 (fun w hw => hj2 w _ _ (SF.at_ (xs := ([1] : List Int)) (m := 1) (SF.own rfl fc) hw) (SF.at_ (xs := ([2] : List Int)) (m := 1) (SF.own rfl fc) hw))) rfl rfl (fun ⟨A5, c5⟩ _ => ?_)
  try dsimp only
  refine rw_run tab_ok 5 [(1, _), (2, _), (3, _), (4, _), (6, _)] rfl ⟨rfl, rfl, rfl, rfl, rfl, trivial⟩ ?_
  refine rw_end ?_
  refine cw_seq ?_
  refine cw_region ?_
  refine rw_s (qs_bst (cs := [_, _]) plT61 Try.zeroValue61 rfl rfl (by rfl)) rfl rfl ?_
  refine rw_s (qs_bst (cs := [_, _]) plT61 Try.zeroValue61 rfl rfl (by rfl)) rfl rfl ?_
  refine rw_op (ot_bsl (cs := [_, _, _, _]) Try.underlying52 Try.sizeOf61 Try.zeroValue61 rfl rfl rfl rfl rfl) rfl rfl (fun g5 _ => ?_)
  refine rw_s (qs_bst (cs := [_, _, _, _]) plT54 Try.zeroValue54 rfl rfl (by rfl)) rfl rfl ?_
  refine rw_op (ot_bsl (cs := [_, _, _, _]) Try.underlying22 Try.sizeOf54 Try.zeroValue54 rfl rfl rfl rfl rfl) rfl rfl (fun g6 _ => ?_)
  refine rw_s (qs_bst (cs := [_]) plT24 Try.zeroValue24 rfl rfl (by rfl)) rfl rfl ?_
  refine rw_op (ot_alloc Try.zeroValue24 rfl rfl) rfl rfl (fun g7 _ => ?_)
  refine rw_op (ot_stb _ fc Try.sizeOf24 rfl rfl rfl rfl rfl (by rfl) rfl (by rfl)) rfl rfl (fun _ _ => ?_)
  refine rw_end ?_
  refine cw_seq ?_
  refine cw_region ?_
  refine rw_run tab_ok 3 [(1, _), (3, _), (4, _), (6, _), (7, _), (33, _)] rfl ⟨rfl, rfl, rfl, rfl, rfl, rfl, trivial⟩ ?_
  refine rw_as (t := 33) (v' := .bool true) rfl (rfl) ?_
  refine rw_run tab_ok 4 [(1, _), (3, _), (6, _), (7, _), (37, _)] rfl ⟨rfl, rfl, rfl, rfl, rfl, trivial⟩ ?_
  refine rw_as (t := 37) (v' := .bool true) rfl (rfl) ?_
  refine rw_run tab_ok 4 [(1, _), (3, _), (7, _), (41, _)] rfl ⟨rfl, rfl, rfl, rfl, trivial⟩ ?_
  have hin := (hre.at_ (k := 3) (by omega) ⟨0, []⟩).2
  rw [q3] at hin
  refine rw_as (t := 41) (v' := .bool true) rfl (rfl) ?_
  refine rw_run tab_ok 1 [(1, _), (3, _), (7, _), (41, _), (42, _)] rfl ⟨rfl, rfl, rfl, rfl, rfl, trivial⟩ ?_
  refine rw_s (qs_len Try.underlying36 rfl rfl) rfl rfl ?_
  refine rw_run tab_ok 3 [(1, _), (3, _), (7, _), (46, _)] rfl ⟨rfl, rfl, rfl, rfl, trivial⟩ ?_
  refine rw_as (t := 46) (v' := .bool true) rfl (by rw [hes]; rfl) ?_
  refine rw_run tab_ok 1 [(3, _), (7, _), (46, _), (47, _)] rfl ⟨rfl, rfl, rfl, rfl, trivial⟩ ?_
  refine rw_s (qs_idx (k := 3) Try.underlying36 Try.sizeOf57 (SF.own rfl fc) (by omega) rfl rfl rfl) rfl rfl ?_
  refine rw_run tab_ok 1 [(3, _), (7, _), (46, _), (49, _)] rfl ⟨rfl, rfl, rfl, rfl, trivial⟩ ?_
  refine rw_fact (fun w h => hin.form h fc) ?_
  rintro ⟨A6, c6, hv⟩
  rw [hv] at hin
  refine rw_s (qs_ld (v := .slice A6 1 c6) (by intro w1 hw1; exact (SF.entS (k := 3) (es := es) (m := es.length) (SF.own rfl fc) (by omega) w1 hw1).trans (by rw [hv]; rfl)) rfl rfl Try.isAgg35) rfl rfl ?_
  refine rw_op (ot_bsl (cs := [_]) Try.underlying35 Try.sizeOf3 Try.zeroValue3 rfl rfl rfl rfl rfl) rfl rfl (fun g8 _ => ?_)
  refine rw_mem (fun w h => row_ow (α := Int) (m := 1) [1] rfl (one_i64 (by decide)) rfl (by decide) h) ?_
  refine rw_op (ot_c0 rfl rfl rfl Try.call28 (fun w hw => sameInts_w A6 _ c6 _ [1] [1] w (hin.sl hw fc) (SF.at_ (xs := ([1] : List Int)) (m := 1) (SF.own rfl fc) hw))) rfl rfl (fun _ _ => ?_)
  refine rw_run tab_ok 2 [(3, _), (7, _), (54, _)] rfl ⟨rfl, rfl, rfl, trivial⟩ ?_
  refine rw_as (t := 54) (v' := .bool true) rfl (rfl) ?_
  refine rw_run tab_ok 1 [(7, _), (54, _), (55, _)] rfl ⟨rfl, rfl, rfl, trivial⟩ ?_
  refine rw_op (ot_bsl (cs := [_, _]) Try.underlying35 Try.sizeOf3 Try.zeroValue3 rfl rfl rfl rfl rfl) rfl rfl (fun g9 _ => ?_)
  refine rw_mem (fun w h => row_ow (α := Int) (m := 2) [2, 1] rfl (two_i64 (by decide) (by decide)) rfl (by decide) h) ?_
  refine rw_op (ot_c0 rfl rfl rfl Try.call28 (fun w hw => sameInts_w A3 _ c3 _ [2, 1] [2, 1] w (SF.at_ (xs := ([2, 1] : List Int)) (m := 2) (SF.own rfl fc) hw) (SF.at_ (xs := ([2, 1] : List Int)) (m := 2) (SF.own rfl fc) hw))) rfl rfl (fun _ _ => ?_)
  refine rw_run tab_ok 2 [(7, _), (59, _)] rfl ⟨rfl, rfl, trivial⟩ ?_
  refine rw_as (t := 59) (v' := .bool true) rfl (rfl) ?_
  refine rw_op (ot_call rfl rfl rfl Try.call46 (fun w hw => (square_any w).mono fun _ _ ⟨g, h1, h2, h3⟩ => ⟨g, h1, h2, hw.app h3⟩)) rfl rfl (fun gs _ => ?_)
  refine rw_op (ot_c0 rfl rfl rfl Try.call25 (fun w hw => hp1 w _ _ (SF.at_ (xs := squareM) (m := 2) (SF.own rfl fc) hw))) rfl rfl (fun _ _ => ?_)
  refine rw_run tab_ok 3 [(7, _), (64, _)] rfl ⟨rfl, rfl, trivial⟩ ?_
  refine rw_as (t := 64) (v' := .bool true) rfl (rfl) ?_
  refine rw_s (qs_ldbA (vs := [_]) fc Try.isAgg24 Try.sizeOf24 rfl rfl (by rfl) rfl) rfl rfl ?_
  refine rw_mem (fun w h => Cw.nilO Int (row_ow (α := MOp) (m := 2) [⟨2, 0⟩, ⟨13, 0⟩] rfl (i64s_of _ (by decide)) rfl (by decide) (h.msub (T := RBox g5 _ _ :: _) (.s fc .r)))) ?_
  refine rw_mem (fun w h => row_els (m := 1) (xs := badM) (Els.cons (Hel := [ROw (.slice none 0 0) ([] : List Int), ROw (.slice (some ⟨g5, 0, none⟩) 2 2) [(⟨2, 0⟩ : MOp), ⟨13, 0⟩]]) (cs := [_, _, _, _]) (hel_fn (f := ⟨0, [], 0, [⟨2, 0⟩, ⟨13, 0⟩]⟩) (by decide)) Els.nil_) rfl (by decide) (h.msub (T := RBox g6 _ _ :: ROw (.slice none 0 0) ([] : List Int) :: ROw (.slice (some ⟨g5, 0, none⟩) 2 2) _ :: _) (.s fc (.s fc (.s fc .r))))) ?_
  refine rw_op (ot_c0 rfl rfl rfl Try.call25 (fun w hw => hp2 w _ _ (SF.at_ (xs := badM) (m := 1) (SF.own rfl fc) hw))) rfl rfl (fun _ _ => ?_)
  refine rw_run tab_ok 3 [(0, _)] rfl ⟨rfl, trivial⟩ ?_
  refine rw_end ?_
  refine cw_ret ?_
  refine xw_ret1 Try.results23 (rv_tmp rfl) ?_
  intro w hw
  exact ⟨rfl, hw.below⟩
end Go.Proofs.Ytejpkcheimgdfaa

-- V14
/- Verify: joins, either way round and however they are put together. -/
namespace Go.Proofs.Ytejpkcheimgdfaa
open Go.RowKit

theorem bothI_comm (a b : Int) : bothI a b = bothI b a := by
  unfold bothI standsB
  by_cases h1 : a = b
  · simp [h1]
  · have h1' : ¬ b = a := fun e => h1 e.symm
    by_cases h2 : a = 3 ∧ b = 2
    · obtain ⟨rfl, rfl⟩ := h2; simp
    · by_cases h3 : b = 3 ∧ a = 2
      · obtain ⟨rfl, rfl⟩ := h3; simp
      · simp [h1, h1', h2, h3]
theorem joinL_comm : ∀ (a b : List Int), joinL a b = joinL b a
  | [], [] => rfl
  | [], _ :: _ => rfl
  | _ :: _, [] => rfl
  | a :: l, b :: m => by simp only [joinL]; rw [bothI_comm a b, joinL_comm l m]
theorem joinE_comm (a b : List Int) : joinE a b = joinE b a := by
  unfold joinE
  have e : (8 < b.length ∨ 8 < a.length) ↔ (8 < a.length ∨ 8 < b.length) := Or.comm
  rw [joinL_comm b a]
  simp only [e]
  split <;> split <;> rfl
theorem joinR_comm (a b : List Int) : joinR a b = joinR b a := by unfold joinR; rw [joinE_comm, joinL_comm]
theorem joinE_parts {a b : List Int} (h : joinE a b = 0) : (∀ t ∈ a, 1 ≤ t ∧ t ≤ 3) ∧ (∀ t ∈ b, 1 ≤ t ∧ t ≤ 3) ∧ (a.length ≤ 8 ∧ b.length ≤ 8) ∧ ∃ j, joinL a b = some j ∧ joinR a b = j := by
  have hl := joinE_le h
  have h0 := h
  have bad : ∀ l : List Int, ¬ l.any badT = true → ∀ t ∈ l, 1 ≤ t ∧ t ≤ 3 := fun l hl t ht => by
    simp only [Bool.not_eq_true, List.any_eq_false] at hl
    have := hl t ht
    unfold badT at this
    simp at this
    omega
  unfold joinE at h
  split at h
  · cases h
  rename_i h1
  split at h
  · cases h
  rename_i h2
  split at h
  · cases h
  split at h
  · cases h
  rename_i h4
  refine ⟨bad a h1, bad b h2, hl, ?_⟩
  cases e : joinL a b with
  | none => exact absurd e h4
  | some j => exact ⟨j, rfl, by unfold joinR; rw [if_pos h0, e]; rfl⟩
theorem joinE_of {a b j : List Int} (h1 : ∀ t ∈ a, 1 ≤ t ∧ t ≤ 3) (h2 : ∀ t ∈ b, 1 ≤ t ∧ t ≤ 3) (h3 : a.length ≤ 8 ∧ b.length ≤ 8) (h : joinL a b = some j) : joinE a b = 0 ∧ joinR a b = j := by
  have ok : ∀ l : List Int, (∀ t ∈ l, 1 ≤ t ∧ t ≤ 3) → ¬ l.any badT = true := fun l hl => by
    simp only [Bool.not_eq_true, List.any_eq_false]
    intro t ht
    have := hl t ht
    unfold badT
    simp
    omega
  have : joinE a b = 0 := by
    unfold joinE
    rw [if_neg (ok a h1), if_neg (ok b h2), if_neg (by omega), if_neg (by rw [h]; simp)]
  exact ⟨this, by unfold joinR; rw [if_pos this, h]; rfl⟩
theorem joinE_none {a b : List Int} (h1 : ∀ t ∈ a, 1 ≤ t ∧ t ≤ 3) (h2 : ∀ t ∈ b, 1 ≤ t ∧ t ≤ 3) (h3 : a.length ≤ 8 ∧ b.length ≤ 8) (h : joinL a b = none) : joinE a b = 4 ∧ joinR a b = [] := by
  have ok : ∀ l : List Int, (∀ t ∈ l, 1 ≤ t ∧ t ≤ 3) → ¬ l.any badT = true := fun l hl => by
    simp only [Bool.not_eq_true, List.any_eq_false]
    intro t ht
    have := hl t ht
    unfold badT
    simp
    omega
  have : joinE a b = 4 := by
    unfold joinE
    rw [if_neg (ok a h1), if_neg (ok b h2), if_neg (by omega), if_pos h]
  exact ⟨this, by unfold joinR; rw [this]; rfl⟩
theorem t3 {t : Int} (h : 1 ≤ t ∧ t ≤ 3) : t = 1 ∨ t = 2 ∨ t = 3 := by omega
theorem bothI_in {a b : Int} (ha : 1 ≤ a ∧ a ≤ 3) (hb : 1 ≤ b ∧ b ≤ 3) (h : bothI a b ≠ 0) : 1 ≤ bothI a b ∧ bothI a b ≤ 3 := by
  rcases t3 ha with rfl | rfl | rfl <;> rcases t3 hb with rfl | rfl | rfl <;> revert h <;> decide
theorem bothI_assoc {a b c : Int} (ha : 1 ≤ a ∧ a ≤ 3) (hb : 1 ≤ b ∧ b ≤ 3) (hc : 1 ≤ c ∧ c ≤ 3) (h1 : bothI a b ≠ 0) (h2 : bothI b c ≠ 0) : bothI (bothI a b) c = bothI a (bothI b c) := by
  rcases t3 ha with rfl | rfl | rfl <;> rcases t3 hb with rfl | rfl | rfl <;> rcases t3 hc with rfl | rfl | rfl <;> revert h1 h2 <;> decide
theorem bothI_via {a b c : Int} (ha : 1 ≤ a ∧ a ≤ 3) (hb : 1 ≤ b ∧ b ≤ 3) (hc : 1 ≤ c ∧ c ≤ 3) (h1 : bothI a b ≠ 0) (h2 : bothI b c = 0) : bothI (bothI a b) c = 0 := by
  rcases t3 ha with rfl | rfl | rfl <;> rcases t3 hb with rfl | rfl | rfl <;> rcases t3 hc with rfl | rfl | rfl <;> revert h1 h2 <;> decide
theorem bothI_stands {a b : Int} (h : bothI a b ≠ 0) : standsB a (bothI a b) = true ∧ standsB b (bothI a b) = true := by
  have r : ∀ x : Int, standsB x x = true := fun x => by unfold standsB; simp
  unfold bothI at h ⊢
  by_cases h1 : standsB a b = true
  · rw [if_pos h1]; exact ⟨h1, r b⟩
  · rw [if_neg h1] at h ⊢
    by_cases h2 : standsB b a = true
    · rw [if_pos h2]; exact ⟨r a, h2⟩
    · rw [if_neg h2] at h; exact absurd rfl h
theorem joinL_cons {a b : Int} {l m j : List Int} (h : joinL (a :: l) (b :: m) = some j) : bothI a b ≠ 0 ∧ ∃ k, joinL l m = some k ∧ j = bothI a b :: k := by
  simp only [joinL] at h
  split at h
  · cases h
  · rename_i h0
    cases e : joinL l m with
    | none => rw [e] at h; cases h
    | some k =>
      rw [e] at h
      simp only [Option.map_some, Option.some.injEq] at h
      exact ⟨h0, k, rfl, h.symm⟩
theorem joinL_in : ∀ {a b j : List Int}, joinL a b = some j → (∀ t ∈ a, 1 ≤ t ∧ t ≤ 3) → (∀ t ∈ b, 1 ≤ t ∧ t ≤ 3) → ∀ t ∈ j, 1 ≤ t ∧ t ≤ 3
  | [], [], j, h, _, _ => by simp [joinL] at h; subst h; simp
  | [], _ :: _, j, h, _, _ => by simp [joinL] at h
  | _ :: _, [], j, h, _, _ => by simp [joinL] at h
  | a :: l, b :: m, j, h, ha, hb => by
    obtain ⟨h0, k, hk, rfl⟩ := joinL_cons h
    intro t ht
    rcases List.mem_cons.1 ht with rfl | ht
    · exact bothI_in (ha a (by simp)) (hb b (by simp)) h0
    · exact joinL_in hk (fun t h => ha t (by simp [h])) (fun t h => hb t (by simp [h])) t ht
theorem joinL_self : ∀ {a : List Int}, (∀ t ∈ a, 1 ≤ t ∧ t ≤ 3) → joinL a a = some a
  | [], _ => rfl
  | a :: l, h => by
    have ha := h a (by simp)
    have e : bothI a a = a := by unfold bothI standsB; simp
    simp only [joinL]
    rw [if_neg (by rw [e]; omega), joinL_self (fun t ht => h t (by simp [ht])), e]
    rfl
theorem joinL_stand : ∀ {a b j : List Int} {i : Nat}, joinL a b = some j → i < j.length → standsB (a.getD i 0) (j.getD i 0) = true ∧ standsB (b.getD i 0) (j.getD i 0) = true
  | [], [], j, i, h, hi => by simp [joinL] at h; subst h; simp at hi
  | [], _ :: _, j, _, h, _ => by simp [joinL] at h
  | _ :: _, [], j, _, h, _ => by simp [joinL] at h
  | a :: l, b :: m, j, i, h, hi => by
    obtain ⟨h0, k, hk, rfl⟩ := joinL_cons h
    cases i with
    | zero => exact bothI_stands h0
    | succ i =>
      have := joinL_stand (i := i) hk (by simpa using hi)
      simpa using this
theorem joinL_assoc : ∀ {a b c x r : List Int}, (∀ t ∈ a, 1 ≤ t ∧ t ≤ 3) → (∀ t ∈ b, 1 ≤ t ∧ t ≤ 3) → (∀ t ∈ c, 1 ≤ t ∧ t ≤ 3) → joinL a b = some x → joinL b c = some r → joinL x c = joinL a r
  | [], [], [], x, r, _, _, _, h1, h2 => by simp [joinL] at h1 h2; subst h1 h2; rfl
  | [], [], _ :: _, _, _, _, _, _, _, h => by simp [joinL] at h
  | [], _ :: _, _, _, _, _, _, _, h, _ => by simp [joinL] at h
  | _ :: _, [], _, _, _, _, _, _, h, _ => by simp [joinL] at h
  | _ :: _, _ :: _, [], _, _, _, _, _, _, h => by simp [joinL] at h
  | a :: l, b :: m, c :: n, x, r, ha, hb, hc, h1, h2 => by
    obtain ⟨h3, k, hk, rfl⟩ := joinL_cons h1
    obtain ⟨h4, q, hq, rfl⟩ := joinL_cons h2
    simp only [joinL]
    rw [bothI_assoc (ha a (by simp)) (hb b (by simp)) (hc c (by simp)) h3 h4, joinL_assoc (fun t h => ha t (by simp [h])) (fun t h => hb t (by simp [h])) (fun t h => hc t (by simp [h])) hk hq]
theorem joinL_via : ∀ {a b c x : List Int}, (∀ t ∈ a, 1 ≤ t ∧ t ≤ 3) → (∀ t ∈ b, 1 ≤ t ∧ t ≤ 3) → (∀ t ∈ c, 1 ≤ t ∧ t ≤ 3) → joinL a b = some x → joinL b c = none → joinL x c = none
  | [], [], [], x, _, _, _, h1, h2 => by simp [joinL] at h2
  | [], [], _ :: _, x, _, _, _, h1, _ => by simp [joinL] at h1; subst h1; rfl
  | [], _ :: _, _, _, _, _, _, h, _ => by simp [joinL] at h
  | _ :: _, [], _, _, _, _, _, h, _ => by simp [joinL] at h
  | a :: l, b :: m, [], x, _, _, _, h, _ => by
    obtain ⟨_, k, _, rfl⟩ := joinL_cons h
    rfl
  | a :: l, b :: m, c :: n, x, ha, hb, hc, h1, h2 => by
    obtain ⟨h3, k, hk, rfl⟩ := joinL_cons h1
    simp only [joinL] at h2 ⊢
    by_cases h4 : bothI b c = 0
    · rw [if_pos (bothI_via (ha a (by simp)) (hb b (by simp)) (hc c (by simp)) h3 h4)]
    · rw [if_neg h4] at h2
      have h5 : joinL m n = none := by
        cases e : joinL m n with
        | none => rfl
        | some q => rw [e] at h2; cases h2
      rw [joinL_via (fun t h => ha t (by simp [h])) (fun t h => hb t (by simp [h])) (fun t h => hc t (by simp [h])) hk h5]
      split <;> rfl
/-- Three joined. -/
theorem join_three {a b c : List Int} (h : joinE a b = 0) : (joinE b c ≠ 0 → joinE (joinR a b) c ≠ 0) ∧ (joinE b c = 0 → joinE (joinR a b) c = joinE a (joinR b c) ∧ joinR (joinR a b) c = joinR a (joinR b c)) := by
  obtain ⟨ha, hb, hl, x, hx, hxr⟩ := joinE_parts h
  rw [hxr]
  have hxi := joinL_in hx ha hb
  have hxl := joinL_len hx
  constructor
  · intro hbc hxc
    obtain ⟨_, hc, hl2, y, hy, _⟩ := joinE_parts hxc
    cases e : joinL b c with
    | none => rw [joinL_via ha hb hc hx e] at hy; cases hy
    | some r => exact hbc (joinE_of hb hc ⟨hl.2, hl2.2⟩ e).1
  · intro hbc
    obtain ⟨_, hc, hl2, r, hr, hrr⟩ := joinE_parts hbc
    rw [hrr]
    have hri := joinL_in hr hb hc
    have hrl := joinL_len hr
    have has := joinL_assoc ha hb hc hx hr
    cases e : joinL a r with
    | none =>
      rw [e] at has
      obtain ⟨k1, k2⟩ := joinE_none hxi hc ⟨by omega, hl2.2⟩ has
      obtain ⟨k3, k4⟩ := joinE_none ha hri ⟨hl.1, by omega⟩ e
      exact ⟨by rw [k1, k3], by rw [k2, k4]⟩
    | some m =>
      rw [e] at has
      obtain ⟨k1, k2⟩ := joinE_of hxi hc ⟨by omega, hl2.2⟩ has
      obtain ⟨k3, k4⟩ := joinE_of ha hri ⟨hl.1, by omega⟩ e
      exact ⟨by rw [k1, k3], by rw [k2, k4]⟩
set_option maxRecDepth 100000 in
theorem rstands_any (t o : Int) (w : World) : Calls Try.prog 29 #[.int .i64 t, .int .i64 o] w fun e w' => e = .returned (.bool (standsB t o)) ∧ Below w.heap.size w w' := by
  refine enter Try.func29 rfl Try.ntmps29 rfl ?_
  refine cw_seq ?_
  refine cw_region ?_
  refine rw_run tab_ok 1 [(0, _), (1, _)] rfl ⟨rfl, rfl, trivial⟩ ?_
  refine rw_end ?_
  refine cw_seq ?_
  refine cw_region ?_
  refine rw_run tab_ok 4 [(0, _), (1, _), (8, _)] rfl ⟨rfl, rfl, rfl, trivial⟩ ?_
  refine rw_split (t := 8) rfl (fun h1 => ?_) (fun h1 => ?_)
  · have h1 := of_decide_eq_true h1
    refine rw_run tab_ok 8 [(4, _)] rfl ⟨rfl, trivial⟩ ?_
    refine rw_end ?_
    refine cw_ret ?_
    refine xw_ret1 Try.results29 (rv_tmp rfl) ?_
    intro w hw
    exact ⟨ret_bool (by unfold standsB; rw [decide_eq_true h1]; rfl), hw.below⟩
  · have h1 := of_decide_eq_false h1
    refine rw_run tab_ok 3 [(1, _), (8, _), (11, _)] rfl ⟨rfl, rfl, rfl, trivial⟩ ?_
    refine rw_split (t := 11) rfl (fun h2 => ?_) (fun h2 => ?_)
    · have h2 := of_decide_eq_true h2
      refine rw_run tab_ok 5 [(4, _)] rfl ⟨rfl, trivial⟩ ?_
      refine rw_end ?_
      refine cw_ret ?_
      refine xw_ret1 Try.results29 (rv_tmp rfl) ?_
      intro w hw
      exact ⟨ret_bool (by unfold standsB; rw [decide_eq_false h1, decide_eq_true h2]; rfl), hw.below⟩
    · have h2 := of_decide_eq_false h2
      refine rw_run tab_ok 5 [(4, _)] rfl ⟨rfl, trivial⟩ ?_
      refine rw_end ?_
      refine cw_ret ?_
      refine xw_ret1 Try.results29 (rv_tmp rfl) ?_
      intro w hw
      exact ⟨ret_bool (by unfold standsB; rw [decide_eq_false h1, decide_eq_false h2]; rfl), hw.below⟩
theorem qs_neB {P : Program} {n : Nat} {B : Nat} {w0 : World} {env : Env} {H : List Res} {o : Oper} {i j : Operand} {t u : TypeId} {a b : Bool} (hop : o.op = .binOp .neq t i j u) (hi : opv env i = some (.bool a)) (hj : opv env j = some (.bool b)) (hr : ∀ w, (binOp .neq t (.bool a) (.bool b)).run P w = .ok (.bool (a != b)) w) : QS P n B w0 o env H (.bool (a != b)) := by
  intro a' w hf hw
  have hgd : (eqGuard .neq t i j (.bool a) (.bool b)).run P w = .ok () w := by
    unfold eqGuard
    split <;> simp
  unfold execOp
  simp only [hop, hf.opv hi, hf.opv hj, Sem.run_bind, hgd, Result.andThen_ok, hr, Sem.run_pure]
theorem Try.neB (a b : Bool) (w : World) : (binOp .neq 4 (.bool a) (.bool b)).run Try.prog w = .ok (.bool (a != b)) w := by
  cases a <;> cases b <;> kernel_rfl
set_option maxRecDepth 100000 in
set_option maxHeartbeats 4000000 in
theorem verifyJoin_any (A1 A2 A3 : Option Addr) (c1 c2 c3 : Nat) (a b c : List Int) (w : World) (h1 : Sl w (.slice A1 a.length c1) a) (h2 : Sl w (.slice A2 b.length c2) b) (h3 : Sl w (.slice A3 c.length c3) c) :
    Calls Try.prog 6 #[.slice A1 a.length c1, .slice A2 b.length c2, .slice A3 c.length c3] w fun e w' => e = .returned (.bool true) ∧ Below w.heap.size w w' := by
  have b1 := len_bd h1
  have hba : ∀ w1, Sl w1 (.slice A1 a.length c1) a → Sl w1 (.slice A2 b.length c2) b → Calls Try.prog 19 #[.slice A2 b.length c2, .slice A1 a.length c1] w1 fun e w' => ∃ u, e = .returned (.tuple #[u, .int .i64 (joinE a b)]) ∧ Below w1.heap.size w1 w' ∧ OwN w' w1.heap.size u (joinR a b) := fun w1 k1 k2 => by
    have := join_any A2 A1 c2 c1 b a w1 k2 k1
    rw [joinE_comm b a, joinR_comm b a] at this
    exact this
  refine enter Try.func6 rfl Try.ntmps6 rfl ?_
  refine cw_seq ?_
  refine cw_region ?_
  refine rw_run tab_ok 1 [(0, _), (1, _), (2, _)] rfl ⟨rfl, rfl, rfl, trivial⟩ ?_
  refine rw_end ?_
  refine cw_seq ?_
  refine cw_seq ?_
  refine cw_region ?_
  refine rw_op (ot_c0 rfl rfl rfl Try.call23 (fun w hw => verifyBegun_any w)) rfl rfl (fun _ _ => ?_)
  refine rw_run tab_ok 1 [(0, _), (1, _), (2, _), (18, _)] rfl ⟨rfl, rfl, rfl, rfl, trivial⟩ ?_
  refine rw_end ?_
  refine cw_cond_f rfl ?_
  refine cw_skip (xw_then ?_)
  refine cw_seq ?_
  refine cw_region ?_
  refine rw_run tab_ok 2 [(0, _), (1, _), (2, _), (20, _), (21, _)] rfl ⟨rfl, rfl, rfl, rfl, rfl, trivial⟩ ?_
  refine rw_op (ot_cO rfl rfl rfl Try.call19 (fun w hw => join_any A1 A2 c1 c2 a b w (hw.ro h1) (hw.ro h2))) rfl rfl (fun ⟨A4, c4⟩ _ => ?_)
  try dsimp only
  refine rw_run tab_ok 5 [(0, _), (1, _), (2, _), (7, _), (8, _)] rfl ⟨rfl, rfl, rfl, rfl, rfl, trivial⟩ ?_
  refine rw_end ?_
  refine cw_seq ?_
  refine cw_region ?_
  refine rw_run tab_ok 2 [(0, _), (1, _), (2, _), (7, _), (8, _), (26, _), (27, _)] rfl ⟨rfl, rfl, rfl, rfl, rfl, rfl, rfl, trivial⟩ ?_
  refine rw_op (ot_cO rfl rfl rfl Try.call19 (fun w hw => hba w (hw.ro h1) (hw.ro h2))) rfl rfl (fun ⟨A5, c5⟩ _ => ?_)
  try dsimp only
  refine rw_run tab_ok 5 [(0, _), (1, _), (2, _), (7, _), (8, _), (9, _), (10, _)] rfl ⟨rfl, rfl, rfl, rfl, rfl, rfl, rfl, trivial⟩ ?_
  refine rw_end ?_
  refine cw_seq ?_
  refine cw_seq ?_
  refine cw_region ?_
  refine rw_run tab_ok 4 [(0, _), (1, _), (2, _), (7, _), (8, _), (9, _), (32, _), (34, _)] rfl ⟨rfl, rfl, rfl, rfl, rfl, rfl, rfl, rfl, trivial⟩ ?_
  refine rw_s (qs_neB rfl rfl rfl (Try.neB _ _)) rfl rfl ?_
  refine rw_run tab_ok 1 [(0, _), (1, _), (2, _), (7, _), (8, _), (9, _), (36, _)] rfl ⟨rfl, rfl, rfl, rfl, rfl, rfl, rfl, trivial⟩ ?_
  refine rw_as (t := 36) (v' := .bool false) rfl (by simp) ?_
  refine rw_run tab_ok 2 [(0, _), (1, _), (2, _), (7, _), (8, _), (36, _), (37, _), (38, _)] rfl ⟨rfl, rfl, rfl, rfl, rfl, rfl, rfl, rfl, trivial⟩ ?_
  refine rw_op (ot_c0 rfl rfl rfl Try.call28 (fun w hw => sameInts_w A4 A5 c4 c5 (joinR a b) (joinR a b) w (SF.at_ (SF.own rfl fc) hw) (SF.at_ (SF.own rfl fc) hw))) rfl rfl (fun _ _ => ?_)
  refine rw_run tab_ok 2 [(0, _), (1, _), (2, _), (7, _), (8, _), (41, _)] rfl ⟨rfl, rfl, rfl, rfl, rfl, rfl, trivial⟩ ?_
  refine rw_end ?_
  refine cw_as (t := 41) (v' := .bool false) rfl (by rw [decide_eq_true rfl]; rfl) ?_
  refine cw_cond_f rfl ?_
  refine cw_skip (xw_then ?_)
  refine cw_seq ?_
  refine cw_seq ?_
  refine cw_region ?_
  refine rw_run tab_ok 2 [(0, _), (1, _), (2, _), (7, _), (43, _)] rfl ⟨rfl, rfl, rfl, rfl, rfl, trivial⟩ ?_
  refine rw_end ?_
  refine cw_condN rfl (fun he => ?_) (fun he => ?_)
  · have hr : joinR a b = [] := by unfold joinR; rw [if_neg he]
    refine cw_seq ?_
    refine cw_region ?_
    refine rw_run tab_ok 1 [(44, _)] rfl ⟨rfl, trivial⟩ ?_
    refine rw_s (qs_len Try.underlying35 rfl rfl) rfl rfl ?_
    refine rw_run tab_ok 2 [(6, _)] rfl ⟨rfl, trivial⟩ ?_
    refine rw_end ?_
    refine cw_ret (xw_thenr ?_)
    refine xw_ret1 Try.results6 (rv_tmp rfl) ?_
    intro w hw
    exact ⟨ret_bool (by rw [hr]; rfl), hw.below⟩
  · obtain ⟨ka, kb, hl, x, hx, hxr⟩ := joinE_parts he
    have hxl := joinL_len hx
    obtain ⟨k1, k2⟩ := joinE_of ka ka ⟨hl.1, hl.1⟩ (joinL_self ka)
    have haa : ∀ w1, Sl w1 (.slice A1 a.length c1) a → Calls Try.prog 19 #[.slice A1 a.length c1, .slice A1 a.length c1] w1 fun e w' => ∃ u, e = .returned (.tuple #[u, .int .i64 0]) ∧ Below w1.heap.size w1 w' ∧ OwN w' w1.heap.size u a := fun w1 k => by
      have := join_any A1 A1 c1 c1 a a w1 k k
      rw [k1, k2] at this
      exact this
    rw [hxr]
    have hth := join_three (c := c) he
    rw [hxr] at hth
    refine cw_skip (xw_then ?_)
    refine cw_seq ?_
    refine cw_region ?_
    refine rw_run tab_ok 2 [(0, _), (1, _), (2, _), (7, _), (48, _), (49, _)] rfl ⟨rfl, rfl, rfl, rfl, rfl, rfl, trivial⟩ ?_
    refine rw_op (ot_cO rfl rfl rfl Try.call19 (fun w hw => haa w (hw.ro h1))) rfl rfl (fun ⟨A6, c6⟩ _ => ?_)
    try dsimp only
    refine rw_run tab_ok 5 [(0, _), (1, _), (2, _), (7, _), (8, _), (11, _)] rfl ⟨rfl, rfl, rfl, rfl, rfl, rfl, trivial⟩ ?_
    refine rw_end ?_
    refine cw_seq ?_
    refine cw_seq ?_
    refine cw_region ?_
    refine rw_run tab_ok 3 [(0, _), (1, _), (2, _), (7, _), (11, _), (55, _)] rfl ⟨rfl, rfl, rfl, rfl, rfl, rfl, trivial⟩ ?_
    refine rw_as (t := 55) (v' := .bool false) rfl (by rfl) ?_
    refine rw_run tab_ok 2 [(0, _), (1, _), (2, _), (7, _), (55, _), (56, _), (57, _)] rfl ⟨rfl, rfl, rfl, rfl, rfl, rfl, rfl, trivial⟩ ?_
    refine rw_op (ot_c0 rfl rfl rfl Try.call28 (fun w hw => sameInts_w A6 A1 c6 c1 a a w (SF.at_ (SF.own rfl fc) hw) (hw.ro h1))) rfl rfl (fun _ _ => ?_)
    refine rw_run tab_ok 2 [(0, _), (1, _), (2, _), (7, _), (60, _)] rfl ⟨rfl, rfl, rfl, rfl, rfl, trivial⟩ ?_
    refine rw_end ?_
    refine cw_as (t := 60) (v' := .bool false) rfl (by rw [decide_eq_true rfl]; rfl) ?_
    refine cw_cond_f rfl ?_
    refine cw_skip (xw_then ?_)
    refine cw_seq ?_
    refine cw_seq ?_
    refine cw_region ?_
    refine rw_run tab_ok 1 [(0, _), (1, _), (2, _), (7, _), (12, _)] rfl ⟨rfl, rfl, rfl, rfl, rfl, trivial⟩ ?_
    refine rw_end ?_
    refine cw_cutk (fun _ : Unit => True) (fun _ => [(0, .slice A1 a.length c1), (1, .slice A2 b.length c2), (2, .slice A3 c.length c3), (7, .slice A4 x.length c4)]) (fun _ => [ROw (.slice A4 x.length c4) x]) ?_ ?_
    · refine cw_block (cw_loop (fun i : Nat => i ≤ x.length) (fun i => x.length - i) (fun i => [(0, .slice A1 a.length c1), (1, .slice A2 b.length c2), (2, .slice A3 c.length c3), (7, .slice A4 x.length c4), (12, .int .i64 (i : Int))]) (fun _ => [ROw (.slice A4 x.length c4) x]) 0 (Nat.zero_le _) ⟨rfl, rfl, rfl, rfl, rfl, trivial⟩ me ?_)
      rintro i hi'
      have hi : i ≤ x.length := hi'
      refine cw_seq ?_
      refine cw_seq ?_
      refine cw_region ?_
      refine rw_run tab_ok 2 [(0, _), (1, _), (2, _), (7, _), (12, _), (61, _), (62, _)] rfl ⟨rfl, rfl, rfl, rfl, rfl, rfl, rfl, trivial⟩ ?_
      refine rw_s (qs_len Try.underlying35 rfl rfl) rfl rfl ?_
      refine rw_run tab_ok 1 [(0, _), (1, _), (2, _), (7, _), (12, _), (64, _)] rfl ⟨rfl, rfl, rfl, rfl, rfl, rfl, trivial⟩ ?_
      refine rw_end ?_
      refine cw_condD rfl (fun hlt => ?_) (fun hlt => ?_)
      · have hil : i < x.length := by omega
        obtain ⟨s1, s2⟩ := joinL_stand hx hil
        refine cw_skip (xw_then ?_)
        refine cw_seq ?_
        refine cw_block ?_
        refine cw_seq ?_
        refine cw_draw (.still 0 (.still 1 (.still 2 (.still 3 (.still 4 (.still 5 (.still 6 (.still 7 (.pick 8 (.still 9 (.still 10 (.still 11 (.still 12 (.still 13 (.still 14 (.still 15 (.still 16 (.still 17 (.still 18 (.pick 19 (.still 20 (.still 21 .done)) .stop))))))))))) .stop))))))))) [] rfl (by kernel_rfl) (by kernel_rfl) ?_
        refine ro_run tab_ok ha 2 [(0, _), (1, _), (2, _), (7, _), (12, _), (67, _), (68, _)] rfl ⟨rfl, rfl, rfl, rfl, rfl, rfl, rfl, trivial⟩ ?_
        refine ro_s2 rfl (qs_idx Try.underlying35 Try.sizeOf3 (.ro h1) (by omega) rfl rfl rfl) rfl rfl ha ?_
        refine ro_s2 rfl (qs_ld (SF.int (.ro h1) (by omega)) rfl rfl Try.isAgg3) rfl rfl ha ?_
        refine ro_run tab_ok ha 2 [(0, _), (1, _), (2, _), (7, _), (12, _), (70, _), (71, _), (72, _)] rfl ⟨rfl, rfl, rfl, rfl, rfl, rfl, rfl, rfl, trivial⟩ ?_
        refine ro_s2 rfl (qs_idx Try.underlying35 Try.sizeOf3 (SF.own rfl fc) (by omega) rfl rfl rfl) rfl rfl ha ?_
        refine ro_s2 rfl (qs_ld (SF.int (SF.own rfl fc) (by omega)) rfl rfl Try.isAgg3) rfl rfl ha ?_
        refine ro_op2 rfl (ot_c0 rfl rfl rfl Try.call29 (fun w hw => rstands_any (a.getD i 0) (x.getD i 0) w)) rfl rfl (.inr fun _ => ha) (fun _ _ => ?_) ro_stop
        refine ro_run tab_ok ha 2 [(0, _), (1, _), (2, _), (7, _), (12, _), (77, _)] rfl ⟨rfl, rfl, rfl, rfl, rfl, rfl, trivial⟩ ?_
        refine ro_as (t := 77) (v' := .bool false) rfl (by rw [s1]; rfl) ?_
        refine ro_run tab_ok ha 2 [(0, _), (1, _), (2, _), (7, _), (12, _), (77, _), (78, _), (79, _)] rfl ⟨rfl, rfl, rfl, rfl, rfl, rfl, rfl, rfl, trivial⟩ ?_
        refine ro_s2 rfl (qs_idx Try.underlying35 Try.sizeOf3 (.ro h2) (by omega) rfl rfl rfl) rfl rfl ha ?_
        refine ro_s2 rfl (qs_ld (SF.int (.ro h2) (by omega)) rfl rfl Try.isAgg3) rfl rfl ha ?_
        refine ro_run tab_ok ha 2 [(0, _), (1, _), (2, _), (7, _), (12, _), (77, _), (81, _), (82, _), (83, _)] rfl ⟨rfl, rfl, rfl, rfl, rfl, rfl, rfl, rfl, rfl, trivial⟩ ?_
        refine ro_s2 rfl (qs_idx Try.underlying35 Try.sizeOf3 (SF.own rfl fc) (by omega) rfl rfl rfl) rfl rfl ha ?_
        refine ro_s2 rfl (qs_ld (SF.int (SF.own rfl fc) (by omega)) rfl rfl Try.isAgg3) rfl rfl ha ?_
        refine ro_op2 rfl (ot_c0 rfl rfl rfl Try.call29 (fun w hw => rstands_any (b.getD i 0) (x.getD i 0) w)) rfl rfl (.inr fun _ => ha) (fun _ _ => ?_) ro_stop
        refine ro_run tab_ok ha 2 [(0, _), (1, _), (2, _), (7, _), (12, _), (88, _)] rfl ⟨rfl, rfl, rfl, rfl, rfl, rfl, trivial⟩ ?_
        refine ro_end ?_
        refine cw_as (t := 88) (v' := .bool false) rfl (by rw [s2]; rfl) ?_
        refine cw_cond_f rfl ?_
        refine cw_skip (xw_blkn (xw_then ?_))
        refine cw_region ?_
        refine rw_run tab_ok 1 [(0, _), (1, _), (2, _), (7, _), (65, _)] rfl ⟨rfl, rfl, rfl, rfl, rfl, trivial⟩ ?_
        refine rw_s (qs_add rfl rfl rfl (by omega)) rfl rfl ?_
        refine rw_run tab_ok 1 [(0, _), (1, _), (2, _), (7, _), (12, _)] rfl ⟨rfl, rfl, rfl, rfl, rfl, trivial⟩ ?_
        refine rw_round (i + 1) (hil) (by show _ - _ < _ - _; omega) ⟨rfl, rfl, rfl, rfl, rfl, trivial⟩ me
      · refine cw_exit (xw_thenx (xw_thenx (xw_blk ?_)))
        refine xw_join () (trivial) ⟨rfl, rfl, rfl, rfl, trivial⟩ me
    · rintro _ _
      refine cw_seq ?_
      refine cw_region ?_
      refine rw_run tab_ok 2 [(0, _), (1, _), (2, _), (90, _), (91, _)] rfl ⟨rfl, rfl, rfl, rfl, rfl, trivial⟩ ?_
      refine rw_op (ot_cO rfl rfl rfl Try.call19 (fun w hw => join_any A4 A3 c4 c3 x c w (SF.at_ (SF.own rfl fc) hw) (hw.ro h3))) rfl rfl (fun ⟨A7, c7⟩ _ => ?_)
      try dsimp only
      refine rw_run tab_ok 5 [(0, _), (1, _), (2, _), (8, _), (13, _)] rfl ⟨rfl, rfl, rfl, rfl, rfl, trivial⟩ ?_
      refine rw_end ?_
      refine cw_seq ?_
      refine cw_region ?_
      refine rw_run tab_ok 2 [(0, _), (8, _), (13, _), (96, _), (97, _)] rfl ⟨rfl, rfl, rfl, rfl, rfl, trivial⟩ ?_
      refine rw_op (ot_cO rfl rfl rfl Try.call19 (fun w hw => join_any A2 A3 c2 c3 b c w (hw.ro h2) (hw.ro h3))) rfl rfl (fun ⟨A8, c8⟩ _ => ?_)
      try dsimp only
      refine rw_run tab_ok 5 [(0, _), (8, _), (10, _), (13, _), (14, _)] rfl ⟨rfl, rfl, rfl, rfl, rfl, trivial⟩ ?_
      refine rw_end ?_
      refine cw_seq ?_
      refine cw_seq ?_
      refine cw_region ?_
      refine rw_run tab_ok 2 [(0, _), (8, _), (13, _), (14, _), (102, _)] rfl ⟨rfl, rfl, rfl, rfl, rfl, trivial⟩ ?_
      refine rw_end ?_
      refine cw_condN rfl (fun hbc => ?_) (fun hbc => ?_)
      · have hne := hth.1 hbc
        refine cw_seq ?_
        refine cw_region ?_
        refine rw_run tab_ok 3 [(6, _)] rfl ⟨rfl, trivial⟩ ?_
        refine rw_end ?_
        refine cw_ret (xw_thenr ?_)
        refine xw_ret1 Try.results6 (rv_tmp rfl) ?_
        intro w hw
        exact ⟨ret_bool (by rw [decide_eq_false hne]; rfl), hw.below⟩
      · obtain ⟨e1, e2⟩ := hth.2 hbc
        have hag : ∀ w1, Sl w1 (.slice A1 a.length c1) a → Sl w1 (.slice A8 (joinR b c).length c8) (joinR b c) → Calls Try.prog 19 #[.slice A1 a.length c1, .slice A8 (joinR b c).length c8] w1 fun e w' => ∃ u, e = .returned (.tuple #[u, .int .i64 (joinE x c)]) ∧ Below w1.heap.size w1 w' ∧ OwN w' w1.heap.size u (joinR x c) := fun w1 k k' => by
          have := join_any A1 A8 c1 c8 a (joinR b c) w1 k k'
          rw [← e1, ← e2] at this
          exact this
        refine cw_skip (xw_then ?_)
        refine cw_seq ?_
        refine cw_region ?_
        refine rw_run tab_ok 2 [(8, _), (13, _), (106, _), (107, _)] rfl ⟨rfl, rfl, rfl, rfl, trivial⟩ ?_
        refine rw_op (ot_cO rfl rfl rfl Try.call19 (fun w hw => hag w (hw.ro h1) (SF.at_ (SF.own rfl fc) hw))) rfl rfl (fun ⟨A9, c9⟩ _ => ?_)
        try dsimp only
        refine rw_run tab_ok 5 [(8, _), (13, _), (15, _), (16, _)] rfl ⟨rfl, rfl, rfl, rfl, trivial⟩ ?_
        refine rw_end ?_
        refine cw_seq ?_
        refine cw_region ?_
        refine rw_run tab_ok 4 [(13, _), (15, _), (114, _)] rfl ⟨rfl, rfl, rfl, trivial⟩ ?_
        refine rw_as (t := 114) (v' := .bool true) rfl (by rw [decide_eq_true rfl]) ?_
        refine rw_run tab_ok 2 [(114, _), (115, _), (116, _)] rfl ⟨rfl, rfl, rfl, trivial⟩ ?_
        refine rw_op (ot_c0 rfl rfl rfl Try.call28 (fun w hw => sameInts_w A7 A9 c7 c9 (joinR x c) (joinR x c) w (SF.at_ (SF.own rfl fc) hw) (SF.at_ (SF.own rfl fc) hw))) rfl rfl (fun _ _ => ?_)
        refine rw_run tab_ok 2 [(6, _)] rfl ⟨rfl, trivial⟩ ?_
        refine rw_end ?_
        refine cw_ret ?_
        refine xw_ret1 Try.results6 (rv_tmp rfl) ?_
        intro w hw
        exact ⟨ret_bool (by rw [decide_eq_true rfl]), hw.below⟩
theorem verifyJoin_law (v1 v2 v3 : Value) (a b c : List Int) (w : World) (h1 : Sl w v1 a) (h2 : Sl w v2 b) (h3 : Sl w v3 c) : Calls Try.prog 6 #[v1, v2, v3] w fun e w' => e = .returned (.bool true) ∧ Below w.heap.size w w' := by
  obtain ⟨A1, c1, rfl, _⟩ := h1.form
  obtain ⟨A2, c2, rfl, _⟩ := h2.form
  obtain ⟨A3, c3, rfl, _⟩ := h3.form
  exact verifyJoin_any A1 A2 A3 c1 c2 c3 a b c w h1 h2 h3
end Go.Proofs.Ytejpkcheimgdfaa

-- VT
/- Verify: stable solutions, and why the fitter finds the least one; plain facts, no program in sight. -/
namespace Go.Proofs.Ytejpkcheimgdfaa

/-- Each type stands for the other's. -/
def Le (a b : List Int) : Prop := a.length = b.length ∧ ∀ i, i < a.length → standsB (a.getD i 0) (b.getD i 0) = true
theorem st_refl (t : Int) : standsB t t = true := by unfold standsB; simp
theorem st_iff {a b : Int} : standsB a b = true ↔ a = b ∨ (a = 3 ∧ b = 2) := by unfold standsB; simp
theorem st_trans {a b c : Int} (h1 : standsB a b = true) (h2 : standsB b c = true) : standsB a c = true := by
  rw [st_iff] at *; omega
theorem st_anti {a b : Int} (h1 : standsB a b = true) (h2 : standsB b a = true) : a = b := by
  rw [st_iff] at *; omega
theorem Le.refl (a : List Int) : Le a a := ⟨rfl, fun _ _ => st_refl _⟩
theorem Le.trans {a b c : List Int} (h1 : Le a b) (h2 : Le b c) : Le a c := ⟨h1.1.trans h2.1, fun i hi => st_trans (h1.2 i hi) (h2.2 i (by rw [← h1.1]; exact hi))⟩
theorem ext_getD {a b : List Int} (hl : a.length = b.length) (h : ∀ i, i < a.length → a.getD i 0 = b.getD i 0) : a = b := by
  apply List.ext_getElem hl
  intro i h1 h2
  have := h i h1
  rwa [List.getD_eq_getElem?_getD, List.getElem?_eq_getElem h1, List.getD_eq_getElem?_getD, List.getElem?_eq_getElem h2] at this
theorem Le.anti {a b : List Int} (h1 : Le a b) (h2 : Le b a) : a = b := ext_getD h1.1 fun i hi => st_anti (h1.2 i hi) (h2.2 i (by rw [← h1.1]; exact hi))
theorem getD_take {l : List Int} {k i : Nat} (h : i < k) : (l.take k).getD i 0 = l.getD i 0 := by
  rw [List.getD_eq_getElem?_getD, List.getElem?_take, if_pos h, ← List.getD_eq_getElem?_getD]
theorem getD_drop {l : List Int} {k i : Nat} : (l.drop k).getD i 0 = l.getD (k + i) 0 := by
  rw [List.getD_eq_getElem?_getD, List.getElem?_drop, ← List.getD_eq_getElem?_getD]
theorem getD_appL {l m : List Int} {i : Nat} (h : i < l.length) : (l ++ m).getD i 0 = l.getD i 0 := by
  rw [List.getD_eq_getElem?_getD, List.getElem?_append_left h, ← List.getD_eq_getElem?_getD]
theorem getD_appR {l m : List Int} {i : Nat} (h : l.length ≤ i) : (l ++ m).getD i 0 = m.getD (i - l.length) 0 := by
  rw [List.getD_eq_getElem?_getD, List.getElem?_append_right h, ← List.getD_eq_getElem?_getD]
theorem Le.take {a b : List Int} (h : Le a b) (k : Nat) : Le (a.take k) (b.take k) := ⟨by rw [List.length_take, List.length_take, h.1], fun i hi => by
  rw [List.length_take] at hi
  rw [getD_take (by omega), getD_take (by omega)]
  exact h.2 i (by omega)⟩
theorem Le.drop {a b : List Int} (h : Le a b) (k : Nat) : Le (a.drop k) (b.drop k) := ⟨by rw [List.length_drop, List.length_drop, h.1], fun i hi => by
  rw [List.length_drop] at hi
  rw [getD_drop, getD_drop]
  exact h.2 _ (by omega)⟩
theorem Le.app {a b c d : List Int} (h1 : Le a b) (h2 : Le c d) : Le (a ++ c) (b ++ d) := ⟨by rw [List.length_append, List.length_append, h1.1, h2.1], fun i hi => by
  rw [List.length_append] at hi
  by_cases h : i < a.length
  · rw [getD_appL h, getD_appL (by rw [← h1.1]; exact h)]; exact h1.2 i h
  · rw [getD_appR (by omega), getD_appR (by rw [← h1.1]; omega), ← h1.1]; exact h2.2 _ (by omega)⟩
/-! Taking from a stack -/
theorem popS_of {l : List Int} {w : Bool} (h : 0 < l.length) : popS (l, w) = (l.getD (l.length - 1) 0, l.take (l.length - 1), w) := by unfold popS; rw [if_neg (by show ¬ l.length = 0; omega)]
theorem popS_nil {w : Bool} : popS ([], w) = (0, [], true) := rfl
theorem takeS_true (xs : List Int) : ∀ (k : Nat) (l : List Int), (takeS xs k (l, true)).2 = true
  | 0, _ => rfl
  | k + 1, l => by
    unfold takeS
    rcases Nat.eq_zero_or_pos l.length with h | h
    · have : l = [] := List.eq_nil_of_length_eq_zero h
      subst this
      rw [popS_nil]
      exact takeS_true xs k _
    · rw [popS_of h]
      exact takeS_true xs k _
theorem takeS_short (xs : List Int) : ∀ (k : Nat) (l : List Int) (w : Bool), l.length < k → (takeS xs k (l, w)).2 = true
  | 0, _, _, h => absurd h (Nat.not_lt_zero _)
  | k + 1, l, w, h => by
    unfold takeS
    rcases Nat.eq_zero_or_pos l.length with h0 | h0
    · have : l = [] := List.eq_nil_of_length_eq_zero h0
      subst this
      rw [popS_nil]
      exact takeS_true xs k _
    · rw [popS_of h0]
      exact takeS_short xs k _ _ (by rw [List.length_take]; omega)
theorem takeS_of (xs : List Int) : ∀ (k : Nat) (l : List Int) (w : Bool), k ≤ l.length → k ≤ xs.length →
    (takeS xs k (l, w)).1 = l.take (l.length - k) ∧ ((takeS xs k (l, w)).2 = false ↔ w = false ∧ Le (l.drop (l.length - k)) (xs.take k))
  | 0, l, w, _, _ => by
    refine ⟨by simp [takeS], ?_⟩
    simp only [takeS]
    constructor
    · intro h; exact ⟨h, by rw [Nat.sub_zero, List.drop_length, List.take_zero]; exact .refl _⟩
    · exact fun h => h.1
  | k + 1, l, w, h, hx => by
    unfold takeS
    rw [popS_of (by omega)]
    obtain ⟨i1, i2⟩ := takeS_of xs k (l.take (l.length - 1)) (w || !standsB (l.getD (l.length - 1) 0) (xs.getD k 0)) (by rw [List.length_take]; omega) (by omega)
    have hl : (l.take (l.length - 1)).length = l.length - 1 := by rw [List.length_take]; omega
    rw [hl] at i1 i2
    refine ⟨?_, ?_⟩
    · rw [i1, List.take_take]
      congr 1
      omega
    · show (takeS xs k (l.take (l.length - 1), w || !standsB (l.getD (l.length - 1) 0) (xs.getD k 0))).2 = false ↔ _
      rw [i2]
      have hq : l.length - 1 - k = l.length - (k + 1) := by omega
      rw [hq]
      constructor
      · rintro ⟨h1, h2⟩
        simp only [Bool.or_eq_false_iff, Bool.not_eq_false'] at h1
        refine ⟨h1.1, by rw [List.length_drop, List.length_take]; omega, fun i hi => ?_⟩
        rw [List.length_drop] at hi
        by_cases e : i = k
        · subst e
          rw [getD_drop, getD_take (by omega), show l.length - (i + 1) + i = l.length - 1 from by omega]
          exact h1.2
        · have := h2.2 i (by rw [List.length_drop, hl]; omega)
          rw [getD_drop, getD_take (by omega), getD_take (by omega)] at this
          rw [getD_drop, getD_take (by omega)]
          exact this
      · rintro ⟨h1, h2⟩
        simp only [Bool.or_eq_false_iff, Bool.not_eq_false']
        have hk := h2.2 k (by rw [List.length_drop]; omega)
        rw [getD_drop, getD_take (by omega), show l.length - (k + 1) + k = l.length - 1 from by omega] at hk
        refine ⟨⟨h1, hk⟩, by rw [List.length_drop, hl, List.length_take]; omega, fun i hi => ?_⟩
        rw [List.length_drop, hl] at hi
        have := h2.2 i (by rw [List.length_drop]; omega)
        rw [getD_drop, getD_take (by omega)] at this
        rw [getD_drop, getD_take (by omega), getD_take (by omega)]
        exact this
/-- What an op takes of a stack and leaves; none: it cannot be. -/
def tl (fs : List MFunc) (f : MFunc) (o : MOp) (s : List Int) : Option (List Int × List Int) :=
  if o.c = 2 then (if s.length < 1 then none else some (s.drop (s.length - 1), [])) else
  if o.c = 3 then (if s.length < 1 then none else some (s.drop (s.length - 1), [s.getD (s.length - 1) 0, s.getD (s.length - 1) 0])) else
  if o.c = 4 then (if s.length < 2 then none else some (s.drop (s.length - 2), [s.getD (s.length - 1) 0, s.getD (s.length - 2) 0])) else
  if o.c = 8 then some ([], [f.locals.getD o.a.toNat 0]) else if o.c = 9 then some ([f.locals.getD o.a.toNat 0], []) else
  if o.c = 12 then some (calledT (fnAt fs o.a.toNat), resultT (fnAt fs o.a.toNat)) else
  if o.c = 13 then (if s.length ≠ (resultT f).length then none else some (resultT f, [])) else some ((plainT o.c).1, (plainT o.c).2)
/-- What it leaves; none: it does not fit. -/
def tryO (fs : List MFunc) (f : MFunc) (o : MOp) (s : List Int) : Option (List Int) := if (tryS fs f o (s, false)).2 = true then none else some (tryS fs f o (s, false)).1
theorem tl_case {fs : List MFunc} {f : MFunc} {o : MOp} {s T V : List Int} (h0 : tryS0 fs f o (s, false) = putS (takeS T T.length (s, false)) V) :
    tryO fs f o s = if T.length ≤ s.length ∧ (s.take (s.length - T.length) ++ V).length ≤ 8 ∧ (takeS T T.length (s, false)).2 = false then some (s.take (s.length - T.length) ++ V) else none := by
  obtain ⟨l', w', e⟩ : ∃ l' w', takeS T T.length (s, false) = (l', w') := ⟨_, _, rfl⟩
  have h1 : tryO fs f o s = if (w' || decide (8 < (l' ++ V).length)) = true then none else some (l' ++ V) := by
    unfold tryO tryS
    rw [h0, e]
    rfl
  rw [h1, e]
  by_cases hl : T.length ≤ s.length
  · obtain ⟨e1, e2⟩ := takeS_of T T.length s false hl (Nat.le_refl _)
    rw [e] at e1
    have e1 : l' = s.take (s.length - T.length) := e1
    subst e1
    by_cases h8 : (s.take (s.length - T.length) ++ V).length ≤ 8
    · cases w'
      · rw [decide_eq_false (by omega)]
        exact (if_pos ⟨hl, h8, rfl⟩).symm
      · rw [Bool.true_or]
        exact (if_neg (fun h => by cases h.2.2)).symm
    · rw [decide_eq_true (by omega), Bool.or_true]
      exact (if_neg (fun h => h8 h.2.1)).symm
  · have := takeS_short T T.length s false (by omega)
    rw [e] at this
    have this : w' = true := this
    subst this
    rw [Bool.true_or]
    exact (if_neg (fun h => hl h.1)).symm
theorem take_one {s : List Int} {k : Nat} (h : k + 1 ≤ s.length) : takeS (s.drop (s.length - (k + 1))) (k + 1) (s, false) = (s.take (s.length - (k + 1)), false) := by
  obtain ⟨e1, e2⟩ := takeS_of (s.drop (s.length - (k + 1))) (k + 1) s false h (by rw [List.length_drop]; omega)
  have : (takeS (s.drop (s.length - (k + 1))) (k + 1) (s, false)).2 = false := e2.2 ⟨rfl, by rw [List.take_of_length_le (by rw [List.length_drop]; omega)]; exact .refl _⟩
  exact Prod.ext e1 this
/-- The law of an op: what it takes must stand there. -/
theorem tryO_tl (fs : List MFunc) (f : MFunc) (o : MOp) (s : List Int) : tryO fs f o s = match tl fs f o s with
    | none => none
    | some (T, V) => if T.length ≤ s.length ∧ (s.take (s.length - T.length) ++ V).length ≤ 8 ∧ (takeS T T.length (s, false)).2 = false then some (s.take (s.length - T.length) ++ V) else none := by
  unfold tl
  by_cases h2 : o.c = 2
  · rw [if_pos h2]
    by_cases hl : s.length < 1
    · rw [if_pos hl]
      have : s = [] := List.eq_nil_of_length_eq_zero (by omega)
      subst this
      unfold tryO tryS tryS0
      rw [if_pos h2]
      rfl
    · rw [if_neg hl]
      have e := take_one (s := s) (k := 0) (by omega)
      have hd : (s.drop (s.length - 1)).length = 1 := by rw [List.length_drop]; omega
      refine tl_case ?_
      rw [hd, e]
      unfold tryS0
      rw [if_pos h2, popS_of (by omega)]
      simp [putS]
  rw [if_neg h2]
  by_cases h3 : o.c = 3
  · rw [if_pos h3]
    by_cases hl : s.length < 1
    · rw [if_pos hl]
      have : s = [] := List.eq_nil_of_length_eq_zero (by omega)
      subst this
      unfold tryO tryS tryS0
      rw [if_neg h2, if_pos h3]
      rfl
    · rw [if_neg hl]
      have e := take_one (s := s) (k := 0) (by omega)
      have hd : (s.drop (s.length - 1)).length = 1 := by rw [List.length_drop]; omega
      refine tl_case ?_
      rw [hd, e]
      unfold tryS0
      rw [if_neg h2, if_pos h3, popS_of (by omega)]
  rw [if_neg h3]
  by_cases h4 : o.c = 4
  · rw [if_pos h4]
    by_cases hl : s.length < 2
    · rw [if_pos hl]
      unfold tryO tryS tryS0
      rw [if_neg h2, if_neg h3, if_pos h4]
      rcases Nat.eq_zero_or_pos s.length with h0 | h0
      · have : s = [] := List.eq_nil_of_length_eq_zero h0
        subst this
        rfl
      · obtain ⟨t, rfl⟩ : ∃ t, s = [t] := by
          match s, h0, hl with
          | [t], _, _ => exact ⟨t, rfl⟩
        rfl
    · rw [if_neg hl]
      have e := take_one (s := s) (k := 1) (by omega)
      have hd : (s.drop (s.length - 2)).length = 2 := by rw [List.length_drop]; omega
      refine tl_case ?_
      rw [hd, e]
      unfold tryS0
      have hl1 : (s.take (s.length - 1)).length = s.length - 1 := by rw [List.length_take]; omega
      have p1 : popS (s, false) = (s.getD (s.length - 1) 0, s.take (s.length - 1), false) := popS_of (by omega)
      have p2 : popS (s.take (s.length - 1), false) = (s.getD (s.length - 2) 0, s.take (s.length - 2), false) := by
        rw [popS_of (by rw [hl1]; omega), hl1, List.take_take, getD_take (by omega), show min (s.length - 1 - 1) (s.length - 1) = s.length - 2 from by omega, show s.length - 1 - 1 = s.length - 2 from by omega]
      rw [if_neg h2, if_neg h3, if_pos h4]
      simp only [p1, p2]
  rw [if_neg h4]
  by_cases h8 : o.c = 8
  · rw [if_pos h8]
    refine tl_case ?_
    unfold tryS0
    rw [if_neg h2, if_neg h3, if_neg h4, if_pos h8]
    rfl
  rw [if_neg h8]
  by_cases h9 : o.c = 9
  · rw [if_pos h9]
    refine tl_case ?_
    unfold tryS0
    rw [if_neg h2, if_neg h3, if_neg h4, if_neg h8, if_pos h9]
    simp [putS]
  rw [if_neg h9]
  by_cases h12 : o.c = 12
  · rw [if_pos h12]
    refine tl_case ?_
    unfold tryS0
    rw [if_neg h2, if_neg h3, if_neg h4, if_neg h8, if_neg h9, if_pos h12]
  rw [if_neg h12]
  by_cases h13 : o.c = 13
  · rw [if_pos h13]
    have hS0 : tryS0 fs f o (s, false) = ((takeS (resultT f) (resultT f).length (s, false)).1, (takeS (resultT f) (resultT f).length (s, false)).2 || decide (0 < (takeS (resultT f) (resultT f).length (s, false)).1.length)) := by
      unfold tryS0
      rw [if_neg h2, if_neg h3, if_neg h4, if_neg h8, if_neg h9, if_neg h12, if_pos h13]
    by_cases hl : s.length ≠ (resultT f).length
    · rw [if_pos hl]
      have : (tryS0 fs f o (s, false)).2 = true := by
        rw [hS0]
        by_cases hs : s.length < (resultT f).length
        · rw [takeS_short _ _ _ _ hs]; rfl
        · rw [(takeS_of (resultT f) _ s false (by omega) (Nat.le_refl _)).1, List.length_take, decide_eq_true (by omega), Bool.or_true]
      unfold tryO tryS
      rw [this]
      rfl
    · rw [if_neg hl]
      have hl : s.length = (resultT f).length := by simpa using hl
      refine tl_case ?_
      have e1 := (takeS_of (resultT f) _ s false (by omega) (Nat.le_refl _)).1
      rw [hl, Nat.sub_self, List.take_zero] at e1
      rw [hS0]
      obtain ⟨l', w', e⟩ : ∃ l' w', takeS (resultT f) (resultT f).length (s, false) = (l', w') := ⟨_, _, rfl⟩
      rw [e] at e1 ⊢
      have e1 : l' = [] := e1
      subst e1
      simp [putS]
  · rw [if_neg h13]
    refine tl_case ?_
    unfold tryS0
    rw [if_neg h2, if_neg h3, if_neg h4, if_neg h8, if_neg h9, if_neg h12, if_neg h13]
end Go.Proofs.Ytejpkcheimgdfaa

-- VT2
/- Verify: what the fitter finds is the least stable solution, or there is none; plain facts, no program in sight. -/
namespace Go.Proofs.Ytejpkcheimgdfaa

theorem tryO_iff {fs : List MFunc} {f : MFunc} {o : MOp} {s v : List Int} : tryO fs f o s = some v ↔
    ∃ T V, tl fs f o s = some (T, V) ∧ T.length ≤ s.length ∧ (s.take (s.length - T.length) ++ V).length ≤ 8 ∧ Le (s.drop (s.length - T.length)) T ∧ v = s.take (s.length - T.length) ++ V := by
  have hf : ∀ T : List Int, T.length ≤ s.length → ((takeS T T.length (s, false)).2 = false ↔ Le (s.drop (s.length - T.length)) T) := fun T hT => by
    rw [(takeS_of T T.length s false hT (Nat.le_refl _)).2, List.take_length]
    simp
  rw [tryO_tl]
  constructor
  · intro h
    cases e : tl fs f o s with
    | none => rw [e] at h; cases h
    | some p =>
      obtain ⟨T, V⟩ := p
      rw [e] at h
      simp only [] at h
      split at h
      · rename_i hc
        simp only [Option.some.injEq] at h
        exact ⟨T, V, rfl, hc.1, hc.2.1, (hf T hc.1).1 hc.2.2, h.symm⟩
      · cases h
  · rintro ⟨T, V, e, h1, h2, h3, rfl⟩
    rw [e]
    simp only []
    rw [if_pos ⟨h1, h2, (hf T h1).2 h3⟩]
theorem tl_mono {fs : List MFunc} {f : MFunc} {o : MOp} {a b T V : List Int} (h : Le a b) (e : tl fs f o b = some (T, V)) (hT : Le (b.drop (b.length - T.length)) T) (hl : T.length ≤ b.length) :
    ∃ T' V', tl fs f o a = some (T', V') ∧ T'.length = T.length ∧ Le (a.drop (a.length - T.length)) T' ∧ Le V' V := by
  have hlen := h.1
  have fix : ∀ T V : List Int, Le (b.drop (b.length - T.length)) T → Le (a.drop (a.length - T.length)) T := fun T V hT => by rw [hlen]; exact (h.drop _).trans hT
  have one : ∀ i, i < a.length → Le [a.getD i 0] [b.getD i 0] := fun i hi => ⟨rfl, fun j hj => by
    have : j = 0 := by simpa using hj
    subst this
    exact h.2 i hi⟩
  unfold tl at e ⊢
  by_cases h2 : o.c = 2
  · rw [if_pos h2] at e ⊢
    split at e
    · cases e
    · rename_i hb
      simp only [Option.some.injEq, Prod.mk.injEq] at e
      obtain ⟨rfl, rfl⟩ := e
      rw [if_neg (by omega)]
      refine ⟨_, _, rfl, by rw [List.length_drop, List.length_drop, hlen], ?_, .refl _⟩
      rw [List.length_drop, show b.length - (b.length - 1) = 1 from by omega]
      exact .refl _
  rw [if_neg h2] at e ⊢
  by_cases h3 : o.c = 3
  · rw [if_pos h3] at e ⊢
    split at e
    · cases e
    · rename_i hb
      simp only [Option.some.injEq, Prod.mk.injEq] at e
      obtain ⟨rfl, rfl⟩ := e
      rw [if_neg (by omega)]
      refine ⟨_, _, rfl, by rw [List.length_drop, List.length_drop, hlen], ?_, ?_⟩
      · rw [List.length_drop, show b.length - (b.length - 1) = 1 from by omega]
        exact .refl _
      · rw [← hlen]
        exact (one _ (by omega)).app (one _ (by omega))
  rw [if_neg h3] at e ⊢
  by_cases h4 : o.c = 4
  · rw [if_pos h4] at e ⊢
    split at e
    · cases e
    · rename_i hb
      simp only [Option.some.injEq, Prod.mk.injEq] at e
      obtain ⟨rfl, rfl⟩ := e
      rw [if_neg (by omega)]
      refine ⟨_, _, rfl, by rw [List.length_drop, List.length_drop, hlen], ?_, ?_⟩
      · rw [List.length_drop, show b.length - (b.length - 2) = 2 from by omega]
        exact .refl _
      · rw [← hlen]
        exact (one _ (by omega)).app (one _ (by omega))
  rw [if_neg h4] at e ⊢
  by_cases h8 : o.c = 8
  · rw [if_pos h8] at e ⊢
    simp only [Option.some.injEq, Prod.mk.injEq] at e
    obtain ⟨rfl, rfl⟩ := e
    exact ⟨_, _, rfl, rfl, fix _ [] hT, .refl _⟩
  rw [if_neg h8] at e ⊢
  by_cases h9 : o.c = 9
  · rw [if_pos h9] at e ⊢
    simp only [Option.some.injEq, Prod.mk.injEq] at e
    obtain ⟨rfl, rfl⟩ := e
    exact ⟨_, _, rfl, rfl, fix _ [] hT, .refl _⟩
  rw [if_neg h9] at e ⊢
  by_cases h12 : o.c = 12
  · rw [if_pos h12] at e ⊢
    simp only [Option.some.injEq, Prod.mk.injEq] at e
    obtain ⟨rfl, rfl⟩ := e
    exact ⟨_, _, rfl, rfl, fix _ [] hT, .refl _⟩
  rw [if_neg h12] at e ⊢
  by_cases h13 : o.c = 13
  · rw [if_pos h13] at e ⊢
    split at e
    · cases e
    · rename_i hb
      simp only [Option.some.injEq, Prod.mk.injEq] at e
      obtain ⟨rfl, rfl⟩ := e
      rw [if_neg (by omega)]
      exact ⟨_, _, rfl, rfl, fix _ [] hT, .refl _⟩
  · rw [if_neg h13] at e ⊢
    simp only [Option.some.injEq, Prod.mk.injEq] at e
    obtain ⟨rfl, rfl⟩ := e
    exact ⟨_, _, rfl, rfl, fix _ [] hT, .refl _⟩
/-- Whoever stands for a stack on which an op fits fits, too. -/
theorem tryO_mono {fs : List MFunc} {f : MFunc} {o : MOp} {a b v : List Int} (h : Le a b) (e : tryO fs f o b = some v) : ∃ u, tryO fs f o a = some u ∧ Le u v := by
  obtain ⟨T, V, e1, e2, e3, e4, rfl⟩ := tryO_iff.1 e
  obtain ⟨T', V', k1, k2, k3, k4⟩ := tl_mono h e1 e4 e2
  have hlen := h.1
  have hle : Le (a.take (a.length - T'.length) ++ V') (b.take (b.length - T.length) ++ V) := by
    rw [k2, hlen]
    exact (h.take _).app k4
  exact ⟨_, tryO_iff.2 ⟨T', V', k1, by rw [k2, hlen]; exact e2, by rw [hle.1]; exact e3, by rw [k2]; exact k3, rfl⟩, hle⟩
/-! Types -/
def Ty (l : List Int) : Prop := ∀ t ∈ l, 1 ≤ t ∧ t ≤ 3
structure FnTy (fs : List MFunc) (f : MFunc) : Prop where
  loc : Ty f.locals
  res : ∀ k, k < fs.length → (0 ≤ (fnAt fs k).result ∧ (fnAt fs k).result ≤ 2)
theorem Ty.app {a b : List Int} (h1 : Ty a) (h2 : Ty b) : Ty (a ++ b) := fun t ht => by
  rcases List.mem_append.1 ht with h | h
  · exact h1 t h
  · exact h2 t h
theorem Ty.at_ {a : List Int} (h : Ty a) {i : Nat} (hi : i < a.length) : 1 ≤ a.getD i 0 ∧ a.getD i 0 ≤ 3 := by
  rw [List.getD_eq_getElem?_getD, List.getElem?_eq_getElem hi]
  exact h _ (List.getElem_mem hi)
theorem Ty.one {t : Int} (h : 1 ≤ t ∧ t ≤ 3) : Ty [t] := fun x hx => by rw [List.mem_singleton.1 hx]; exact h
theorem Ty.two {t u : Int} (h : 1 ≤ t ∧ t ≤ 3) (h2 : 1 ≤ u ∧ u ≤ 3) : Ty [t, u] := fun x hx => by
  rcases List.mem_cons.1 hx with rfl | hx
  · exact h
  · rw [List.mem_singleton.1 hx]; exact h2
theorem tryO_ty {fs : List MFunc} {f : MFunc} {o : MOp} {s v : List Int} (ht : FnTy fs f) (hok : OpOk fs f o) (hs : Ty s) (e : tryO fs f o s = some v) : Ty v := by
  obtain ⟨T, V, e1, e2, e3, e4, rfl⟩ := tryO_iff.1 e
  refine Ty.app (fun t h => hs t (List.mem_of_mem_take h)) ?_
  have nil : Ty [] := fun _ h => by cases h
  have res : ∀ k, k < fs.length → Ty (resultT (fnAt fs k)) := fun k hk => by
    unfold resultT
    split
    · exact nil
    · rename_i hr
      have := ht.res k hk
      exact .one (by omega)
  unfold tl at e1
  split at e1
  · split at e1
    · cases e1
    · simp only [Option.some.injEq, Prod.mk.injEq] at e1
      obtain ⟨rfl, rfl⟩ := e1
      exact nil
  split at e1
  · split at e1
    · cases e1
    · simp only [Option.some.injEq, Prod.mk.injEq] at e1
      obtain ⟨rfl, rfl⟩ := e1
      exact .two (hs.at_ (by omega)) (hs.at_ (by omega))
  split at e1
  · split at e1
    · cases e1
    · simp only [Option.some.injEq, Prod.mk.injEq] at e1
      obtain ⟨rfl, rfl⟩ := e1
      exact .two (hs.at_ (by omega)) (hs.at_ (by omega))
  split at e1
  · rename_i h8
    simp only [Option.some.injEq, Prod.mk.injEq] at e1
    obtain ⟨rfl, rfl⟩ := e1
    have := hok.loc (.inl h8)
    exact .one (ht.loc.at_ (by omega))
  split at e1
  · simp only [Option.some.injEq, Prod.mk.injEq] at e1
    obtain ⟨rfl, rfl⟩ := e1
    exact nil
  split at e1
  · rename_i h12
    simp only [Option.some.injEq, Prod.mk.injEq] at e1
    obtain ⟨rfl, rfl⟩ := e1
    have := hok.call h12
    exact res _ (by omega)
  split at e1
  · split at e1
    · cases e1
    · simp only [Option.some.injEq, Prod.mk.injEq] at e1
      obtain ⟨rfl, rfl⟩ := e1
      exact nil
  · simp only [Option.some.injEq, Prod.mk.injEq] at e1
    obtain ⟨rfl, rfl⟩ := e1
    unfold plainT
    repeat (first | split | exact nil | exact .one (by decide) | exact .two (by decide) (by decide))
theorem bothI_le {a b c : Int} (hc : 1 ≤ c ∧ c ≤ 3) (h1 : standsB a c = true) (h2 : standsB b c = true) : bothI a b ≠ 0 ∧ standsB (bothI a b) c = true := by
  rw [st_iff] at h1 h2
  rcases t3 hc with rfl | rfl | rfl
  · have e1 : a = 1 := by omega
    have e2 : b = 1 := by omega
    subst e1 e2; decide
  · rcases h1 with rfl | ⟨rfl, _⟩ <;> rcases h2 with rfl | ⟨rfl, _⟩ <;> decide
  · have e1 : a = 3 := by omega
    have e2 : b = 3 := by omega
    subst e1 e2; decide
theorem Le.cons_iff {a b : Int} {l m : List Int} : Le (a :: l) (b :: m) ↔ standsB a b = true ∧ Le l m := by
  constructor
  · intro h
    refine ⟨h.2 0 (by simp), by simpa using h.1, fun i hi => ?_⟩
    have := h.2 (i + 1) (by simpa using hi)
    simpa using this
  · rintro ⟨h1, h2⟩
    refine ⟨by simp [h2.1], fun i hi => ?_⟩
    cases i with
    | zero => simpa using h1
    | succ i => simpa using h2.2 i (by simpa using hi)
theorem join_le : ∀ {a b c : List Int}, Ty c → Le a c → Le b c → ∃ j, joinL a b = some j ∧ Le j c
  | [], [], c, _, h, _ => ⟨[], rfl, h⟩
  | [], _ :: _, c, _, h, h' => by have := h.1.trans h'.1.symm; simp at this
  | _ :: _, [], c, _, h, h' => by have := h.1.trans h'.1.symm; simp at this
  | a :: l, b :: m, [], _, h, _ => by have := h.1; simp at this
  | a :: l, b :: m, c :: n, ht, h, h' => by
    obtain ⟨h1, h2⟩ := Le.cons_iff.1 h
    obtain ⟨h3, h4⟩ := Le.cons_iff.1 h'
    obtain ⟨k1, k2⟩ := bothI_le (ht c (by simp)) h1 h3
    obtain ⟨j, k3, k4⟩ := join_le (fun t h => ht t (by simp [h])) h2 h4
    refine ⟨bothI a b :: j, ?_, Le.cons_iff.2 ⟨k2, k4⟩⟩
    simp only [joinL]
    rw [if_neg k1, k3]
    rfl
theorem join_up {a b j : List Int} (h : joinL a b = some j) : Le a j ∧ Le b j := by
  have hl := joinL_len h
  exact ⟨⟨by omega, fun i hi => (joinL_stand h (by omega)).1⟩, ⟨by omega, fun i hi => (joinL_stand h (by omega)).2⟩⟩
/-! Solutions -/
structure StM (fs : List MFunc) (f : MFunc) (M : Nat → Option (List Int)) : Prop where
  m0 : M 0 = some []
  ok : ∀ k s, M k = some s → k < f.code.length ∧ Ty s ∧ ∃ v, tryO fs f (opAt f.code k) s = some v ∧ ∀ q ∈ afterL (opAt f.code k) k, ∃ s', M q.toNat = some s' ∧ Le v s'
structure Inv (fs : List MFunc) (f : MFunc) (s : FSt) : Prop where
  m0 : s.met.getD 0 false = true
  a0 : s.at_.getD 0 [] = []
  ty : ∀ i, s.met.getD i false = true → Ty (s.at_.getD i [])
  le : ∀ M, StM fs f M → ∀ i, s.met.getD i false = true → ∃ t, M i = some t ∧ Le (s.at_.getD i []) t
/-- What has gone up. -/
structure Up (s s' : FSt) : Prop where
  up : ∀ i, s.met.getD i false = true → s'.met.getD i false = true ∧ Le (s.at_.getD i []) (s'.at_.getD i [])
  old : ∀ i, s'.met.getD i false = true → (s.met.getD i false = true ∧ s'.at_.getD i [] = s.at_.getD i []) ∨ (i : Int) ∈ s'.todo
  td : ∀ x ∈ s.todo, x ∈ s'.todo
theorem Up.refl (s : FSt) : Up s s := ⟨fun _ h => ⟨h, .refl _⟩, fun _ h => .inl ⟨h, rfl⟩, fun _ h => h⟩
theorem Up.trans {a b c : FSt} (h1 : Up a b) (h2 : Up b c) : Up a c :=
  ⟨fun i h => by
    obtain ⟨k1, k2⟩ := h1.up i h
    obtain ⟨k3, k4⟩ := h2.up i k1
    exact ⟨k3, k2.trans k4⟩, fun i h => by
    rcases h2.old i h with ⟨k1, k2⟩ | k
    · rcases h1.old i k1 with ⟨k3, k4⟩ | k3
      · exact .inl ⟨k3, k2.trans k4⟩
      · exact .inr (h2.td _ k3)
    · exact .inr k, fun x h => h2.td x (h1.td x h)⟩
theorem met_lt {n : Nat} {s : FSt} (h : FOk n s) {i : Nat} (hm : s.met.getD i false = true) : i < n := by
  rcases Nat.lt_or_ge i n with h' | h'
  · exact h'
  · rw [List.getD_eq_getElem?_getD, List.getElem?_eq_none (by rw [h.ml]; exact h')] at hm
    cases hm
theorem come_inv {fs : List MFunc} {f : MFunc} {s : FSt} (hF : FOk f.code.length s) (hI : Inv fs f s) {k : Nat} (hk : k ≤ f.code.length) {l : List Int} (hl : Ty l) (hle : ∀ M, StM fs f M → ∃ t, M k = some t ∧ Le l t) :
    ((comeS f.code.length s k l).1 = true → Inv fs f (comeS f.code.length s k l).2 ∧ Up s (comeS f.code.length s k l).2 ∧ (comeS f.code.length s k l).2.met.getD k false = true ∧ Le l ((comeS f.code.length s k l).2.at_.getD k [])) ∧
    ((comeS f.code.length s k l).1 = false → ∀ M, ¬ StM fs f M) := by
  have set_ : k < f.code.length → ∀ j : List Int, Ty j → (k = 0 → j = []) → (s.met.getD k false = true → Le (s.at_.getD k []) j) → Le l j → (∀ M, StM fs f M → ∃ t, M k = some t ∧ Le j t) →
      Inv fs f ⟨s.at_.set k j, s.met.set k true, s.todo ++ [(k : Int)]⟩ ∧ Up s ⟨s.at_.set k j, s.met.set k true, s.todo ++ [(k : Int)]⟩ ∧ (s.met.set k true).getD k false = true ∧ Le l ((s.at_.set k j).getD k []) := by
    intro hkn j hj h0 hup hlj hlm
    have hA : ∀ i, (s.at_.set k j).getD i [] = if i = k then j else s.at_.getD i [] := fun i => getD_set (by rw [hF.al]; exact hkn)
    have hM : ∀ i, (s.met.set k true).getD i false = if i = k then true else s.met.getD i false := fun i => getD_set (by rw [hF.ml]; exact hkn)
    refine ⟨⟨?_, ?_, fun i hi => ?_, fun M hMs i hi => ?_⟩, ⟨fun i hi => ?_, fun i hi => ?_, fun x hx => List.mem_append_left _ hx⟩, ?_, ?_⟩
    · show (s.met.set k true).getD 0 false = true
      rw [hM]
      split
      · rfl
      · exact hI.m0
    · show (s.at_.set k j).getD 0 [] = []
      rw [hA]
      split
      · rename_i e; exact h0 e.symm
      · exact hI.a0
    · show Ty ((s.at_.set k j).getD i [])
      have hi : (s.met.set k true).getD i false = true := hi
      rw [hA]
      rw [hM] at hi
      split
      · exact hj
      · rename_i e; rw [if_neg e] at hi; exact hI.ty i hi
    · show ∃ t, M i = some t ∧ Le ((s.at_.set k j).getD i []) t
      have hi : (s.met.set k true).getD i false = true := hi
      rw [hA]
      rw [hM] at hi
      split
      · rename_i e; subst e; exact hlm M hMs
      · rename_i e; rw [if_neg e] at hi; exact hI.le M hMs i hi
    · show (s.met.set k true).getD i false = true ∧ Le (s.at_.getD i []) ((s.at_.set k j).getD i [])
      rw [hA, hM]
      split
      · rename_i e; subst e; exact ⟨rfl, hup hi⟩
      · exact ⟨hi, .refl _⟩
    · have hi : (s.met.set k true).getD i false = true := hi
      rw [hM] at hi
      by_cases e : i = k
      · subst e; right; exact List.mem_append_right _ (by simp)
      · rw [if_neg e] at hi
        left
        refine ⟨hi, ?_⟩
        show (s.at_.set k j).getD i [] = _
        rw [hA, if_neg e]
    · rw [hM, if_pos rfl]
    · rw [hA, if_pos rfl]; exact hlj
  unfold comeS
  split
  · rename_i hkn
    refine ⟨fun h => (by cases h), fun _ M hMs => ?_⟩
    obtain ⟨t, h1, _⟩ := hle M hMs
    have := (hMs.ok k t h1).1
    omega
  · rename_i hkn
    split
    · rename_i hm
      split
      · rename_i hj
        refine ⟨fun h => (by cases h), fun _ M hMs => ?_⟩
        obtain ⟨t, h1, h2⟩ := hle M hMs
        obtain ⟨t', h3, h4⟩ := hI.le M hMs k hm
        rw [h1] at h3
        cases h3
        obtain ⟨j, h5, _⟩ := join_le (hMs.ok k t h1).2.1 h4 h2
        rw [hj] at h5
        cases h5
      · rename_i j hj
        have hu := join_up hj
        split
        · rename_i he
          refine ⟨fun _ => ⟨hI, .refl _, hm, by rw [← he]; exact hu.2⟩, fun h => (by cases h)⟩
        · rename_i he
          refine ⟨fun _ => set_ (by omega) j (joinL_in hj (hI.ty k hm) hl) (fun e => ?_) (fun _ => hu.1) hu.2 (fun M hMs => ?_), fun h => (by cases h)⟩
          · subst e
            rw [hI.a0] at hj
            have := (joinL_len hj).2
            exact List.eq_nil_of_length_eq_zero this
          · obtain ⟨t, h1, h2⟩ := hle M hMs
            obtain ⟨t', h3, h4⟩ := hI.le M hMs k hm
            rw [h1] at h3
            cases h3
            obtain ⟨j', h5, h6⟩ := join_le (hMs.ok k t h1).2.1 h4 h2
            rw [hj] at h5
            cases h5
            exact ⟨t, h1, h6⟩
    · rename_i hm
      refine ⟨fun _ => set_ (by omega) l hl (fun e => ?_) (fun h => absurd h hm) (.refl _) hle, fun h => (by cases h)⟩
      subst e
      exact absurd hI.m0 hm
theorem comes_inv {fs : List MFunc} {f : MFunc} : ∀ {L : List Int} {s : FSt} {l : List Int}, FOk f.code.length s → Inv fs f s → (∀ q ∈ L, 0 ≤ q ∧ q ≤ f.code.length) → l.length ≤ 8 → s.todo.length + L.length < 5000 → Ty l → (∀ M, StM fs f M → ∀ q ∈ L, ∃ t, M q.toNat = some t ∧ Le l t) →
    (∀ s', comesS f.code.length s L l = some s' → Inv fs f s' ∧ Up s s' ∧ ∀ q ∈ L, s'.met.getD q.toNat false = true ∧ Le l (s'.at_.getD q.toNat [])) ∧ (comesS f.code.length s L l = none → ∀ M, ¬ StM fs f M)
  | [], s, l, hF, hI, _, _, _, _, _ => by
    refine ⟨fun s' e => ?_, fun e => by simp [comesS] at e⟩
    simp only [comesS, Option.some.injEq] at e
    subst e
    exact ⟨hI, .refl _, fun q h => by cases h⟩
  | a :: L, s, l, hF, hI, hq, h8, ht, hl, hle => by
    have ha := hq a (by simp)
    rw [List.length_cons] at ht
    obtain ⟨k1, k2⟩ := come_inv hF hI (k := a.toNat) (by omega) hl (fun M hM => hle M hM a (by simp))
    obtain ⟨f1, f2⟩ := comeS_ok hF (k := a.toNat) (by omega) h8 (by omega)
    simp only [comesS]
    cases hb : (comeS f.code.length s a.toNat l).1
    · simp only [Bool.false_eq_true, if_false]
      exact ⟨fun s' e => (by cases e), fun _ => k2 hb⟩
    · simp only [if_true]
      obtain ⟨i1, i2, i3, i4⟩ := k1 hb
      obtain ⟨j1, j2⟩ := comes_inv (L := L) (l := l) f1 i1 (fun q h => hq q (by simp [h])) h8 (by omega) hl (fun M hM q h => hle M hM q (by simp [h]))
      refine ⟨fun s' e => ?_, j2⟩
      obtain ⟨m1, m2, m3⟩ := j1 s' e
      refine ⟨m1, i2.trans m2, fun q h => ?_⟩
      rcases List.mem_cons.1 h with rfl | h
      · obtain ⟨n1, n2⟩ := m2.up _ i3
        exact ⟨n1, i4.trans n2⟩
      · exact m3 q h
/-- A place that is done with. -/
def Dn (fs : List MFunc) (f : MFunc) (s : FSt) (i : Nat) : Prop := ∃ v, tryO fs f (opAt f.code i) (s.at_.getD i []) = some v ∧ ∀ q ∈ afterL (opAt f.code i) i, s.met.getD q.toNat false = true ∧ Le v (s.at_.getD q.toNat [])
def Wk (fs : List MFunc) (f : MFunc) (s : FSt) : Prop := ∀ i : Nat, s.met.getD i false = true → (i : Int) ∈ s.todo ∨ Dn fs f s i
theorem Dn.up {fs : List MFunc} {f : MFunc} {s s' : FSt} {i : Nat} (h : Dn fs f s i) (hu : Up s s') (e : s'.at_.getD i [] = s.at_.getD i []) : Dn fs f s' i := by
  obtain ⟨v, h1, h2⟩ := h
  refine ⟨v, by rw [e]; exact h1, fun q hq => ?_⟩
  obtain ⟨k1, k2⟩ := h2 q hq
  obtain ⟨k3, k4⟩ := hu.up _ k1
  exact ⟨k3, k2.trans k4⟩
theorem tryO_len {fs : List MFunc} {f : MFunc} {o : MOp} {s v : List Int} (h : tryO fs f o s = some v) : v.length ≤ 8 := by
  obtain ⟨T, V, _, _, h3, _, rfl⟩ := tryO_iff.1 h
  exact h3
def Tm (s : FSt) : Prop := ∀ x ∈ s.todo, s.met.getD x.toNat false = true
theorem come_tm {n : Nat} {s : FSt} (hF : FOk n s) (h : Tm s) {k : Nat} (hk : k ≤ n) (l : List Int) : Tm (comeS n s k l).2 := by
  have set_ : k ≠ n → ∀ j : List Int, Tm ⟨s.at_.set k j, s.met.set k true, s.todo ++ [(k : Int)]⟩ := fun hne j x hx => by
    show (s.met.set k true).getD x.toNat false = true
    rw [getD_set (by rw [hF.ml]; omega)]
    split
    · rfl
    · rename_i e
      rcases List.mem_append.1 hx with hx | hx
      · exact h x hx
      · rw [List.mem_singleton.1 hx] at e; exact absurd (Int.toNat_natCast k) e
  unfold comeS
  split
  · exact h
  · rename_i hne
    split
    · split
      · exact h
      · split
        · exact h
        · exact set_ hne _
    · exact set_ hne _
theorem comes_tm {n : Nat} : ∀ {L : List Int} {s s' : FSt} {l : List Int}, FOk n s → Tm s → (∀ q ∈ L, 0 ≤ q ∧ q ≤ n) → l.length ≤ 8 → s.todo.length + L.length < 5000 → comesS n s L l = some s' → Tm s'
  | [], s, s', l, _, h, _, _, _, e => by
    simp only [comesS, Option.some.injEq] at e
    subst e
    exact h
  | a :: L, s, s', l, hF, h, hq, h8, ht, e => by
    simp only [comesS] at e
    split at e
    · have ha := hq a (by simp)
      rw [List.length_cons] at ht
      obtain ⟨f1, f2⟩ := comeS_ok hF (k := a.toNat) (by omega) h8 (by omega)
      exact comes_tm f1 (come_tm hF h (by omega) l) (fun q h => hq q (by simp [h])) h8 (by omega) e
    · cases e
theorem step_inv {fs : List MFunc} {f : MFunc} (hok : FnOk fs f) (hty : FnTy fs f) {s : FSt} (hF : FOk f.code.length s) (hI : Inv fs f s) (hW : Wk fs f s) (htm : Tm s) (ht : 0 < s.todo.length) (ht2 : s.todo.length ≤ 4000) :
    (∀ s', stepS fs f s = some s' → Inv fs f s' ∧ Wk fs f s' ∧ Tm s') ∧ (stepS fs f s = none → ∀ M, ¬ StM fs f M) := by
  obtain ⟨n, hn⟩ : ∃ n, s.todo.length = n + 1 := ⟨s.todo.length - 1, by omega⟩
  have hget : s.todo[n]? = some (s.todo.getD n 0) := by rw [List.getD_eq_getElem?_getD, List.getElem?_eq_getElem (by omega)]; rfl
  have hmem : s.todo.getD n 0 ∈ s.todo := List.mem_of_getElem? hget
  have htd := hF.td _ hmem
  have hmk := htm _ hmem
  obtain ⟨k, hk⟩ : ∃ k : Nat, s.todo.getD n 0 = (k : Int) := ⟨(s.todo.getD n 0).toNat, by omega⟩
  rw [hk, Int.toNat_natCast] at hmk
  have hkl : k < f.code.length := by omega
  have e : stepS fs f s = match tryO fs f (opAt f.code k) (s.at_.getD k []) with
      | none => none
      | some v => comesS f.code.length ⟨s.at_, s.met, s.todo.take n⟩ (afterL (opAt f.code k) k) v := by
    unfold stepS tryO
    dsimp only
    rw [show s.todo.length - 1 = n from by omega, hk, Int.toNat_natCast]
    split <;> rfl
  have hF0 : FOk f.code.length ⟨s.at_, s.met, s.todo.take n⟩ := ⟨hF.al, hF.ml, by show (s.todo.take n).length ≤ _; rw [List.length_take]; omega, hF.st, fun x hx => hF.td x (List.mem_of_mem_take hx)⟩
  have hI0 : Inv fs f ⟨s.at_, s.met, s.todo.take n⟩ := ⟨hI.m0, hI.a0, hI.ty, hI.le⟩
  have hT0 : Tm ⟨s.at_, s.met, s.todo.take n⟩ := fun x hx => htm x (List.mem_of_mem_take hx)
  have hl2 := afterL_len (opAt f.code k) k
  have hlt : (s.todo.take n).length + (afterL (opAt f.code k) k).length < 5000 := by rw [List.length_take]; omega
  rw [e]
  cases hv : tryO fs f (opAt f.code k) (s.at_.getD k []) with
  | none =>
    refine ⟨fun s' h => (by cases h), fun _ M hM => ?_⟩
    obtain ⟨t, h1, h2⟩ := hI.le M hM k hmk
    obtain ⟨_, _, v, h3, _⟩ := hM.ok k t h1
    obtain ⟨u, h4, _⟩ := tryO_mono h2 h3
    rw [hv] at h4
    cases h4
  | some v =>
    obtain ⟨c1, c2⟩ := comes_inv hF0 hI0 (hok.to_ k hkl) (tryO_len hv) hlt (tryO_ty hty (hok.op k hkl) (hI.ty k hmk) hv) (fun M hM q hq => by
      obtain ⟨t, h1, h2⟩ := hI.le M hM k hmk
      obtain ⟨_, _, v', h3, h4⟩ := hM.ok k t h1
      obtain ⟨u, h5, h6⟩ := tryO_mono h2 h3
      rw [hv] at h5
      cases h5
      obtain ⟨s', h7, h8⟩ := h4 q hq
      exact ⟨s', h7, h6.trans h8⟩)
    refine ⟨fun s' h => ?_, c2⟩
    obtain ⟨i1, i2, i3⟩ := c1 s' h
    refine ⟨i1, fun i hi => ?_, comes_tm hF0 hT0 (hok.to_ k hkl) (tryO_len hv) hlt h⟩
    rcases i2.old i hi with ⟨h1, h2⟩ | h1
    · rcases hW i h1 with h3 | h3
      · by_cases hx : (i : Int) ∈ s.todo.take n
        · exact .inl (i2.td _ hx)
        · have : (i : Int) = k := by
            rw [← List.take_append_drop n s.todo] at h3
            rcases List.mem_append.1 h3 with h3 | h3
            · exact absurd h3 hx
            · have : s.todo.drop n = [s.todo.getD n 0] := by
                rw [List.drop_eq_getElem_cons (by omega), List.drop_of_length_le (by omega)]
                rw [List.getD_eq_getElem?_getD, List.getElem?_eq_getElem (by omega)]
                rfl
              rw [this, List.mem_singleton, hk] at h3
              exact h3
          have : i = k := by omega
          subst this
          right
          have h2 : s'.at_.getD i [] = s.at_.getD i [] := h2
          exact ⟨v, by rw [h2]; exact hv, i3⟩
      · exact .inr (Dn.up (s := ⟨s.at_, s.met, s.todo.take n⟩) h3 i2 h2)
    · exact .inl h1
theorem loop_inv {fs : List MFunc} {f : MFunc} (hok : FnOk fs f) (hty : FnTy fs f) : ∀ (k : Nat) {s : FSt}, FOk f.code.length s → Inv fs f s → Wk fs f s → Tm s → mu f.code.length s ≤ 4000 → mu f.code.length s < k →
    (∀ s', loopS fs f k s = some s' → FOk f.code.length s' ∧ Inv fs f s' ∧ (∀ i : Nat, s'.met.getD i false = true → Dn fs f s' i)) ∧ (loopS fs f k s = none → ∀ M, ¬ StM fs f M)
  | 0, _, _, _, _, _, _, h => absurd h (Nat.not_lt_zero _)
  | k + 1, s, hF, hI, hW, hT, h4, hk => by
    simp only [loopS]
    by_cases h0 : s.todo.length = 0
    · simp only [h0, if_true]
      refine ⟨fun s' e => ?_, fun e => (by cases e)⟩
      simp only [Option.some.injEq] at e
      subst e
      refine ⟨hF, hI, fun i hi => ?_⟩
      rcases hW i hi with h | h
      · rw [List.eq_nil_of_length_eq_zero h0] at h; cases h
      · exact h
    · simp only [h0, if_false]
      have htl : s.todo.length ≤ 4000 := by unfold mu at h4; omega
      obtain ⟨c1, c2⟩ := step_inv hok hty hF hI hW hT (by omega) htl
      cases e : stepS fs f s with
      | none => exact ⟨fun s' h => (by cases h), fun _ => c2 e⟩
      | some s1 =>
        obtain ⟨i1, i2, i3⟩ := c1 s1 e
        obtain ⟨j1, j2⟩ := stepS_ok hok hF (by omega) htl e
        exact loop_inv hok hty k j1 i1 i2 i3 (by omega) (by omega)
def MO (s : FSt) (i : Nat) : Option (List Int) := if s.met.getD i false = true then some (s.at_.getD i []) else none
theorem MO_some {s : FSt} {i : Nat} {t : List Int} : MO s i = some t ↔ s.met.getD i false = true ∧ s.at_.getD i [] = t := by
  unfold MO
  split
  · rename_i h
    exact ⟨fun e => ⟨h, Option.some.inj e⟩, fun e => by rw [e.2]⟩
  · rename_i h
    exact ⟨fun e => (by cases e), fun e => absurd e.1 h⟩
/-- The fitter's answer: the least solution; or there is none. -/
theorem entS_least {fs : List MFunc} {f : MFunc} (hok : FnOk fs f) (hty : FnTy fs f) (hn : 0 < f.code.length) :
    (∀ s, entS fs f = some s → FOk f.code.length s ∧ StM fs f (MO s) ∧ ∀ M, StM fs f M → ∀ i t, MO s i = some t → ∃ u, M i = some u ∧ Le t u) ∧ (entS fs f = none → ∀ M, ¬ StM fs f M) := by
  have hst : startS f.code.length = ⟨(List.replicate f.code.length ([] : List Int)).set 0 [], (List.replicate f.code.length false).set 0 true, [0]⟩ := by
    unfold startS comeS start0
    rw [if_neg (by omega), if_neg (by rw [rep_none]; decide)]
    rfl
  have hA : ∀ i, (startS f.code.length).at_.getD i [] = [] := fun i => by
    rw [hst]
    show ((List.replicate f.code.length ([] : List Int)).set 0 []).getD i [] = []
    rw [getD_set (by simpa using hn)]
    split
    · rfl
    · exact rep_none _ _ _
  have hM : ∀ i, (startS f.code.length).met.getD i false = if i = 0 then true else false := fun i => by
    rw [hst]
    show ((List.replicate f.code.length false).set 0 true).getD i false = _
    rw [getD_set (by simpa using hn)]
    split
    · rfl
    · exact rep_none _ _ _
  have z : ∀ i, (startS f.code.length).met.getD i false = true → i = 0 := fun i h => by
    rw [hM] at h
    by_cases e : i = 0
    · exact e
    · rw [if_neg e] at h; cases h
  have hI : Inv fs f (startS f.code.length) := ⟨by rw [hM]; rfl, hA 0, fun i _ => by rw [hA]; exact fun _ h => (by cases h), fun M h i hi => by
    have := z i hi
    subst this
    exact ⟨[], h.m0, by rw [hA]; exact .refl _⟩⟩
  have hW : Wk fs f (startS f.code.length) := fun i hi => by
    have := z i hi
    subst this
    left
    rw [hst]
    simp
  have hT : Tm (startS f.code.length) := fun x hx => by
    rw [hst] at hx
    have : x = 0 := by simpa using hx
    subst this
    rw [hM]; rfl
  obtain ⟨o1, o2⟩ := startS_ok hn
  have h40 := hok.n40
  obtain ⟨c1, c2⟩ := loop_inv hok hty (mu f.code.length (startS f.code.length) + 1) o1 hI hW hT (by omega) (by omega)
  refine ⟨fun s e => ?_, c2⟩
  obtain ⟨k1, k2, k3⟩ := c1 s e
  refine ⟨k1, ⟨MO_some.2 ⟨k2.m0, k2.a0⟩, fun i t h => ?_⟩, fun M hMs i t h => ?_⟩
  · obtain ⟨h1, h2⟩ := MO_some.1 h
    subst h2
    refine ⟨met_lt k1 h1, k2.ty i h1, ?_⟩
    obtain ⟨v, h3, h4⟩ := k3 i h1
    refine ⟨v, h3, fun q hq => ?_⟩
    obtain ⟨h5, h6⟩ := h4 q hq
    exact ⟨_, MO_some.2 ⟨h5, rfl⟩, h6⟩
  · obtain ⟨h1, h2⟩ := MO_some.1 h
    subst h2
    exact k2.le M hMs i h1
/-- What Check says of a program makes its types right. -/
theorem fn_ty {fs : List MFunc} (h : checkP fs = 0) {k : Nat} (hk : k < fs.length) : FnTy fs (fnAt fs k) := by
  obtain ⟨_, _, hall⟩ := checkP_zero h
  obtain ⟨_, _, _, h4, _⟩ := oneE_all (hall _ (fnAt_mem hk))
  refine ⟨fun t ht => ?_, fun j hj => ?_⟩
  · have := h4 t ht; omega
  · obtain ⟨_, _, g3, _⟩ := oneE_all (hall _ (fnAt_mem hj))
    exact g3
end Go.Proofs.Ytejpkcheimgdfaa

-- VT3
/- Verify: sweeps over the places find what the fitter finds; plain facts, no program in sight. -/
namespace Go.Proofs.Ytejpkcheimgdfaa

theorem phi_le {n : Nat} {s : FSt} (h : FOk n s) : phi n s ≤ 9 * n := by
  have key : ∀ m : Nat, ((List.range m).map (phiAt s)).sum ≤ 9 * m := fun m => by
    induction m with
    | zero => simp
    | succ m ih =>
      rw [List.range_succ, List.map_append, List.sum_append]
      have : phiAt s m ≤ 9 := by
        unfold phiAt
        split
        · have := nulls_le (s.at_.getD m []); have := h.st m; omega
        · exact Nat.le_refl _
      simp only [List.map_cons, List.map_nil, List.sum_cons, List.sum_nil]
      omega
  exact key n
theorem come_same {n : Nat} {s : FSt} {k : Nat} {l : List Int} : (comeS n s k l).2 = s ∨ (comeS n s k l).2.todo = s.todo ++ [(k : Int)] := by
  unfold comeS
  repeat (first | exact .inl rfl | exact .inr rfl | split)
theorem comes_same {n : Nat} : ∀ {L : List Int} {s s' : FSt} {l : List Int}, comesS n s L l = some s' → s'.todo = [] → s' = s
  | [], s, s', l, e, _ => by
    simp only [comesS, Option.some.injEq] at e
    exact e.symm
  | a :: L, s, s', l, e, h => by
    simp only [comesS] at e
    split at e
    · have h1 := comes_same e h
      rcases come_same (n := n) (s := s) (k := a.toNat) (l := l) with h2 | h2
      · rw [h1, h2]
      · rw [← h1, h] at h2
        have := congrArg List.length h2
        simp at this
    · cases e
theorem comes_todo {n : Nat} {s : FSt} {k : Nat} {l : List Int} : decide (0 < (comeS n s k l).2.todo.length) = true ∨ (comeS n s k l).2 = s := by
  rcases come_same (n := n) (s := s) (k := k) (l := l) with h | h
  · exact .inr h
  · left; rw [h]; simp
/-- A sweep that has come to a place. -/
structure Sw (fs : List MFunc) (f : MFunc) (s0 : FSt) (i : Nat) (s : FSt) : Prop where
  ok : FOk f.code.length s
  inv : Inv fs f s
  mu_ : mu f.code.length s ≤ mu f.code.length s0
  dn : s.todo = [] → s = s0 ∧ ∀ j, j < i → s.met.getD j false = true → Dn fs f s j
theorem Sw.todo {fs : List MFunc} {f : MFunc} {s0 s : FSt} {i : Nat} (h : Sw fs f s0 i s) (h0 : FOk f.code.length s0) (ht : s0.todo = []) (hn : f.code.length ≤ 40) : s.todo.length ≤ 360 := by
  have h1 := h.mu_
  have h2 := phi_le h0
  unfold mu at h1
  rw [ht] at h1
  simp only [List.length_nil] at h1
  omega
theorem Sw.start {fs : List MFunc} {f : MFunc} {s0 : FSt} (h : FOk f.code.length s0) (hi : Inv fs f s0) : Sw fs f s0 0 s0 := ⟨h, hi, Nat.le_refl _, fun _ => ⟨rfl, fun _ hj => absurd hj (Nat.not_lt_zero _)⟩⟩
theorem Sw.skip {fs : List MFunc} {f : MFunc} {s0 s : FSt} {i : Nat} (h : Sw fs f s0 i s) (hm : ¬ s.met.getD i false = true) : Sw fs f s0 (i + 1) s :=
  ⟨h.ok, h.inv, h.mu_, fun e => ⟨(h.dn e).1, fun j hj hj2 => by
    by_cases e2 : j = i
    · subst e2; exact absurd hj2 hm
    · exact (h.dn e).2 j (by omega) hj2⟩⟩
/-- On which an op does not fit: no solution. -/
theorem Sw.bad {fs : List MFunc} {f : MFunc} {s0 s : FSt} {i : Nat} (h : Sw fs f s0 i s) (hm : s.met.getD i false = true) (hv : tryO fs f (opAt f.code i) (s.at_.getD i []) = none) (M : Nat → Option (List Int)) : ¬ StM fs f M := fun hM => by
  obtain ⟨t, h1, h2⟩ := h.inv.le M hM i hm
  obtain ⟨_, _, v, h3, _⟩ := hM.ok i t h1
  obtain ⟨u, h4, _⟩ := tryO_mono h2 h3
  rw [hv] at h4
  cases h4
/-- The places after, some of them. -/
theorem Sw.comes {fs : List MFunc} {f : MFunc} (hok : FnOk fs f) (hty : FnTy fs f) {s0 s : FSt} {i : Nat} (h : Sw fs f s0 i s) (h0 : FOk f.code.length s0) (ht : s0.todo = []) (hi : i < f.code.length) (hm : s.met.getD i false = true) {v : List Int} (hv : tryO fs f (opAt f.code i) (s.at_.getD i []) = some v)
    {L : List Int} (hL : ∀ q ∈ L, q ∈ afterL (opAt f.code i) i) (hl4 : L.length ≤ 4) :
    (∀ s', comesS f.code.length s L v = some s' → Inv fs f s' ∧ Up s s' ∧ ∀ q ∈ L, s'.met.getD q.toNat false = true ∧ Le v (s'.at_.getD q.toNat [])) ∧ (comesS f.code.length s L v = none → ∀ M, ¬ StM fs f M) := by
  have h36 := h.todo h0 ht hok.n40
  exact comes_inv h.ok h.inv (fun q hq => hok.to_ i hi q (hL q hq)) (tryO_len hv) (by omega) (tryO_ty hty (hok.op i hi) (h.inv.ty i hm) hv) (fun M hM q hq => by
      obtain ⟨t, h1, h2⟩ := h.inv.le M hM i hm
      obtain ⟨_, _, v', h3, h4⟩ := hM.ok i t h1
      obtain ⟨u, h5, h6⟩ := tryO_mono h2 h3
      rw [hv] at h5
      cases h5
      obtain ⟨s', h7, h8⟩ := h4 q (hL q hq)
      exact ⟨s', h7, h6.trans h8⟩)
theorem Sw.step {fs : List MFunc} {f : MFunc} (hok : FnOk fs f) (hty : FnTy fs f) {s0 s : FSt} {i : Nat} (h : Sw fs f s0 i s) (h0 : FOk f.code.length s0) (ht : s0.todo = []) (hi : i < f.code.length) (hm : s.met.getD i false = true) {v : List Int} (hv : tryO fs f (opAt f.code i) (s.at_.getD i []) = some v)
    {s' : FSt} (e : comesS f.code.length s (afterL (opAt f.code i) i) v = some s') : Sw fs f s0 (i + 1) s' := by
  have h36 := h.todo h0 ht hok.n40
  have hl2 := afterL_len (opAt f.code i) i
  obtain ⟨k1, k2, k3⟩ := (h.comes hok hty h0 ht hi hm hv (fun q hq => hq) (by omega)).1 s' e
  have hc := comesS_ok h.ok (hok.to_ i hi) (tryO_len hv) (by omega) e
  have hmu := comesS_mu h.ok (hok.to_ i hi) (tryO_len hv) (by omega) e
  refine ⟨hc.1, k1, Nat.le_trans hmu h.mu_, fun e0 => ?_⟩
  have es := comes_same e e0
  subst es
  obtain ⟨d1, d2⟩ := h.dn e0
  refine ⟨d1, fun j hj hj2 => ?_⟩
  by_cases e2 : j = i
  · subst e2; exact ⟨v, hv, k3⟩
  · exact d2 j (by omega) hj2
/-- A sweep that changed something leaves less to do. -/
theorem Sw.again {fs : List MFunc} {f : MFunc} {s0 s : FSt} {i : Nat} (h : Sw fs f s0 i s) (h0 : s0.todo = []) (hne : s.todo ≠ []) : FOk f.code.length ⟨s.at_, s.met, []⟩ ∧ Inv fs f ⟨s.at_, s.met, []⟩ ∧ phi f.code.length ⟨s.at_, s.met, []⟩ < phi f.code.length s0 := by
  refine ⟨⟨h.ok.al, h.ok.ml, by simp, h.ok.st, fun x hx => by cases hx⟩, ⟨h.inv.m0, h.inv.a0, h.inv.ty, h.inv.le⟩, ?_⟩
  have h1 := h.mu_
  unfold mu at h1
  rw [h0] at h1
  simp only [List.length_nil] at h1
  have h2 := List.length_pos_iff.2 hne
  show phi f.code.length s < _
  omega
theorem ents_fail {fs : List MFunc} {f : MFunc} (hok : FnOk fs f) (hty : FnTy fs f) (hn : 0 < f.code.length) (h : ∀ M, ¬ StM fs f M) : entriesS fs f = ([], false) := by
  unfold entriesS
  cases e : entS fs f with
  | none => rfl
  | some s => exact absurd ((entS_least hok hty hn).1 s e).2.1 (h _)
theorem ents_done {fs : List MFunc} {f : MFunc} (hok : FnOk fs f) (hty : FnTy fs f) (hn : 0 < f.code.length) {s : FSt} (hF : FOk f.code.length s) (hI : Inv fs f s) (hd : ∀ i : Nat, s.met.getD i false = true → Dn fs f s i) : entriesS fs f = (entU s f.code.length, true) := by
  have hst : StM fs f (MO s) := ⟨MO_some.2 ⟨hI.m0, hI.a0⟩, fun i t h => by
    obtain ⟨h1, h2⟩ := MO_some.1 h
    subst h2
    refine ⟨met_lt hF h1, hI.ty i h1, ?_⟩
    obtain ⟨v, h3, h4⟩ := hd i h1
    refine ⟨v, h3, fun q hq => ?_⟩
    obtain ⟨h5, h6⟩ := h4 q hq
    exact ⟨_, MO_some.2 ⟨h5, rfl⟩, h6⟩⟩
  unfold entriesS
  cases e : entS fs f with
  | none => exact absurd hst ((entS_least hok hty hn).2 e _)
  | some s' =>
    obtain ⟨k1, k2, k3⟩ := (entS_least hok hty hn).1 s' e
    show (entU s' f.code.length, true) = _
    congr 1
    unfold entU
    congr 1
    funext i
    by_cases hm : s.met.getD i false = true
    · obtain ⟨t, h1, h2⟩ := hI.le _ k2 i hm
      obtain ⟨h3, h4⟩ := MO_some.1 h1
      subst h4
      obtain ⟨u, h5, h6⟩ := k3 _ hst i _ h1
      obtain ⟨_, h7⟩ := MO_some.1 h5
      subst h7
      rw [if_pos hm, if_pos h3, h2.anti h6]
    · rw [if_neg hm, if_neg]
      intro h3
      obtain ⟨u, h5, _⟩ := k3 _ hst i _ (MO_some.2 ⟨h3, rfl⟩)
      exact hm (MO_some.1 h5).1
/-- Where the sweeps begin. -/
def sw0 (n : Nat) : FSt := ⟨List.replicate n [], (List.replicate n false).set 0 true, []⟩
theorem sw0_ok {fs : List MFunc} {f : MFunc} (hn : 0 < f.code.length) : FOk f.code.length (sw0 f.code.length) ∧ Inv fs f (sw0 f.code.length) := by
  have hA : ∀ i, (sw0 f.code.length).at_.getD i [] = [] := fun i => rep_none _ _ _
  have hM : ∀ i, (sw0 f.code.length).met.getD i false = if i = 0 then true else false := fun i => by
    show ((List.replicate f.code.length false).set 0 true).getD i false = _
    rw [getD_set (by simpa using hn)]
    split
    · rfl
    · exact rep_none _ _ _
  refine ⟨⟨by simp [sw0], by simp [sw0], by simp [sw0], fun i => by rw [hA]; simp, fun x hx => by cases hx⟩, ⟨by rw [hM]; rfl, hA 0, fun i _ => by rw [hA]; exact fun _ h => (by cases h), fun M h i hi => ?_⟩⟩
  rw [hM] at hi
  by_cases e : i = 0
  · subst e; exact ⟨[], h.m0, by rw [hA]; exact .refl _⟩
  · rw [if_neg e] at hi; cases hi
end Go.Proofs.Ytejpkcheimgdfaa

-- Fl4
/- Flow: Next and Back. -/
namespace Go.Proofs.Ytejpkcheimgdfaa
open Go.RowKit

theorem nextE_ok {l : List MOp} {pc : Int} (h : nextE l pc = 0) : flowE l = 0 ∧ 0 ≤ pc ∧ pc < l.length := by
  unfold nextE at h
  split at h
  · rename_i h0
    split at h
    · cases h
    · exact ⟨h0, by omega, by omega⟩
  · rename_i h0; exact absurd h h0
theorem backE_ok {l : List MOp} {pc : Int} (h : backE l pc = 0) : flowE l = 0 ∧ 0 ≤ pc ∧ pc ≤ l.length := by
  unfold backE at h
  split at h
  · rename_i h0
    split at h
    · cases h
    · exact ⟨h0, by omega, by omega⟩
  · rename_i h0; exact absurd h h0
theorem nextR_of {l : List MOp} {k : Nat} (h : nextE l k = 0) : nextR l k = nextL l k := by unfold nextR; rw [if_pos h]; rfl
theorem nextR_no {l : List MOp} {pc : Int} (h : ¬ nextE l pc = 0) : nextR l pc = [] := by unfold nextR; rw [if_neg h]
theorem backR_of {l : List MOp} {pc : Int} (h : backE l pc = 0) : backR l pc = backL l pc := by unfold backR; rw [if_pos h]
theorem backR_no {l : List MOp} {pc : Int} (h : ¬ backE l pc = 0) : backR l pc = [] := by unfold backR; rw [if_neg h]

theorem after_as (A : Option Addr) (c : Nat) (l : List MOp) (pc : Nat) (w : World) (hs : Sl w (.slice A l.length c) l) (hp : pc < l.length) {L : List Int} (e : afterL (opAt l pc) pc = L) :
    Calls Try.prog 61 #[.slice A l.length c, .int .i64 (pc : Int)] w fun e w' => ∃ g : Option Addr × Nat, True ∧ e = .returned (.slice g.1 L.length g.2) ∧ Cw w.heap.size w [ROw (.slice g.1 L.length g.2) L] w' := e ▸ after_any A c l pc w hs hp
set_option maxRecDepth 100000 in
theorem next_any (A : Option Addr) (c : Nat) (l : List MOp) (pc : Int) (w : World) (hs : Sl w (.slice A l.length c) l) :
    Calls Try.prog 33 #[.slice A l.length c, .int .i64 pc] w fun e w' => ∃ g : Option Addr × Nat, True ∧ e = .returned (.tuple #[.slice g.1 (nextR l pc).length g.2, .int .i64 (nextE l pc)]) ∧ Cw w.heap.size w [ROw (.slice g.1 (nextR l pc).length g.2) (nextR l pc)] w' := by
  have b1 := len_bd hs
  refine enter Try.func33 rfl Try.ntmps33 rfl ?_
  refine cw_seq ?_
  refine cw_region ?_
  refine rw_run tab_ok 2 [(0, _), (1, _)] rfl ⟨rfl, rfl, trivial⟩ ?_
  refine rw_end ?_
  refine cw_seq ?_
  refine cw_region ?_
  refine rw_run tab_ok 1 [(0, _), (1, _), (7, _)] rfl ⟨rfl, rfl, rfl, trivial⟩ ?_
  refine rw_op (ot_c0 rfl rfl rfl Try.call57 (fun w hw => ready_any A c l w (hw.ro hs))) rfl rfl (fun _ _ => ?_)
  refine rw_run tab_ok 1 [(0, _), (1, _), (6, _)] rfl ⟨rfl, rfl, rfl, trivial⟩ ?_
  refine rw_end ?_
  refine cw_cut (fun g : Int => g = nextE l pc) (fun g => [(0, .slice A l.length c), (1, .int .i64 pc), (6, .int .i64 g)]) (fun _ => []) ?_ ?_
  · refine cw_seq ?_
    refine cw_region ?_
    refine rw_run tab_ok 3 [(0, _), (1, _), (6, _), (11, _)] rfl ⟨rfl, rfl, rfl, rfl, trivial⟩ ?_
    refine rw_split (t := 11) rfl (fun h0 => ?_) (fun h0 => ?_)
    · have h0 := of_decide_eq_true h0
      refine rw_run tab_ok 3 [(0, _), (1, _), (6, _), (11, _), (14, _)] rfl ⟨rfl, rfl, rfl, rfl, rfl, trivial⟩ ?_
      refine rw_split (t := 14) rfl (fun h1 => ?_) (fun h1 => ?_)
      · have h1 := of_decide_eq_true h1
        refine rw_run tab_ok 6 [(0, _), (1, _), (6, _), (20, _)] rfl ⟨rfl, rfl, rfl, rfl, trivial⟩ ?_
        refine rw_end ?_
        refine cw_cond_t rfl ?_
        refine cw_region ?_
        refine rw_run tab_ok 1 [(0, _), (1, _), (6, _)] rfl ⟨rfl, rfl, rfl, trivial⟩ ?_
        refine rw_join 3 (by unfold nextE; rw [if_pos h0, if_pos (.inl h1)]) ⟨rfl, rfl, rfl, trivial⟩ me
      · have h1 := of_decide_eq_false h1
        refine rw_run tab_ok 2 [(0, _), (1, _), (6, _), (11, _), (14, _), (15, _), (16, _)] rfl ⟨rfl, rfl, rfl, rfl, rfl, rfl, rfl, trivial⟩ ?_
        refine rw_s (qs_len Try.underlying52 rfl rfl) rfl rfl ?_
        refine rw_run tab_ok 3 [(0, _), (1, _), (6, _), (20, _)] rfl ⟨rfl, rfl, rfl, rfl, trivial⟩ ?_
        refine rw_end ?_
        refine cw_condD rfl (fun h2 => ?_) (fun h2 => ?_)
        · refine cw_region ?_
          refine rw_run tab_ok 1 [(0, _), (1, _), (6, _)] rfl ⟨rfl, rfl, rfl, trivial⟩ ?_
          refine rw_join 3 (by unfold nextE; rw [if_pos h0, if_pos (.inr h2)]) ⟨rfl, rfl, rfl, trivial⟩ me
        · refine cw_skip ?_
          refine xw_join (flowE l) (by unfold nextE; rw [if_pos h0, if_neg (by omega)]; exact h0) ⟨rfl, rfl, rfl, trivial⟩ me
    · have h0 := of_decide_eq_false h0
      refine rw_run tab_ok 9 [(0, _), (1, _), (6, _), (20, _)] rfl ⟨rfl, rfl, rfl, rfl, trivial⟩ ?_
      refine rw_end ?_
      refine cw_cond_f rfl ?_
      refine cw_skip ?_
      refine xw_join (flowE l) (by unfold nextE; rw [if_neg h0]) ⟨rfl, rfl, rfl, trivial⟩ me
  · rintro g rfl
    refine cw_seq ?_
    refine cw_seq ?_
    refine cw_region ?_
    refine rw_run tab_ok 2 [(0, _), (1, _), (6, _), (22, _)] rfl ⟨rfl, rfl, rfl, rfl, trivial⟩ ?_
    refine rw_end ?_
    refine cw_condN rfl (fun hz => ?_) (fun hz => ?_)
    · have e := nextR_no hz
      refine cw_seq ?_
      refine cw_region ?_
      refine rw_run tab_ok 3 [(4, _), (5, _)] rfl ⟨rfl, rfl, trivial⟩ ?_
      refine rw_end ?_
      refine cw_ret (xw_thenr ?_)
      refine xw_ret2 Try.results33 (rv_tmp rfl) (rv_tmp rfl) ?_
      intro w hw
      refine ⟨(none, 0), trivial, by rw [e]; rfl, ?_⟩
      rw [e]
      exact (Cw.nilO Int hw).msub ms
    · obtain ⟨hf, h1, h2⟩ := nextE_ok hz
      obtain ⟨k, rfl⟩ := Int.eq_ofNat_of_zero_le h1
      have hk : k < l.length := by omega
      have e : afterL (opAt l k) k = nextR l k := by rw [nextR_of hz, after_next hf hk]
      refine cw_skip (xw_then ?_)
      refine cw_seq ?_
      refine cw_region ?_
      refine rw_run tab_ok 2 [(24, _), (25, _)] rfl ⟨rfl, rfl, trivial⟩ ?_
      refine rw_op (ot_c rfl rfl rfl Try.call61 (fun w hw => after_as A c l k w (hw.ro hs) hk e)) rfl rfl (fun ⟨A1, c1⟩ _ => ?_)
      try dsimp only
      refine rw_run tab_ok 2 [(4, _), (5, _)] rfl ⟨rfl, rfl, trivial⟩ ?_
      refine rw_end ?_
      refine cw_ret ?_
      refine xw_ret2 Try.results33 (rv_tmp rfl) (rv_tmp rfl) ?_
      intro w hw
      exact ⟨(A1, c1), trivial, by rw [hz], hw.msub ms⟩
set_option maxRecDepth 100000 in
theorem back_any (A : Option Addr) (c : Nat) (l : List MOp) (pc : Int) (w : World) (hs : Sl w (.slice A l.length c) l) :
    Calls Try.prog 56 #[.slice A l.length c, .int .i64 pc] w fun e w' => ∃ g : Option Addr × Nat, True ∧ e = .returned (.tuple #[.slice g.1 (backR l pc).length g.2, .int .i64 (backE l pc)]) ∧ Cw w.heap.size w [ROw (.slice g.1 (backR l pc).length g.2) (backR l pc)] w' := by
  have b1 := len_bd hs
  refine enter Try.func56 rfl Try.ntmps56 rfl ?_
  refine cw_seq ?_
  refine cw_region ?_
  refine rw_run tab_ok 2 [(0, _), (1, _)] rfl ⟨rfl, rfl, trivial⟩ ?_
  refine rw_end ?_
  refine cw_seq ?_
  refine cw_region ?_
  refine rw_run tab_ok 1 [(0, _), (1, _), (9, _)] rfl ⟨rfl, rfl, rfl, trivial⟩ ?_
  refine rw_op (ot_c0 rfl rfl rfl Try.call57 (fun w hw => ready_any A c l w (hw.ro hs))) rfl rfl (fun _ _ => ?_)
  refine rw_run tab_ok 1 [(0, _), (1, _), (6, _)] rfl ⟨rfl, rfl, rfl, trivial⟩ ?_
  refine rw_end ?_
  refine cw_cut (fun g : Int => g = backE l pc) (fun g => [(0, .slice A l.length c), (1, .int .i64 pc), (6, .int .i64 g)]) (fun _ => []) ?_ ?_
  · refine cw_seq ?_
    refine cw_region ?_
    refine rw_run tab_ok 3 [(0, _), (1, _), (6, _), (13, _)] rfl ⟨rfl, rfl, rfl, rfl, trivial⟩ ?_
    refine rw_split (t := 13) rfl (fun h0 => ?_) (fun h0 => ?_)
    · have h0 := of_decide_eq_true h0
      refine rw_run tab_ok 3 [(0, _), (1, _), (6, _), (13, _), (16, _)] rfl ⟨rfl, rfl, rfl, rfl, rfl, trivial⟩ ?_
      refine rw_split (t := 16) rfl (fun h1 => ?_) (fun h1 => ?_)
      · have h1 := of_decide_eq_true h1
        refine rw_run tab_ok 6 [(0, _), (1, _), (6, _), (22, _)] rfl ⟨rfl, rfl, rfl, rfl, trivial⟩ ?_
        refine rw_end ?_
        refine cw_cond_t rfl ?_
        refine cw_region ?_
        refine rw_run tab_ok 1 [(0, _), (1, _), (6, _)] rfl ⟨rfl, rfl, rfl, trivial⟩ ?_
        refine rw_join 3 (by unfold backE; rw [if_pos h0, if_pos (.inl h1)]) ⟨rfl, rfl, rfl, trivial⟩ me
      · have h1 := of_decide_eq_false h1
        refine rw_run tab_ok 2 [(0, _), (1, _), (6, _), (13, _), (16, _), (17, _), (18, _)] rfl ⟨rfl, rfl, rfl, rfl, rfl, rfl, rfl, trivial⟩ ?_
        refine rw_s (qs_len Try.underlying52 rfl rfl) rfl rfl ?_
        refine rw_run tab_ok 3 [(0, _), (1, _), (6, _), (22, _)] rfl ⟨rfl, rfl, rfl, rfl, trivial⟩ ?_
        refine rw_end ?_
        refine cw_condD rfl (fun h2 => ?_) (fun h2 => ?_)
        · refine cw_region ?_
          refine rw_run tab_ok 1 [(0, _), (1, _), (6, _)] rfl ⟨rfl, rfl, rfl, trivial⟩ ?_
          refine rw_join 3 (by unfold backE; rw [if_pos h0, if_pos (.inr h2)]) ⟨rfl, rfl, rfl, trivial⟩ me
        · refine cw_skip ?_
          refine xw_join (flowE l) (by unfold backE; rw [if_pos h0, if_neg (by omega)]; exact h0) ⟨rfl, rfl, rfl, trivial⟩ me
    · have h0 := of_decide_eq_false h0
      refine rw_run tab_ok 9 [(0, _), (1, _), (6, _), (22, _)] rfl ⟨rfl, rfl, rfl, rfl, trivial⟩ ?_
      refine rw_end ?_
      refine cw_cond_f rfl ?_
      refine cw_skip ?_
      refine xw_join (flowE l) (by unfold backE; rw [if_neg h0]) ⟨rfl, rfl, rfl, trivial⟩ me
  · rintro g rfl
    refine cw_seq ?_
    refine cw_seq ?_
    refine cw_region ?_
    refine rw_run tab_ok 2 [(0, _), (1, _), (6, _), (24, _)] rfl ⟨rfl, rfl, rfl, rfl, trivial⟩ ?_
    refine rw_end ?_
    refine cw_condN rfl (fun hz => ?_) (fun hz => ?_)
    · have e := backR_no hz
      refine cw_seq ?_
      refine cw_region ?_
      refine rw_run tab_ok 3 [(4, _), (5, _)] rfl ⟨rfl, rfl, trivial⟩ ?_
      refine rw_end ?_
      refine cw_ret (xw_thenr ?_)
      refine xw_ret2 Try.results56 (rv_tmp rfl) (rv_tmp rfl) ?_
      intro w hw
      refine ⟨(none, 0), trivial, by rw [e]; rfl, ?_⟩
      rw [e]
      exact (Cw.nilO Int hw).msub ms
    · have h40 := codeErr_len (flowE_zero (backE_ok hz).1).1
      refine cw_skip (xw_then ?_)
      refine cw_seq ?_
      refine cw_region ?_
      refine rw_run tab_ok 1 [(0, _), (1, _), (7, _)] rfl ⟨rfl, rfl, rfl, trivial⟩ ?_
      refine rw_end ?_
      refine cw_seq ?_
      refine cw_seq ?_
      refine cw_region ?_
      refine rw_run tab_ok 1 [(0, _), (1, _), (7, _), (26, _)] rfl ⟨rfl, rfl, rfl, rfl, trivial⟩ ?_
      refine rw_s (qs_len Try.underlying52 rfl rfl) rfl rfl ?_
      refine rw_run tab_ok 1 [(0, _), (1, _), (7, _), (27, _), (28, _)] rfl ⟨rfl, rfl, rfl, rfl, rfl, trivial⟩ ?_
      refine rw_end ?_
      refine cw_mem (fun w h => Cw.nilO Int h) ?_
      refine cw_block (cw_loop (fun g : Nat × Option Addr × Nat => g.1 ≤ l.length) (fun g => l.length - g.1) (fun g => [(0, .slice A l.length c), (1, .int .i64 pc), (7, .slice g.2.1 ((upto g.1).filter (fun i : Int => goesOn (opAt l i.toNat) i pc)).length g.2.2), (27, .int .i64 (l.length : Int)), (28, .int .i64 (g.1 : Int))]) (fun g => [ROw (.slice g.2.1 ((upto g.1).filter (fun i : Int => goesOn (opAt l i.toNat) i pc)).length g.2.2) ((upto g.1).filter (fun i : Int => goesOn (opAt l i.toNat) i pc))]) (0, none, 0) (Nat.zero_le _) ⟨rfl, rfl, rfl, rfl, rfl, trivial⟩ me ?_)
      rintro ⟨k, A1, c1⟩ hk'
      try dsimp only
      have hk : k ≤ l.length := hk'
      have hfl := filter_len (fun i : Int => goesOn (opAt l i.toNat) i pc) k
      refine cw_seq ?_
      refine cw_region ?_
      refine rw_run tab_ok 1 [(0, _), (1, _), (7, _), (27, _), (28, _), (29, _)] rfl ⟨rfl, rfl, rfl, rfl, rfl, rfl, trivial⟩ ?_
      refine rw_end ?_
      refine cw_seq ?_
      refine cw_condD rfl (fun hlt => ?_) (fun hlt => ?_)
      · have hkl : k < l.length := by omega
        refine cw_skip (xw_then ?_)
        refine cw_seq ?_
        refine cw_block ?_
        refine cw_seq ?_
        refine cw_region ?_
        refine rw_run tab_ok 2 [(0, _), (1, _), (7, _), (8, _), (27, _), (28, _)] rfl ⟨rfl, rfl, rfl, rfl, rfl, rfl, trivial⟩ ?_
        refine rw_end ?_
        refine cw_seq ?_
        refine cw_region ?_
        refine rw_run tab_ok 2 [(0, _), (1, _), (7, _), (8, _), (27, _), (28, _), (31, _), (32, _)] rfl ⟨rfl, rfl, rfl, rfl, rfl, rfl, rfl, rfl, trivial⟩ ?_
        refine rw_op (ot_c rfl rfl rfl Try.call61 (fun w hw => after_any A c l k w (hw.ro hs) hkl)) rfl rfl (fun ⟨A2, c2⟩ _ => ?_)
        try dsimp only
        refine rw_run tab_ok 1 [(0, _), (1, _), (7, _), (8, _), (27, _), (28, _), (33, _), (34, _)] rfl ⟨rfl, rfl, rfl, rfl, rfl, rfl, rfl, rfl, trivial⟩ ?_
        refine rw_op (ot_c0 rfl rfl rfl Try.call81 ((fun w hw => cbelow ((fun w hw => contains_int _ (afterL (opAt l k) k) pc w (SF.at_ (SF.own rfl fc) hw)) w hw)))) rfl rfl (fun _ _ => ?_)
        refine rw_end ?_
        refine cw_cond rfl (fun hg => ?_) (fun hg => ?_)
        · have hg : (fun i : Int => goesOn (opAt l i.toNat) i pc) (k : Int) = true := (after_contains (opAt l k) k pc).symm.trans hg
          refine cw_region ?_
          refine rw_run tab_ok 2 [(0, _), (1, _), (27, _), (28, _), (36, _), (37, _)] rfl ⟨rfl, rfl, rfl, rfl, rfl, rfl, trivial⟩ ?_
          refine rw_op (ot_bsl (cs := [_]) Try.underlying35 Try.sizeOf3 Try.zeroValue3 rfl rfl rfl rfl rfl) rfl rfl (fun g1 _ => ?_)
          refine rw_op (ot_app1 (α := Int) (bytes := 8) (k : Int) [] (filter_yes hg) Try.underlying35 (info_ex Try.inI) rfl (perm2 fc fc) (hel_int (by unfold I64; omega)) (by omega) (by omega) rfl rfl rfl) rfl rfl (fun ⟨A4, c4⟩ _ => ?_)
          try dsimp only
          refine rw_run tab_ok 1 [(0, _), (1, _), (7, _), (27, _), (28, _)] rfl ⟨rfl, rfl, rfl, rfl, rfl, trivial⟩ ?_
          refine rw_endx (xw_blkn (xw_then ?_))
          refine cw_region ?_
          refine rw_s (qs_add rfl rfl rfl (by omega)) rfl rfl ?_
          refine rw_run tab_ok 1 [(0, _), (1, _), (7, _), (27, _), (28, _)] rfl ⟨rfl, rfl, rfl, rfl, rfl, trivial⟩ ?_
          refine rw_round (k + 1, A4, c4) (by show k + 1 ≤ _; omega) (by show _ - _ < _ - _; omega) ⟨rfl, rfl, rfl, rfl, rfl, trivial⟩ me
        · have hg : ¬ (fun i : Int => goesOn (opAt l i.toNat) i pc) (k : Int) = true := by rw [show (fun i : Int => goesOn (opAt l i.toNat) i pc) (k : Int) = false from (after_contains (opAt l k) k pc).symm.trans hg]; decide
          refine cw_skip (xw_blkn (xw_then ?_))
          refine cw_region ?_
          refine rw_s (qs_add rfl rfl rfl (by omega)) rfl rfl ?_
          refine rw_run tab_ok 1 [(0, _), (1, _), (7, _), (27, _), (28, _)] rfl ⟨rfl, rfl, rfl, rfl, rfl, trivial⟩ ?_
          rw [← filter_no hg]
          refine rw_round (k + 1, A1, c1) (by show k + 1 ≤ _; omega) (by show _ - _ < _ - _; omega) ⟨rfl, rfl, rfl, rfl, rfl, trivial⟩ me
      · obtain rfl : k = l.length := by omega
        refine cw_exit (xw_thenx (xw_thenx (xw_blk (xw_then ?_))))
        refine cw_seq ?_
        refine cw_region ?_
        refine rw_run tab_ok 3 [(4, _), (5, _)] rfl ⟨rfl, rfl, trivial⟩ ?_
        refine rw_end ?_
        refine cw_ret ?_
        refine xw_ret2 Try.results56 (rv_tmp rfl) (rv_tmp rfl) ?_
        intro w hw
        have e := backR_of hz
        refine ⟨(A1, c1), trivial, by rw [e, hz]; rfl, ?_⟩
        rw [e]
        exact hw.msub ms
end Go.Proofs.Ytejpkcheimgdfaa

