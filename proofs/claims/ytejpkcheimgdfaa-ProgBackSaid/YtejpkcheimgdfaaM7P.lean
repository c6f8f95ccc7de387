/- Texts of one proof, one behind the other: lemmas alone. -/
import Derived.Test.YtejpkcheimgdfaaM6P
import Derived.Test.YtejpkcheimgdfaaM5P
import Derived.Test.YtejpkcheimgdfaaM3P
import Derived.Test.YtejpkcheimgdfaaM1P
import Derived.Test.YtejpkcheimgdfaaRows
import Derived.ProofKit
import Derived.Deep.Slices
import Derived.SizedLaws
import Derived.OpenShut
import Derived.ShutString
import Derived.ChangeOld
import Derived.Test.YtejpkcheimgdfaaM2P

-- V11
/- Verify: Func, Program, Join. -/
namespace Go.Proofs.Ytejpkcheimgdfaa
open Go.RowKit

theorem fnAt_mem {fs : List MFunc} {k : Nat} (hk : k < fs.length) : fnAt fs k ∈ fs := by
  unfold fnAt
  rw [List.getD_eq_getElem?_getD, List.getElem?_eq_getElem hk]
  exact List.getElem_mem hk
/-- What Check says of a program makes its functions right. -/
theorem fn_ok {fs : List MFunc} (h : checkP fs = 0) {k : Nat} (hk : k < fs.length) : FnOk fs (fnAt fs k) ∧ 0 < (fnAt fs k).code.length := by
  obtain ⟨_, _, hall⟩ := checkP_zero h
  obtain ⟨_, _, h3, h4, h5, h6, h7⟩ := oneE_all (hall _ (fnAt_mem hk))
  obtain ⟨h40, _⟩ := codeErr_ops h6
  refine ⟨⟨fun i hi => ?_, fun i hi q hq => ?_, h40⟩, by omega⟩
  · have hf := h7 _ (opAt_mem hi)
    refine ⟨fun hc => ?_, fun hc => ?_, fun j hj => ?_, ⟨by omega, by omega⟩⟩
    · unfold fitsO at hf
      rw [if_pos hc] at hf
      have := within_iff.1 hf
      omega
    · unfold fitsO at hf
      rw [if_neg (by omega), if_neg (by omega), if_pos hc] at hf
      have := within_iff.1 hf
      omega
    · obtain ⟨g1, g2, _⟩ := oneE_all (hall _ (fnAt_mem hj))
      exact ⟨g2, g1⟩
  · have hf := h7 _ (opAt_mem hi)
    have hg := (after_mem (opAt (fnAt fs k).code i) i q).1 hq
    have hjz : ((opAt (fnAt fs k).code i).c = 10 ∨ (opAt (fnAt fs k).code i).c = 11) → 0 ≤ (opAt (fnAt fs k).code i).a ∧ (opAt (fnAt fs k).code i).a < (fnAt fs k).code.length := fun hc => by
      unfold fitsO at hf
      rw [if_neg (by omega), if_pos hc] at hf
      have := within_iff.1 hf
      omega
    unfold goesOn at hg
    split at hg
    · simp at hg
    · split at hg
      · rename_i hc
        have := hjz (.inl hc)
        simp at hg
        omega
      · split at hg
        · rename_i hc
          have := hjz (.inr hc)
          simp at hg
          omega
        · simp at hg
          omega
def funcS (fs : List MFunc) (z : Int) : List MEntry × Int :=
  if checkP fs ≠ 0 then ([], checkP fs) else if z < 0 ∨ (fs.length : Int) ≤ z then ([], 3) else if (entriesS fs (fnAt fs z.toNat)).2 = true then ((entriesS fs (fnAt fs z.toNat)).1, 0) else ([], 4)
def progS (fs : List MFunc) : Int := if checkP fs ≠ 0 then checkP fs else if fs.all (fun f => (entriesS fs f).2) = true then 0 else 4
theorem all_take_snoc {α : Type} {p : α → Bool} {l : List α} {k : Nat} (d : α) (hk : k < l.length) : (l.take (k + 1)).all p = ((l.take k).all p && p (l.getD k d)) := by
  rw [List.take_add_one, List.getElem?_eq_getElem hk, List.getD_eq_getElem?_getD, List.getElem?_eq_getElem hk, List.all_append]
  simp
set_option maxRecDepth 100000 in
set_option maxHeartbeats 1000000 in
theorem vfunc_own (A : Option Addr) (c : Nat) (fs : List MFunc) (z : Int) (w : World) (hs : Sl w (.slice A fs.length c) fs) :
    Calls Try.prog 18 #[.agg #[.slice A fs.length c], .int .i64 z] w fun e w' => ∃ g : (Option Addr × Nat) × List HEnt × List (Value × List Int), RelE g.2.1 g.2.2 (funcS fs z).1 ∧ e = .returned (.tuple #[.slice g.1.1 g.2.1.length g.1.2, .int .i64 (funcS fs z).2]) ∧
      Cw w.heap.size w [ROw (.slice g.1.1 g.2.1.length g.1.2) g.2.1, RPool g.2.2] w' := by
  have b1 := len_bd hs
  refine enter Try.func18 rfl Try.ntmps18 rfl ?_
  refine cw_seq ?_
  refine cw_region ?_
  refine rw_op (ot_box rfl rfl rfl) rfl rfl (fun g1 _ => ?_)
  refine rw_run tab_ok 2 [(1, _), (2, _)] rfl ⟨rfl, rfl, trivial⟩ ?_
  refine rw_end ?_
  refine cw_seq ?_
  refine cw_region ?_
  refine rw_s (qs_ldbA (vs := [_]) fc Try.isAgg24 Try.sizeOf24 rfl rfl (by rfl) rfl) rfl rfl ?_
  obtain ⟨E, hE⟩ : ∃ E : Int, (if checkP fs ≠ 0 then checkP fs else if z < 0 ∨ (fs.length : Int) ≤ z then 3 else 0) = E := ⟨_, rfl⟩
  refine rw_op (ot_c0 rfl rfl rfl Try.call16 (fun w hw => pcheck_any A c fs w (hw.ro hs))) rfl rfl (fun _ _ => ?_)
  refine rw_run tab_ok 1 [(1, _), (2, _), (6, _)] rfl ⟨rfl, rfl, rfl, trivial⟩ ?_
  refine rw_end ?_
  refine cw_cut (fun _ : Unit => True) (fun _ => [(1, .int .i64 z), (2, .pointer (some ⟨g1, 0, none⟩)), (6, .int .i64 E)]) (fun _ => [RBox g1 [.slice A fs.length c] 24]) ?_ ?_
  · refine cw_seq ?_
    refine cw_region ?_
    refine rw_run tab_ok 3 [(1, _), (2, _), (6, _), (13, _)] rfl ⟨rfl, rfl, rfl, rfl, trivial⟩ ?_
    refine rw_split (t := 13) rfl (fun h1 => ?_) (fun h1 => ?_)
    · have h1 := of_decide_eq_true h1
      rw [if_neg (by simpa using h1)] at hE
      refine rw_run tab_ok 3 [(1, _), (2, _), (6, _), (13, _), (16, _)] rfl ⟨rfl, rfl, rfl, rfl, rfl, trivial⟩ ?_
      refine rw_split (t := 16) rfl (fun h2 => ?_) (fun h2 => ?_)
      · have h2 := of_decide_eq_true h2
        rw [if_pos (.inl h2)] at hE
        subst hE
        refine rw_run tab_ok 7 [(1, _), (2, _), (6, _), (23, _)] rfl ⟨rfl, rfl, rfl, rfl, trivial⟩ ?_
        refine rw_end ?_
        refine cw_cond_t rfl ?_
        refine cw_region ?_
        refine rw_run tab_ok 1 [(1, _), (2, _), (6, _)] rfl ⟨rfl, rfl, rfl, trivial⟩ ?_
        refine rw_join () (trivial) ⟨rfl, rfl, rfl, trivial⟩ me
      · have h2 := of_decide_eq_false h2
        refine rw_run tab_ok 2 [(1, _), (2, _), (6, _), (13, _), (16, _), (17, _), (18, _)] rfl ⟨rfl, rfl, rfl, rfl, rfl, rfl, rfl, trivial⟩ ?_
        refine rw_s (qs_ldb fc Try.isAgg22 rfl rfl (by rfl)) rfl rfl ?_
        refine rw_s (qs_len Try.underlying22 rfl rfl) rfl rfl ?_
        refine rw_run tab_ok 3 [(1, _), (2, _), (6, _), (23, _)] rfl ⟨rfl, rfl, rfl, rfl, trivial⟩ ?_
        refine rw_end ?_
        refine cw_condD rfl (fun h3 => ?_) (fun h3 => ?_)
        · rw [if_pos (.inr (by omega))] at hE
          subst hE
          refine cw_region ?_
          refine rw_run tab_ok 1 [(1, _), (2, _), (6, _)] rfl ⟨rfl, rfl, rfl, trivial⟩ ?_
          refine rw_join () (trivial) ⟨rfl, rfl, rfl, trivial⟩ me
        · rw [if_neg (by omega)] at hE
          subst hE
          rw [h1]
          refine cw_skip ?_
          refine xw_join () (trivial) ⟨rfl, rfl, rfl, trivial⟩ me
    · have h1 := of_decide_eq_false h1
      rw [if_pos h1] at hE
      subst hE
      refine rw_run tab_ok 10 [(1, _), (2, _), (6, _), (23, _)] rfl ⟨rfl, rfl, rfl, rfl, trivial⟩ ?_
      refine rw_end ?_
      refine cw_cond_f rfl ?_
      refine cw_skip ?_
      refine xw_join () (trivial) ⟨rfl, rfl, rfl, trivial⟩ me
  · rintro _ _
    refine cw_seq ?_
    refine cw_seq ?_
    refine cw_region ?_
    refine rw_run tab_ok 2 [(1, _), (2, _), (6, _), (25, _)] rfl ⟨rfl, rfl, rfl, rfl, trivial⟩ ?_
    refine rw_end ?_
    refine cw_condN rfl (fun h0 => ?_) (fun h0 => ?_)
    · have hf : funcS fs z = ([], E) := by
        unfold funcS
        by_cases h1 : checkP fs = 0
        · rw [if_neg (by simpa using h1)] at hE ⊢
          by_cases h2 : z < 0 ∨ (fs.length : Int) ≤ z
          · rw [if_pos h2] at hE ⊢; rw [hE]
          · rw [if_neg h2] at hE; exact absurd hE.symm h0
        · rw [if_pos h1] at hE ⊢; rw [hE]
      rw [hf]
      refine cw_seq ?_
      refine cw_region ?_
      refine rw_run tab_ok 3 [(4, _), (5, _)] rfl ⟨rfl, rfl, trivial⟩ ?_
      refine rw_end ?_
      refine cw_ret (xw_thenr ?_)
      refine xw_ret2 Try.results18 (rv_tmp rfl) (rv_tmp rfl) ?_
      intro w hw
      exact ⟨((none, 0), [], []), .nil_, rfl, Cw.nilO HEnt (pool_nil (hw.msub (T := []) ms))⟩
    · subst h0
      have h1 : checkP fs = 0 := by
        by_cases h1 : checkP fs = 0
        · exact h1
        · rw [if_pos h1] at hE; exact absurd hE h1
      rw [if_neg (by simpa using h1)] at hE
      have h2 : ¬ (z < 0 ∨ (fs.length : Int) ≤ z) := fun h => by rw [if_pos h] at hE; cases hE
      obtain ⟨k, rfl⟩ : ∃ k : Nat, z = (k : Int) := ⟨z.toNat, by omega⟩
      have hk : k < fs.length := by omega
      obtain ⟨hok, hn0⟩ := fn_ok h1 hk
      have hf : funcS fs (k : Int) = if (entriesS fs (fnAt fs k)).2 = true then ((entriesS fs (fnAt fs k)).1, 0) else ([], 4) := by
        unfold funcS
        rw [if_neg (by simpa using h1), if_neg h2, Int.toNat_natCast]
      refine cw_skip (xw_then ?_)
      refine cw_seq ?_
      refine cw_region ?_
      refine rw_s (qs_ldbA (vs := [_]) fc Try.isAgg24 Try.sizeOf24 rfl rfl (by rfl) rfl) rfl rfl ?_
      refine rw_run tab_ok 1 [(28, _), (29, _)] rfl ⟨rfl, rfl, trivial⟩ ?_
      refine rw_op (ot_c rfl rfl rfl Try.call49 (fun w hw => entries_own A c fs k w (hw.ro hs) hk hok hn0)) rfl rfl (fun ⟨⟨A1, c1⟩, es, L⟩ hre => ?_)
      try dsimp only
      refine rw_run tab_ok 5 [(7, _), (8, _)] rfl ⟨rfl, rfl, trivial⟩ ?_
      refine rw_end ?_
      refine cw_seq ?_
      refine cw_seq ?_
      refine cw_region ?_
      refine rw_run tab_ok 2 [(7, _), (34, _)] rfl ⟨rfl, rfl, trivial⟩ ?_
      refine rw_end ?_
      refine cw_cond rfl (fun h3 => ?_) (fun h3 => ?_)
      · rw [hf, if_neg (by simpa using h3)]
        refine cw_seq ?_
        refine cw_region ?_
        refine rw_run tab_ok 2 [(4, _), (5, _)] rfl ⟨rfl, rfl, trivial⟩ ?_
        refine rw_end ?_
        refine cw_ret (xw_thenr ?_)
        refine xw_ret2 Try.results18 (rv_tmp rfl) (rv_tmp rfl) ?_
        intro w hw
        exact ⟨((none, 0), [], []), .nil_, rfl, Cw.nilO HEnt (pool_nil (hw.msub (T := []) ms))⟩
      · rw [hf, if_pos (by simpa using h3)]
        refine cw_skip (xw_then ?_)
        refine cw_seq ?_
        refine cw_region ?_
        refine rw_run tab_ok 3 [(4, _), (5, _)] rfl ⟨rfl, rfl, trivial⟩ ?_
        refine rw_end ?_
        refine cw_ret ?_
        refine xw_ret2 Try.results18 (rv_tmp rfl) (rv_tmp rfl) ?_
        intro w hw
        exact ⟨((A1, c1), es, L), hre, rfl, hw.msub ms⟩
theorem vfunc_any (A : Option Addr) (c : Nat) (fs : List MFunc) (z : Int) (w : World) (hs : Sl w (.slice A fs.length c) fs) :
    Calls Try.prog 18 #[.agg #[.slice A fs.length c], .int .i64 z] w fun e w' => ∃ g : Option Addr × Nat, True ∧ e = .returned (.tuple #[.slice g.1 (funcS fs z).1.length g.2, .int .i64 (funcS fs z).2]) ∧
      Cw w.heap.size w [RRd (.slice g.1 (funcS fs z).1.length g.2) (funcS fs z).1] w' :=
  (vfunc_own A c fs z w hs).mono fun e w' ⟨g, h1, h2, h3⟩ => ⟨g.1, trivial, by rw [← h1.len]; exact h2, by rw [← h1.len]; exact freeze_of (Hel := [ROw (.slice g.1.1 g.2.1.length g.1.2) g.2.1, RPool g.2.2]) (H := []) (read_ents h1) h3⟩
set_option maxRecDepth 100000 in
set_option maxHeartbeats 1000000 in
theorem vprog_any (A : Option Addr) (c : Nat) (fs : List MFunc) (w : World) (hs : Sl w (.slice A fs.length c) fs) :
    Calls Try.prog 25 #[.agg #[.slice A fs.length c]] w fun e w' => e = .returned (.int .i64 (progS fs)) ∧ Below w.heap.size w w' := by
  have b1 := len_bd hs
  refine enter Try.func25 rfl Try.ntmps25 rfl ?_
  refine cw_seq ?_
  refine cw_region ?_
  refine rw_op (ot_box rfl rfl rfl) rfl rfl (fun g1 _ => ?_)
  refine rw_run tab_ok 1 [(1, _)] rfl ⟨rfl, trivial⟩ ?_
  refine rw_end ?_
  refine cw_seq ?_
  refine cw_seq ?_
  refine cw_region ?_
  refine rw_s (qs_ldbA (vs := [_]) fc Try.isAgg24 Try.sizeOf24 rfl rfl (by rfl) rfl) rfl rfl ?_
  refine rw_op (ot_c0 rfl rfl rfl Try.call16 (fun w hw => pcheck_any A c fs w (hw.ro hs))) rfl rfl (fun _ _ => ?_)
  refine rw_run tab_ok 1 [(1, _), (3, _)] rfl ⟨rfl, rfl, trivial⟩ ?_
  refine rw_end ?_
  refine cw_seq ?_
  refine cw_region ?_
  refine rw_run tab_ok 2 [(1, _), (3, _), (10, _)] rfl ⟨rfl, rfl, rfl, trivial⟩ ?_
  refine rw_end ?_
  refine cw_condN rfl (fun h0 => ?_) (fun h0 => ?_)
  · refine cw_seq ?_
    refine cw_region ?_
    refine rw_run tab_ok 2 [(2, _)] rfl ⟨rfl, trivial⟩ ?_
    refine rw_end ?_
    refine cw_ret (xw_thenr ?_)
    refine xw_ret1 Try.results25 (rv_tmp rfl) ?_
    intro w hw
    exact ⟨reti (by unfold progS; rw [if_pos h0]), hw.below⟩
  · have hp : progS fs = if fs.all (fun f => (entriesS fs f).2) = true then 0 else 4 := by unfold progS; rw [if_neg (by simpa using h0)]
    refine cw_skip (xw_then ?_)
    refine cw_seq ?_
    refine cw_seq ?_
    refine cw_region ?_
    refine rw_run tab_ok 1 [(1, _), (12, _)] rfl ⟨rfl, rfl, trivial⟩ ?_
    refine rw_s (qs_ldb fc Try.isAgg22 rfl rfl (by rfl)) rfl rfl ?_
    refine rw_s (qs_len Try.underlying22 rfl rfl) rfl rfl ?_
    refine rw_run tab_ok 1 [(1, _), (14, _), (15, _)] rfl ⟨rfl, rfl, rfl, trivial⟩ ?_
    refine rw_end ?_
    refine cw_block (cw_loop (fun k : Nat => k ≤ fs.length ∧ (fs.take k).all (fun f => (entriesS fs f).2) = true) (fun k => fs.length - k) (fun k => [(1, .pointer (some ⟨g1, 0, none⟩)), (14, .int .i64 (fs.length : Int)), (15, .int .i64 (k : Int))]) (fun _ => [RBox g1 [.slice A fs.length c] 24]) 0 (⟨Nat.zero_le _, rfl⟩) ⟨rfl, rfl, rfl, trivial⟩ me ?_)
    rintro k hk'
    obtain ⟨hk, hall⟩ : k ≤ fs.length ∧ (fs.take k).all (fun f => (entriesS fs f).2) = true := hk'
    refine cw_seq ?_
    refine cw_region ?_
    refine rw_run tab_ok 1 [(1, _), (14, _), (15, _), (16, _)] rfl ⟨rfl, rfl, rfl, rfl, trivial⟩ ?_
    refine rw_end ?_
    refine cw_seq ?_
    refine cw_condD rfl (fun hlt => ?_) (fun hlt => ?_)
    · have hkl : k < fs.length := by omega
      obtain ⟨hok, hn0⟩ := fn_ok h0 hkl
      have hsn := all_take_snoc (p := fun f => (entriesS fs f).2) (default : MFunc) hkl
      refine cw_skip (xw_then ?_)
      refine cw_seq ?_
      refine cw_block ?_
      refine cw_seq ?_
      refine cw_region ?_
      refine rw_run tab_ok 2 [(1, _), (4, _), (14, _), (15, _)] rfl ⟨rfl, rfl, rfl, rfl, trivial⟩ ?_
      refine rw_end ?_
      refine cw_seq ?_
      refine cw_region ?_
      refine rw_s (qs_ldbA (vs := [_]) fc Try.isAgg24 Try.sizeOf24 rfl rfl (by rfl) rfl) rfl rfl ?_
      refine rw_run tab_ok 1 [(1, _), (14, _), (15, _), (19, _), (20, _)] rfl ⟨rfl, rfl, rfl, rfl, rfl, trivial⟩ ?_
      refine rw_op (ot_c rfl rfl rfl Try.call49 (fun w hw => entries_any A c fs k w (hw.ro hs) hkl hok hn0)) rfl rfl (fun ⟨A1, c1⟩ _ => ?_)
      try dsimp only
      refine rw_run tab_ok 5 [(1, _), (6, _), (14, _), (15, _)] rfl ⟨rfl, rfl, rfl, rfl, trivial⟩ ?_
      refine rw_end ?_
      refine cw_seq ?_
      refine cw_region ?_
      refine rw_run tab_ok 2 [(1, _), (14, _), (15, _), (25, _)] rfl ⟨rfl, rfl, rfl, rfl, trivial⟩ ?_
      refine rw_end ?_
      refine cw_cond rfl (fun h3 => ?_) (fun h3 => ?_)
      · have h3 : (entriesS fs (fnAt fs k)).2 = false := by simpa using h3
        refine cw_seq ?_
        refine cw_region ?_
        refine rw_run tab_ok 1 [(2, _)] rfl ⟨rfl, trivial⟩ ?_
        refine rw_end ?_
        refine cw_ret (xw_blkr (xw_thenr (xw_thenr (xw_blkr (xw_thenr ?_)))))
        refine xw_ret1 Try.results25 (rv_tmp rfl) ?_
        intro w hw
        refine ⟨reti ?_, hw.below⟩
        rw [hp, if_neg]
        intro h
        rw [List.all_eq_true] at h
        have := h _ (fnAt_mem hkl)
        rw [h3] at this
        cases this
      · have h3 : (entriesS fs (fnAt fs k)).2 = true := by simpa using h3
        refine cw_skip (xw_blkn (xw_then ?_))
        refine cw_region ?_
        refine rw_s (qs_add rfl rfl rfl (by omega)) rfl rfl ?_
        refine rw_run tab_ok 1 [(1, _), (14, _), (15, _)] rfl ⟨rfl, rfl, rfl, trivial⟩ ?_
        refine rw_round (k + 1) (⟨hkl, by rw [hsn, hall]; exact h3⟩) (by show _ - _ < _ - _; omega) ⟨rfl, rfl, rfl, trivial⟩ me
    · obtain rfl : k = fs.length := by omega
      rw [List.take_length] at hall
      refine cw_exit (xw_thenx (xw_thenx (xw_blk (xw_then ?_))))
      refine cw_seq ?_
      refine cw_region ?_
      refine rw_run tab_ok 1 [(2, _)] rfl ⟨rfl, trivial⟩ ?_
      refine rw_end ?_
      refine cw_ret ?_
      refine xw_ret1 Try.results25 (rv_tmp rfl) ?_
      intro w hw
      exact ⟨reti (by rw [hp, if_pos hall]), hw.below⟩
theorem joinE_le {a b : List Int} (h : joinE a b = 0) : a.length ≤ 8 ∧ b.length ≤ 8 := by
  unfold joinE at h
  split at h
  · cases h
  split at h
  · cases h
  split at h
  · cases h
  · omega
theorem Try.hdrs (A1 A2 : Option Addr) (n1 n2 c1 c2 : Nat) : ∀ x ∈ [(⟨.slice A1 n1 c1⟩ : Hdr), ⟨.slice A2 n2 c2⟩], FOw.wf x := by
  intro x hx
  rcases List.mem_cons.1 hx with rfl | hx
  · rfl
  · rw [List.mem_singleton.1 hx]; rfl
set_option maxRecDepth 100000 in
set_option maxHeartbeats 2000000 in
theorem join_any (A1 A2 : Option Addr) (c1 c2 : Nat) (a b : List Int) (w : World) (h1 : Sl w (.slice A1 a.length c1) a) (h2 : Sl w (.slice A2 b.length c2) b) :
    Calls Try.prog 19 #[.slice A1 a.length c1, .slice A2 b.length c2] w fun e w' => ∃ u, e = .returned (.tuple #[u, .int .i64 (joinE a b)]) ∧ Below w.heap.size w w' ∧ OwN w' w.heap.size u (joinR a b) := by
  have b1 := len_bd h1
  have b2 := len_bd h2
  refine enter Try.func19 rfl Try.ntmps19 rfl ?_
  refine cw_seq ?_
  refine cw_region ?_
  refine rw_run tab_ok 2 [(0, _), (1, _)] rfl ⟨rfl, rfl, trivial⟩ ?_
  refine rw_end ?_
  refine cw_seq ?_
  refine cw_seq ?_
  refine cw_region ?_
  refine rw_run tab_ok 2 [(0, _), (1, _), (10, _), (11, _)] rfl ⟨rfl, rfl, rfl, rfl, trivial⟩ ?_
  refine rw_op (ot_bsl (cs := [_, _]) Try.underlying58 Try.sizeOf35 Try.zeroValue35 rfl rfl rfl rfl rfl) rfl rfl (fun g1 _ => ?_)
  refine rw_s (qs_len Try.underlying58 rfl rfl) rfl rfl ?_
  refine rw_run tab_ok 1 [(0, _), (1, _), (12, _), (13, _), (14, _)] rfl ⟨rfl, rfl, rfl, rfl, rfl, trivial⟩ ?_
  refine rw_end ?_
  refine cw_mem (fun w h => row_ow (α := Hdr) (m := 2) [⟨.slice A1 a.length c1⟩, ⟨.slice A2 b.length c2⟩] rfl (Try.hdrs _ _ _ _ _ _) rfl (by decide) h) ?_
  refine cw_cutk (fun _ : Unit => a.any badT = false ∧ b.any badT = false) (fun _ => [(0, .slice A1 a.length c1), (1, .slice A2 b.length c2)]) (fun _ => []) ?_ ?_
  · refine cw_block (cw_loop (fun i : Nat => i ≤ 2 ∧ ((0 < i → a.any badT = false) ∧ (1 < i → b.any badT = false))) (fun i => 2 - i) (fun i => [(0, .slice A1 a.length c1), (1, .slice A2 b.length c2), (12, .slice (some ⟨g1, 0, none⟩) 2 2), (13, .int .i64 2), (14, .int .i64 (i : Int))]) (fun _ => [ROw (.slice (some ⟨g1, 0, none⟩) 2 2) [(⟨.slice A1 a.length c1⟩ : Hdr), ⟨.slice A2 b.length c2⟩]]) 0 (⟨by decide, by omega, by omega⟩) ⟨rfl, rfl, rfl, rfl, rfl, trivial⟩ me ?_)
    rintro i hi'
    obtain ⟨hi, hia, hib⟩ : i ≤ 2 ∧ ((0 < i → a.any badT = false) ∧ (1 < i → b.any badT = false)) := hi'
    refine cw_seq ?_
    refine cw_region ?_
    refine rw_run tab_ok 1 [(0, _), (1, _), (12, _), (13, _), (14, _), (15, _)] rfl ⟨rfl, rfl, rfl, rfl, rfl, rfl, trivial⟩ ?_
    refine rw_end ?_
    refine cw_seq ?_
    refine cw_condD rfl (fun hlt => ?_) (fun hlt => ?_)
    · have hil : i < 2 := by omega
      obtain ⟨Ai, ci, li, hli, hv, hcase⟩ : ∃ Ai ci li, Sl w (.slice Ai li.length ci) li ∧ ([(⟨.slice A1 a.length c1⟩ : Hdr), ⟨.slice A2 b.length c2⟩].getD i nilH).v = .slice Ai li.length ci ∧ ((i = 0 ∧ li = a) ∨ (i = 1 ∧ li = b)) := by
        rcases (show i = 0 ∨ i = 1 from by omega) with rfl | rfl
        · exact ⟨A1, c1, a, h1, rfl, .inl ⟨rfl, rfl⟩⟩
        · exact ⟨A2, c2, b, h2, rfl, .inr ⟨rfl, rfl⟩⟩
      refine cw_skip (xw_then ?_)
      refine cw_seq ?_
      refine cw_block ?_
      refine cw_seq ?_
      refine cw_region ?_
      refine rw_s (qs_idx Try.underlying58 Try.sizeOf35 (SF.own (α := Hdr) (xs := [⟨.slice A1 a.length c1⟩, ⟨.slice A2 b.length c2⟩]) (m := 2) rfl fc) (by omega) rfl rfl rfl) rfl rfl ?_
      refine rw_s (qs_ld (v := .slice Ai li.length ci) (by rw [← hv]; exact SF.hdr (SF.own (m := 2) rfl fc) hil) rfl rfl Try.isAgg35) rfl rfl ?_
      refine rw_run tab_ok 1 [(0, _), (1, _), (7, _), (12, _), (13, _), (14, _)] rfl ⟨rfl, rfl, rfl, rfl, rfl, rfl, trivial⟩ ?_
      refine rw_end ?_
      refine cw_seq ?_
      refine cw_region ?_
      refine rw_run tab_ok 1 [(0, _), (1, _), (12, _), (13, _), (14, _), (18, _)] rfl ⟨rfl, rfl, rfl, rfl, rfl, rfl, trivial⟩ ?_
      refine rw_op (ot_c0 rfl rfl rfl Try.call50 (fun w hw => containsfInt Ai ci li 51 #[] badT w (hw.ro hli) Try.call51 (fun w1 _ x _ => badT_any x w1))) rfl rfl (fun _ _ => ?_)
      refine rw_end ?_
      refine cw_cond rfl (fun hb => ?_) (fun hb => ?_)
      · have hj : joinE a b = 6 := by
          unfold joinE
          rcases hcase with ⟨_, rfl⟩ | ⟨rfl, rfl⟩
          · rw [if_pos hb]
          · rw [if_neg (by rw [hia (by omega)]; decide), if_pos hb]
        have hr : joinR a b = [] := by unfold joinR; rw [hj]; rfl
        refine cw_seq ?_
        refine cw_region ?_
        refine rw_run tab_ok 2 [(4, _), (5, _)] rfl ⟨rfl, rfl, trivial⟩ ?_
        refine rw_end ?_
        refine cw_ret (xw_blkr (xw_thenr (xw_thenr (xw_blkr (xw_thenr ?_)))))
        refine xw_ret2 Try.results19 (rv_tmp rfl) (rv_tmp rfl) ?_
        intro w hw
        rw [hj, hr]
        exact ⟨_, rfl, nil_ret hw⟩
      · refine cw_skip (xw_blkn (xw_then ?_))
        refine cw_region ?_
        refine rw_s (qs_add rfl rfl rfl (by omega)) rfl rfl ?_
        refine rw_run tab_ok 1 [(0, _), (1, _), (12, _), (13, _), (14, _)] rfl ⟨rfl, rfl, rfl, rfl, rfl, trivial⟩ ?_
        refine rw_round (i + 1) (⟨hil, by rcases hcase with ⟨_, rfl⟩ | ⟨rfl, rfl⟩; (· exact ⟨fun _ => hb, by omega⟩); (· exact ⟨fun _ => hia (by omega), fun _ => hb⟩)⟩) (by show _ - _ < _ - _; omega) ⟨rfl, rfl, rfl, rfl, rfl, trivial⟩ me
    · refine cw_exit (xw_thenx (xw_thenx (xw_blk ?_)))
      refine xw_join () (⟨hia (by omega), hib (by omega)⟩) ⟨rfl, rfl, trivial⟩ me
  · rintro _ ⟨ha, hb⟩
    have hj : joinE a b = if 8 < a.length ∨ 8 < b.length then 2 else if joinL a b = none then 4 else 0 := by
      unfold joinE
      rw [if_neg (by rw [ha]; decide), if_neg (by rw [hb]; decide)]
    refine cw_cut (fun _ : Unit => ¬ (8 < a.length ∨ 8 < b.length)) (fun _ => [(0, .slice A1 a.length c1), (1, .slice A2 b.length c2)]) (fun _ => []) ?_ ?_
    · refine cw_seq ?_
      refine cw_region ?_
      refine rw_run tab_ok 1 [(0, _), (1, _), (21, _)] rfl ⟨rfl, rfl, rfl, trivial⟩ ?_
      refine rw_s (qs_len Try.underlying35 rfl rfl) rfl rfl ?_
      refine rw_run tab_ok 2 [(0, _), (1, _), (24, _)] rfl ⟨rfl, rfl, rfl, trivial⟩ ?_
      refine rw_split (t := 24) rfl (fun h8 => ?_) (fun h8 => ?_)
      · have h8 := of_decide_eq_true h8
        have h8 : (8 : Int) < a.length := h8
        rw [if_pos (.inl (by omega))] at hj
        have hr : joinR a b = [] := by unfold joinR; rw [hj]; rfl
        refine rw_run tab_ok 4 [(0, _), (1, _), (28, _)] rfl ⟨rfl, rfl, rfl, trivial⟩ ?_
        refine rw_end ?_
        refine cw_cond_t rfl ?_
        refine cw_seq ?_
        refine cw_region ?_
        refine rw_run tab_ok 2 [(4, _), (5, _)] rfl ⟨rfl, rfl, trivial⟩ ?_
        refine rw_end ?_
        refine cw_ret (xw_thenr ?_)
        refine xw_ret2 Try.results19 (rv_tmp rfl) (rv_tmp rfl) ?_
        intro w hw
        rw [hj, hr]
        exact ⟨_, rfl, nil_ret hw⟩
      · have h8 := of_decide_eq_false h8
        have h8 : ¬ (8 : Int) < a.length := h8
        refine rw_run tab_ok 1 [(0, _), (1, _), (24, _), (25, _)] rfl ⟨rfl, rfl, rfl, rfl, trivial⟩ ?_
        refine rw_s (qs_len Try.underlying35 rfl rfl) rfl rfl ?_
        refine rw_run tab_ok 2 [(0, _), (1, _), (28, _)] rfl ⟨rfl, rfl, rfl, trivial⟩ ?_
        refine rw_end ?_
        refine cw_condD rfl (fun h9 => ?_) (fun h9 => ?_)
        · have h9 : (8 : Int) < b.length := h9
          rw [if_pos (.inr (by omega))] at hj
          have hr : joinR a b = [] := by unfold joinR; rw [hj]; rfl
          refine cw_seq ?_
          refine cw_region ?_
          refine rw_run tab_ok 2 [(4, _), (5, _)] rfl ⟨rfl, rfl, trivial⟩ ?_
          refine rw_end ?_
          refine cw_ret (xw_thenr ?_)
          refine xw_ret2 Try.results19 (rv_tmp rfl) (rv_tmp rfl) ?_
          intro w hw
          rw [hj, hr]
          exact ⟨_, rfl, nil_ret hw⟩
        · have h9 : ¬ (8 : Int) < b.length := h9
          refine cw_skip ?_
          refine xw_join () (by omega) ⟨rfl, rfl, trivial⟩ me
    · rintro _ h8
      have h8 : ¬ (8 < a.length ∨ 8 < b.length) := h8
      rw [if_neg h8] at hj
      refine cw_seq ?_
      refine cw_region ?_
      refine rw_run tab_ok 2 [(30, _), (31, _)] rfl ⟨rfl, rfl, trivial⟩ ?_
      refine rw_op (ot_cO rfl rfl rfl Try.call52 (fun w hw => joined_any A1 A2 c1 c2 a b w (hw.ro h1) (hw.ro h2) (by omega))) rfl rfl (fun ⟨A4, c4⟩ _ => ?_)
      try dsimp only
      refine rw_run tab_ok 5 [(8, _), (9, _)] rfl ⟨rfl, rfl, trivial⟩ ?_
      refine rw_end ?_
      refine cw_seq ?_
      refine cw_seq ?_
      refine cw_region ?_
      refine rw_run tab_ok 2 [(8, _), (36, _)] rfl ⟨rfl, rfl, trivial⟩ ?_
      refine rw_end ?_
      refine cw_cond rfl (fun h9 => ?_) (fun h9 => ?_)
      · have h9 : joinL a b = none := by
          cases e : joinL a b with
          | none => rfl
          | some j => rw [e] at h9; cases h9
        rw [if_pos h9] at hj
        have hr : joinR a b = [] := by unfold joinR; rw [hj]; rfl
        refine cw_seq ?_
        refine cw_region ?_
        refine rw_run tab_ok 2 [(4, _), (5, _)] rfl ⟨rfl, rfl, trivial⟩ ?_
        refine rw_end ?_
        refine cw_ret (xw_thenr ?_)
        refine xw_ret2 Try.results19 (rv_tmp rfl) (rv_tmp rfl) ?_
        intro w hw
        rw [hj, hr]
        exact ⟨_, rfl, nil_ret hw⟩
      · have h9 : ¬ joinL a b = none := fun e => by rw [e] at h9; cases h9
        rw [if_neg h9] at hj
        have hr : joinR a b = (joinL a b).getD [] := by unfold joinR; rw [if_pos hj]
        refine cw_skip (xw_then ?_)
        refine cw_seq ?_
        refine cw_region ?_
        refine rw_run tab_ok 3 [(4, _), (5, _)] rfl ⟨rfl, rfl, trivial⟩ ?_
        refine rw_end ?_
        refine cw_ret ?_
        refine xw_ret2 Try.results19 (rv_tmp rfl) (rv_tmp rfl) ?_
        intro w hw
        rw [hj, hr]
        exact ⟨_, rfl, own_ret hw⟩
end Go.Proofs.Ytejpkcheimgdfaa

-- Pr13
/- Programs: the square; what must be in any case. -/
namespace Go.Proofs.Ytejpkcheimgdfaa
open Go.RowKit

def squareM : List MFunc := [⟨0, [], 0, [⟨21, 0⟩, ⟨12, 1⟩, ⟨20, 0⟩, ⟨10, 0⟩]⟩, ⟨1, [1], 1, [⟨8, 0⟩, ⟨3, 0⟩, ⟨7, 0⟩, ⟨13, 0⟩]⟩]
set_option maxRecDepth 100000 in
set_option maxHeartbeats 1000000 in
theorem square_any (w : World) : Calls Try.prog 46 #[] w fun e w' => ∃ g : Nat, True ∧ e = .returned (.agg #[.slice (some ⟨g, 0, none⟩) 2 2]) ∧ Cw w.heap.size w [ROw (.slice (some ⟨g, 0, none⟩) 2 2) squareM] w' := by
  refine enter Try.func46 rfl Try.ntmps46 rfl ?_
  refine cw_seq ?_
  refine cw_region ?_
  refine rw_op (ot_alloc Try.zeroValue24 rfl rfl) rfl rfl (fun g1 _ => ?_)
  refine rw_end ?_
  refine cw_seq ?_
  refine cw_region ?_
  refine rw_s (qs_bst (cs := [_, _]) plT61 Try.zeroValue61 rfl rfl (by rfl)) rfl rfl ?_
  refine rw_s (qs_bst (cs := [_, _]) plT61 Try.zeroValue61 rfl rfl (by rfl)) rfl rfl ?_
  refine rw_s (qs_bst (cs := [_, _]) plT61 Try.zeroValue61 rfl rfl (by rfl)) rfl rfl ?_
  refine rw_s (qs_bst (cs := [_, _]) plT61 Try.zeroValue61 rfl rfl (by rfl)) rfl rfl ?_
  refine rw_op (ot_bsl (cs := [_, _, _, _, _, _, _, _]) Try.underlying52 Try.sizeOf61 Try.zeroValue61 rfl rfl rfl rfl rfl) rfl rfl (fun g2 _ => ?_)
  refine rw_s (qs_bst (cs := [_, _, _, _]) plT54 Try.zeroValue54 rfl rfl (by rfl)) rfl rfl ?_
  refine rw_op (ot_bsl (cs := [_]) Try.underlying35 Try.sizeOf3 Try.zeroValue3 rfl rfl rfl rfl rfl) rfl rfl (fun g3 _ => ?_)
  refine rw_s (qs_bst (cs := [_, _]) plT61 Try.zeroValue61 rfl rfl (by rfl)) rfl rfl ?_
  refine rw_s (qs_bst (cs := [_, _]) plT61 Try.zeroValue61 rfl rfl (by rfl)) rfl rfl ?_
  refine rw_s (qs_bst (cs := [_, _]) plT61 Try.zeroValue61 rfl rfl (by rfl)) rfl rfl ?_
  refine rw_s (qs_bst (cs := [_, _]) plT61 Try.zeroValue61 rfl rfl (by rfl)) rfl rfl ?_
  refine rw_op (ot_bsl (cs := [_, _, _, _, _, _, _, _]) Try.underlying52 Try.sizeOf61 Try.zeroValue61 rfl rfl rfl rfl rfl) rfl rfl (fun g4 _ => ?_)
  refine rw_s (qs_bst (cs := [_, _, _, _]) plT54 Try.zeroValue54 rfl rfl (by rfl)) rfl rfl ?_
  refine rw_op (ot_bsl (cs := [_, _, _, _, _, _, _, _]) Try.underlying22 Try.sizeOf54 Try.zeroValue54 rfl rfl rfl rfl rfl) rfl rfl (fun g5 _ => ?_)
  refine rw_s (qs_bst (cs := [_]) plT24 Try.zeroValue24 rfl rfl (by rfl)) rfl rfl ?_
  refine rw_op (ot_stb _ fc Try.sizeOf24 rfl rfl rfl rfl rfl (by rfl) rfl (by rfl)) rfl rfl (fun _ _ => ?_)
  refine rw_end ?_
  refine cw_ret ?_
  refine xw_ret1 Try.results46 (rv_box (cs := [_]) fc Try.isAgg24 Try.sizeOf24 rfl) ?_
  intro w hw
  refine ⟨_, trivial, rfl, ?_⟩
  have h := row_ow (α := MOp) (m := 4) [⟨21, 0⟩, ⟨12, 1⟩, ⟨20, 0⟩, ⟨10, 0⟩] rfl (show ∀ o ∈ [(⟨21, 0⟩ : MOp), ⟨12, 1⟩, ⟨20, 0⟩, ⟨10, 0⟩], I64 o.c ∧ I64 o.a from by decide) rfl (by decide) (hw.msub (T := [RBox g2 _ _, RBox g3 _ _, RBox g4 _ _, RBox g5 _ _]) ms)
  have h := row_ow (α := MOp) (m := 4) [⟨8, 0⟩, ⟨3, 0⟩, ⟨7, 0⟩, ⟨13, 0⟩] rfl (show ∀ o ∈ [(⟨8, 0⟩ : MOp), ⟨3, 0⟩, ⟨7, 0⟩, ⟨13, 0⟩], I64 o.c ∧ I64 o.a from by decide) rfl (by decide) (h.msub (T := [RBox g4 _ _, ROw (.slice (some ⟨g2, 0, none⟩) 4 4) _, RBox g3 _ _, RBox g5 _ _]) ms)
  have h := row_ow (α := Int) (m := 1) [1] rfl (one_i64 (by decide)) rfl (by decide) (h.msub (T := [RBox g3 _ _, ROw (.slice (some ⟨g4, 0, none⟩) 4 4) _, ROw (.slice (some ⟨g2, 0, none⟩) 4 4) _, RBox g5 _ _]) ms)
  have h := Cw.nilO Int h
  refine row_els (H := []) (xs := squareM) (Els.cons (Hel := [ROw (.slice none 0 0) ([] : List Int), ROw (.slice (some ⟨g2, 0, none⟩) 4 4) [(⟨21, 0⟩ : MOp), ⟨12, 1⟩, ⟨20, 0⟩, ⟨10, 0⟩]]) (cs := [_, _, _, _]) (hel_fn (f := ⟨0, [], 0, [⟨21, 0⟩, ⟨12, 1⟩, ⟨20, 0⟩, ⟨10, 0⟩]⟩) (by decide))
    (Els.cons (Hel := [ROw (.slice (some ⟨g3, 0, none⟩) 1 1) [(1 : Int)], ROw (.slice (some ⟨g4, 0, none⟩) 4 4) [(⟨8, 0⟩ : MOp), ⟨3, 0⟩, ⟨7, 0⟩, ⟨13, 0⟩]]) (cs := [_, _, _, _]) (hel_fn (f := ⟨1, [1], 1, [⟨8, 0⟩, ⟨3, 0⟩, ⟨7, 0⟩, ⟨13, 0⟩]⟩) (by decide)) Els.nil_)) rfl (by decide) ?_
  exact h.msub (T := [RBox g5 _ _, ROw (.slice none 0 0) ([] : List Int), ROw (.slice (some ⟨g2, 0, none⟩) 4 4) _, ROw (.slice (some ⟨g3, 0, none⟩) 1 1) _, ROw (.slice (some ⟨g4, 0, none⟩) 4 4) _]) ms
theorem square_enc : (encodeP squareM).2 = 0 ∧ (encodeP squareM).1.length = 32 ∧ decodeP (encodeP squareM).1 = (squareM, 0) ∧ (decodeP ((encodeP squareM).1 ++ [122])).2 = 1 ∧ checkP squareM = 0 := by decide +kernel
set_option maxRecDepth 100000 in
set_option maxHeartbeats 1000000 in
theorem progBegun_any (w : World) : Calls Try.prog 15 #[] w fun e w' => e = .returned (.bool true) ∧ Below w.heap.size w w' := by
  obtain ⟨q1, q2, q3, q4, q5⟩ := square_enc
  obtain ⟨E, hE⟩ : ∃ E, (encodeP squareM).1 = E := ⟨_, rfl⟩
  rw [hE] at q2 q3 q4
  refine enter Try.func15 rfl Try.ntmps15 rfl ?_
  refine cw_seq ?_
  refine cw_region ?_
  refine rw_run tab_ok 1 [] rfl trivial ?_
  refine rw_end ?_
  refine cw_seq ?_
  refine cw_region ?_
  refine rw_op (ot_call rfl rfl rfl Try.call46 (fun w hw => (square_any w).mono fun _ _ ⟨g, h1, h2, h3⟩ => ⟨g, h1, h2, hw.app h3⟩)) rfl rfl (fun gs _ => ?_)
  have henc : ∀ w1 v c, Sl w1 (.slice v 2 c) squareM → Calls Try.prog 10 #[.agg #[.slice v 2 c]] w1 fun e w' => e = .returned (.tuple #[.string ⟨E.toArray⟩, .int .i64 0]) ∧ Below w1.heap.size w1 w' := fun w1 v c h => by
    have := pencode_any v c squareM w1 h
    rw [hE, q1] at this
    exact this
  have hdec : ∀ w1, Calls Try.prog 11 #[.string ⟨E.toArray⟩] w1 fun e w' => ∃ u, e = .returned (.tuple #[.agg #[u], .int .i64 0]) ∧ Below w1.heap.size w1 w' ∧ OwN w' w1.heap.size u squareM := fun w1 => by
    have := pdecode_any E w1 (by omega)
    rw [q3] at this
    exact this
  have hdec2 : ∀ w1, Calls Try.prog 11 #[.string ⟨(E ++ [122]).toArray⟩] w1 fun e w' => ∃ u, e = .returned (.tuple #[.agg #[u], .int .i64 1]) ∧ Below w1.heap.size w1 w' ∧ OwN w' w1.heap.size u (decodeP (E ++ [122])).1 := fun w1 => by
    have := pdecode_any (E ++ [122]) w1 (by rw [List.length_append, q2]; decide)
    rw [q4] at this
    exact this
  have hchk : ∀ w1 v c, Sl w1 (.slice v 2 c) squareM → Calls Try.prog 16 #[.agg #[.slice v 2 c]] w1 fun e w' => e = .returned (.int .i64 0) ∧ Below w1.heap.size w1 w' := fun w1 v c h => by
    have := pcheck_any v c squareM w1 h
    rw [q5] at this
    exact this
  refine rw_op (ot_c0 rfl rfl rfl Try.call10 (fun w hw => henc w _ _ (SF.at_ (xs := squareM) (m := 2) (SF.own rfl fc) hw))) rfl rfl (fun _ _ => ?_)
  refine rw_run tab_ok 5 [(1, _), (2, _)] rfl ⟨rfl, rfl, trivial⟩ ?_
  refine rw_end ?_
  refine cw_seq ?_
  refine cw_region ?_
  refine rw_run tab_ok 1 [(1, _), (2, _), (13, _)] rfl ⟨rfl, rfl, rfl, trivial⟩ ?_
  refine rw_op (ot_cO rfl rfl rfl Try.call11 (fun w hw => hdec w)) rfl rfl (fun ⟨A1, c1⟩ _ => ?_)
  try dsimp only
  refine rw_run tab_ok 3 [(1, _), (2, _), (15, _), (16, _)] rfl ⟨rfl, rfl, rfl, rfl, trivial⟩ ?_
  refine rw_op (ot_alloc Try.zeroValue24 rfl rfl) rfl rfl (fun g1 _ => ?_)
  refine rw_op (ot_stb _ fc Try.sizeOf24 rfl rfl rfl rfl rfl (by rfl) rfl (by rfl)) rfl rfl (fun _ _ => ?_)
  refine rw_run tab_ok 1 [(1, _), (2, _), (3, _), (4, _)] rfl ⟨rfl, rfl, rfl, rfl, trivial⟩ ?_
  refine rw_end ?_
  refine cw_seq ?_
  refine cw_region ?_
  refine rw_run tab_ok 1 [(1, _), (2, _), (3, _), (4, _), (18, _)] rfl ⟨rfl, rfl, rfl, rfl, rfl, trivial⟩ ?_
  refine rw_s (qs_catS (by rw [q2]; decide) rfl rfl rfl) rfl rfl ?_
  refine rw_op (ot_cO rfl rfl rfl Try.call11 (fun w hw => hdec2 w)) rfl rfl (fun ⟨A2, c2⟩ _ => ?_)
  try dsimp only
  refine rw_run tab_ok 3 [(1, _), (2, _), (3, _), (4, _), (21, _), (22, _)] rfl ⟨rfl, rfl, rfl, rfl, rfl, rfl, trivial⟩ ?_
  refine rw_op (ot_alloc Try.zeroValue24 rfl rfl) rfl rfl (fun g2 _ => ?_)
  refine rw_op (ot_stb _ fc Try.sizeOf24 rfl rfl rfl rfl rfl (by rfl) rfl (by rfl)) rfl rfl (fun _ _ => ?_)
  refine rw_run tab_ok 1 [(1, _), (2, _), (3, _), (4, _), (6, _)] rfl ⟨rfl, rfl, rfl, rfl, rfl, trivial⟩ ?_
  refine rw_end ?_
  refine cw_seq ?_
  refine cw_draw (.pick 0 (.pick 1 (.still 2 (.still 3 (.still 4 (.still 5 (.still 6 (.still 7 (.still 8 (.still 9 (.still 10 (.still 11 (.still 12 (.still 13 (.still 14 (.still 15 (.still 16 (.still 17 (.still 18 (.still 19 (.still 20 (.still 21 (.pick 22 (.pick 23 (.still 24 (.still 25 .done)) .stop) .stop))))))))))))))))))))) .stop) .stop) [] rfl (by kernel_rfl) (by kernel_rfl) ?_
  refine ro_op2 rfl (ot_call rfl rfl rfl Try.call46 (fun w hw => (square_any w).mono fun _ _ ⟨g, h1, h2, h3⟩ => ⟨g, h1, h2, hw.app h3⟩)) rfl rfl (.inr fun _ => ha) (fun gs2 _ => ?_) ro_stop
  refine ro_op2 rfl (ot_c0 rfl rfl rfl Try.call16 (fun w hw => hchk w _ _ (SF.at_ (xs := squareM) (m := 2) (SF.own rfl fc) hw))) rfl rfl (.inr fun _ => ha) (fun _ _ => ?_) ro_stop
  refine ro_run tab_ok ha 2 [(1, _), (2, _), (3, _), (4, _), (6, _), (26, _)] rfl ⟨rfl, rfl, rfl, rfl, rfl, rfl, trivial⟩ ?_
  refine ro_as (t := 26) (v' := .bool true) rfl (rfl) ?_
  refine ro_run tab_ok ha 4 [(1, _), (3, _), (4, _), (6, _), (30, _)] rfl ⟨rfl, rfl, rfl, rfl, rfl, trivial⟩ ?_
  refine ro_as (t := 30) (v' := .bool true) rfl (rfl) ?_
  refine ro_run tab_ok ha 4 [(1, _), (3, _), (6, _), (34, _)] rfl ⟨rfl, rfl, rfl, rfl, trivial⟩ ?_
  refine ro_as (t := 34) (v' := .bool true) rfl (rfl) ?_
  refine ro_run tab_ok ha 4 [(1, _), (3, _), (38, _)] rfl ⟨rfl, rfl, rfl, trivial⟩ ?_
  refine ro_as (t := 38) (v' := .bool true) rfl (rfl) ?_
  refine ro_run tab_ok ha 1 [(3, _), (38, _), (39, _)] rfl ⟨rfl, rfl, rfl, trivial⟩ ?_
  refine ro_s2 rfl (qs_lenS Try.underlying9 rfl rfl) rfl rfl ha ?_
  refine ro_run tab_ok ha 3 [(3, _), (43, _)] rfl ⟨rfl, rfl, trivial⟩ ?_
  refine ro_as (t := 43) (v' := .bool true) rfl (by rw [q2]; rfl) ?_
  refine ro_s2 rfl (qs_ldbA (vs := [_]) fc Try.isAgg24 Try.sizeOf24 rfl rfl (by rfl) rfl) rfl rfl ha ?_
  refine ro_op2 rfl (ot_call rfl rfl rfl Try.call46 (fun w hw => (square_any w).mono fun _ _ ⟨g, h1, h2, h3⟩ => ⟨g, h1, h2, hw.app h3⟩)) rfl rfl (.inr fun _ => ha) (fun gs3 _ => ?_) ro_stop
  have hsame : ∀ w1 v c v2 c2, Sl w1 (.slice v 2 c) squareM → Sl w1 (.slice v2 2 c2) squareM → Calls Try.prog 17 #[.agg #[.slice v 2 c], .agg #[.slice v2 2 c2]] w1 fun e w' => e = .returned (.bool true) ∧ Below w1.heap.size w1 w' := fun w1 v c v2 c2 h1 h2 => by
    have := rsameP_any v v2 c c2 squareM squareM w1 h1 h2
    rw [decide_eq_true rfl] at this
    exact this
  refine ro_op2 rfl (ot_c0 rfl rfl rfl Try.call17 (fun w hw => hsame w _ _ _ _ (SF.at_ (xs := squareM) (m := 2) (SF.own rfl fc) hw) (SF.at_ (xs := squareM) (m := 2) (SF.own rfl fc) hw))) rfl rfl (.inr fun _ => ha) (fun _ _ => ?_) ro_stop
  refine ro_run tab_ok ha 2 [(0, _)] rfl ⟨rfl, trivial⟩ ?_
  refine ro_end ?_
  refine cw_ret ?_
  refine xw_ret1 Try.results15 (rv_tmp rfl) ?_
  intro w hw
  exact ⟨rfl, hw.below⟩
end Go.Proofs.Ytejpkcheimgdfaa

-- Lp
/- The code of loop. -/
namespace Go.Proofs.Ytejpkcheimgdfaa
open Go.RowKit

def loopL : List MOp := [⟨1, 3⟩, ⟨3, 0⟩, ⟨20, 0⟩, ⟨1, 1⟩, ⟨6, 0⟩, ⟨3, 0⟩, ⟨11, 8⟩, ⟨10, 1⟩, ⟨2, 0⟩, ⟨13, 0⟩]
theorem i64s_of (l : List MOp) (h : (l.all fun o => decide (I64 o.c ∧ I64 o.a)) = true) : ∀ o ∈ l, FOw.wf o := fun o ho => by
  have := of_decide_eq_true (List.all_eq_true.1 h o ho)
  exact this
set_option maxRecDepth 100000 in
theorem loop_any (w : World) : Calls Try.prog 55 #[] w fun e w' => ∃ g : Nat, True ∧ e = .returned (.slice (some ⟨g, 0, none⟩) 10 10) ∧ Cw w.heap.size w [ROw (.slice (some ⟨g, 0, none⟩) 10 10) loopL] w' := by
  refine enter Try.func55 rfl Try.ntmps55 rfl ?_
  refine cw_seq ?_
  refine cw_region ?_
  refine rw_run tab_ok 1 [] rfl trivial ?_
  refine rw_end ?_
  refine cw_seq ?_
  refine cw_region ?_
  refine rw_s (qs_bst (cs := [_, _]) plT61 Try.zeroValue61 rfl rfl (by rfl)) rfl rfl ?_
  refine rw_s (qs_bst (cs := [_, _]) plT61 Try.zeroValue61 rfl rfl (by rfl)) rfl rfl ?_
  refine rw_s (qs_bst (cs := [_, _]) plT61 Try.zeroValue61 rfl rfl (by rfl)) rfl rfl ?_
  refine rw_s (qs_bst (cs := [_, _]) plT61 Try.zeroValue61 rfl rfl (by rfl)) rfl rfl ?_
  refine rw_s (qs_bst (cs := [_, _]) plT61 Try.zeroValue61 rfl rfl (by rfl)) rfl rfl ?_
  refine rw_s (qs_bst (cs := [_, _]) plT61 Try.zeroValue61 rfl rfl (by rfl)) rfl rfl ?_
  refine rw_s (qs_bst (cs := [_, _]) plT61 Try.zeroValue61 rfl rfl (by rfl)) rfl rfl ?_
  refine rw_s (qs_bst (cs := [_, _]) plT61 Try.zeroValue61 rfl rfl (by rfl)) rfl rfl ?_
  refine rw_s (qs_bst (cs := [_, _]) plT61 Try.zeroValue61 rfl rfl (by rfl)) rfl rfl ?_
  refine rw_s (qs_bst (cs := [_, _]) plT61 Try.zeroValue61 rfl rfl (by rfl)) rfl rfl ?_
  refine rw_op (ot_bsl (cs := [_, _, _, _, _, _, _, _, _, _, _, _, _, _, _, _, _, _, _, _]) Try.underlying52 Try.sizeOf61 Try.zeroValue61 rfl rfl rfl rfl rfl) rfl rfl (fun g1 _ => ?_)
  refine rw_run tab_ok 1 [(0, _)] rfl ⟨rfl, trivial⟩ ?_
  refine rw_end ?_
  refine cw_mem (fun w h => row_ow (α := MOp) (m := 10) loopL rfl (i64s_of _ (by decide)) rfl (by decide) h) ?_
  refine cw_ret ?_
  refine xw_ret1 Try.results55 (rv_tmp rfl) ?_
  intro w hw
  exact ⟨g1, trivial, rfl, hw⟩
end Go.Proofs.Ytejpkcheimgdfaa

-- V12
/- Verify: what must be in any case. -/
namespace Go.Proofs.Ytejpkcheimgdfaa
open Go.RowKit

def counterM : List MFunc := [⟨0, [], 0, loopL⟩]
def badM : List MFunc := [⟨0, [], 0, [⟨2, 0⟩, ⟨13, 0⟩]⟩]
set_option maxRecDepth 100000 in
theorem counter_any (w : World) : Calls Try.prog 54 #[] w fun e w' => ∃ g : Nat, True ∧ e = .returned (.agg #[.slice (some ⟨g, 0, none⟩) 1 1]) ∧ Cw w.heap.size w [ROw (.slice (some ⟨g, 0, none⟩) 1 1) counterM] w' := by
  refine enter Try.func54 rfl Try.ntmps54 rfl ?_
  refine cw_seq ?_
  refine cw_region ?_
  refine rw_op (ot_alloc Try.zeroValue24 rfl rfl) rfl rfl (fun g1 _ => ?_)
  refine rw_end ?_
  refine cw_seq ?_
  refine cw_region ?_
  refine rw_op (ot_c rfl rfl rfl Try.call55 (fun w hw => loop_any w)) rfl rfl (fun gl _ => ?_)
  refine rw_s (qs_bst (cs := [_, _, _, _]) plT54 Try.zeroValue54 rfl rfl (by rfl)) rfl rfl ?_
  refine rw_op (ot_bsl (cs := [_, _, _, _]) Try.underlying22 Try.sizeOf54 Try.zeroValue54 rfl rfl rfl rfl rfl) rfl rfl (fun g2 _ => ?_)
  refine rw_s (qs_bst (cs := [_]) plT24 Try.zeroValue24 rfl rfl (by rfl)) rfl rfl ?_
  refine rw_op (ot_stb _ fc Try.sizeOf24 rfl rfl rfl rfl rfl (by rfl) rfl (by rfl)) rfl rfl (fun _ _ => ?_)
  refine rw_end ?_
  refine cw_ret ?_
  refine xw_ret1 Try.results54 (rv_box (cs := [_]) fc Try.isAgg24 Try.sizeOf24 rfl) ?_
  intro w hw
  refine ⟨g2, trivial, rfl, ?_⟩
  have h := Cw.nilO Int hw
  exact row_els (H := []) (xs := counterM) (Els.cons (Hel := [ROw (.slice none 0 0) ([] : List Int), ROw (.slice (some ⟨gl, 0, none⟩) 10 10) loopL]) (cs := [_, _, _, _]) (hel_fn (f := ⟨0, [], 0, loopL⟩) (by decide)) Els.nil_) rfl (by decide) (h.msub (T := [RBox g2 _ _, ROw (.slice none 0 0) ([] : List Int), ROw (.slice (some ⟨gl, 0, none⟩) 10 10) _]) ms)
theorem ver_facts : (funcS counterM 0).2 = 0 ∧ (funcS counterM 0).1.length = 10 ∧ ((funcS counterM 0).1.getD 3 ⟨0, []⟩).stack = [1] ∧ joinE [3, 1] [2, 1] = 0 ∧ joinR [3, 1] [2, 1] = [2, 1] ∧ joinE [1] [2] = 4 ∧ progS squareM = 0 ∧ progS badM = 4 := by decide +kernel
end Go.Proofs.Ytejpkcheimgdfaa

-- V13
/- Verify: what must be in any case, walked. -/
namespace Go.Proofs.Ytejpkcheimgdfaa
open Go.RowKit

def entAt (es : List HEnt) (k : Nat) : HEnt := es.getD k ⟨0, .slice none 0 0⟩
theorem SF.entS {B : Nat} {w0 : World} {H : List Res} {A : Option Addr} {es : List HEnt} {m c k : Nat} (hs : SF B w0 H A m c es) (hk : k < m) : ∀ w, Cw B w0 H w → w.cell? ⟨ab A, ao A + k * 2 + 1, none⟩ = some (entAt es k).v :=
  fun w hw => SF.cell hs hk ⟨0, .slice none 0 0⟩ (j := 1) rfl w hw
theorem SF.entP {B : Nat} {w0 : World} {H : List Res} {A : Option Addr} {es : List HEnt} {m c k : Nat} (hs : SF B w0 H A m c es) (hk : k < m) : ∀ w, Cw B w0 H w → w.cell? ⟨ab A, ao A + k * 2, none⟩ = some (.int .i64 (entAt es k).pc) :=
  fun w hw => SF.cell hs hk ⟨0, .slice none 0 0⟩ (j := 0) rfl w hw
theorem RelE.at_ {es : List HEnt} {L : List (Value × List Int)} {xs : List MEntry} (h : RelE es L xs) {k : Nat} (hk : k < xs.length) (d : MEntry) : (entAt es k).pc = (xs.getD k d).pc ∧ InP L (entAt es k).v (xs.getD k d).stack := by
  have hk2 : k < es.length := by rw [h.len]; exact hk
  have := h.el k hk2 hk
  unfold entAt
  rw [List.getD_eq_getElem?_getD, List.getElem?_eq_getElem hk2, List.getD_eq_getElem?_getD, List.getElem?_eq_getElem hk]
  exact this
set_option maxRecDepth 100000 in
set_option maxHeartbeats 2000000 in
theorem verifyBegun_any (w : World) : Calls Try.prog 23 #[] w fun e w' => e = .returned (.bool true) ∧ Below w.heap.size w w' := by
  obtain ⟨q1, q2, q3, q4, q5, q6, q7, q8⟩ := ver_facts
  generalize hF : (funcS counterM 0).1 = F at q2 q3
  have hvf : ∀ w1 v c, Sl w1 (.slice v 1 c) counterM → Calls Try.prog 18 #[.agg #[.slice v 1 c], .int .i64 0] w1 fun e w' => ∃ g : (Option Addr × Nat) × List HEnt × List (Value × List Int), RelE g.2.1 g.2.2 F ∧ e = .returned (.tuple #[.slice g.1.1 g.2.1.length g.1.2, .int .i64 0]) ∧ Cw w1.heap.size w1 [ROw (.slice g.1.1 g.2.1.length g.1.2) g.2.1, RPool g.2.2] w' := fun w1 v c h => by
    have := vfunc_own v c counterM 0 w1 h
    rw [hF, q1] at this
    exact this
  have hj1 : ∀ w1 A1 A2, Sl w1 (.slice A1 2 2) ([3, 1] : List Int) → Sl w1 (.slice A2 2 2) ([2, 1] : List Int) → Calls Try.prog 19 #[.slice A1 2 2, .slice A2 2 2] w1 fun e w' => ∃ u, e = .returned (.tuple #[u, .int .i64 0]) ∧ Below w1.heap.size w1 w' ∧ OwN w' w1.heap.size u ([2, 1] : List Int) := fun w1 A1 A2 h1 h2 => by
    have := join_any A1 A2 2 2 [3, 1] [2, 1] w1 h1 h2
    rw [q4, q5] at this
    exact this
  have hj2 : ∀ w1 A1 A2, Sl w1 (.slice A1 1 1) ([1] : List Int) → Sl w1 (.slice A2 1 1) ([2] : List Int) → Calls Try.prog 19 #[.slice A1 1 1, .slice A2 1 1] w1 fun e w' => ∃ u, e = .returned (.tuple #[u, .int .i64 4]) ∧ Below w1.heap.size w1 w' ∧ OwN w' w1.heap.size u (joinR [1] [2]) := fun w1 A1 A2 h1 h2 => by
    have := join_any A1 A2 1 1 [1] [2] w1 h1 h2
    rw [q6] at this
    exact this
  have hp1 : ∀ w1 v c, Sl w1 (.slice v 2 c) squareM → Calls Try.prog 25 #[.agg #[.slice v 2 c]] w1 fun e w' => e = .returned (.int .i64 0) ∧ Below w1.heap.size w1 w' := fun w1 v c h => by
    have := vprog_any v c squareM w1 h
    rw [q7] at this
    exact this
  have hp2 : ∀ w1 v c, Sl w1 (.slice v 1 c) badM → Calls Try.prog 25 #[.agg #[.slice v 1 c]] w1 fun e w' => e = .returned (.int .i64 4) ∧ Below w1.heap.size w1 w' := fun w1 v c h => by
    have := vprog_any v c badM w1 h
    rw [q8] at this
    exact this
  refine enter Try.func23 rfl Try.ntmps23 rfl ?_
  refine cw_seq ?_
  refine cw_region ?_
  refine rw_run tab_ok 1 [] rfl trivial ?_
  refine rw_end ?_
  refine cw_seq ?_
  refine cw_region ?_
  refine rw_op (ot_call rfl rfl rfl Try.call54 (fun w hw => (counter_any w).mono fun _ _ ⟨g, h1, h2, h3⟩ => ⟨g, h1, h2, hw.app h3⟩)) rfl rfl (fun gc _ => ?_)
  refine rw_op (ot_c rfl rfl rfl Try.call18 (fun w hw => hvf w _ _ (SF.at_ (xs := counterM) (m := 1) (SF.own rfl fc) hw))) rfl rfl (fun ⟨⟨Ae, ce⟩, es, Lp⟩ hre => ?_)
  try dsimp only
  refine rw_run tab_ok 5 [(1, _), (2, _)] rfl ⟨rfl, rfl, trivial⟩ ?_
  refine rw_end ?_
  refine cw_seq ?_
  refine cw_region ?_
  refine rw_op (ot_bsl (cs := [_, _]) Try.underlying35 Try.sizeOf3 Try.zeroValue3 rfl rfl rfl rfl rfl) rfl rfl (fun g1 _ => ?_)
  refine rw_op (ot_bsl (cs := [_, _]) Try.underlying35 Try.sizeOf3 Try.zeroValue3 rfl rfl rfl rfl rfl) rfl rfl (fun g2 _ => ?_)
  have hes : es.length = 10 := by rw [hre.len, q2]
  refine rw_mem (fun w h => row_ow (α := Int) (m := 2) [2, 1] rfl (two_i64 (by decide) (by decide)) rfl (by decide) h) ?_
  refine rw_mem (fun w h => row_ow (α := Int) (m := 2) [3, 1] rfl (two_i64 (by decide) (by decide)) rfl (by decide) (h.msub (T := RBox g1 _ _ :: _) (.s fc .r))) ?_
  refine rw_op (ot_cO rfl rfl rfl Try.call19 (fun w hw => hj1 w _ _ (SF.at_ (xs := ([3, 1] : List Int)) (m := 2) (SF.own rfl fc) hw) (SF.at_ (xs := ([2, 1] : List Int)) (m := 2) (SF.own rfl fc) hw))) rfl rfl (fun ⟨A3, c3⟩ _ => ?_)
  try dsimp only
  refine rw_run tab_ok 5 [(1, _), (2, _), (3, _), (4, _)] rfl ⟨rfl, rfl, rfl, rfl, trivial⟩ ?_
  refine rw_end ?_
  refine cw_seq ?_
  refine cw_region ?_
  refine rw_op (ot_bsl (cs := [_]) Try.underlying35 Try.sizeOf3 Try.zeroValue3 rfl rfl rfl rfl rfl) rfl rfl (fun g3 _ => ?_)
  refine rw_op (ot_bsl (cs := [_]) Try.underlying35 Try.sizeOf3 Try.zeroValue3 rfl rfl rfl rfl rfl) rfl rfl (fun g4 _ => ?_)
  refine rw_mem (fun w h => row_ow (α := Int) (m := 1) [2] rfl (one_i64 (by decide)) rfl (by decide) h) ?_
  refine rw_mem (fun w h => row_ow (α := Int) (m := 1) [1] rfl (one_i64 (by decide)) rfl (by decide) (h.msub (T := RBox g3 _ _ :: _) (.s fc .r))) ?_
  refine rw_op (ot_cO rfl rfl rfl Try.call19 (fun w hw => hj2 w _ _ (SF.at_ (xs := ([1] : List Int)) (m := 1) (SF.own rfl fc) hw) (SF.at_ (xs := ([2] : List Int)) (m := 1) (SF.own rfl fc) hw))) rfl rfl (fun ⟨A5, c5⟩ _ => ?_)
  try dsimp only
  refine rw_run tab_ok 5 [(1, _), (2, _), (3, _), (4, _), (6, _)] rfl ⟨rfl, rfl, rfl, rfl, rfl, trivial⟩ ?_
  refine rw_end ?_
  refine cw_seq ?_
  refine cw_region ?_
  refine rw_s (qs_bst (cs := [_, _]) plT61 Try.zeroValue61 rfl rfl (by rfl)) rfl rfl ?_
  refine rw_s (qs_bst (cs := [_, _]) plT61 Try.zeroValue61 rfl rfl (by rfl)) rfl rfl ?_
  refine rw_op (ot_bsl (cs := [_, _, _, _]) Try.underlying52 Try.sizeOf61 Try.zeroValue61 rfl rfl rfl rfl rfl) rfl rfl (fun g5 _ => ?_)
  refine rw_s (qs_bst (cs := [_, _, _, _]) plT54 Try.zeroValue54 rfl rfl (by rfl)) rfl rfl ?_
  refine rw_op (ot_bsl (cs := [_, _, _, _]) Try.underlying22 Try.sizeOf54 Try.zeroValue54 rfl rfl rfl rfl rfl) rfl rfl (fun g6 _ => ?_)
  refine rw_s (qs_bst (cs := [_]) plT24 Try.zeroValue24 rfl rfl (by rfl)) rfl rfl ?_
  refine rw_op (ot_alloc Try.zeroValue24 rfl rfl) rfl rfl (fun g7 _ => ?_)
  refine rw_op (ot_stb _ fc Try.sizeOf24 rfl rfl rfl rfl rfl (by rfl) rfl (by rfl)) rfl rfl (fun _ _ => ?_)
  refine rw_end ?_
  refine cw_seq ?_
  refine cw_region ?_
  refine rw_run tab_ok 3 [(1, _), (3, _), (4, _), (6, _), (7, _), (33, _)] rfl ⟨rfl, rfl, rfl, rfl, rfl, rfl, trivial⟩ ?_
  refine rw_as (t := 33) (v' := .bool true) rfl (rfl) ?_
  refine rw_run tab_ok 4 [(1, _), (3, _), (6, _), (7, _), (37, _)] rfl ⟨rfl, rfl, rfl, rfl, rfl, trivial⟩ ?_
  refine rw_as (t := 37) (v' := .bool true) rfl (rfl) ?_
  refine rw_run tab_ok 4 [(1, _), (3, _), (7, _), (41, _)] rfl ⟨rfl, rfl, rfl, rfl, trivial⟩ ?_
  have hin := (hre.at_ (k := 3) (by omega) ⟨0, []⟩).2
  rw [q3] at hin
  refine rw_as (t := 41) (v' := .bool true) rfl (rfl) ?_
  refine rw_run tab_ok 1 [(1, _), (3, _), (7, _), (41, _), (42, _)] rfl ⟨rfl, rfl, rfl, rfl, rfl, trivial⟩ ?_
  refine rw_s (qs_len Try.underlying36 rfl rfl) rfl rfl ?_
  refine rw_run tab_ok 3 [(1, _), (3, _), (7, _), (46, _)] rfl ⟨rfl, rfl, rfl, rfl, trivial⟩ ?_
  refine rw_as (t := 46) (v' := .bool true) rfl (by rw [hes]; rfl) ?_
  refine rw_run tab_ok 1 [(3, _), (7, _), (46, _), (47, _)] rfl ⟨rfl, rfl, rfl, rfl, trivial⟩ ?_
  refine rw_s (qs_idx (k := 3) Try.underlying36 Try.sizeOf57 (SF.own rfl fc) (by omega) rfl rfl rfl) rfl rfl ?_
  refine rw_run tab_ok 1 [(3, _), (7, _), (46, _), (49, _)] rfl ⟨rfl, rfl, rfl, rfl, trivial⟩ ?_
  refine rw_fact (fun w h => hin.form h fc) ?_
  rintro ⟨A6, c6, hv⟩
  rw [hv] at hin
  refine rw_s (qs_ld (v := .slice A6 1 c6) (by intro w1 hw1; exact (SF.entS (k := 3) (es := es) (m := es.length) (SF.own rfl fc) (by omega) w1 hw1).trans (by rw [hv]; rfl)) rfl rfl Try.isAgg35) rfl rfl ?_
  refine rw_op (ot_bsl (cs := [_]) Try.underlying35 Try.sizeOf3 Try.zeroValue3 rfl rfl rfl rfl rfl) rfl rfl (fun g8 _ => ?_)
  refine rw_mem (fun w h => row_ow (α := Int) (m := 1) [1] rfl (one_i64 (by decide)) rfl (by decide) h) ?_
  refine rw_op (ot_c0 rfl rfl rfl Try.call28 (fun w hw => sameInts_w A6 _ c6 _ [1] [1] w (hin.sl hw fc) (SF.at_ (xs := ([1] : List Int)) (m := 1) (SF.own rfl fc) hw))) rfl rfl (fun _ _ => ?_)
  refine rw_run tab_ok 2 [(3, _), (7, _), (54, _)] rfl ⟨rfl, rfl, rfl, trivial⟩ ?_
  refine rw_as (t := 54) (v' := .bool true) rfl (rfl) ?_
  refine rw_run tab_ok 1 [(7, _), (54, _), (55, _)] rfl ⟨rfl, rfl, rfl, trivial⟩ ?_
  refine rw_op (ot_bsl (cs := [_, _]) Try.underlying35 Try.sizeOf3 Try.zeroValue3 rfl rfl rfl rfl rfl) rfl rfl (fun g9 _ => ?_)
  refine rw_mem (fun w h => row_ow (α := Int) (m := 2) [2, 1] rfl (two_i64 (by decide) (by decide)) rfl (by decide) h) ?_
  refine rw_op (ot_c0 rfl rfl rfl Try.call28 (fun w hw => sameInts_w A3 _ c3 _ [2, 1] [2, 1] w (SF.at_ (xs := ([2, 1] : List Int)) (m := 2) (SF.own rfl fc) hw) (SF.at_ (xs := ([2, 1] : List Int)) (m := 2) (SF.own rfl fc) hw))) rfl rfl (fun _ _ => ?_)
  refine rw_run tab_ok 2 [(7, _), (59, _)] rfl ⟨rfl, rfl, trivial⟩ ?_
  refine rw_as (t := 59) (v' := .bool true) rfl (rfl) ?_
  refine rw_op (ot_call rfl rfl rfl Try.call46 (fun w hw => (square_any w).mono fun _ _ ⟨g, h1, h2, h3⟩ => ⟨g, h1, h2, hw.app h3⟩)) rfl rfl (fun gs _ => ?_)
  refine rw_op (ot_c0 rfl rfl rfl Try.call25 (fun w hw => hp1 w _ _ (SF.at_ (xs := squareM) (m := 2) (SF.own rfl fc) hw))) rfl rfl (fun _ _ => ?_)
  refine rw_run tab_ok 3 [(7, _), (64, _)] rfl ⟨rfl, rfl, trivial⟩ ?_
  refine rw_as (t := 64) (v' := .bool true) rfl (rfl) ?_
  refine rw_s (qs_ldbA (vs := [_]) fc Try.isAgg24 Try.sizeOf24 rfl rfl (by rfl) rfl) rfl rfl ?_
  refine rw_mem (fun w h => Cw.nilO Int (row_ow (α := MOp) (m := 2) [⟨2, 0⟩, ⟨13, 0⟩] rfl (i64s_of _ (by decide)) rfl (by decide) (h.msub (T := RBox g5 _ _ :: _) (.s fc .r)))) ?_
  refine rw_mem (fun w h => row_els (m := 1) (xs := badM) (Els.cons (Hel := [ROw (.slice none 0 0) ([] : List Int), ROw (.slice (some ⟨g5, 0, none⟩) 2 2) [(⟨2, 0⟩ : MOp), ⟨13, 0⟩]]) (cs := [_, _, _, _]) (hel_fn (f := ⟨0, [], 0, [⟨2, 0⟩, ⟨13, 0⟩]⟩) (by decide)) Els.nil_) rfl (by decide) (h.msub (T := RBox g6 _ _ :: ROw (.slice none 0 0) ([] : List Int) :: ROw (.slice (some ⟨g5, 0, none⟩) 2 2) _ :: _) (.s fc (.s fc (.s fc .r))))) ?_
  refine rw_op (ot_c0 rfl rfl rfl Try.call25 (fun w hw => hp2 w _ _ (SF.at_ (xs := badM) (m := 1) (SF.own rfl fc) hw))) rfl rfl (fun _ _ => ?_)
  refine rw_run tab_ok 3 [(0, _)] rfl ⟨rfl, trivial⟩ ?_
  refine rw_end ?_
  refine cw_ret ?_
  refine xw_ret1 Try.results23 (rv_tmp rfl) ?_
  intro w hw
  exact ⟨rfl, hw.below⟩
end Go.Proofs.Ytejpkcheimgdfaa

-- V14
/- Verify: joins, either way round and however they are put together. -/
namespace Go.Proofs.Ytejpkcheimgdfaa
open Go.RowKit

theorem bothI_comm (a b : Int) : bothI a b = bothI b a := by
  unfold bothI standsB
  by_cases h1 : a = b
  · simp [h1]
  · have h1' : ¬ b = a := fun e => h1 e.symm
    by_cases h2 : a = 3 ∧ b = 2
    · obtain ⟨rfl, rfl⟩ := h2; simp
    · by_cases h3 : b = 3 ∧ a = 2
      · obtain ⟨rfl, rfl⟩ := h3; simp
      · simp [h1, h1', h2, h3]
theorem joinL_comm : ∀ (a b : List Int), joinL a b = joinL b a
  | [], [] => rfl
  | [], _ :: _ => rfl
  | _ :: _, [] => rfl
  | a :: l, b :: m => by simp only [joinL]; rw [bothI_comm a b, joinL_comm l m]
theorem joinE_comm (a b : List Int) : joinE a b = joinE b a := by
  unfold joinE
  have e : (8 < b.length ∨ 8 < a.length) ↔ (8 < a.length ∨ 8 < b.length) := Or.comm
  rw [joinL_comm b a]
  simp only [e]
  split <;> split <;> rfl
theorem joinR_comm (a b : List Int) : joinR a b = joinR b a := by unfold joinR; rw [joinE_comm, joinL_comm]
theorem joinE_parts {a b : List Int} (h : joinE a b = 0) : (∀ t ∈ a, 1 ≤ t ∧ t ≤ 3) ∧ (∀ t ∈ b, 1 ≤ t ∧ t ≤ 3) ∧ (a.length ≤ 8 ∧ b.length ≤ 8) ∧ ∃ j, joinL a b = some j ∧ joinR a b = j := by
  have hl := joinE_le h
  have h0 := h
  have bad : ∀ l : List Int, ¬ l.any badT = true → ∀ t ∈ l, 1 ≤ t ∧ t ≤ 3 := fun l hl t ht => by
    simp only [Bool.not_eq_true, List.any_eq_false] at hl
    have := hl t ht
    unfold badT at this
    simp at this
    omega
  unfold joinE at h
  split at h
  · cases h
  rename_i h1
  split at h
  · cases h
  rename_i h2
  split at h
  · cases h
  split at h
  · cases h
  rename_i h4
  refine ⟨bad a h1, bad b h2, hl, ?_⟩
  cases e : joinL a b with
  | none => exact absurd e h4
  | some j => exact ⟨j, rfl, by unfold joinR; rw [if_pos h0, e]; rfl⟩
theorem joinE_of {a b j : List Int} (h1 : ∀ t ∈ a, 1 ≤ t ∧ t ≤ 3) (h2 : ∀ t ∈ b, 1 ≤ t ∧ t ≤ 3) (h3 : a.length ≤ 8 ∧ b.length ≤ 8) (h : joinL a b = some j) : joinE a b = 0 ∧ joinR a b = j := by
  have ok : ∀ l : List Int, (∀ t ∈ l, 1 ≤ t ∧ t ≤ 3) → ¬ l.any badT = true := fun l hl => by
    simp only [Bool.not_eq_true, List.any_eq_false]
    intro t ht
    have := hl t ht
    unfold badT
    simp
    omega
  have : joinE a b = 0 := by
    unfold joinE
    rw [if_neg (ok a h1), if_neg (ok b h2), if_neg (by omega), if_neg (by rw [h]; simp)]
  exact ⟨this, by unfold joinR; rw [if_pos this, h]; rfl⟩
theorem joinE_none {a b : List Int} (h1 : ∀ t ∈ a, 1 ≤ t ∧ t ≤ 3) (h2 : ∀ t ∈ b, 1 ≤ t ∧ t ≤ 3) (h3 : a.length ≤ 8 ∧ b.length ≤ 8) (h : joinL a b = none) : joinE a b = 4 ∧ joinR a b = [] := by
  have ok : ∀ l : List Int, (∀ t ∈ l, 1 ≤ t ∧ t ≤ 3) → ¬ l.any badT = true := fun l hl => by
    simp only [Bool.not_eq_true, List.any_eq_false]
    intro t ht
    have := hl t ht
    unfold badT
    simp
    omega
  have : joinE a b = 4 := by
    unfold joinE
    rw [if_neg (ok a h1), if_neg (ok b h2), if_neg (by omega), if_pos h]
  exact ⟨this, by unfold joinR; rw [this]; rfl⟩
theorem t3 {t : Int} (h : 1 ≤ t ∧ t ≤ 3) : t = 1 ∨ t = 2 ∨ t = 3 := by omega
theorem bothI_in {a b : Int} (ha : 1 ≤ a ∧ a ≤ 3) (hb : 1 ≤ b ∧ b ≤ 3) (h : bothI a b ≠ 0) : 1 ≤ bothI a b ∧ bothI a b ≤ 3 := by
  rcases t3 ha with rfl | rfl | rfl <;> rcases t3 hb with rfl | rfl | rfl <;> revert h <;> decide
theorem bothI_assoc {a b c : Int} (ha : 1 ≤ a ∧ a ≤ 3) (hb : 1 ≤ b ∧ b ≤ 3) (hc : 1 ≤ c ∧ c ≤ 3) (h1 : bothI a b ≠ 0) (h2 : bothI b c ≠ 0) : bothI (bothI a b) c = bothI a (bothI b c) := by
  rcases t3 ha with rfl | rfl | rfl <;> rcases t3 hb with rfl | rfl | rfl <;> rcases t3 hc with rfl | rfl | rfl <;> revert h1 h2 <;> decide
theorem bothI_via {a b c : Int} (ha : 1 ≤ a ∧ a ≤ 3) (hb : 1 ≤ b ∧ b ≤ 3) (hc : 1 ≤ c ∧ c ≤ 3) (h1 : bothI a b ≠ 0) (h2 : bothI b c = 0) : bothI (bothI a b) c = 0 := by
  rcases t3 ha with rfl | rfl | rfl <;> rcases t3 hb with rfl | rfl | rfl <;> rcases t3 hc with rfl | rfl | rfl <;> revert h1 h2 <;> decide
theorem bothI_stands {a b : Int} (h : bothI a b ≠ 0) : standsB a (bothI a b) = true ∧ standsB b (bothI a b) = true := by
  have r : ∀ x : Int, standsB x x = true := fun x => by unfold standsB; simp
  unfold bothI at h ⊢
  by_cases h1 : standsB a b = true
  · rw [if_pos h1]; exact ⟨h1, r b⟩
  · rw [if_neg h1] at h ⊢
    by_cases h2 : standsB b a = true
    · rw [if_pos h2]; exact ⟨r a, h2⟩
    · rw [if_neg h2] at h; exact absurd rfl h
theorem joinL_cons {a b : Int} {l m j : List Int} (h : joinL (a :: l) (b :: m) = some j) : bothI a b ≠ 0 ∧ ∃ k, joinL l m = some k ∧ j = bothI a b :: k := by
  simp only [joinL] at h
  split at h
  · cases h
  · rename_i h0
    cases e : joinL l m with
    | none => rw [e] at h; cases h
    | some k =>
      rw [e] at h
      simp only [Option.map_some, Option.some.injEq] at h
      exact ⟨h0, k, rfl, h.symm⟩
theorem joinL_in : ∀ {a b j : List Int}, joinL a b = some j → (∀ t ∈ a, 1 ≤ t ∧ t ≤ 3) → (∀ t ∈ b, 1 ≤ t ∧ t ≤ 3) → ∀ t ∈ j, 1 ≤ t ∧ t ≤ 3
  | [], [], j, h, _, _ => by simp [joinL] at h; subst h; simp
  | [], _ :: _, j, h, _, _ => by simp [joinL] at h
  | _ :: _, [], j, h, _, _ => by simp [joinL] at h
  | a :: l, b :: m, j, h, ha, hb => by
    obtain ⟨h0, k, hk, rfl⟩ := joinL_cons h
    intro t ht
    rcases List.mem_cons.1 ht with rfl | ht
    · exact bothI_in (ha a (by simp)) (hb b (by simp)) h0
    · exact joinL_in hk (fun t h => ha t (by simp [h])) (fun t h => hb t (by simp [h])) t ht
theorem joinL_self : ∀ {a : List Int}, (∀ t ∈ a, 1 ≤ t ∧ t ≤ 3) → joinL a a = some a
  | [], _ => rfl
  | a :: l, h => by
    have ha := h a (by simp)
    have e : bothI a a = a := by unfold bothI standsB; simp
    simp only [joinL]
    rw [if_neg (by rw [e]; omega), joinL_self (fun t ht => h t (by simp [ht])), e]
    rfl
theorem joinL_stand : ∀ {a b j : List Int} {i : Nat}, joinL a b = some j → i < j.length → standsB (a.getD i 0) (j.getD i 0) = true ∧ standsB (b.getD i 0) (j.getD i 0) = true
  | [], [], j, i, h, hi => by simp [joinL] at h; subst h; simp at hi
  | [], _ :: _, j, _, h, _ => by simp [joinL] at h
  | _ :: _, [], j, _, h, _ => by simp [joinL] at h
  | a :: l, b :: m, j, i, h, hi => by
    obtain ⟨h0, k, hk, rfl⟩ := joinL_cons h
    cases i with
    | zero => exact bothI_stands h0
    | succ i =>
      have := joinL_stand (i := i) hk (by simpa using hi)
      simpa using this
theorem joinL_assoc : ∀ {a b c x r : List Int}, (∀ t ∈ a, 1 ≤ t ∧ t ≤ 3) → (∀ t ∈ b, 1 ≤ t ∧ t ≤ 3) → (∀ t ∈ c, 1 ≤ t ∧ t ≤ 3) → joinL a b = some x → joinL b c = some r → joinL x c = joinL a r
  | [], [], [], x, r, _, _, _, h1, h2 => by simp [joinL] at h1 h2; subst h1 h2; rfl
  | [], [], _ :: _, _, _, _, _, _, _, h => by simp [joinL] at h
  | [], _ :: _, _, _, _, _, _, _, h, _ => by simp [joinL] at h
  | _ :: _, [], _, _, _, _, _, _, h, _ => by simp [joinL] at h
  | _ :: _, _ :: _, [], _, _, _, _, _, _, h => by simp [joinL] at h
  | a :: l, b :: m, c :: n, x, r, ha, hb, hc, h1, h2 => by
    obtain ⟨h3, k, hk, rfl⟩ := joinL_cons h1
    obtain ⟨h4, q, hq, rfl⟩ := joinL_cons h2
    simp only [joinL]
    rw [bothI_assoc (ha a (by simp)) (hb b (by simp)) (hc c (by simp)) h3 h4, joinL_assoc (fun t h => ha t (by simp [h])) (fun t h => hb t (by simp [h])) (fun t h => hc t (by simp [h])) hk hq]
theorem joinL_via : ∀ {a b c x : List Int}, (∀ t ∈ a, 1 ≤ t ∧ t ≤ 3) → (∀ t ∈ b, 1 ≤ t ∧ t ≤ 3) → (∀ t ∈ c, 1 ≤ t ∧ t ≤ 3) → joinL a b = some x → joinL b c = none → joinL x c = none
  | [], [], [], x, _, _, _, h1, h2 => by simp [joinL] at h2
  | [], [], _ :: _, x, _, _, _, h1, _ => by simp [joinL] at h1; subst h1; rfl
  | [], _ :: _, _, _, _, _, _, h, _ => by simp [joinL] at h
  | _ :: _, [], _, _, _, _, _, h, _ => by simp [joinL] at h
  | a :: l, b :: m, [], x, _, _, _, h, _ => by
    obtain ⟨_, k, _, rfl⟩ := joinL_cons h
    rfl
  | a :: l, b :: m, c :: n, x, ha, hb, hc, h1, h2 => by
    obtain ⟨h3, k, hk, rfl⟩ := joinL_cons h1
    simp only [joinL] at h2 ⊢
    by_cases h4 : bothI b c = 0
    · rw [if_pos (bothI_via (ha a (by simp)) (hb b (by simp)) (hc c (by simp)) h3 h4)]
    · rw [if_neg h4] at h2
      have h5 : joinL m n = none := by
        cases e : joinL m n with
        | none => rfl
        | some q => rw [e] at h2; cases h2
      rw [joinL_via (fun t h => ha t (by simp [h])) (fun t h => hb t (by simp [h])) (fun t h => hc t (by simp [h])) hk h5]
      split <;> rfl
/-- Three joined. -/
theorem join_three {a b c : List Int} (h : joinE a b = 0) : (joinE b c ≠ 0 → joinE (joinR a b) c ≠ 0) ∧ (joinE b c = 0 → joinE (joinR a b) c = joinE a (joinR b c) ∧ joinR (joinR a b) c = joinR a (joinR b c)) := by
  obtain ⟨ha, hb, hl, x, hx, hxr⟩ := joinE_parts h
  rw [hxr]
  have hxi := joinL_in hx ha hb
  have hxl := joinL_len hx
  constructor
  · intro hbc hxc
    obtain ⟨_, hc, hl2, y, hy, _⟩ := joinE_parts hxc
    cases e : joinL b c with
    | none => rw [joinL_via ha hb hc hx e] at hy; cases hy
    | some r => exact hbc (joinE_of hb hc ⟨hl.2, hl2.2⟩ e).1
  · intro hbc
    obtain ⟨_, hc, hl2, r, hr, hrr⟩ := joinE_parts hbc
    rw [hrr]
    have hri := joinL_in hr hb hc
    have hrl := joinL_len hr
    have has := joinL_assoc ha hb hc hx hr
    cases e : joinL a r with
    | none =>
      rw [e] at has
      obtain ⟨k1, k2⟩ := joinE_none hxi hc ⟨by omega, hl2.2⟩ has
      obtain ⟨k3, k4⟩ := joinE_none ha hri ⟨hl.1, by omega⟩ e
      exact ⟨by rw [k1, k3], by rw [k2, k4]⟩
    | some m =>
      rw [e] at has
      obtain ⟨k1, k2⟩ := joinE_of hxi hc ⟨by omega, hl2.2⟩ has
      obtain ⟨k3, k4⟩ := joinE_of ha hri ⟨hl.1, by omega⟩ e
      exact ⟨by rw [k1, k3], by rw [k2, k4]⟩
set_option maxRecDepth 100000 in
theorem rstands_any (t o : Int) (w : World) : Calls Try.prog 29 #[.int .i64 t, .int .i64 o] w fun e w' => e = .returned (.bool (standsB t o)) ∧ Below w.heap.size w w' := by
  refine enter Try.func29 rfl Try.ntmps29 rfl ?_
  refine cw_seq ?_
  refine cw_region ?_
  refine rw_run tab_ok 1 [(0, _), (1, _)] rfl ⟨rfl, rfl, trivial⟩ ?_
  refine rw_end ?_
  refine cw_seq ?_
  refine cw_region ?_
  refine rw_run tab_ok 4 [(0, _), (1, _), (8, _)] rfl ⟨rfl, rfl, rfl, trivial⟩ ?_
  refine rw_split (t := 8) rfl (fun h1 => ?_) (fun h1 => ?_)
  · have h1 := of_decide_eq_true h1
    refine rw_run tab_ok 8 [(4, _)] rfl ⟨rfl, trivial⟩ ?_
    refine rw_end ?_
    refine cw_ret ?_
    refine xw_ret1 Try.results29 (rv_tmp rfl) ?_
    intro w hw
    exact ⟨ret_bool (by unfold standsB; rw [decide_eq_true h1]; rfl), hw.below⟩
  · have h1 := of_decide_eq_false h1
    refine rw_run tab_ok 3 [(1, _), (8, _), (11, _)] rfl ⟨rfl, rfl, rfl, trivial⟩ ?_
    refine rw_split (t := 11) rfl (fun h2 => ?_) (fun h2 => ?_)
    · have h2 := of_decide_eq_true h2
      refine rw_run tab_ok 5 [(4, _)] rfl ⟨rfl, trivial⟩ ?_
      refine rw_end ?_
      refine cw_ret ?_
      refine xw_ret1 Try.results29 (rv_tmp rfl) ?_
      intro w hw
      exact ⟨ret_bool (by unfold standsB; rw [decide_eq_false h1, decide_eq_true h2]; rfl), hw.below⟩
    · have h2 := of_decide_eq_false h2
      refine rw_run tab_ok 5 [(4, _)] rfl ⟨rfl, trivial⟩ ?_
      refine rw_end ?_
      refine cw_ret ?_
      refine xw_ret1 Try.results29 (rv_tmp rfl) ?_
      intro w hw
      exact ⟨ret_bool (by unfold standsB; rw [decide_eq_false h1, decide_eq_false h2]; rfl), hw.below⟩
theorem qs_neB {P : Program} {n : Nat} {B : Nat} {w0 : World} {env : Env} {H : List Res} {o : Oper} {i j : Operand} {t u : TypeId} {a b : Bool} (hop : o.op = .binOp .neq t i j u) (hi : opv env i = some (.bool a)) (hj : opv env j = some (.bool b)) (hr : ∀ w, (binOp .neq t (.bool a) (.bool b)).run P w = .ok (.bool (a != b)) w) : QS P n B w0 o env H (.bool (a != b)) := by
  intro a' w hf hw
  have hgd : (eqGuard .neq t i j (.bool a) (.bool b)).run P w = .ok () w := by
    unfold eqGuard
    split <;> simp
  unfold execOp
  simp only [hop, hf.opv hi, hf.opv hj, Sem.run_bind, hgd, Result.andThen_ok, hr, Sem.run_pure]
theorem Try.neB (a b : Bool) (w : World) : (binOp .neq 4 (.bool a) (.bool b)).run Try.prog w = .ok (.bool (a != b)) w := by
  cases a <;> cases b <;> kernel_rfl
set_option maxRecDepth 100000 in
set_option maxHeartbeats 4000000 in
theorem verifyJoin_any (A1 A2 A3 : Option Addr) (c1 c2 c3 : Nat) (a b c : List Int) (w : World) (h1 : Sl w (.slice A1 a.length c1) a) (h2 : Sl w (.slice A2 b.length c2) b) (h3 : Sl w (.slice A3 c.length c3) c) :
    Calls Try.prog 6 #[.slice A1 a.length c1, .slice A2 b.length c2, .slice A3 c.length c3] w fun e w' => e = .returned (.bool true) ∧ Below w.heap.size w w' := by
  have b1 := len_bd h1
  have hba : ∀ w1, Sl w1 (.slice A1 a.length c1) a → Sl w1 (.slice A2 b.length c2) b → Calls Try.prog 19 #[.slice A2 b.length c2, .slice A1 a.length c1] w1 fun e w' => ∃ u, e = .returned (.tuple #[u, .int .i64 (joinE a b)]) ∧ Below w1.heap.size w1 w' ∧ OwN w' w1.heap.size u (joinR a b) := fun w1 k1 k2 => by
    have := join_any A2 A1 c2 c1 b a w1 k2 k1
    rw [joinE_comm b a, joinR_comm b a] at this
    exact this
  refine enter Try.func6 rfl Try.ntmps6 rfl ?_
  refine cw_seq ?_
  refine cw_region ?_
  refine rw_run tab_ok 1 [(0, _), (1, _), (2, _)] rfl ⟨rfl, rfl, rfl, trivial⟩ ?_
  refine rw_end ?_
  refine cw_seq ?_
  refine cw_seq ?_
  refine cw_region ?_
  refine rw_op (ot_c0 rfl rfl rfl Try.call23 (fun w hw => verifyBegun_any w)) rfl rfl (fun _ _ => ?_)
  refine rw_run tab_ok 1 [(0, _), (1, _), (2, _), (18, _)] rfl ⟨rfl, rfl, rfl, rfl, trivial⟩ ?_
  refine rw_end ?_
  refine cw_cond_f rfl ?_
  refine cw_skip (xw_then ?_)
  refine cw_seq ?_
  refine cw_region ?_
  refine rw_run tab_ok 2 [(0, _), (1, _), (2, _), (20, _), (21, _)] rfl ⟨rfl, rfl, rfl, rfl, rfl, trivial⟩ ?_
  refine rw_op (ot_cO rfl rfl rfl Try.call19 (fun w hw => join_any A1 A2 c1 c2 a b w (hw.ro h1) (hw.ro h2))) rfl rfl (fun ⟨A4, c4⟩ _ => ?_)
  try dsimp only
  refine rw_run tab_ok 5 [(0, _), (1, _), (2, _), (7, _), (8, _)] rfl ⟨rfl, rfl, rfl, rfl, rfl, trivial⟩ ?_
  refine rw_end ?_
  refine cw_seq ?_
  refine cw_region ?_
  refine rw_run tab_ok 2 [(0, _), (1, _), (2, _), (7, _), (8, _), (26, _), (27, _)] rfl ⟨rfl, rfl, rfl, rfl, rfl, rfl, rfl, trivial⟩ ?_
  refine rw_op (ot_cO rfl rfl rfl Try.call19 (fun w hw => hba w (hw.ro h1) (hw.ro h2))) rfl rfl (fun ⟨A5, c5⟩ _ => ?_)
  try dsimp only
  refine rw_run tab_ok 5 [(0, _), (1, _), (2, _), (7, _), (8, _), (9, _), (10, _)] rfl ⟨rfl, rfl, rfl, rfl, rfl, rfl, rfl, trivial⟩ ?_
  refine rw_end ?_
  refine cw_seq ?_
  refine cw_seq ?_
  refine cw_region ?_
  refine rw_run tab_ok 4 [(0, _), (1, _), (2, _), (7, _), (8, _), (9, _), (32, _), (34, _)] rfl ⟨rfl, rfl, rfl, rfl, rfl, rfl, rfl, rfl, trivial⟩ ?_
  refine rw_s (qs_neB rfl rfl rfl (Try.neB _ _)) rfl rfl ?_
  refine rw_run tab_ok 1 [(0, _), (1, _), (2, _), (7, _), (8, _), (9, _), (36, _)] rfl ⟨rfl, rfl, rfl, rfl, rfl, rfl, rfl, trivial⟩ ?_
  refine rw_as (t := 36) (v' := .bool false) rfl (by simp) ?_
  refine rw_run tab_ok 2 [(0, _), (1, _), (2, _), (7, _), (8, _), (36, _), (37, _), (38, _)] rfl ⟨rfl, rfl, rfl, rfl, rfl, rfl, rfl, rfl, trivial⟩ ?_
  refine rw_op (ot_c0 rfl rfl rfl Try.call28 (fun w hw => sameInts_w A4 A5 c4 c5 (joinR a b) (joinR a b) w (SF.at_ (SF.own rfl fc) hw) (SF.at_ (SF.own rfl fc) hw))) rfl rfl (fun _ _ => ?_)
  refine rw_run tab_ok 2 [(0, _), (1, _), (2, _), (7, _), (8, _), (41, _)] rfl ⟨rfl, rfl, rfl, rfl, rfl, rfl, trivial⟩ ?_
  refine rw_end ?_
  refine cw_as (t := 41) (v' := .bool false) rfl (by rw [decide_eq_true rfl]; rfl) ?_
  refine cw_cond_f rfl ?_
  refine cw_skip (xw_then ?_)
  refine cw_seq ?_
  refine cw_seq ?_
  refine cw_region ?_
  refine rw_run tab_ok 2 [(0, _), (1, _), (2, _), (7, _), (43, _)] rfl ⟨rfl, rfl, rfl, rfl, rfl, trivial⟩ ?_
  refine rw_end ?_
  refine cw_condN rfl (fun he => ?_) (fun he => ?_)
  · have hr : joinR a b = [] := by unfold joinR; rw [if_neg he]
    refine cw_seq ?_
    refine cw_region ?_
    refine rw_run tab_ok 1 [(44, _)] rfl ⟨rfl, trivial⟩ ?_
    refine rw_s (qs_len Try.underlying35 rfl rfl) rfl rfl ?_
    refine rw_run tab_ok 2 [(6, _)] rfl ⟨rfl, trivial⟩ ?_
    refine rw_end ?_
    refine cw_ret (xw_thenr ?_)
    refine xw_ret1 Try.results6 (rv_tmp rfl) ?_
    intro w hw
    exact ⟨ret_bool (by rw [hr]; rfl), hw.below⟩
  · obtain ⟨ka, kb, hl, x, hx, hxr⟩ := joinE_parts he
    have hxl := joinL_len hx
    obtain ⟨k1, k2⟩ := joinE_of ka ka ⟨hl.1, hl.1⟩ (joinL_self ka)
    have haa : ∀ w1, Sl w1 (.slice A1 a.length c1) a → Calls Try.prog 19 #[.slice A1 a.length c1, .slice A1 a.length c1] w1 fun e w' => ∃ u, e = .returned (.tuple #[u, .int .i64 0]) ∧ Below w1.heap.size w1 w' ∧ OwN w' w1.heap.size u a := fun w1 k => by
      have := join_any A1 A1 c1 c1 a a w1 k k
      rw [k1, k2] at this
      exact this
    rw [hxr]
    have hth := join_three (c := c) he
    rw [hxr] at hth
    refine cw_skip (xw_then ?_)
    refine cw_seq ?_
    refine cw_region ?_
    refine rw_run tab_ok 2 [(0, _), (1, _), (2, _), (7, _), (48, _), (49, _)] rfl ⟨rfl, rfl, rfl, rfl, rfl, rfl, trivial⟩ ?_
    refine rw_op (ot_cO rfl rfl rfl Try.call19 (fun w hw => haa w (hw.ro h1))) rfl rfl (fun ⟨A6, c6⟩ _ => ?_)
    try dsimp only
    refine rw_run tab_ok 5 [(0, _), (1, _), (2, _), (7, _), (8, _), (11, _)] rfl ⟨rfl, rfl, rfl, rfl, rfl, rfl, trivial⟩ ?_
    refine rw_end ?_
    refine cw_seq ?_
    refine cw_seq ?_
    refine cw_region ?_
    refine rw_run tab_ok 3 [(0, _), (1, _), (2, _), (7, _), (11, _), (55, _)] rfl ⟨rfl, rfl, rfl, rfl, rfl, rfl, trivial⟩ ?_
    refine rw_as (t := 55) (v' := .bool false) rfl (by rfl) ?_
    refine rw_run tab_ok 2 [(0, _), (1, _), (2, _), (7, _), (55, _), (56, _), (57, _)] rfl ⟨rfl, rfl, rfl, rfl, rfl, rfl, rfl, trivial⟩ ?_
    refine rw_op (ot_c0 rfl rfl rfl Try.call28 (fun w hw => sameInts_w A6 A1 c6 c1 a a w (SF.at_ (SF.own rfl fc) hw) (hw.ro h1))) rfl rfl (fun _ _ => ?_)
    refine rw_run tab_ok 2 [(0, _), (1, _), (2, _), (7, _), (60, _)] rfl ⟨rfl, rfl, rfl, rfl, rfl, trivial⟩ ?_
    refine rw_end ?_
    refine cw_as (t := 60) (v' := .bool false) rfl (by rw [decide_eq_true rfl]; rfl) ?_
    refine cw_cond_f rfl ?_
    refine cw_skip (xw_then ?_)
    refine cw_seq ?_
    refine cw_seq ?_
    refine cw_region ?_
    refine rw_run tab_ok 1 [(0, _), (1, _), (2, _), (7, _), (12, _)] rfl ⟨rfl, rfl, rfl, rfl, rfl, trivial⟩ ?_
    refine rw_end ?_
    refine cw_cutk (fun _ : Unit => True) (fun _ => [(0, .slice A1 a.length c1), (1, .slice A2 b.length c2), (2, .slice A3 c.length c3), (7, .slice A4 x.length c4)]) (fun _ => [ROw (.slice A4 x.length c4) x]) ?_ ?_
    · refine cw_block (cw_loop (fun i : Nat => i ≤ x.length) (fun i => x.length - i) (fun i => [(0, .slice A1 a.length c1), (1, .slice A2 b.length c2), (2, .slice A3 c.length c3), (7, .slice A4 x.length c4), (12, .int .i64 (i : Int))]) (fun _ => [ROw (.slice A4 x.length c4) x]) 0 (Nat.zero_le _) ⟨rfl, rfl, rfl, rfl, rfl, trivial⟩ me ?_)
      rintro i hi'
      have hi : i ≤ x.length := hi'
      refine cw_seq ?_
      refine cw_seq ?_
      refine cw_region ?_
      refine rw_run tab_ok 2 [(0, _), (1, _), (2, _), (7, _), (12, _), (61, _), (62, _)] rfl ⟨rfl, rfl, rfl, rfl, rfl, rfl, rfl, trivial⟩ ?_
      refine rw_s (qs_len Try.underlying35 rfl rfl) rfl rfl ?_
      refine rw_run tab_ok 1 [(0, _), (1, _), (2, _), (7, _), (12, _), (64, _)] rfl ⟨rfl, rfl, rfl, rfl, rfl, rfl, trivial⟩ ?_
      refine rw_end ?_
      refine cw_condD rfl (fun hlt => ?_) (fun hlt => ?_)
      · have hil : i < x.length := by omega
        obtain ⟨s1, s2⟩ := joinL_stand hx hil
        refine cw_skip (xw_then ?_)
        refine cw_seq ?_
        refine cw_block ?_
        refine cw_seq ?_
        refine cw_draw (.still 0 (.still 1 (.still 2 (.still 3 (.still 4 (.still 5 (.still 6 (.still 7 (.pick 8 (.still 9 (.still 10 (.still 11 (.still 12 (.still 13 (.still 14 (.still 15 (.still 16 (.still 17 (.still 18 (.pick 19 (.still 20 (.still 21 .done)) .stop))))))))))) .stop))))))))) [] rfl (by kernel_rfl) (by kernel_rfl) ?_
        refine ro_run tab_ok ha 2 [(0, _), (1, _), (2, _), (7, _), (12, _), (67, _), (68, _)] rfl ⟨rfl, rfl, rfl, rfl, rfl, rfl, rfl, trivial⟩ ?_
        refine ro_s2 rfl (qs_idx Try.underlying35 Try.sizeOf3 (.ro h1) (by omega) rfl rfl rfl) rfl rfl ha ?_
        refine ro_s2 rfl (qs_ld (SF.int (.ro h1) (by omega)) rfl rfl Try.isAgg3) rfl rfl ha ?_
        refine ro_run tab_ok ha 2 [(0, _), (1, _), (2, _), (7, _), (12, _), (70, _), (71, _), (72, _)] rfl ⟨rfl, rfl, rfl, rfl, rfl, rfl, rfl, rfl, trivial⟩ ?_
        refine ro_s2 rfl (qs_idx Try.underlying35 Try.sizeOf3 (SF.own rfl fc) (by omega) rfl rfl rfl) rfl rfl ha ?_
        refine ro_s2 rfl (qs_ld (SF.int (SF.own rfl fc) (by omega)) rfl rfl Try.isAgg3) rfl rfl ha ?_
        refine ro_op2 rfl (ot_c0 rfl rfl rfl Try.call29 (fun w hw => rstands_any (a.getD i 0) (x.getD i 0) w)) rfl rfl (.inr fun _ => ha) (fun _ _ => ?_) ro_stop
        refine ro_run tab_ok ha 2 [(0, _), (1, _), (2, _), (7, _), (12, _), (77, _)] rfl ⟨rfl, rfl, rfl, rfl, rfl, rfl, trivial⟩ ?_
        refine ro_as (t := 77) (v' := .bool false) rfl (by rw [s1]; rfl) ?_
        refine ro_run tab_ok ha 2 [(0, _), (1, _), (2, _), (7, _), (12, _), (77, _), (78, _), (79, _)] rfl ⟨rfl, rfl, rfl, rfl, rfl, rfl, rfl, rfl, trivial⟩ ?_
        refine ro_s2 rfl (qs_idx Try.underlying35 Try.sizeOf3 (.ro h2) (by omega) rfl rfl rfl) rfl rfl ha ?_
        refine ro_s2 rfl (qs_ld (SF.int (.ro h2) (by omega)) rfl rfl Try.isAgg3) rfl rfl ha ?_
        refine ro_run tab_ok ha 2 [(0, _), (1, _), (2, _), (7, _), (12, _), (77, _), (81, _), (82, _), (83, _)] rfl ⟨rfl, rfl, rfl, rfl, rfl, rfl, rfl, rfl, rfl, trivial⟩ ?_
        refine ro_s2 rfl (qs_idx Try.underlying35 Try.sizeOf3 (SF.own rfl fc) (by omega) rfl rfl rfl) rfl rfl ha ?_
        refine ro_s2 rfl (qs_ld (SF.int (SF.own rfl fc) (by omega)) rfl rfl Try.isAgg3) rfl rfl ha ?_
        refine ro_op2 rfl (ot_c0 rfl rfl rfl Try.call29 (fun w hw => rstands_any (b.getD i 0) (x.getD i 0) w)) rfl rfl (.inr fun _ => ha) (fun _ _ => ?_) ro_stop
        refine ro_run tab_ok ha 2 [(0, _), (1, _), (2, _), (7, _), (12, _), (88, _)] rfl ⟨rfl, rfl, rfl, rfl, rfl, rfl, trivial⟩ ?_
        refine ro_end ?_
        refine cw_as (t := 88) (v' := .bool false) rfl (by rw [s2]; rfl) ?_
        refine cw_cond_f rfl ?_
        refine cw_skip (xw_blkn (xw_then ?_))
        refine cw_region ?_
        refine rw_run tab_ok 1 [(0, _), (1, _), (2, _), (7, _), (65, _)] rfl ⟨rfl, rfl, rfl, rfl, rfl, trivial⟩ ?_
        refine rw_s (qs_add rfl rfl rfl (by omega)) rfl rfl ?_
        refine rw_run tab_ok 1 [(0, _), (1, _), (2, _), (7, _), (12, _)] rfl ⟨rfl, rfl, rfl, rfl, rfl, trivial⟩ ?_
        refine rw_round (i + 1) (hil) (by show _ - _ < _ - _; omega) ⟨rfl, rfl, rfl, rfl, rfl, trivial⟩ me
      · refine cw_exit (xw_thenx (xw_thenx (xw_blk ?_)))
        refine xw_join () (trivial) ⟨rfl, rfl, rfl, rfl, trivial⟩ me
    · rintro _ _
      refine cw_seq ?_
      refine cw_region ?_
      refine rw_run tab_ok 2 [(0, _), (1, _), (2, _), (90, _), (91, _)] rfl ⟨rfl, rfl, rfl, rfl, rfl, trivial⟩ ?_
      refine rw_op (ot_cO rfl rfl rfl Try.call19 (fun w hw => join_any A4 A3 c4 c3 x c w (SF.at_ (SF.own rfl fc) hw) (hw.ro h3))) rfl rfl (fun ⟨A7, c7⟩ _ => ?_)
      try dsimp only
      refine rw_run tab_ok 5 [(0, _), (1, _), (2, _), (8, _), (13, _)] rfl ⟨rfl, rfl, rfl, rfl, rfl, trivial⟩ ?_
      refine rw_end ?_
      refine cw_seq ?_
      refine cw_region ?_
      refine rw_run tab_ok 2 [(0, _), (8, _), (13, _), (96, _), (97, _)] rfl ⟨rfl, rfl, rfl, rfl, rfl, trivial⟩ ?_
      refine rw_op (ot_cO rfl rfl rfl Try.call19 (fun w hw => join_any A2 A3 c2 c3 b c w (hw.ro h2) (hw.ro h3))) rfl rfl (fun ⟨A8, c8⟩ _ => ?_)
      try dsimp only
      refine rw_run tab_ok 5 [(0, _), (8, _), (10, _), (13, _), (14, _)] rfl ⟨rfl, rfl, rfl, rfl, rfl, trivial⟩ ?_
      refine rw_end ?_
      refine cw_seq ?_
      refine cw_seq ?_
      refine cw_region ?_
      refine rw_run tab_ok 2 [(0, _), (8, _), (13, _), (14, _), (102, _)] rfl ⟨rfl, rfl, rfl, rfl, rfl, trivial⟩ ?_
      refine rw_end ?_
      refine cw_condN rfl (fun hbc => ?_) (fun hbc => ?_)
      · have hne := hth.1 hbc
        refine cw_seq ?_
        refine cw_region ?_
        refine rw_run tab_ok 3 [(6, _)] rfl ⟨rfl, trivial⟩ ?_
        refine rw_end ?_
        refine cw_ret (xw_thenr ?_)
        refine xw_ret1 Try.results6 (rv_tmp rfl) ?_
        intro w hw
        exact ⟨ret_bool (by rw [decide_eq_false hne]; rfl), hw.below⟩
      · obtain ⟨e1, e2⟩ := hth.2 hbc
        have hag : ∀ w1, Sl w1 (.slice A1 a.length c1) a → Sl w1 (.slice A8 (joinR b c).length c8) (joinR b c) → Calls Try.prog 19 #[.slice A1 a.length c1, .slice A8 (joinR b c).length c8] w1 fun e w' => ∃ u, e = .returned (.tuple #[u, .int .i64 (joinE x c)]) ∧ Below w1.heap.size w1 w' ∧ OwN w' w1.heap.size u (joinR x c) := fun w1 k k' => by
          have := join_any A1 A8 c1 c8 a (joinR b c) w1 k k'
          rw [← e1, ← e2] at this
          exact this
        refine cw_skip (xw_then ?_)
        refine cw_seq ?_
        refine cw_region ?_
        refine rw_run tab_ok 2 [(8, _), (13, _), (106, _), (107, _)] rfl ⟨rfl, rfl, rfl, rfl, trivial⟩ ?_
        refine rw_op (ot_cO rfl rfl rfl Try.call19 (fun w hw => hag w (hw.ro h1) (SF.at_ (SF.own rfl fc) hw))) rfl rfl (fun ⟨A9, c9⟩ _ => ?_)
        try dsimp only
        refine rw_run tab_ok 5 [(8, _), (13, _), (15, _), (16, _)] rfl ⟨rfl, rfl, rfl, rfl, trivial⟩ ?_
        refine rw_end ?_
        refine cw_seq ?_
        refine cw_region ?_
        refine rw_run tab_ok 4 [(13, _), (15, _), (114, _)] rfl ⟨rfl, rfl, rfl, trivial⟩ ?_
        refine rw_as (t := 114) (v' := .bool true) rfl (by rw [decide_eq_true rfl]) ?_
        refine rw_run tab_ok 2 [(114, _), (115, _), (116, _)] rfl ⟨rfl, rfl, rfl, trivial⟩ ?_
        refine rw_op (ot_c0 rfl rfl rfl Try.call28 (fun w hw => sameInts_w A7 A9 c7 c9 (joinR x c) (joinR x c) w (SF.at_ (SF.own rfl fc) hw) (SF.at_ (SF.own rfl fc) hw))) rfl rfl (fun _ _ => ?_)
        refine rw_run tab_ok 2 [(6, _)] rfl ⟨rfl, trivial⟩ ?_
        refine rw_end ?_
        refine cw_ret ?_
        refine xw_ret1 Try.results6 (rv_tmp rfl) ?_
        intro w hw
        exact ⟨ret_bool (by rw [decide_eq_true rfl]), hw.below⟩
theorem verifyJoin_law (v1 v2 v3 : Value) (a b c : List Int) (w : World) (h1 : Sl w v1 a) (h2 : Sl w v2 b) (h3 : Sl w v3 c) : Calls Try.prog 6 #[v1, v2, v3] w fun e w' => e = .returned (.bool true) ∧ Below w.heap.size w w' := by
  obtain ⟨A1, c1, rfl, _⟩ := h1.form
  obtain ⟨A2, c2, rfl, _⟩ := h2.form
  obtain ⟨A3, c3, rfl, _⟩ := h3.form
  exact verifyJoin_any A1 A2 A3 c1 c2 c3 a b c w h1 h2 h3
end Go.Proofs.Ytejpkcheimgdfaa

-- Read
/- How what came in reads as data of the proofs' own types: numbers, texts, slices of whatever reads. -/
namespace Go.Proofs.Ytejpkcheimgdfaa
open Go.ChangeShapes Go.WideShapes Go.ChangeAt Go.RowKit Go.Deep

/-- Whatever reads at type t is a datum of α. -/
def Rd (t : TypeId) (α : Type) [Rep α] : Prop :=
  ∀ (H : Type) (enc : TypeId × Value → H) (W : World) (fuel : Nat) (cs : List Value) (x : DataW H × List MemPlace),
    DataW.trod enc Try.prog W 0 (fun _ => true) true fuel t cs = some x → (∀ n ∈ x.1.weights Try.prog t, n ≤ reachBytes) → ∃ y : α, Rep.rep W W.heap.size cs y

theorem i64_of_wf {n : Int} (hw : (Lit.int .i64 n).wf = true) : I64 n := by
  simp [Lit.wf, IntKind.min, IntKind.max, IntKind.signed, IntKind.bits] at hw
  exact ⟨by omega, by omega⟩
theorem rd_int {t : TypeId} (ht : Try.prog.underlying t = some (.int .i64)) : Rd t Int := by
  intro H enc W fuel cs x h _
  obtain ⟨n, rfl, _, hw⟩ := DataW.trod_int ht h
  refine ⟨n, rfl, ?_⟩
  simp [Lit.wf, IntKind.min, IntKind.max, IntKind.signed, IntKind.bits] at hw
  exact ⟨by omega, by omega⟩

theorem exists_list {α : Type} {R : Nat → α → Prop} (n : Nat) (h : ∀ i, i < n → ∃ y, R i y) : ∃ ys : List α, ys.length = n ∧ ∀ i y, ys[i]? = some y → R i y := by
  induction n with
  | zero => exact ⟨[], rfl, fun i y h => by simp at h⟩
  | succ n ih =>
    obtain ⟨ys, hl, hy⟩ := ih (fun i hi => h i (by omega))
    obtain ⟨y, hR⟩ := h n (by omega)
    refine ⟨ys ++ [y], by simp [hl], fun i z hz => ?_⟩
    by_cases hi : i < ys.length
    · rw [List.getElem?_append_left hi] at hz; exact hy i z hz
    · rw [List.getElem?_append_right (by omega)] at hz
      have : i - ys.length = 0 := by
        rcases Nat.eq_zero_or_pos (i - ys.length) with h | h
        · exact h
        · rw [List.getElem?_eq_none (by simp; omega)] at hz; cases hz
      rw [this] at hz
      simp at hz
      subst hz
      have : i = n := by omega
      rw [this]; exact hR

theorem rd_slice {t e : TypeId} {α : Type} [Rep α] (hr : Rd e α) (ht : Try.prog.underlying t = some (.slice e)) (hc : Try.prog.cellsOf e = Rep.k α) (hk : 0 < Rep.k α) (hb : 0 < Try.prog.bytesOf e) :
    Rd t (List α) := by
  intro H enc W fuel cs x h hw
  rcases open_slice ht h with ⟨rfl, rfl⟩ | ⟨a, len, cap, m, n, D, Pl, rfl, _, hl, hm, hmm, rfl, hi⟩
  · exact ⟨[], _, rfl, SlB.nil_⟩
  · have hmc : cap = m := by simpa using hmm.symm
    clear hmm
    rw [hmc] at hl hm ⊢
    clear hmc
    have hel : ∀ i, i < len → ∃ y : α, ∃ cs', W.cells? 0 (a.add (i * Rep.k α)) (Rep.k α) = some cs' ∧ Rep.rep W W.heap.size cs' y := by
      intro i hil
      obtain ⟨cs', hcs, htr⟩ := hi i (by omega)
      rw [hc] at hcs
      obtain ⟨y, hy⟩ := hr H enc W n cs' _ htr (fun u hu => hw u (by
        simp only [DataW.weights, ht]
        refine List.mem_cons_of_mem _ (List.mem_append_left _ ?_)
        have : ∀ (l : List Nat), i ∈ l → u ∈ DataW.weightsAll Try.prog e (l.map D) := by
          intro l
          induction l with
          | nil => simp
          | cons z l ih =>
            intro hz
            simp only [List.map_cons, DataW.weightsAll, List.mem_append]
            rcases List.mem_cons.1 hz with rfl | hz
            · exact .inl hu
            · exact .inr (ih hz)
        exact this _ (List.mem_range.2 hil)))
      exact ⟨y, cs', hcs, hy⟩
    obtain ⟨ys, hyl, hy⟩ := exists_list len hel
    have hbytes : (len + (m - len)) * Try.prog.bytesOf e ≤ reachBytes := by
      have := hw ((((List.range len).map D).length + ((List.range (m - len)).map fun j => D (len + j)).length) * Try.prog.bytesOf e) (by simp only [DataW.weights, ht]; exact List.mem_cons_self)
      simpa using this
    have hlen : len ≤ 140737488355328 := by
      have h1 : len + (m - len) ≤ (len + (m - len)) * Try.prog.bytesOf e := Nat.le_mul_of_pos_right _ hb
      have h2 := reachBytes_lt
      omega
    refine ⟨ys, _, rfl, some a, m, by rw [hyl], by omega, hm, by omega, fun h0 => ?_⟩
    have hsome : ∀ i, i < len → ∀ j, j < Rep.k α → ∃ v, W.cell? ((a.add (i * Rep.k α)).add j) = some v := by
      intro i hil j hj
      obtain ⟨y, cs', hcs, _⟩ := hel i hil
      obtain ⟨_, hcl, hat⟩ := World.cells?_some hcs
      exact ⟨cs'[j]'(by omega), by rw [hat j hj]; exact List.getElem?_eq_getElem (by omega)⟩
    obtain ⟨b, off, spot⟩ := a
    obtain ⟨v0, hv0⟩ := hsome 0 (by omega) 0 hk
    have hspot : spot = none := by simpa [Addr.add] using World.cell?_spot hv0
    subst hspot
    have hadd : ∀ i j : Nat, ((⟨b, off, none⟩ : Addr).add i).add j = ⟨b, off + i + j, none⟩ := by
      intro i j; unfold Addr.add; by_cases hi : i = 0 <;> by_cases hj : j = 0 <;> simp [hi, hj, Nat.add_assoc]
    have hblt : b < W.heap.size := by
      rw [hadd] at hv0
      rcases Nat.lt_or_ge b W.heap.size with h | h
      · exact h
      · simp [World.cell?, Array.getElem?_eq_none h] at hv0
    refine ⟨b, off, rfl, hblt, fun i y hyi => ?_⟩
    obtain ⟨cs', hcs, hrep⟩ := hy i y hyi
    obtain ⟨_, hcl, hat⟩ := World.cells?_some hcs
    refine ⟨cs', hrep, fun j u hu => ?_⟩
    have hj : j < Rep.k α := by have := (List.getElem?_eq_some_iff.1 hu).1; omega
    have := hat j hj
    rw [hadd] at this
    rw [this, hu]

/-! Arguments. -/
section
variable {H : Type} {enc : TypeId × Value → H} {W : World} {t e : TypeId} {v : Value} {d : DataW H} {p : List MemPlace} {base : Nat}
set_option maxRecDepth 100000 in
theorem arg_int (ht : Try.prog.underlying t = some (.int .i64)) (hv : Value.okWide Try.prog W .any base t v) (h : DataW.Trod enc Try.prog W 0 (fun _ => true) true t v d p) : ∃ n, v = .int .i64 n ∧ I64 n := by
  obtain ⟨n, rfl, _, _, hw⟩ := open_int ht hv h
  refine ⟨n, rfl, ?_⟩
  simp [Lit.wf, IntKind.min, IntKind.max, IntKind.signed, IntKind.bits] at hw
  exact ⟨by omega, by omega⟩
set_option maxRecDepth 100000 in
theorem arg_string (ht : Try.prog.underlying t = some .string) (hv : Value.okWide Try.prog W .any base t v) (h : DataW.Trod enc Try.prog W 0 (fun _ => true) true t v d p) (hw : ∀ n ∈ d.weights Try.prog t, n ≤ reachBytes) : ∃ l : List UInt8, v = .string ⟨l.toArray⟩ ∧ l.length ≤ 140737488351232 := by
  obtain ⟨⟨⟨l⟩⟩, rfl, rfl, _, _⟩ := Go.ChangeMaps.open_string ht hv h
  refine ⟨l, rfl, ?_⟩
  have := hw l.length (by simp [DataW.weights])
  unfold reachBytes at this
  omega
set_option maxRecDepth 100000 in
theorem arg_slice {α : Type} [Rep α] (hr : Rd t (List α)) (ht : Try.prog.underlying t = some (.slice e)) (hv : Value.okWide Try.prog W .any base t v) (h : DataW.Trod enc Try.prog W 0 (fun _ => true) true t v d p) (hw : ∀ n ∈ d.weights Try.prog t, n ≤ reachBytes) : ∃ xs : List α, Sl W v xs := by
  obtain ⟨a, len, cap, rfl⟩ := okWide_slice ht hv
  obtain ⟨fuel, hf⟩ := h
  obtain ⟨xs, v', hv', hs⟩ := hr _ _ _ _ _ _ hf hw
  simp [Value.cells] at hv'
  subst hv'
  exact ⟨xs, hs⟩
set_option maxRecDepth 100000 in
theorem arg_slice_b {α : Type} [Rep α] (hr : Rd t (List α)) (ht : Try.prog.underlying t = some (.slice e)) (hv : Value.okWide Try.prog W .any base t v) (h : DataW.Trod enc Try.prog W 0 (fun _ => true) true t v d p) (hw : ∀ n ∈ d.weights Try.prog t, n ≤ reachBytes) : ∃ xs : List α, Sl W v xs ∧ xs.length * Try.prog.bytesOf e ≤ reachBytes := by
  obtain ⟨xs, hs⟩ := arg_slice hr ht hv h hw
  obtain ⟨a, len, cap, rfl⟩ := okWide_slice ht hv
  have hl := SlB.len_eq hs
  refine ⟨xs, hs, ?_⟩
  obtain ⟨fuel, hf⟩ := h
  rcases open_slice ht hf with ⟨hcs, hx⟩ | ⟨a', len', cap', m, n, D, Pl, hcs, _, hl', hm, hmm, hx, hi⟩
  · simp [Value.cells] at hcs
    rw [hl, hcs.2.1]; simp
  · simp [Value.cells] at hcs
    obtain ⟨_, rfl, _⟩ := hcs
    simp only [Prod.mk.injEq] at hx
    have := hw ((((List.range len).map D).length + ((List.range (m - len)).map fun j => D (len + j)).length) * Try.prog.bytesOf e) (by rw [hx.1]; simp only [DataW.weights, ht]; exact List.mem_cons_self)
    refine Nat.le_trans ?_ this
    rw [hl]
    exact Nat.mul_le_mul_right _ (by simp)
set_option maxRecDepth 100000 in
theorem arg_agg {α : Type} [Rep α] {fs : Array Field} (hr : Rd t α) (ht : Try.prog.underlying t = some (.struct fs)) (hv : Value.okWide Try.prog W .any base t v) (h : DataW.Trod enc Try.prog W 0 (fun _ => true) true t v d p) (hw : ∀ n ∈ d.weights Try.prog t, n ≤ reachBytes) : ∃ (x : α) (cs : List Value), v = .agg cs.toArray ∧ Rep.rep W W.heap.size cs x := by
  obtain ⟨cs, rfl, _⟩ := okWide_struct ht hv
  obtain ⟨fuel, hf⟩ := h
  obtain ⟨x, hx⟩ := hr _ _ _ _ _ _ hf hw
  exact ⟨x, _, rfl, hx⟩
end
end Go.Proofs.Ytejpkcheimgdfaa

-- ReadOp
namespace Go.Proofs.Ytejpkcheimgdfaa
open Go.ChangeShapes Go.WideShapes Go.ChangeAt Go.RowKit Go.Deep

theorem Try.cOp : Try.prog.cellsOf 61 = 2 := by kernel_rfl
theorem Try.bOp : Try.prog.bytesOf 61 = 16 := by kernel_rfl
theorem Try.cInt : Try.prog.cellsOf 3 = 1 := by kernel_rfl
set_option maxRecDepth 100000 in
theorem rd_op : Rd 61 MOp := by
  intro H enc W fuel cs x h hw
  obtain ⟨xs, n, _, rfl, hcl, hxl, hf⟩ := DataW.trod_struct Try.underlying61 h
  rw [Try.cOp] at hcl
  obtain ⟨c0, c1, rfl⟩ : ∃ c0 c1, cs = [c0, c1] := by
    match cs, hcl with
    | [c0, c1], _ => exact ⟨c0, c1, rfl⟩
  match xs, hxl with
  | [y0, y1], _ =>
    have h0 := hf 0 _ rfl
    have h1 := hf 1 _ rfl
    simp [Try.cInt] at h0 h1
    obtain ⟨n0, e0, he0, hi0⟩ := DataW.trod_int Try.underlying3 h0
    obtain ⟨n1, e1, he1, hi1⟩ := DataW.trod_int Try.underlying3 h1
    simp at e0 e1
    subst e0 e1
    exact ⟨⟨n0, n1⟩, rfl, i64_of_wf hi0, i64_of_wf hi1⟩
theorem rd_ops : Rd 52 (List MOp) := rd_slice rd_op Try.underlying52 Try.cOp (by decide) (by rw [Try.bOp]; decide)
theorem rd_i : Rd 3 Int := rd_int Try.underlying3
end Go.Proofs.Ytejpkcheimgdfaa

-- ReadP
/- Arguments that are programs, read as data. -/
namespace Go.Proofs.Ytejpkcheimgdfaa
open Go.ChangeShapes Go.WideShapes Go.ChangeAt Go.RowKit Go.Deep

/-- The parts of a struct that reads. -/
theorem rd_parts {t : TypeId} {fs : Array Field} (ht : Try.prog.underlying t = some (.struct fs)) {H : Type} {enc : TypeId × Value → H} {W : World} {fuel : Nat} {cs : List Value} {x : DataW H × List MemPlace}
    (h : DataW.trod enc Try.prog W 0 (fun _ => true) true fuel t cs = some x) (hw : ∀ n ∈ x.1.weights Try.prog t, n ≤ reachBytes) :
    cs.length = Try.prog.cellsOf t ∧ ∀ (i : Nat) (f : Field), fs[i]? = some f → ∀ (α : Type) [Rep α], Rd f.type α → ∃ y : α, Rep.rep W W.heap.size ((cs.drop f.offset).take (Try.prog.cellsOf f.type)) y := by
  obtain ⟨xs, n, _, rfl, hcl, hxl, hf⟩ := DataW.trod_struct ht h
  refine ⟨hcl, fun i f hfi α _ hr => ?_⟩
  have h1 := hf i f hfi
  have hi : i < xs.length := by rw [hxl]; exact (Array.getElem?_eq_some_iff.1 hfi).1
  rw [List.getElem?_eq_getElem hi] at h1
  refine hr _ _ _ _ _ _ h1 fun u hu => hw u ?_
  simp only [DataW.weights, ht]
  exact DataW.weights_mem_each (j := i) (by rw [List.getElem?_map, Array.getElem?_toList, hfi]; rfl) (by rw [List.getElem?_map, List.getElem?_eq_getElem hi]; rfl) u hu
theorem Try.cIntP : Try.prog.cellsOf 3 = 1 := by kernel_rfl
theorem Try.bIntP : Try.prog.bytesOf 3 = 8 := by kernel_rfl
theorem Try.cIntsP : Try.prog.cellsOf 35 = 1 := by kernel_rfl
theorem Try.cOpsP : Try.prog.cellsOf 52 = 1 := by kernel_rfl
theorem Try.cFuncP : Try.prog.cellsOf 54 = 4 := by kernel_rfl
theorem Try.bFuncP : Try.prog.bytesOf 54 = 64 := by kernel_rfl
theorem Try.cFuncsP : Try.prog.cellsOf 22 = 1 := by kernel_rfl
theorem rd_ints : Rd 35 (List Int) := rd_slice rd_i Try.underlying35 Try.cIntP (by decide) (by rw [Try.bIntP]; decide)
set_option maxRecDepth 100000 in
theorem rd_func : Rd 54 MFunc := by
  intro H enc W fuel cs x h hw
  obtain ⟨hl, hp⟩ := rd_parts Try.underlying54 h hw
  rw [Try.cFuncP] at hl
  obtain ⟨c0, c1, c2, c3, rfl⟩ : ∃ c0 c1 c2 c3, cs = [c0, c1, c2, c3] := by
    match cs, hl with
    | [c0, c1, c2, c3], _ => exact ⟨c0, c1, c2, c3, rfl⟩
  obtain ⟨y0, h0, i0⟩ := hp 0 _ rfl Int rd_i
  obtain ⟨y1, v1, h1, i1⟩ := hp 1 _ rfl (List Int) rd_ints
  obtain ⟨y2, h2, i2⟩ := hp 2 _ rfl Int rd_i
  obtain ⟨y3, v3, h3, i3⟩ := hp 3 _ rfl (List MOp) rd_ops
  simp [Try.cIntP, Try.cIntsP, Try.cOpsP] at h0 h1 h2 h3
  subst h0 h1 h2 h3
  exact ⟨⟨y0, y1, y2, y3⟩, _, _, rfl, ⟨i0, i2⟩, i1, i3⟩
theorem rd_funcs : Rd 22 (List MFunc) := rd_slice rd_func Try.underlying22 Try.cFuncP (by decide) (by rw [Try.bFuncP]; decide)
/-- A program. -/
structure MProg where
  funcs : List MFunc
instance : Rep MProg where
  k := 1
  rep w B cs p := ∃ v, cs = [v] ∧ SlB w B v p.funcs
  len h := by obtain ⟨v, h, _⟩ := h; rw [h]; rfl
  keep h hc := by obtain ⟨v, h, hs⟩ := h; exact ⟨v, h, hs.keep hc⟩
  more h hb := by obtain ⟨v, h, hs⟩ := h; exact ⟨v, h, hs.more hb⟩
  one h := by obtain ⟨v, h, hs⟩ := h; obtain ⟨A, c, rfl, _⟩ := hs.form; rw [h]; simp [Value.oneCell']
set_option maxRecDepth 100000 in
theorem rd_prog : Rd 24 MProg := by
  intro H enc W fuel cs x h hw
  obtain ⟨hl, hp⟩ := rd_parts Try.underlying24 h hw
  rw [show Try.prog.cellsOf 24 = 1 from by kernel_rfl] at hl
  obtain ⟨c0, rfl⟩ : ∃ c0, cs = [c0] := by
    match cs, hl with
    | [c0], _ => exact ⟨c0, rfl⟩
  obtain ⟨y0, v, h0, i0⟩ := hp 0 _ rfl (List MFunc) rd_funcs
  simp [Try.cFuncsP] at h0
  subst h0
  exact ⟨⟨y0⟩, _, rfl, i0⟩
/-- A law over a program, from one over its functions. -/
theorem prog_law {f : FuncId} {W : World} {v : Value} {fs : List MFunc} {rest : List Value} {R : Ending → World → Prop} (hs : Sl W v fs) (h : ∀ A c, Sl W (.slice A fs.length c) fs → Calls Try.prog f (Value.agg #[.slice A fs.length c] :: rest).toArray W R) : Calls Try.prog f (Value.agg #[v] :: rest).toArray W R := by
  obtain ⟨A, c, rfl, _⟩ := hs.form
  exact h A c hs
end Go.Proofs.Ytejpkcheimgdfaa

-- Pr14
/- Programs: what the statements' functions answer. -/
namespace Go.Proofs.Ytejpkcheimgdfaa
open Go.RowKit

theorem agg_w {f : FuncId} {w : World} {v : Value} {b : Bool} (h : b = true) (hc : Calls Try.prog f #[v] w fun e w' => e = .returned (.bool b) ∧ Below w.heap.size w w') : Calls Try.prog f #[v] w fun e w' => e = .returned (.bool true) ∧ Below w.heap.size w w' := by
  subst h; exact hc
set_option maxRecDepth 100000 in
set_option maxHeartbeats 2000000 in
theorem progTells_any (A : Option Addr) (c : Nat) (fs : List MFunc) (s : List UInt8) (w : World) (hs : Sl w (.slice A fs.length c) fs) (hl : s.length ≤ 140737488355320) :
    Calls Try.prog 3 #[.agg #[.slice A fs.length c], .string ⟨s.toArray⟩] w fun e w' => e = .returned (.bool true) ∧ Below w.heap.size w w' := by
  refine enter Try.func3 rfl Try.ntmps3 rfl ?_
  refine cw_seq ?_
  refine cw_region ?_
  refine rw_op (ot_box rfl rfl rfl) rfl rfl (fun g1 _ => ?_)
  refine rw_run tab_ok 1 [(1, _), (2, _)] rfl ⟨rfl, rfl, trivial⟩ ?_
  refine rw_end ?_
  refine cw_seq ?_
  refine cw_region ?_
  refine rw_s (qs_ldbA (vs := [_]) fc Try.isAgg24 Try.sizeOf24 rfl rfl (by rfl) rfl) rfl rfl ?_
  refine rw_op (ot_c0 rfl rfl rfl Try.call10 (fun w hw => pencode_any A c fs w (hw.ro hs))) rfl rfl (fun _ _ => ?_)
  refine rw_run tab_ok 5 [(1, _), (2, _), (5, _), (6, _)] rfl ⟨rfl, rfl, rfl, rfl, trivial⟩ ?_
  refine rw_end ?_
  refine cw_seq ?_
  refine cw_region ?_
  refine rw_run tab_ok 1 [(1, _), (2, _), (5, _), (6, _), (19, _)] rfl ⟨rfl, rfl, rfl, rfl, rfl, trivial⟩ ?_
  refine rw_op (ot_cO rfl rfl rfl Try.call11 (fun w hw => pdecode_any s w hl)) rfl rfl (fun ⟨A1, c1⟩ _ => ?_)
  try dsimp only
  refine rw_run tab_ok 3 [(1, _), (2, _), (5, _), (6, _), (21, _), (22, _)] rfl ⟨rfl, rfl, rfl, rfl, rfl, rfl, trivial⟩ ?_
  refine rw_op (ot_alloc Try.zeroValue24 rfl rfl) rfl rfl (fun g2 _ => ?_)
  refine rw_op (ot_stb _ fc Try.sizeOf24 rfl rfl rfl rfl rfl (by rfl) rfl (by rfl)) rfl rfl (fun _ _ => ?_)
  refine rw_run tab_ok 1 [(1, _), (2, _), (5, _), (6, _), (7, _), (8, _)] rfl ⟨rfl, rfl, rfl, rfl, rfl, rfl, trivial⟩ ?_
  refine rw_end ?_
  refine cw_seq ?_
  refine cw_region ?_
  refine rw_s (qs_ldbA (vs := [_]) fc Try.isAgg24 Try.sizeOf24 rfl rfl (by rfl) rfl) rfl rfl ?_
  refine rw_op (ot_c0 rfl rfl rfl Try.call12 (fun w hw => rcheckP_any A c fs w (hw.ro hs))) rfl rfl (fun _ _ => ?_)
  refine rw_run tab_ok 2 [(1, _), (2, _), (5, _), (6, _), (7, _), (8, _), (9, _), (10, _)] rfl ⟨rfl, rfl, rfl, rfl, rfl, rfl, rfl, rfl, trivial⟩ ?_
  refine rw_end ?_
  refine cw_seq ?_
  refine cw_seq ?_
  refine cw_region ?_
  refine rw_run tab_ok 2 [(1, _), (2, _), (5, _), (6, _), (7, _), (8, _), (9, _), (10, _), (26, _)] rfl ⟨rfl, rfl, rfl, rfl, rfl, rfl, rfl, rfl, rfl, trivial⟩ ?_
  refine rw_end ?_
  refine cw_cutk (fun _ : Unit => True) (fun _ => [(1, .string ⟨s.toArray⟩), (2, .pointer (some ⟨g1, 0, none⟩)), (5, .string ⟨(encodeP fs).1.toArray⟩), (6, .int .i64 (encodeP fs).2), (7, .pointer (some ⟨g2, 0, none⟩)), (8, .int .i64 (decodeP s).2), (9, .int .i64 (checkP fs)), (10, .string ⟨(encodeP fs).1.toArray⟩)]) (fun _ => [RBox g1 [.slice A fs.length c] 24, RBox g2 [.slice A1 (decodeP s).1.length c1] 24, ROw (.slice A1 (decodeP s).1.length c1) (decodeP s).1]) ?_ ?_
  · refine cw_condD rfl (fun h => ?_) (fun h => ?_)
    · have he := encodeP_of h
      refine cw_region ?_
      refine rw_s (qs_ldbA (vs := [_]) fc Try.isAgg24 Try.sizeOf24 rfl rfl (by rfl) rfl) rfl rfl ?_
      refine rw_op (ot_c0 rfl rfl rfl Try.call13 (fun w hw => rprogBytes_any A c fs w (hw.ro hs) h)) rfl rfl (fun _ _ => ?_)
      refine rw_run tab_ok 1 [(1, _), (2, _), (5, _), (6, _), (7, _), (8, _), (9, _), (10, _)] rfl ⟨rfl, rfl, rfl, rfl, rfl, rfl, rfl, rfl, trivial⟩ ?_
      rw [he]
      refine rw_join () (trivial) ⟨rfl, rfl, rfl, rfl, rfl, rfl, rfl, rfl, trivial⟩ me
    · have he := encodeP_no h
      refine cw_skip ?_
      rw [he]
      refine xw_join () (trivial) ⟨rfl, rfl, rfl, rfl, rfl, rfl, rfl, rfl, trivial⟩ me
  · rintro _ _
    refine cw_seq ?_
    refine cw_region ?_
    refine rw_run tab_ok 1 [(2, _), (5, _), (6, _), (7, _), (8, _), (9, _), (10, _), (30, _)] rfl ⟨rfl, rfl, rfl, rfl, rfl, rfl, rfl, rfl, trivial⟩ ?_
    refine rw_op (ot_cO rfl rfl rfl Try.call14 (fun w hw => rprogramOf_any s w hl)) rfl rfl (fun ⟨A2, c2⟩ _ => ?_)
    try dsimp only
    refine rw_run tab_ok 3 [(2, _), (5, _), (6, _), (7, _), (8, _), (9, _), (10, _), (32, _), (33, _)] rfl ⟨rfl, rfl, rfl, rfl, rfl, rfl, rfl, rfl, rfl, trivial⟩ ?_
    refine rw_op (ot_alloc Try.zeroValue24 rfl rfl) rfl rfl (fun g3 _ => ?_)
    refine rw_op (ot_stb _ fc Try.sizeOf24 rfl rfl rfl rfl rfl (by rfl) rfl (by rfl)) rfl rfl (fun _ _ => ?_)
    refine rw_run tab_ok 1 [(2, _), (5, _), (6, _), (7, _), (8, _), (9, _), (10, _), (11, _), (12, _)] rfl ⟨rfl, rfl, rfl, rfl, rfl, rfl, rfl, rfl, rfl, trivial⟩ ?_
    refine rw_end ?_
    refine cw_seq ?_
    refine cw_region ?_
    refine rw_op (ot_c0 rfl rfl rfl Try.call15 (fun w hw => progBegun_any w)) rfl rfl (fun _ _ => ?_)
    refine rw_run tab_ok 1 [(2, _), (5, _), (6, _), (7, _), (8, _), (9, _), (10, _), (11, _), (12, _), (35, _)] rfl ⟨rfl, rfl, rfl, rfl, rfl, rfl, rfl, rfl, rfl, rfl, trivial⟩ ?_
    refine rw_s (qs_ldbA (vs := [_]) fc Try.isAgg24 Try.sizeOf24 rfl rfl (by rfl) rfl) rfl rfl ?_
    refine rw_op (ot_c0 rfl rfl rfl Try.call16 (fun w hw => pcheck_any A c fs w (hw.ro hs))) rfl rfl (fun _ _ => ?_)
    refine rw_run tab_ok 4 [(5, _), (6, _), (7, _), (8, _), (9, _), (10, _), (11, _), (12, _), (41, _)] rfl ⟨rfl, rfl, rfl, rfl, rfl, rfl, rfl, rfl, rfl, trivial⟩ ?_
    refine rw_as (t := 41) (v' := .bool true) rfl (by rw [decide_eq_true rfl]) ?_
    refine rw_run tab_ok 5 [(5, _), (7, _), (8, _), (10, _), (11, _), (12, _), (46, _)] rfl ⟨rfl, rfl, rfl, rfl, rfl, rfl, rfl, trivial⟩ ?_
    have h2 : (encodeP fs).2 = checkP fs := by
      by_cases h : checkP fs = 0
      · rw [encodeP_of h, h]
      · rw [encodeP_no h]
    refine rw_as (t := 46) (v' := .bool true) rfl (by rw [decide_eq_true h2]) ?_
    refine rw_run tab_ok 2 [(7, _), (8, _), (11, _), (12, _), (46, _), (47, _), (48, _)] rfl ⟨rfl, rfl, rfl, rfl, rfl, rfl, rfl, trivial⟩ ?_
    refine rw_s (qs_eqS rfl rfl rfl) rfl rfl ?_
    refine rw_run tab_ok 2 [(7, _), (8, _), (11, _), (12, _), (51, _)] rfl ⟨rfl, rfl, rfl, rfl, rfl, trivial⟩ ?_
    refine rw_as (t := 51) (v' := .bool true) rfl (by rw [decide_eq_true rfl]) ?_
    refine rw_run tab_ok 5 [(7, _), (11, _), (56, _)] rfl ⟨rfl, rfl, rfl, trivial⟩ ?_
    refine rw_as (t := 56) (v' := .bool true) rfl (by rw [decide_eq_true rfl]) ?_
    refine rw_s (qs_ldbA (vs := [_]) fc Try.isAgg24 Try.sizeOf24 rfl rfl (by rfl) rfl) rfl rfl ?_
    refine rw_s (qs_ldbA (vs := [_]) fc Try.isAgg24 Try.sizeOf24 rfl rfl (by rfl) rfl) rfl rfl ?_
    refine rw_op (ot_c0 rfl rfl rfl Try.call17 (fun w hw => rsameP_any _ _ _ _ (decodeP s).1 (decodeP s).1 w (SF.at_ (SF.own rfl fc) hw) (SF.at_ (SF.own rfl fc) hw))) rfl rfl (fun _ _ => ?_)
    refine rw_run tab_ok 2 [(4, _)] rfl ⟨rfl, trivial⟩ ?_
    refine rw_end ?_
    refine cw_ret ?_
    refine xw_ret1 Try.results3 (rv_tmp rfl) ?_
    intro w hw
    exact ⟨ret_bool (by rw [decide_eq_true rfl]), hw.below⟩
theorem progTells_law (v : Value) (fs : List MFunc) (s : List UInt8) (w : World) (hs : Sl w v fs) (hl : s.length ≤ 140737488351232) : Calls Try.prog 3 #[.agg #[v], .string ⟨s.toArray⟩] w fun e w' => e = .returned (.bool true) ∧ Below w.heap.size w w' := by
  obtain ⟨A, c, rfl, _⟩ := hs.form
  exact progTells_any A c fs s w hs (by omega)
end Go.Proofs.Ytejpkcheimgdfaa

-- Pr15
/- Programs: there and back. -/
namespace Go.Proofs.Ytejpkcheimgdfaa
open Go.RowKit

set_option maxRecDepth 100000 in
set_option maxHeartbeats 2000000 in
theorem progBack_any (A : Option Addr) (c : Nat) (fs : List MFunc) (s : List UInt8) (w : World) (hs : Sl w (.slice A fs.length c) fs) (hl : s.length ≤ 140737488355320) :
    Calls Try.prog 4 #[.agg #[.slice A fs.length c], .string ⟨s.toArray⟩] w fun e w' => e = .returned (.bool true) ∧ Below w.heap.size w w' := by
  refine enter Try.func4 rfl Try.ntmps4 rfl ?_
  refine cw_seq ?_
  refine cw_region ?_
  refine rw_op (ot_box rfl rfl rfl) rfl rfl (fun g1 _ => ?_)
  refine rw_run tab_ok 1 [(1, _), (2, _)] rfl ⟨rfl, rfl, trivial⟩ ?_
  refine rw_end ?_
  refine cw_seq ?_
  refine cw_seq ?_
  refine cw_region ?_
  refine rw_op (ot_c0 rfl rfl rfl Try.call15 (fun w hw => progBegun_any w)) rfl rfl (fun _ _ => ?_)
  refine rw_run tab_ok 1 [(1, _), (2, _), (11, _)] rfl ⟨rfl, rfl, rfl, trivial⟩ ?_
  refine rw_end ?_
  refine cw_cond_f rfl ?_
  refine cw_skip (xw_then ?_)
  refine cw_seq ?_
  refine cw_region ?_
  refine rw_s (qs_ldbA (vs := [_]) fc Try.isAgg24 Try.sizeOf24 rfl rfl (by rfl) rfl) rfl rfl ?_
  refine rw_op (ot_c0 rfl rfl rfl Try.call10 (fun w hw => pencode_any A c fs w (hw.ro hs))) rfl rfl (fun _ _ => ?_)
  refine rw_run tab_ok 5 [(1, _), (2, _), (5, _), (6, _)] rfl ⟨rfl, rfl, rfl, rfl, trivial⟩ ?_
  refine rw_end ?_
  refine cw_cut (fun _ : Unit => True) (fun _ => [(1, .string ⟨s.toArray⟩)]) (fun _ => []) ?_ ?_
  · refine cw_seq ?_
    refine cw_region ?_
    refine rw_run tab_ok 3 [(1, _), (2, _), (5, _), (19, _)] rfl ⟨rfl, rfl, rfl, rfl, trivial⟩ ?_
    refine rw_split (t := 19) rfl (fun h1 => ?_) (fun h1 => ?_)
    · have h1 := of_decide_eq_true h1
      have hz : checkP fs = 0 := by
        by_cases h : checkP fs = 0
        · exact h
        · rw [encodeP_no h] at h1; exact absurd h1 h
      have he := encodeP_of hz
      refine rw_run tab_ok 1 [(1, _), (2, _), (5, _), (19, _), (20, _)] rfl ⟨rfl, rfl, rfl, rfl, rfl, trivial⟩ ?_
      refine rw_s (qs_lenS Try.underlying9 rfl rfl) rfl rfl ?_
      refine rw_run tab_ok 2 [(1, _), (2, _), (5, _), (23, _)] rfl ⟨rfl, rfl, rfl, rfl, trivial⟩ ?_
      refine rw_end ?_
      refine cw_condD rfl (fun h2 => ?_) (fun h2 => ?_)
      · have hd : decodeP (encodeP fs).1 = (fs, 0) := by
          rw [he] at h2 ⊢
          have h2 : ((progBytes fs).length : Int) ≤ 2000 := h2
          exact decode_progBytes hz (by omega)
        have hdec : ∀ w1, Calls Try.prog 11 #[.string ⟨(encodeP fs).1.toArray⟩] w1 fun e w' => ∃ u, e = .returned (.tuple #[.agg #[u], .int .i64 0]) ∧ Below w1.heap.size w1 w' ∧ OwN w' w1.heap.size u fs := fun w1 => by
          have := pdecode_any (encodeP fs).1 w1 (by omega)
          rw [hd] at this
          exact this
        refine cw_seq ?_
        refine cw_region ?_
        refine rw_run tab_ok 1 [(1, _), (2, _), (25, _)] rfl ⟨rfl, rfl, rfl, trivial⟩ ?_
        refine rw_op (ot_cO rfl rfl rfl Try.call11 (fun w hw => hdec w)) rfl rfl (fun ⟨A1, c1⟩ _ => ?_)
        try dsimp only
        refine rw_run tab_ok 3 [(1, _), (2, _), (27, _), (28, _)] rfl ⟨rfl, rfl, rfl, rfl, trivial⟩ ?_
        refine rw_op (ot_alloc Try.zeroValue24 rfl rfl) rfl rfl (fun g2 _ => ?_)
        refine rw_op (ot_stb _ fc Try.sizeOf24 rfl rfl rfl rfl rfl (by rfl) rfl (by rfl)) rfl rfl (fun _ _ => ?_)
        refine rw_run tab_ok 1 [(1, _), (2, _), (7, _), (8, _)] rfl ⟨rfl, rfl, rfl, rfl, trivial⟩ ?_
        refine rw_end ?_
        refine cw_seq ?_
        refine cw_region ?_
        refine rw_run tab_ok 3 [(1, _), (2, _), (7, _), (31, _)] rfl ⟨rfl, rfl, rfl, rfl, trivial⟩ ?_
        refine rw_as (t := 31) (v' := .bool false) rfl (rfl) ?_
        refine rw_s (qs_ldbA (vs := [_]) fc Try.isAgg24 Try.sizeOf24 rfl rfl (by rfl) rfl) rfl rfl ?_
        refine rw_s (qs_ldbA (vs := [_]) fc Try.isAgg24 Try.sizeOf24 rfl rfl (by rfl) rfl) rfl rfl ?_
        refine rw_op (ot_c0 rfl rfl rfl Try.call17 (fun w hw => rsameP_any _ _ _ _ fs fs w (hw.ro hs) (SF.at_ (SF.own rfl fc) hw))) rfl rfl (fun _ _ => ?_)
        refine rw_run tab_ok 2 [(1, _), (36, _)] rfl ⟨rfl, rfl, trivial⟩ ?_
        refine rw_end ?_
        refine cw_as (t := 36) (v' := .bool false) rfl (by rw [decide_eq_true rfl]; rfl) ?_
        refine cw_cond_f rfl ?_
        refine cw_skip ?_
        refine xw_join () (trivial) ⟨rfl, trivial⟩ me
      · refine cw_skip ?_
        refine xw_join () (trivial) ⟨rfl, trivial⟩ me
    · refine rw_run tab_ok 4 [(1, _), (2, _), (5, _), (23, _)] rfl ⟨rfl, rfl, rfl, rfl, trivial⟩ ?_
      refine rw_end ?_
      refine cw_cond_f rfl ?_
      refine cw_skip ?_
      refine xw_join () (trivial) ⟨rfl, trivial⟩ me
  · rintro _ _
    refine cw_seq ?_
    refine cw_region ?_
    refine rw_run tab_ok 1 [(1, _), (38, _)] rfl ⟨rfl, rfl, trivial⟩ ?_
    refine rw_op (ot_cO rfl rfl rfl Try.call11 (fun w hw => pdecode_any s w hl)) rfl rfl (fun ⟨A2, c2⟩ _ => ?_)
    try dsimp only
    refine rw_run tab_ok 3 [(1, _), (40, _), (41, _)] rfl ⟨rfl, rfl, rfl, trivial⟩ ?_
    refine rw_op (ot_alloc Try.zeroValue24 rfl rfl) rfl rfl (fun g3 _ => ?_)
    refine rw_op (ot_stb _ fc Try.sizeOf24 rfl rfl rfl rfl rfl (by rfl) rfl (by rfl)) rfl rfl (fun _ _ => ?_)
    refine rw_run tab_ok 1 [(1, _), (6, _), (9, _)] rfl ⟨rfl, rfl, rfl, trivial⟩ ?_
    refine rw_end ?_
    refine cw_seq ?_
    refine cw_seq ?_
    refine cw_region ?_
    refine rw_run tab_ok 2 [(1, _), (9, _), (43, _)] rfl ⟨rfl, rfl, rfl, trivial⟩ ?_
    refine rw_end ?_
    refine cw_condN rfl (fun h2 => ?_) (fun h2 => ?_)
    · have hn := decodeP_err s h2
      refine cw_seq ?_
      refine cw_region ?_
      refine rw_run tab_ok 1 [(44, _)] rfl ⟨rfl, trivial⟩ ?_
      refine rw_s (qs_ldb fc Try.isAgg22 rfl rfl (by rfl)) rfl rfl ?_
      refine rw_s (qs_len Try.underlying22 rfl rfl) rfl rfl ?_
      refine rw_run tab_ok 2 [(4, _)] rfl ⟨rfl, trivial⟩ ?_
      refine rw_end ?_
      refine cw_ret (xw_thenr ?_)
      refine xw_ret1 Try.results4 (rv_tmp rfl) ?_
      intro w hw
      exact ⟨ret_bool (by rw [hn]; rfl), hw.below⟩
    · have hb := encode_decodeP s h2
      refine cw_skip (xw_then ?_)
      refine cw_seq ?_
      refine cw_region ?_
      refine rw_s (qs_ldbA (vs := [_]) fc Try.isAgg24 Try.sizeOf24 rfl rfl (by rfl) rfl) rfl rfl ?_
      refine rw_op (ot_c0 rfl rfl rfl Try.call10 (fun w hw => pencode_any _ _ (decodeP s).1 w (SF.at_ (SF.own rfl fc) hw))) rfl rfl (fun _ _ => ?_)
      refine rw_run tab_ok 5 [(1, _), (5, _), (6, _)] rfl ⟨rfl, rfl, rfl, trivial⟩ ?_
      refine rw_end ?_
      refine cw_seq ?_
      refine cw_region ?_
      refine rw_run tab_ok 3 [(1, _), (5, _), (55, _)] rfl ⟨rfl, rfl, rfl, trivial⟩ ?_
      refine rw_as (t := 55) (v' := .bool true) rfl (by rw [hb]; rfl) ?_
      refine rw_run tab_ok 2 [(55, _), (56, _), (57, _)] rfl ⟨rfl, rfl, rfl, trivial⟩ ?_
      refine rw_s (qs_eqS rfl rfl rfl) rfl rfl ?_
      refine rw_run tab_ok 2 [(4, _)] rfl ⟨rfl, trivial⟩ ?_
      refine rw_end ?_
      refine cw_ret ?_
      refine xw_ret1 Try.results4 (rv_tmp rfl) ?_
      intro w hw
      exact ⟨ret_bool (by rw [hb]; exact decide_eq_true rfl), hw.below⟩
theorem progBack_law (v : Value) (fs : List MFunc) (s : List UInt8) (w : World) (hs : Sl w v fs) (hl : s.length ≤ 140737488351232) : Calls Try.prog 4 #[.agg #[v], .string ⟨s.toArray⟩] w fun e w' => e = .returned (.bool true) ∧ Below w.heap.size w w' := by
  obtain ⟨A, c, rfl, _⟩ := hs.form
  exact progBack_any A c fs s w hs (by omega)
end Go.Proofs.Ytejpkcheimgdfaa

