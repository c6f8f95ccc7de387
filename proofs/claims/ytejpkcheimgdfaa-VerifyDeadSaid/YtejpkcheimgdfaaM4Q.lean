/- Texts of one proof, one behind the other: lemmas alone. -/
import Derived.Test.YtejpkcheimgdfaaM3Q

-- Pr4
/- Programs: the document's check; are two the same? -/
namespace Go.Proofs.Ytejpkcheimgdfaa
open Go.RowKit

theorem rwithin_any (n a b : Int) (w : World) : Calls Try.prog 40 #[.int .i64 n, .int .i64 a, .int .i64 b] w fun e w' => e = .returned (.bool (within n a b)) ∧ w = w' := rbetween_any n a b w
theorem any_snoc_int {p : Int → Bool} {l : List Int} {k : Nat} (hk : k < l.length) : (l.take (k + 1)).any p = ((l.take k).any p || p (l.getD k 0)) := any_take_snoc 0 hk
/-- The part of the check that looks at what ops name. -/
theorem fits_a {n nl nc : Nat} {o : MOp} (h : o.c = 8 ∨ o.c = 9) : fitsO n nl nc o = within o.a 0 ((nl : Int) - 1) := by unfold fitsO; rw [if_pos h]
theorem fits_b {n nl nc : Nat} {o : MOp} (h : o.c = 10 ∨ o.c = 11) : fitsO n nl nc o = within o.a 0 ((nc : Int) - 1) := by unfold fitsO; rw [if_neg (by omega), if_pos h]
theorem fits_c {n nl nc : Nat} {o : MOp} (h : o.c = 12) : fitsO n nl nc o = within o.a 0 ((n : Int) - 1) := by unfold fitsO; rw [if_neg (by omega), if_neg (by omega), if_pos h]
theorem fits_d {n nl nc : Nat} {o : MOp} (h1 : ¬ o.c = 8) (h2 : ¬ o.c = 9) (h3 : ¬ o.c = 10) (h4 : ¬ o.c = 11) (h5 : ¬ o.c = 12) : fitsO n nl nc o = true := by unfold fitsO; rw [if_neg (by omega), if_neg (by omega), if_neg h5]
theorem firstE_all {α : Type} {g : α → Int} {l : List α} (h : firstE g l = 0) : ∀ x ∈ l, g x = 0 := by
  induction l with
  | nil => simp
  | cons a l ih =>
    simp only [firstE] at h
    have ha : g a = 0 := by
      by_cases e : g a = 0
      · exact e
      · rw [if_pos e] at h; exact absurd h e
    rw [if_neg (fun e => e ha)] at h
    intro x hx
    rcases List.mem_cons.1 hx with rfl | hx
    · exact ha
    · exact ih h x hx
theorem oneE_result {n : Nat} {f : MFunc} (h : oneE n f = 0) : 0 ≤ f.result ∧ f.result ≤ 2 := by
  unfold oneE at h
  split at h
  · cases h
  · split at h
    · cases h
    · split at h
      · cases h
      · rename_i h1
        have : within f.result 0 2 = true := by
          cases e : within f.result 0 2
          · exact absurd (.inl e) h1
          · rfl
        unfold within at this
        simp only [Bool.and_eq_true, decide_eq_true_eq] at this
        exact this
set_option maxRecDepth 100000 in
set_option maxHeartbeats 4000000 in
theorem rcheckP_any (A : Option Addr) (c : Nat) (fs : List MFunc) (w : World) (hs : Sl w (.slice A fs.length c) fs) :
    Calls Try.prog 12 #[.agg #[.slice A fs.length c]] w fun e w' => e = .returned (.int .i64 (checkP fs)) ∧ Below w.heap.size w w' := by
  have b1 := len_bd hs
  refine enter Try.func12 rfl Try.ntmps12 rfl ?_
  refine cw_seq ?_
  refine cw_region ?_
  refine rw_op (ot_box rfl rfl rfl) rfl rfl (fun g1 _ => ?_)
  refine rw_run tab_ok 1 [(1, _)] rfl ⟨rfl, trivial⟩ ?_
  refine rw_end ?_
  refine cw_seq ?_
  refine cw_seq ?_
  refine cw_region ?_
  refine rw_run tab_ok 1 [(1, _), (10, _)] rfl ⟨rfl, rfl, trivial⟩ ?_
  refine rw_s (qs_ldb fc Try.isAgg22 rfl rfl (by rfl)) rfl rfl ?_
  refine rw_s (qs_len Try.underlying22 rfl rfl) rfl rfl ?_
  refine rw_run tab_ok 1 [(1, _), (13, _)] rfl ⟨rfl, rfl, trivial⟩ ?_
  refine rw_end ?_
  refine cw_condD rfl (fun h1 => ?_) (fun h1 => ?_)
  · refine cw_seq ?_
    refine cw_region ?_
    refine rw_run tab_ok 1 [(2, _)] rfl ⟨rfl, trivial⟩ ?_
    refine rw_end ?_
    refine cw_ret (xw_thenr ?_)
    refine xw_ret1 Try.results12 (rv_tmp rfl) ?_
    intro w hw
    exact ⟨reti (by unfold checkP; rw [if_pos (by omega)]), hw.below⟩
  · have h1 : ¬ fs.length = 0 := by omega
    refine cw_skip (xw_then ?_)
    refine cw_seq ?_
    refine cw_seq ?_
    refine cw_region ?_
    refine rw_run tab_ok 1 [(1, _), (14, _)] rfl ⟨rfl, rfl, trivial⟩ ?_
    refine rw_s (qs_ldb fc Try.isAgg22 rfl rfl (by rfl)) rfl rfl ?_
    refine rw_s (qs_len Try.underlying22 rfl rfl) rfl rfl ?_
    refine rw_run tab_ok 1 [(1, _), (17, _)] rfl ⟨rfl, rfl, trivial⟩ ?_
    refine rw_end ?_
    refine cw_condD rfl (fun h2 => ?_) (fun h2 => ?_)
    · refine cw_seq ?_
      refine cw_region ?_
      refine rw_run tab_ok 1 [(2, _)] rfl ⟨rfl, trivial⟩ ?_
      refine rw_end ?_
      refine cw_ret (xw_thenr ?_)
      refine xw_ret1 Try.results12 (rv_tmp rfl) ?_
      intro w hw
      exact ⟨reti (by unfold checkP; rw [if_neg h1, if_pos (by omega)]), hw.below⟩
    · have h2 : ¬ 5 < fs.length := by omega
      refine cw_skip (xw_then ?_)
      refine cw_seq ?_
      refine cw_seq ?_
      refine cw_region ?_
      refine rw_run tab_ok 1 [(1, _), (3, _)] rfl ⟨rfl, rfl, trivial⟩ ?_
      refine rw_end ?_
      refine cw_block (cw_loop (fun k : Nat => k ≤ fs.length ∧ firstE (oneE fs.length) (fs.take k) = 0) (fun k => fs.length - k) (fun k => [(1, .pointer (some ⟨g1, 0, none⟩)), (3, .int .i64 (k : Int))]) (fun _ => [RBox g1 [.slice A fs.length c] 24]) 0 (⟨Nat.zero_le _, rfl⟩) ⟨rfl, rfl, trivial⟩ me ?_)
      rintro k hk'
      obtain ⟨hk, hno⟩ : k ≤ fs.length ∧ firstE (oneE fs.length) (fs.take k) = 0 := hk'
      refine cw_seq ?_
      refine cw_seq ?_
      refine cw_region ?_
      refine rw_run tab_ok 2 [(1, _), (3, _), (18, _), (19, _)] rfl ⟨rfl, rfl, rfl, rfl, trivial⟩ ?_
      refine rw_s (qs_ldb fc Try.isAgg22 rfl rfl (by rfl)) rfl rfl ?_
      refine rw_s (qs_len Try.underlying22 rfl rfl) rfl rfl ?_
      refine rw_run tab_ok 1 [(1, _), (3, _), (22, _)] rfl ⟨rfl, rfl, rfl, trivial⟩ ?_
      refine rw_end ?_
      refine cw_condD rfl (fun hlt => ?_) (fun hlt => ?_)
      · have hkl : k < fs.length := by omega
        have hsn := firstE_snoc (g := oneE fs.length) default hkl hno
        obtain ⟨A1, c1, A2, c2, hl, hc, hi, hcell⟩ := hs.fn hkl
        have b3 := len_bd hl
        have b4 := len_bd hc
        have bad : ∀ e, oneE fs.length (fnAt fs k) = e → e ≠ 0 → checkP fs = e := fun e he h0 => by
          have e2 : firstE (oneE fs.length) fs = oneE fs.length (fnAt fs k) := by
            rw [firstE_of (k := k + 1) (by rw [hsn]; show oneE fs.length (fnAt fs k) ≠ 0; rw [he]; exact h0), hsn]; rfl
          unfold checkP
          rw [if_neg h1, if_neg h2, e2, he, if_pos h0]
        refine cw_skip (xw_then ?_)
        refine cw_seq ?_
        refine cw_block ?_
        refine cw_seq ?_
        refine cw_region ?_
        refine rw_run tab_ok 1 [(1, _), (3, _), (25, _)] rfl ⟨rfl, rfl, rfl, trivial⟩ ?_
        refine rw_s (qs_ldb fc Try.isAgg22 rfl rfl (by rfl)) rfl rfl ?_
        refine rw_run tab_ok 1 [(1, _), (3, _), (26, _), (27, _)] rfl ⟨rfl, rfl, rfl, rfl, trivial⟩ ?_
        refine rw_s (qs_idx Try.underlying22 Try.sizeOf54 (.ro hs) (by omega) rfl rfl rfl) rfl rfl ?_
        refine rw_s (qs_ldA (hcell _) rfl rfl Try.isAgg54 Try.sizeOf54) rfl rfl ?_
        refine rw_op (ot_alloc Try.zeroValue54 rfl rfl) rfl rfl (fun g2 _ => ?_)
        refine rw_op (ot_stb _ fc Try.sizeOf54 rfl rfl rfl rfl rfl (by rfl) rfl (by rfl)) rfl rfl (fun _ _ => ?_)
        refine rw_end ?_
        refine cw_seq ?_
        refine cw_seq ?_
        refine cw_region ?_
        refine rw_run tab_ok 1 [(1, _), (3, _), (4, _), (30, _)] rfl ⟨rfl, rfl, rfl, rfl, trivial⟩ ?_
        refine rw_s (qs_ldb fc Try.isAgg35 rfl rfl (by rfl)) rfl rfl ?_
        refine rw_s (qs_len Try.underlying35 rfl rfl) rfl rfl ?_
        refine rw_run tab_ok 1 [(1, _), (3, _), (4, _), (33, _)] rfl ⟨rfl, rfl, rfl, rfl, trivial⟩ ?_
        refine rw_end ?_
        refine cw_condD rfl (fun k1 => ?_) (fun k1 => ?_)
        · refine cw_seq ?_
          refine cw_region ?_
          refine rw_run tab_ok 1 [(2, _)] rfl ⟨rfl, trivial⟩ ?_
          refine rw_end ?_
          refine cw_ret (xw_thenr (xw_blkr (xw_thenr (xw_thenr (xw_blkr (xw_thenr ?_))))))
          refine xw_ret1 Try.results12 (rv_tmp rfl) ?_
          intro w hw
          exact ⟨reti (bad 2 (by unfold oneE; rw [if_pos (by omega)]) (by decide)).symm, hw.below⟩
        · have k1 : ¬ 6 < (fnAt fs k).locals.length := by omega
          refine cw_skip (xw_then ?_)
          refine cw_seq ?_
          refine cw_seq ?_
          refine cw_region ?_
          refine rw_run tab_ok 1 [(1, _), (3, _), (4, _), (34, _)] rfl ⟨rfl, rfl, rfl, rfl, trivial⟩ ?_
          refine rw_s (qs_ldb fc Try.isAgg3 rfl rfl (by rfl)) rfl rfl ?_
          refine rw_run tab_ok 1 [(1, _), (3, _), (4, _), (35, _), (36, _)] rfl ⟨rfl, rfl, rfl, rfl, rfl, trivial⟩ ?_
          refine rw_s (qs_ldb fc Try.isAgg35 rfl rfl (by rfl)) rfl rfl ?_
          refine rw_s (qs_len Try.underlying35 rfl rfl) rfl rfl ?_
          refine rw_op (ot_c0 rfl rfl rfl Try.call40 ((fun w hw => cbelow ((fun w hw => rwithin_any _ _ _ w) w hw)))) rfl rfl (fun _ _ => ?_)
          refine rw_run tab_ok 1 [(1, _), (3, _), (4, _), (40, _)] rfl ⟨rfl, rfl, rfl, rfl, trivial⟩ ?_
          refine rw_end ?_
          refine cw_cond rfl (fun k2 => ?_) (fun k2 => ?_)
          · have k2 : within (fnAt fs k).params 0 (fnAt fs k).locals.length = false := by simpa using k2
            refine cw_seq ?_
            refine cw_region ?_
            refine rw_run tab_ok 1 [(2, _)] rfl ⟨rfl, trivial⟩ ?_
            refine rw_end ?_
            refine cw_ret (xw_thenr (xw_blkr (xw_thenr (xw_thenr (xw_blkr (xw_thenr ?_))))))
            refine xw_ret1 Try.results12 (rv_tmp rfl) ?_
            intro w hw
            exact ⟨reti (bad 3 (by unfold oneE; rw [if_neg k1, if_pos k2]) (by decide)).symm, hw.below⟩
          · have k2 : ¬ within (fnAt fs k).params 0 (fnAt fs k).locals.length = false := by simpa using k2
            refine cw_skip (xw_then ?_)
            refine cw_seq ?_
            refine cw_region ?_
            refine rw_run tab_ok 1 [(1, _), (3, _), (4, _), (41, _)] rfl ⟨rfl, rfl, rfl, rfl, trivial⟩ ?_
            refine rw_s (qs_ldb fc Try.isAgg3 rfl rfl (by rfl)) rfl rfl ?_
            refine rw_op (ot_c0 rfl rfl rfl Try.call40 ((fun w hw => cbelow ((fun w hw => rwithin_any _ _ _ w) w hw)))) rfl rfl (fun _ _ => ?_)
            refine rw_run tab_ok 1 [(1, _), (3, _), (4, _), (5, _)] rfl ⟨rfl, rfl, rfl, rfl, trivial⟩ ?_
            refine rw_end ?_
            refine cw_seq ?_
            refine cw_seq ?_
            refine cw_region ?_
            refine rw_run tab_ok 1 [(1, _), (3, _), (4, _), (5, _), (6, _)] rfl ⟨rfl, rfl, rfl, rfl, rfl, trivial⟩ ?_
            refine rw_end ?_
            refine cw_block (cw_loop (fun g : Nat × Bool => g.1 ≤ (fnAt fs k).locals.length ∧ g.2 = (within (fnAt fs k).result 0 2 && !((fnAt fs k).locals.take g.1).any badKind)) (fun g => (fnAt fs k).locals.length - g.1) (fun g => [(1, .pointer (some ⟨g1, 0, none⟩)), (3, .int .i64 (k : Int)), (4, .pointer (some ⟨g2, 0, none⟩)), (5, .bool g.2), (6, .int .i64 (g.1 : Int))]) (fun _ => [RBox g1 [.slice A fs.length c] 24, RBox g2 [.int .i64 (fnAt fs k).params, .slice A1 (fnAt fs k).locals.length c1, .int .i64 (fnAt fs k).result, .slice A2 (fnAt fs k).code.length c2] 54]) (0, within (fnAt fs k).result 0 2) (⟨Nat.zero_le _, by simp⟩) ⟨rfl, rfl, rfl, rfl, rfl, trivial⟩ me ?_)
            rintro ⟨i, b⟩ hi'
            try dsimp only
            obtain ⟨hil, hb⟩ : i ≤ (fnAt fs k).locals.length ∧ b = (within (fnAt fs k).result 0 2 && !((fnAt fs k).locals.take i).any badKind) := hi'
            refine cw_seq ?_
            refine cw_seq ?_
            refine cw_region ?_
            refine rw_run tab_ok 2 [(1, _), (3, _), (4, _), (5, _), (6, _), (44, _), (45, _)] rfl ⟨rfl, rfl, rfl, rfl, rfl, rfl, rfl, trivial⟩ ?_
            refine rw_s (qs_ldb fc Try.isAgg35 rfl rfl (by rfl)) rfl rfl ?_
            refine rw_s (qs_len Try.underlying35 rfl rfl) rfl rfl ?_
            refine rw_run tab_ok 1 [(1, _), (3, _), (4, _), (5, _), (6, _), (48, _)] rfl ⟨rfl, rfl, rfl, rfl, rfl, rfl, trivial⟩ ?_
            refine rw_end ?_
            refine cw_condD rfl (fun hlt2 => ?_) (fun hlt2 => ?_)
            · have hil2 : i < (fnAt fs k).locals.length := by omega
              have hsn2 := any_snoc_int (p := badKind) hil2
              refine cw_skip (xw_then ?_)
              refine cw_seq ?_
              refine cw_block ?_
              refine cw_region ?_
              refine rw_run tab_ok 2 [(1, _), (3, _), (4, _), (6, _), (52, _)] rfl ⟨rfl, rfl, rfl, rfl, rfl, trivial⟩ ?_
              refine rw_split (t := 52) rfl (fun hbt => ?_) (fun hbt => ?_)
              · have hbt : b = true := hbt
                rw [hb] at hbt
                simp only [Bool.and_eq_true, Bool.not_eq_true'] at hbt
                refine rw_run tab_ok 1 [(1, _), (3, _), (4, _), (6, _), (52, _), (53, _)] rfl ⟨rfl, rfl, rfl, rfl, rfl, rfl, trivial⟩ ?_
                refine rw_s (qs_ldb fc Try.isAgg35 rfl rfl (by rfl)) rfl rfl ?_
                refine rw_run tab_ok 1 [(1, _), (3, _), (4, _), (6, _), (52, _), (54, _), (55, _)] rfl ⟨rfl, rfl, rfl, rfl, rfl, rfl, rfl, trivial⟩ ?_
                refine rw_s (qs_idx Try.underlying35 Try.sizeOf3 (.ro hl) (by omega) rfl rfl rfl) rfl rfl ?_
                refine rw_s (qs_ld (SF.int (.ro hl) (by omega)) rfl rfl Try.isAgg3) rfl rfl ?_
                refine rw_op (ot_c0 rfl rfl rfl Try.call40 ((fun w hw => cbelow ((fun w hw => rwithin_any _ _ _ w) w hw)))) rfl rfl (fun _ _ => ?_)
                refine rw_run tab_ok 2 [(1, _), (3, _), (4, _), (5, _), (6, _)] rfl ⟨rfl, rfl, rfl, rfl, rfl, trivial⟩ ?_
                refine rw_endx (xw_blkn (xw_then ?_))
                refine cw_region ?_
                refine rw_run tab_ok 1 [(1, _), (3, _), (4, _), (5, _), (49, _)] rfl ⟨rfl, rfl, rfl, rfl, rfl, trivial⟩ ?_
                refine rw_s (qs_add rfl rfl rfl (by omega)) rfl rfl ?_
                refine rw_run tab_ok 1 [(1, _), (3, _), (4, _), (5, _), (6, _)] rfl ⟨rfl, rfl, rfl, rfl, rfl, trivial⟩ ?_
                refine rw_round (i + 1, within ((fnAt fs k).locals.getD i 0) 1 2) (⟨by show i + 1 ≤ _; omega, by show _ = (_ && !List.any _ _); rw [hsn2, hbt.1, hbt.2]; simp [badKind]⟩) (by show _ - _ < _ - _; omega) ⟨rfl, rfl, rfl, rfl, rfl, trivial⟩ me
              · have hbt : b = false := hbt
                rw [hb] at hbt
                refine rw_run tab_ok 8 [(1, _), (3, _), (4, _), (5, _), (6, _)] rfl ⟨rfl, rfl, rfl, rfl, rfl, trivial⟩ ?_
                refine rw_endx (xw_blkn (xw_then ?_))
                refine cw_region ?_
                refine rw_run tab_ok 1 [(1, _), (3, _), (4, _), (5, _), (49, _)] rfl ⟨rfl, rfl, rfl, rfl, rfl, trivial⟩ ?_
                refine rw_s (qs_add rfl rfl rfl (by omega)) rfl rfl ?_
                refine rw_run tab_ok 1 [(1, _), (3, _), (4, _), (5, _), (6, _)] rfl ⟨rfl, rfl, rfl, rfl, rfl, trivial⟩ ?_
                refine rw_round (i + 1, false) (⟨by show i + 1 ≤ _; omega, by show _ = (_ && !List.any _ _); rw [hsn2, Bool.not_or, ← Bool.and_assoc, hbt]; rfl⟩) (by show _ - _ < _ - _; omega) ⟨rfl, rfl, rfl, rfl, rfl, trivial⟩ me
            · obtain rfl : i = (fnAt fs k).locals.length := by omega
              rw [List.take_length] at hb
              refine cw_exit (xw_thenx (xw_thenx (xw_blk (xw_then ?_))))
              refine cw_seq ?_
              refine cw_seq ?_
              refine cw_region ?_
              refine rw_run tab_ok 2 [(1, _), (3, _), (4, _), (61, _)] rfl ⟨rfl, rfl, rfl, rfl, trivial⟩ ?_
              refine rw_end ?_
              refine cw_cond rfl (fun k3 => ?_) (fun k3 => ?_)
              · have k3 : within (fnAt fs k).result 0 2 = false ∨ (fnAt fs k).locals.any badKind = true := by
                  have : b = false := by simpa using k3
                  rw [hb] at this
                  cases e : within (fnAt fs k).result 0 2
                  · exact .inl rfl
                  · rw [e] at this; exact .inr (by simpa using this)
                refine cw_seq ?_
                refine cw_region ?_
                refine rw_run tab_ok 1 [(2, _)] rfl ⟨rfl, trivial⟩ ?_
                refine rw_end ?_
                refine cw_ret (xw_thenr (xw_blkr (xw_thenr (xw_thenr (xw_blkr (xw_thenr ?_))))))
                refine xw_ret1 Try.results12 (rv_tmp rfl) ?_
                intro w hw
                exact ⟨reti (bad 6 (by unfold oneE; rw [if_neg k1, if_neg k2, if_pos k3]) (by decide)).symm, hw.below⟩
              · have k3 : ¬ (within (fnAt fs k).result 0 2 = false ∨ (fnAt fs k).locals.any badKind = true) := by
                  have : b = true := by simpa using k3
                  rw [hb] at this
                  simp only [Bool.and_eq_true, Bool.not_eq_true'] at this
                  rintro (h | h)
                  · rw [this.1] at h; cases h
                  · rw [this.2] at h; cases h
                refine cw_skip (xw_then ?_)
                refine cw_seq ?_
                refine cw_seq ?_
                refine cw_region ?_
                refine rw_run tab_ok 1 [(1, _), (3, _), (4, _), (62, _)] rfl ⟨rfl, rfl, rfl, rfl, trivial⟩ ?_
                refine rw_s (qs_ldb fc Try.isAgg52 rfl rfl (by rfl)) rfl rfl ?_
                refine rw_s (qs_len Try.underlying52 rfl rfl) rfl rfl ?_
                refine rw_run tab_ok 1 [(1, _), (3, _), (4, _), (65, _)] rfl ⟨rfl, rfl, rfl, rfl, trivial⟩ ?_
                refine rw_end ?_
                refine cw_condD rfl (fun k4 => ?_) (fun k4 => ?_)
                · refine cw_seq ?_
                  refine cw_region ?_
                  refine rw_run tab_ok 1 [(2, _)] rfl ⟨rfl, trivial⟩ ?_
                  refine rw_end ?_
                  refine cw_ret (xw_thenr (xw_blkr (xw_thenr (xw_thenr (xw_blkr (xw_thenr ?_))))))
                  refine xw_ret1 Try.results12 (rv_tmp rfl) ?_
                  intro w hw
                  exact ⟨reti (bad 5 (by unfold oneE; rw [if_neg k1, if_neg k2, if_neg k3, if_pos (by omega)]) (by decide)).symm, hw.below⟩
                · have k4 : ¬ (fnAt fs k).code.length = 0 := by omega
                  refine cw_skip (xw_then ?_)
                  refine cw_seq ?_
                  refine cw_region ?_
                  refine rw_run tab_ok 1 [(1, _), (3, _), (4, _), (66, _)] rfl ⟨rfl, rfl, rfl, rfl, trivial⟩ ?_
                  refine rw_s (qs_ldb fc Try.isAgg52 rfl rfl (by rfl)) rfl rfl ?_
                  refine rw_op (ot_c0 rfl rfl rfl Try.call41 (fun w hw => rcheckCode_any _ (fnAt fs k).code w (hw.ro hc))) rfl rfl (fun _ _ => ?_)
                  refine rw_run tab_ok 1 [(1, _), (3, _), (4, _), (7, _)] rfl ⟨rfl, rfl, rfl, rfl, trivial⟩ ?_
                  refine rw_end ?_
                  refine cw_seq ?_
                  refine cw_seq ?_
                  refine cw_region ?_
                  refine rw_run tab_ok 2 [(1, _), (3, _), (4, _), (7, _), (70, _)] rfl ⟨rfl, rfl, rfl, rfl, rfl, trivial⟩ ?_
                  refine rw_end ?_
                  refine cw_condN rfl (fun k5 => ?_) (fun k5 => ?_)
                  · refine cw_seq ?_
                    refine cw_region ?_
                    refine rw_run tab_ok 2 [(2, _)] rfl ⟨rfl, trivial⟩ ?_
                    refine rw_end ?_
                    refine cw_ret (xw_thenr (xw_blkr (xw_thenr (xw_thenr (xw_blkr (xw_thenr ?_))))))
                    refine xw_ret1 Try.results12 (rv_tmp rfl) ?_
                    intro w hw
                    exact ⟨reti (bad _ (by unfold oneE; rw [if_neg k1, if_neg k2, if_neg k3, if_neg k4, if_pos k5]) k5).symm, hw.below⟩
                  · have k5 : ¬ codeErr (fnAt fs k).code ≠ 0 := fun h => h k5
                    have three : ∀ j, j < (fnAt fs k).code.length → fitsO fs.length (fnAt fs k).locals.length (fnAt fs k).code.length (opAt (fnAt fs k).code j) = false → oneE fs.length (fnAt fs k) = 3 := fun j hj h => by
                      unfold oneE
                      rw [if_neg k1, if_neg k2, if_neg k3, if_neg k4, if_neg k5, if_pos (List.any_eq_true.2 ⟨_, opAt_mem hj, by rw [h]; rfl⟩)]
                    refine cw_skip (xw_then ?_)
                    refine cw_seq ?_
                    refine cw_region ?_
                    refine rw_run tab_ok 1 [(1, _), (3, _), (4, _), (8, _)] rfl ⟨rfl, rfl, rfl, rfl, trivial⟩ ?_
                    refine rw_end ?_
                    refine cw_block (cw_loop (fun j : Nat => j ≤ (fnAt fs k).code.length ∧ ((fnAt fs k).code.take j).any (fun o => !fitsO fs.length (fnAt fs k).locals.length (fnAt fs k).code.length o) = false) (fun j => (fnAt fs k).code.length - j) (fun j => [(1, .pointer (some ⟨g1, 0, none⟩)), (3, .int .i64 (k : Int)), (4, .pointer (some ⟨g2, 0, none⟩)), (8, .int .i64 (j : Int))]) (fun _ => [RBox g1 [.slice A fs.length c] 24, RBox g2 [.int .i64 (fnAt fs k).params, .slice A1 (fnAt fs k).locals.length c1, .int .i64 (fnAt fs k).result, .slice A2 (fnAt fs k).code.length c2] 54]) 0 (⟨Nat.zero_le _, rfl⟩) ⟨rfl, rfl, rfl, rfl, trivial⟩ me ?_)
                    rintro j hj'
                    obtain ⟨hj, hno3⟩ : j ≤ (fnAt fs k).code.length ∧ ((fnAt fs k).code.take j).any (fun o => !fitsO fs.length (fnAt fs k).locals.length (fnAt fs k).code.length o) = false := hj'
                    refine cw_seq ?_
                    refine cw_seq ?_
                    refine cw_region ?_
                    refine rw_run tab_ok 2 [(1, _), (3, _), (4, _), (8, _), (72, _), (73, _)] rfl ⟨rfl, rfl, rfl, rfl, rfl, rfl, trivial⟩ ?_
                    refine rw_s (qs_ldb fc Try.isAgg52 rfl rfl (by rfl)) rfl rfl ?_
                    refine rw_s (qs_len Try.underlying52 rfl rfl) rfl rfl ?_
                    refine rw_run tab_ok 1 [(1, _), (3, _), (4, _), (8, _), (76, _)] rfl ⟨rfl, rfl, rfl, rfl, rfl, trivial⟩ ?_
                    refine rw_end ?_
                    refine cw_condD rfl (fun hlt3 => ?_) (fun hlt3 => ?_)
                    · have hjl : j < (fnAt fs k).code.length := by omega
                      have hsn3 := any_take_snoc (p := fun o => !fitsO fs.length (fnAt fs k).locals.length (fnAt fs k).code.length o) default hjl
                      refine cw_skip (xw_then ?_)
                      refine cw_seq ?_
                      refine cw_block ?_
                      refine cw_seq ?_
                      refine cw_region ?_
                      refine rw_run tab_ok 1 [(1, _), (3, _), (4, _), (8, _), (79, _)] rfl ⟨rfl, rfl, rfl, rfl, rfl, trivial⟩ ?_
                      refine rw_s (qs_ldb fc Try.isAgg52 rfl rfl (by rfl)) rfl rfl ?_
                      refine rw_run tab_ok 1 [(1, _), (3, _), (4, _), (8, _), (80, _), (81, _)] rfl ⟨rfl, rfl, rfl, rfl, rfl, rfl, trivial⟩ ?_
                      refine rw_s (qs_idx Try.underlying52 Try.sizeOf61 (.ro hc) (by omega) rfl rfl rfl) rfl rfl ?_
                      refine rw_s (qs_ldA (cs := [_, _]) (SF.op (.ro hc) (by omega)) rfl rfl Try.isAgg61 Try.sizeOf61) rfl rfl ?_
                      refine rw_op (ot_alloc Try.zeroValue61 rfl rfl) rfl rfl (fun g3 _ => ?_)
                      refine rw_op (ot_stb _ fc Try.sizeOf61 rfl rfl rfl rfl rfl (by rfl) rfl (by rfl)) rfl rfl (fun _ _ => ?_)
                      refine rw_end ?_
                      refine cw_seq ?_
                      refine cw_region ?_
                      refine rw_run tab_ok 1 [(1, _), (3, _), (4, _), (8, _), (9, _), (84, _)] rfl ⟨rfl, rfl, rfl, rfl, rfl, rfl, trivial⟩ ?_
                      refine rw_s (qs_ldb fc Try.isAgg3 rfl rfl (by rfl)) rfl rfl ?_
                      refine rw_run tab_ok 2 [(1, _), (3, _), (4, _), (8, _), (9, _), (87, _)] rfl ⟨rfl, rfl, rfl, rfl, rfl, rfl, trivial⟩ ?_
                      refine rw_split (t := 87) rfl (fun c8 => ?_) (fun c8 => ?_)
                      · have c8 := of_decide_eq_true c8
                        refine rw_run tab_ok 6 [(1, _), (3, _), (4, _), (8, _), (9, _), (92, _), (93, _)] rfl ⟨rfl, rfl, rfl, rfl, rfl, rfl, rfl, trivial⟩ ?_
                        refine rw_s (qs_ldb fc Try.isAgg3 rfl rfl (by rfl)) rfl rfl ?_
                        refine rw_run tab_ok 1 [(1, _), (3, _), (4, _), (8, _), (9, _), (92, _), (94, _), (95, _)] rfl ⟨rfl, rfl, rfl, rfl, rfl, rfl, rfl, rfl, trivial⟩ ?_
                        refine rw_s (qs_ldb fc Try.isAgg35 rfl rfl (by rfl)) rfl rfl ?_
                        refine rw_s (qs_len Try.underlying35 rfl rfl) rfl rfl ?_
                        refine rw_s (qs_sub rfl rfl rfl (by omega)) rfl rfl ?_
                        refine rw_op (ot_c0 rfl rfl rfl Try.call40 ((fun w hw => cbelow ((fun w hw => rwithin_any _ _ _ w) w hw)))) rfl rfl (fun _ _ => ?_)
                        refine rw_run tab_ok 3 [(1, _), (3, _), (4, _), (8, _), (9, _), (102, _)] rfl ⟨rfl, rfl, rfl, rfl, rfl, rfl, trivial⟩ ?_
                        refine rw_split (t := 102) rfl (fun q => ?_) (fun q => ?_)
                        · have q : within (opAt (fnAt fs k).code j).a 0 (((fnAt fs k).locals.length : Int) - 1) = false := by simpa using q
                          refine rw_run tab_ok 34 [(1, _), (3, _), (4, _), (8, _), (136, _)] rfl ⟨rfl, rfl, rfl, rfl, rfl, trivial⟩ ?_
                          refine rw_end ?_
                          refine cw_cond_t rfl ?_
                          refine cw_seq ?_
                          refine cw_region ?_
                          refine rw_run tab_ok 1 [(2, _)] rfl ⟨rfl, trivial⟩ ?_
                          refine rw_end ?_
                          refine cw_ret (xw_blkr (xw_thenr (xw_thenr (xw_blkr (xw_blkr (xw_thenr (xw_thenr (xw_blkr (xw_thenr ?_)))))))))
                          refine xw_ret1 Try.results12 (rv_tmp rfl) ?_
                          intro w hw
                          exact ⟨reti (bad 3 (three j hjl ((fits_a (.inl c8)).trans q)) (by decide)).symm, hw.below⟩
                        · have q : within (opAt (fnAt fs k).code j).a 0 (((fnAt fs k).locals.length : Int) - 1) = true := by simpa using q
                          refine rw_run tab_ok 1 [(1, _), (3, _), (4, _), (8, _), (9, _), (102, _), (103, _)] rfl ⟨rfl, rfl, rfl, rfl, rfl, rfl, rfl, trivial⟩ ?_
                          refine rw_s (qs_ldb fc Try.isAgg3 rfl rfl (by rfl)) rfl rfl ?_
                          refine rw_run tab_ok 2 [(1, _), (3, _), (4, _), (8, _), (9, _), (102, _), (106, _)] rfl ⟨rfl, rfl, rfl, rfl, rfl, rfl, rfl, trivial⟩ ?_
                          refine rw_as (t := 106) (v' := .bool false) rfl (by rw [decide_eq_false (by omega)]) ?_
                          refine rw_run tab_ok 1 [(1, _), (3, _), (4, _), (8, _), (9, _), (102, _), (106, _), (107, _)] rfl ⟨rfl, rfl, rfl, rfl, rfl, rfl, rfl, rfl, trivial⟩ ?_
                          refine rw_s (qs_ldb fc Try.isAgg3 rfl rfl (by rfl)) rfl rfl ?_
                          refine rw_run tab_ok 3 [(1, _), (3, _), (4, _), (8, _), (9, _), (102, _), (111, _)] rfl ⟨rfl, rfl, rfl, rfl, rfl, rfl, rfl, trivial⟩ ?_
                          refine rw_as (t := 111) (v' := .bool false) rfl (by rw [decide_eq_false (by omega)]) ?_
                          refine rw_run tab_ok 12 [(1, _), (3, _), (4, _), (8, _), (9, _), (122, _), (123, _)] rfl ⟨rfl, rfl, rfl, rfl, rfl, rfl, rfl, trivial⟩ ?_
                          refine rw_s (qs_ldb fc Try.isAgg3 rfl rfl (by rfl)) rfl rfl ?_
                          refine rw_run tab_ok 2 [(1, _), (3, _), (4, _), (8, _), (9, _), (122, _), (126, _)] rfl ⟨rfl, rfl, rfl, rfl, rfl, rfl, rfl, trivial⟩ ?_
                          refine rw_as (t := 126) (v' := .bool false) rfl (by rw [decide_eq_false (by omega)]) ?_
                          refine rw_run tab_ok 10 [(1, _), (3, _), (4, _), (8, _), (136, _)] rfl ⟨rfl, rfl, rfl, rfl, rfl, trivial⟩ ?_
                          refine rw_end ?_
                          refine cw_cond_f rfl ?_
                          refine cw_skip (xw_blkn (xw_then ?_))
                          refine cw_region ?_
                          refine rw_run tab_ok 1 [(1, _), (3, _), (4, _), (77, _)] rfl ⟨rfl, rfl, rfl, rfl, trivial⟩ ?_
                          refine rw_s (qs_add rfl rfl rfl (by omega)) rfl rfl ?_
                          refine rw_run tab_ok 1 [(1, _), (3, _), (4, _), (8, _)] rfl ⟨rfl, rfl, rfl, rfl, trivial⟩ ?_
                          refine rw_round (j + 1) (⟨by show j + 1 ≤ _; omega, by show List.any _ _ = false; rw [hsn3, hno3, show fitsO fs.length (fnAt fs k).locals.length (fnAt fs k).code.length ((fnAt fs k).code.getD j default) = true from (fits_a (.inl c8)).trans q]; rfl⟩) (by show _ - _ < _ - _; omega) ⟨rfl, rfl, rfl, rfl, trivial⟩ me
                      · have c8 := of_decide_eq_false c8
                        refine rw_run tab_ok 1 [(1, _), (3, _), (4, _), (8, _), (9, _), (87, _), (88, _)] rfl ⟨rfl, rfl, rfl, rfl, rfl, rfl, rfl, trivial⟩ ?_
                        refine rw_s (qs_ldb fc Try.isAgg3 rfl rfl (by rfl)) rfl rfl ?_
                        refine rw_run tab_ok 3 [(1, _), (3, _), (4, _), (8, _), (9, _), (92, _)] rfl ⟨rfl, rfl, rfl, rfl, rfl, rfl, trivial⟩ ?_
                        refine rw_split (t := 92) rfl (fun c9 => ?_) (fun c9 => ?_)
                        · have c9 := of_decide_eq_true c9
                          refine rw_run tab_ok 1 [(1, _), (3, _), (4, _), (8, _), (9, _), (92, _), (93, _)] rfl ⟨rfl, rfl, rfl, rfl, rfl, rfl, rfl, trivial⟩ ?_
                          refine rw_s (qs_ldb fc Try.isAgg3 rfl rfl (by rfl)) rfl rfl ?_
                          refine rw_run tab_ok 1 [(1, _), (3, _), (4, _), (8, _), (9, _), (92, _), (94, _), (95, _)] rfl ⟨rfl, rfl, rfl, rfl, rfl, rfl, rfl, rfl, trivial⟩ ?_
                          refine rw_s (qs_ldb fc Try.isAgg35 rfl rfl (by rfl)) rfl rfl ?_
                          refine rw_s (qs_len Try.underlying35 rfl rfl) rfl rfl ?_
                          refine rw_s (qs_sub rfl rfl rfl (by omega)) rfl rfl ?_
                          refine rw_op (ot_c0 rfl rfl rfl Try.call40 ((fun w hw => cbelow ((fun w hw => rwithin_any _ _ _ w) w hw)))) rfl rfl (fun _ _ => ?_)
                          refine rw_run tab_ok 3 [(1, _), (3, _), (4, _), (8, _), (9, _), (102, _)] rfl ⟨rfl, rfl, rfl, rfl, rfl, rfl, trivial⟩ ?_
                          refine rw_split (t := 102) rfl (fun q => ?_) (fun q => ?_)
                          · have q : within (opAt (fnAt fs k).code j).a 0 (((fnAt fs k).locals.length : Int) - 1) = false := by simpa using q
                            refine rw_run tab_ok 34 [(1, _), (3, _), (4, _), (8, _), (136, _)] rfl ⟨rfl, rfl, rfl, rfl, rfl, trivial⟩ ?_
                            refine rw_end ?_
                            refine cw_cond_t rfl ?_
                            refine cw_seq ?_
                            refine cw_region ?_
                            refine rw_run tab_ok 1 [(2, _)] rfl ⟨rfl, trivial⟩ ?_
                            refine rw_end ?_
                            refine cw_ret (xw_blkr (xw_thenr (xw_thenr (xw_blkr (xw_blkr (xw_thenr (xw_thenr (xw_blkr (xw_thenr ?_)))))))))
                            refine xw_ret1 Try.results12 (rv_tmp rfl) ?_
                            intro w hw
                            exact ⟨reti (bad 3 (three j hjl ((fits_a (.inr c9)).trans q)) (by decide)).symm, hw.below⟩
                          · have q : within (opAt (fnAt fs k).code j).a 0 (((fnAt fs k).locals.length : Int) - 1) = true := by simpa using q
                            refine rw_run tab_ok 1 [(1, _), (3, _), (4, _), (8, _), (9, _), (102, _), (103, _)] rfl ⟨rfl, rfl, rfl, rfl, rfl, rfl, rfl, trivial⟩ ?_
                            refine rw_s (qs_ldb fc Try.isAgg3 rfl rfl (by rfl)) rfl rfl ?_
                            refine rw_run tab_ok 2 [(1, _), (3, _), (4, _), (8, _), (9, _), (102, _), (106, _)] rfl ⟨rfl, rfl, rfl, rfl, rfl, rfl, rfl, trivial⟩ ?_
                            refine rw_as (t := 106) (v' := .bool false) rfl (by rw [decide_eq_false (by omega)]) ?_
                            refine rw_run tab_ok 1 [(1, _), (3, _), (4, _), (8, _), (9, _), (102, _), (106, _), (107, _)] rfl ⟨rfl, rfl, rfl, rfl, rfl, rfl, rfl, rfl, trivial⟩ ?_
                            refine rw_s (qs_ldb fc Try.isAgg3 rfl rfl (by rfl)) rfl rfl ?_
                            refine rw_run tab_ok 3 [(1, _), (3, _), (4, _), (8, _), (9, _), (102, _), (111, _)] rfl ⟨rfl, rfl, rfl, rfl, rfl, rfl, rfl, trivial⟩ ?_
                            refine rw_as (t := 111) (v' := .bool false) rfl (by rw [decide_eq_false (by omega)]) ?_
                            refine rw_run tab_ok 12 [(1, _), (3, _), (4, _), (8, _), (9, _), (122, _), (123, _)] rfl ⟨rfl, rfl, rfl, rfl, rfl, rfl, rfl, trivial⟩ ?_
                            refine rw_s (qs_ldb fc Try.isAgg3 rfl rfl (by rfl)) rfl rfl ?_
                            refine rw_run tab_ok 2 [(1, _), (3, _), (4, _), (8, _), (9, _), (122, _), (126, _)] rfl ⟨rfl, rfl, rfl, rfl, rfl, rfl, rfl, trivial⟩ ?_
                            refine rw_as (t := 126) (v' := .bool false) rfl (by rw [decide_eq_false (by omega)]) ?_
                            refine rw_run tab_ok 10 [(1, _), (3, _), (4, _), (8, _), (136, _)] rfl ⟨rfl, rfl, rfl, rfl, rfl, trivial⟩ ?_
                            refine rw_end ?_
                            refine cw_cond_f rfl ?_
                            refine cw_skip (xw_blkn (xw_then ?_))
                            refine cw_region ?_
                            refine rw_run tab_ok 1 [(1, _), (3, _), (4, _), (77, _)] rfl ⟨rfl, rfl, rfl, rfl, trivial⟩ ?_
                            refine rw_s (qs_add rfl rfl rfl (by omega)) rfl rfl ?_
                            refine rw_run tab_ok 1 [(1, _), (3, _), (4, _), (8, _)] rfl ⟨rfl, rfl, rfl, rfl, trivial⟩ ?_
                            refine rw_round (j + 1) (⟨by show j + 1 ≤ _; omega, by show List.any _ _ = false; rw [hsn3, hno3, show fitsO fs.length (fnAt fs k).locals.length (fnAt fs k).code.length ((fnAt fs k).code.getD j default) = true from (fits_a (.inr c9)).trans q]; rfl⟩) (by show _ - _ < _ - _; omega) ⟨rfl, rfl, rfl, rfl, trivial⟩ me
                        · have c9 := of_decide_eq_false c9
                          refine rw_run tab_ok 11 [(1, _), (3, _), (4, _), (8, _), (9, _), (102, _), (103, _)] rfl ⟨rfl, rfl, rfl, rfl, rfl, rfl, rfl, trivial⟩ ?_
                          refine rw_s (qs_ldb fc Try.isAgg3 rfl rfl (by rfl)) rfl rfl ?_
                          refine rw_run tab_ok 2 [(1, _), (3, _), (4, _), (8, _), (9, _), (102, _), (106, _)] rfl ⟨rfl, rfl, rfl, rfl, rfl, rfl, rfl, trivial⟩ ?_
                          refine rw_split (t := 106) rfl (fun c10 => ?_) (fun c10 => ?_)
                          · have c10 := of_decide_eq_true c10
                            refine rw_run tab_ok 6 [(1, _), (3, _), (4, _), (8, _), (9, _), (102, _), (111, _), (112, _)] rfl ⟨rfl, rfl, rfl, rfl, rfl, rfl, rfl, rfl, trivial⟩ ?_
                            refine rw_s (qs_ldb fc Try.isAgg3 rfl rfl (by rfl)) rfl rfl ?_
                            refine rw_run tab_ok 1 [(1, _), (3, _), (4, _), (8, _), (9, _), (102, _), (111, _), (113, _), (114, _)] rfl ⟨rfl, rfl, rfl, rfl, rfl, rfl, rfl, rfl, rfl, trivial⟩ ?_
                            refine rw_s (qs_ldb fc Try.isAgg52 rfl rfl (by rfl)) rfl rfl ?_
                            refine rw_s (qs_len Try.underlying52 rfl rfl) rfl rfl ?_
                            refine rw_s (qs_sub rfl rfl rfl (by omega)) rfl rfl ?_
                            refine rw_op (ot_c0 rfl rfl rfl Try.call40 ((fun w hw => cbelow ((fun w hw => rwithin_any _ _ _ w) w hw)))) rfl rfl (fun _ _ => ?_)
                            refine rw_run tab_ok 4 [(1, _), (3, _), (4, _), (8, _), (9, _), (122, _)] rfl ⟨rfl, rfl, rfl, rfl, rfl, rfl, trivial⟩ ?_
                            refine rw_split (t := 122) rfl (fun q => ?_) (fun q => ?_)
                            · have q : within (opAt (fnAt fs k).code j).a 0 (((fnAt fs k).code.length : Int) - 1) = false := by simpa using q
                              refine rw_run tab_ok 14 [(1, _), (3, _), (4, _), (8, _), (136, _)] rfl ⟨rfl, rfl, rfl, rfl, rfl, trivial⟩ ?_
                              refine rw_end ?_
                              refine cw_cond_t rfl ?_
                              refine cw_seq ?_
                              refine cw_region ?_
                              refine rw_run tab_ok 1 [(2, _)] rfl ⟨rfl, trivial⟩ ?_
                              refine rw_end ?_
                              refine cw_ret (xw_blkr (xw_thenr (xw_thenr (xw_blkr (xw_blkr (xw_thenr (xw_thenr (xw_blkr (xw_thenr ?_)))))))))
                              refine xw_ret1 Try.results12 (rv_tmp rfl) ?_
                              intro w hw
                              exact ⟨reti (bad 3 (three j hjl ((fits_b (.inl c10)).trans q)) (by decide)).symm, hw.below⟩
                            · have q : within (opAt (fnAt fs k).code j).a 0 (((fnAt fs k).code.length : Int) - 1) = true := by simpa using q
                              refine rw_run tab_ok 1 [(1, _), (3, _), (4, _), (8, _), (9, _), (122, _), (123, _)] rfl ⟨rfl, rfl, rfl, rfl, rfl, rfl, rfl, trivial⟩ ?_
                              refine rw_s (qs_ldb fc Try.isAgg3 rfl rfl (by rfl)) rfl rfl ?_
                              refine rw_run tab_ok 2 [(1, _), (3, _), (4, _), (8, _), (9, _), (122, _), (126, _)] rfl ⟨rfl, rfl, rfl, rfl, rfl, rfl, rfl, trivial⟩ ?_
                              refine rw_as (t := 126) (v' := .bool false) rfl (by rw [decide_eq_false (by omega)]) ?_
                              refine rw_run tab_ok 10 [(1, _), (3, _), (4, _), (8, _), (136, _)] rfl ⟨rfl, rfl, rfl, rfl, rfl, trivial⟩ ?_
                              refine rw_end ?_
                              refine cw_cond_f rfl ?_
                              refine cw_skip (xw_blkn (xw_then ?_))
                              refine cw_region ?_
                              refine rw_run tab_ok 1 [(1, _), (3, _), (4, _), (77, _)] rfl ⟨rfl, rfl, rfl, rfl, trivial⟩ ?_
                              refine rw_s (qs_add rfl rfl rfl (by omega)) rfl rfl ?_
                              refine rw_run tab_ok 1 [(1, _), (3, _), (4, _), (8, _)] rfl ⟨rfl, rfl, rfl, rfl, trivial⟩ ?_
                              refine rw_round (j + 1) (⟨by show j + 1 ≤ _; omega, by show List.any _ _ = false; rw [hsn3, hno3, show fitsO fs.length (fnAt fs k).locals.length (fnAt fs k).code.length ((fnAt fs k).code.getD j default) = true from (fits_b (.inl c10)).trans q]; rfl⟩) (by show _ - _ < _ - _; omega) ⟨rfl, rfl, rfl, rfl, trivial⟩ me
                          · have c10 := of_decide_eq_false c10
                            refine rw_run tab_ok 1 [(1, _), (3, _), (4, _), (8, _), (9, _), (102, _), (106, _), (107, _)] rfl ⟨rfl, rfl, rfl, rfl, rfl, rfl, rfl, rfl, trivial⟩ ?_
                            refine rw_s (qs_ldb fc Try.isAgg3 rfl rfl (by rfl)) rfl rfl ?_
                            refine rw_run tab_ok 3 [(1, _), (3, _), (4, _), (8, _), (9, _), (102, _), (111, _)] rfl ⟨rfl, rfl, rfl, rfl, rfl, rfl, rfl, trivial⟩ ?_
                            refine rw_split (t := 111) rfl (fun c11 => ?_) (fun c11 => ?_)
                            · have c11 := of_decide_eq_true c11
                              refine rw_run tab_ok 1 [(1, _), (3, _), (4, _), (8, _), (9, _), (102, _), (111, _), (112, _)] rfl ⟨rfl, rfl, rfl, rfl, rfl, rfl, rfl, rfl, trivial⟩ ?_
                              refine rw_s (qs_ldb fc Try.isAgg3 rfl rfl (by rfl)) rfl rfl ?_
                              refine rw_run tab_ok 1 [(1, _), (3, _), (4, _), (8, _), (9, _), (102, _), (111, _), (113, _), (114, _)] rfl ⟨rfl, rfl, rfl, rfl, rfl, rfl, rfl, rfl, rfl, trivial⟩ ?_
                              refine rw_s (qs_ldb fc Try.isAgg52 rfl rfl (by rfl)) rfl rfl ?_
                              refine rw_s (qs_len Try.underlying52 rfl rfl) rfl rfl ?_
                              refine rw_s (qs_sub rfl rfl rfl (by omega)) rfl rfl ?_
                              refine rw_op (ot_c0 rfl rfl rfl Try.call40 ((fun w hw => cbelow ((fun w hw => rwithin_any _ _ _ w) w hw)))) rfl rfl (fun _ _ => ?_)
                              refine rw_run tab_ok 4 [(1, _), (3, _), (4, _), (8, _), (9, _), (122, _)] rfl ⟨rfl, rfl, rfl, rfl, rfl, rfl, trivial⟩ ?_
                              refine rw_split (t := 122) rfl (fun q => ?_) (fun q => ?_)
                              · have q : within (opAt (fnAt fs k).code j).a 0 (((fnAt fs k).code.length : Int) - 1) = false := by simpa using q
                                refine rw_run tab_ok 14 [(1, _), (3, _), (4, _), (8, _), (136, _)] rfl ⟨rfl, rfl, rfl, rfl, rfl, trivial⟩ ?_
                                refine rw_end ?_
                                refine cw_cond_t rfl ?_
                                refine cw_seq ?_
                                refine cw_region ?_
                                refine rw_run tab_ok 1 [(2, _)] rfl ⟨rfl, trivial⟩ ?_
                                refine rw_end ?_
                                refine cw_ret (xw_blkr (xw_thenr (xw_thenr (xw_blkr (xw_blkr (xw_thenr (xw_thenr (xw_blkr (xw_thenr ?_)))))))))
                                refine xw_ret1 Try.results12 (rv_tmp rfl) ?_
                                intro w hw
                                exact ⟨reti (bad 3 (three j hjl ((fits_b (.inr c11)).trans q)) (by decide)).symm, hw.below⟩
                              · have q : within (opAt (fnAt fs k).code j).a 0 (((fnAt fs k).code.length : Int) - 1) = true := by simpa using q
                                refine rw_run tab_ok 1 [(1, _), (3, _), (4, _), (8, _), (9, _), (122, _), (123, _)] rfl ⟨rfl, rfl, rfl, rfl, rfl, rfl, rfl, trivial⟩ ?_
                                refine rw_s (qs_ldb fc Try.isAgg3 rfl rfl (by rfl)) rfl rfl ?_
                                refine rw_run tab_ok 2 [(1, _), (3, _), (4, _), (8, _), (9, _), (122, _), (126, _)] rfl ⟨rfl, rfl, rfl, rfl, rfl, rfl, rfl, trivial⟩ ?_
                                refine rw_as (t := 126) (v' := .bool false) rfl (by rw [decide_eq_false (by omega)]) ?_
                                refine rw_run tab_ok 10 [(1, _), (3, _), (4, _), (8, _), (136, _)] rfl ⟨rfl, rfl, rfl, rfl, rfl, trivial⟩ ?_
                                refine rw_end ?_
                                refine cw_cond_f rfl ?_
                                refine cw_skip (xw_blkn (xw_then ?_))
                                refine cw_region ?_
                                refine rw_run tab_ok 1 [(1, _), (3, _), (4, _), (77, _)] rfl ⟨rfl, rfl, rfl, rfl, trivial⟩ ?_
                                refine rw_s (qs_add rfl rfl rfl (by omega)) rfl rfl ?_
                                refine rw_run tab_ok 1 [(1, _), (3, _), (4, _), (8, _)] rfl ⟨rfl, rfl, rfl, rfl, trivial⟩ ?_
                                refine rw_round (j + 1) (⟨by show j + 1 ≤ _; omega, by show List.any _ _ = false; rw [hsn3, hno3, show fitsO fs.length (fnAt fs k).locals.length (fnAt fs k).code.length ((fnAt fs k).code.getD j default) = true from (fits_b (.inr c11)).trans q]; rfl⟩) (by show _ - _ < _ - _; omega) ⟨rfl, rfl, rfl, rfl, trivial⟩ me
                            · have c11 := of_decide_eq_false c11
                              refine rw_run tab_ok 12 [(1, _), (3, _), (4, _), (8, _), (9, _), (122, _), (123, _)] rfl ⟨rfl, rfl, rfl, rfl, rfl, rfl, rfl, trivial⟩ ?_
                              refine rw_s (qs_ldb fc Try.isAgg3 rfl rfl (by rfl)) rfl rfl ?_
                              refine rw_run tab_ok 2 [(1, _), (3, _), (4, _), (8, _), (9, _), (122, _), (126, _)] rfl ⟨rfl, rfl, rfl, rfl, rfl, rfl, rfl, trivial⟩ ?_
                              refine rw_split (t := 126) rfl (fun c12 => ?_) (fun c12 => ?_)
                              · have c12 := of_decide_eq_true c12
                                refine rw_run tab_ok 1 [(1, _), (3, _), (4, _), (8, _), (122, _), (126, _), (127, _)] rfl ⟨rfl, rfl, rfl, rfl, rfl, rfl, rfl, trivial⟩ ?_
                                refine rw_s (qs_ldb fc Try.isAgg3 rfl rfl (by rfl)) rfl rfl ?_
                                refine rw_run tab_ok 1 [(1, _), (3, _), (4, _), (8, _), (122, _), (126, _), (128, _), (129, _)] rfl ⟨rfl, rfl, rfl, rfl, rfl, rfl, rfl, rfl, trivial⟩ ?_
                                refine rw_s (qs_ldb fc Try.isAgg22 rfl rfl (by rfl)) rfl rfl ?_
                                refine rw_s (qs_len Try.underlying22 rfl rfl) rfl rfl ?_
                                refine rw_s (qs_sub rfl rfl rfl (by omega)) rfl rfl ?_
                                refine rw_op (ot_c0 rfl rfl rfl Try.call40 ((fun w hw => cbelow ((fun w hw => rwithin_any _ _ _ w) w hw)))) rfl rfl (fun _ _ => ?_)
                                refine rw_run tab_ok 3 [(1, _), (3, _), (4, _), (8, _), (136, _)] rfl ⟨rfl, rfl, rfl, rfl, rfl, trivial⟩ ?_
                                refine rw_end ?_
                                refine cw_cond rfl (fun q => ?_) (fun q => ?_)
                                · have q : within (opAt (fnAt fs k).code j).a 0 ((fs.length : Int) - 1) = false := by simpa using q
                                  refine cw_seq ?_
                                  refine cw_region ?_
                                  refine rw_run tab_ok 1 [(2, _)] rfl ⟨rfl, trivial⟩ ?_
                                  refine rw_end ?_
                                  refine cw_ret (xw_blkr (xw_thenr (xw_thenr (xw_blkr (xw_blkr (xw_thenr (xw_thenr (xw_blkr (xw_thenr ?_)))))))))
                                  refine xw_ret1 Try.results12 (rv_tmp rfl) ?_
                                  intro w hw
                                  exact ⟨reti (bad 3 (three j hjl ((fits_c c12).trans q)) (by decide)).symm, hw.below⟩
                                · have q : within (opAt (fnAt fs k).code j).a 0 ((fs.length : Int) - 1) = true := by simpa using q
                                  refine cw_skip (xw_blkn (xw_then ?_))
                                  refine cw_region ?_
                                  refine rw_run tab_ok 1 [(1, _), (3, _), (4, _), (77, _)] rfl ⟨rfl, rfl, rfl, rfl, trivial⟩ ?_
                                  refine rw_s (qs_add rfl rfl rfl (by omega)) rfl rfl ?_
                                  refine rw_run tab_ok 1 [(1, _), (3, _), (4, _), (8, _)] rfl ⟨rfl, rfl, rfl, rfl, trivial⟩ ?_
                                  refine rw_round (j + 1) (⟨by show j + 1 ≤ _; omega, by show List.any _ _ = false; rw [hsn3, hno3, show fitsO fs.length (fnAt fs k).locals.length (fnAt fs k).code.length ((fnAt fs k).code.getD j default) = true from (fits_c c12).trans q]; rfl⟩) (by show _ - _ < _ - _; omega) ⟨rfl, rfl, rfl, rfl, trivial⟩ me
                              · have c12 := of_decide_eq_false c12
                                refine rw_run tab_ok 10 [(1, _), (3, _), (4, _), (8, _), (136, _)] rfl ⟨rfl, rfl, rfl, rfl, rfl, trivial⟩ ?_
                                refine rw_end ?_
                                refine cw_cond_f rfl ?_
                                refine cw_skip (xw_blkn (xw_then ?_))
                                refine cw_region ?_
                                refine rw_run tab_ok 1 [(1, _), (3, _), (4, _), (77, _)] rfl ⟨rfl, rfl, rfl, rfl, trivial⟩ ?_
                                refine rw_s (qs_add rfl rfl rfl (by omega)) rfl rfl ?_
                                refine rw_run tab_ok 1 [(1, _), (3, _), (4, _), (8, _)] rfl ⟨rfl, rfl, rfl, rfl, trivial⟩ ?_
                                refine rw_round (j + 1) (⟨by show j + 1 ≤ _; omega, by show List.any _ _ = false; rw [hsn3, hno3, show fitsO fs.length (fnAt fs k).locals.length (fnAt fs k).code.length ((fnAt fs k).code.getD j default) = true from fits_d c8 c9 c10 c11 c12]; rfl⟩) (by show _ - _ < _ - _; omega) ⟨rfl, rfl, rfl, rfl, trivial⟩ me
                    · obtain rfl : j = (fnAt fs k).code.length := by omega
                      rw [List.take_length] at hno3
                      have hone : oneE fs.length (fnAt fs k) = 0 := by unfold oneE; rw [if_neg k1, if_neg k2, if_neg k3, if_neg k4, if_neg k5, if_neg (by rw [hno3]; decide)]
                      refine cw_exit (xw_thenx (xw_thenx (xw_blk (xw_blkn (xw_then ?_)))))
                      refine cw_region ?_
                      refine rw_run tab_ok 1 [(1, _), (23, _)] rfl ⟨rfl, rfl, trivial⟩ ?_
                      refine rw_s (qs_add rfl rfl rfl (by omega)) rfl rfl ?_
                      refine rw_run tab_ok 1 [(1, _), (3, _)] rfl ⟨rfl, rfl, trivial⟩ ?_
                      refine rw_round (k + 1) (⟨by show k + 1 ≤ _; omega, hsn.trans hone⟩) (by show _ - _ < _ - _; omega) ⟨rfl, rfl, trivial⟩ me
      · obtain rfl : k = fs.length := by omega
        rw [List.take_length] at hno
        have hr := firstE_all hno (fnAt fs 0) (by unfold fnAt; rw [List.getD_eq_getElem?_getD, List.getElem?_eq_getElem (by omega)]; exact List.getElem_mem _)
        have hr2 := oneE_result hr
        obtain ⟨A1, c1, A2, c2, hl, hc, hi, hcell⟩ := hs.fn (k := 0) (by omega)
        have hno : ¬ firstE (oneE fs.length) fs ≠ 0 := fun h => h hno
        refine cw_exit (xw_thenx (xw_thenx (xw_blk (xw_then ?_))))
        refine cw_seq ?_
        refine cw_seq ?_
        refine cw_region ?_
        refine rw_run tab_ok 1 [(1, _), (137, _)] rfl ⟨rfl, rfl, trivial⟩ ?_
        refine rw_s (qs_ldb fc Try.isAgg22 rfl rfl (by rfl)) rfl rfl ?_
        refine rw_s (qs_idx (k := 0) Try.underlying22 Try.sizeOf54 (.ro hs) (by omega) rfl rfl rfl) rfl rfl ?_
        refine rw_run tab_ok 1 [(1, _), (140, _)] rfl ⟨rfl, rfl, trivial⟩ ?_
        refine rw_s (qs_ld (fun w hw => hcell _ w hw 0 _ rfl) rfl rfl Try.isAgg3) rfl rfl ?_
        refine rw_run tab_ok 2 [(1, _), (143, _)] rfl ⟨rfl, rfl, trivial⟩ ?_
        refine rw_split (t := 143) rfl (fun h3 => ?_) (fun h3 => ?_)
        · have h3 := of_decide_eq_true h3
          refine rw_run tab_ok 7 [(150, _)] rfl ⟨rfl, trivial⟩ ?_
          refine rw_end ?_
          refine cw_cond_t rfl ?_
          refine cw_seq ?_
          refine cw_region ?_
          refine rw_run tab_ok 1 [(2, _)] rfl ⟨rfl, trivial⟩ ?_
          refine rw_end ?_
          refine cw_ret (xw_thenr ?_)
          refine xw_ret1 Try.results12 (rv_tmp rfl) ?_
          intro w hw
          exact ⟨reti (by unfold checkP; rw [if_neg h1, if_neg h2, if_neg hno, if_pos (.inl h3)]), hw.below⟩
        · have h3 := of_decide_eq_false h3
          refine rw_run tab_ok 1 [(143, _), (144, _)] rfl ⟨rfl, rfl, trivial⟩ ?_
          refine rw_s (qs_ldb fc Try.isAgg22 rfl rfl (by rfl)) rfl rfl ?_
          refine rw_s (qs_idx (k := 0) Try.underlying22 Try.sizeOf54 (.ro hs) (by omega) rfl rfl rfl) rfl rfl ?_
          refine rw_run tab_ok 1 [(143, _), (147, _)] rfl ⟨rfl, rfl, trivial⟩ ?_
          refine rw_s (qs_ld (fun w hw => hcell _ w hw 2 _ rfl) rfl rfl Try.isAgg3) rfl rfl ?_
          refine rw_run tab_ok 2 [(150, _)] rfl ⟨rfl, trivial⟩ ?_
          refine rw_end ?_
          refine cw_condD rfl (fun h4 => ?_) (fun h4 => ?_)
          · refine cw_seq ?_
            refine cw_region ?_
            refine rw_run tab_ok 1 [(2, _)] rfl ⟨rfl, trivial⟩ ?_
            refine rw_end ?_
            refine cw_ret (xw_thenr ?_)
            refine xw_ret1 Try.results12 (rv_tmp rfl) ?_
            intro w hw
            exact ⟨reti (by unfold checkP; rw [if_neg h1, if_neg h2, if_neg hno, if_pos (.inr (by omega))]), hw.below⟩
          · refine cw_skip (xw_then ?_)
            refine cw_seq ?_
            refine cw_region ?_
            refine rw_run tab_ok 1 [(2, _)] rfl ⟨rfl, trivial⟩ ?_
            refine rw_end ?_
            refine cw_ret ?_
            refine xw_ret1 Try.results12 (rv_tmp rfl) ?_
            intro w hw
            exact ⟨reti (by unfold checkP; rw [if_neg h1, if_neg h2, if_neg hno, if_neg (by omega)]), hw.below⟩
end Go.Proofs.Ytejpkcheimgdfaa

-- Pr5
/- Programs: are two the same? -/
namespace Go.Proofs.Ytejpkcheimgdfaa
open Go.RowKit

theorem take_eq_g {α : Type} {xs ys : List α} {k : Nat} (d : α) (h : xs.take k = ys.take k) (hx : k < xs.length) (hy : k < ys.length) (he : xs.getD k d = ys.getD k d) : xs.take (k + 1) = ys.take (k + 1) := by
  rw [List.take_succ_eq_append_getElem hx, List.take_succ_eq_append_getElem hy, h]
  rw [List.getD_eq_getElem?_getD, List.getElem?_eq_getElem hx, List.getD_eq_getElem?_getD, List.getElem?_eq_getElem hy] at he
  simp only [Option.getD_some] at he
  rw [he]
set_option maxRecDepth 100000 in
set_option maxHeartbeats 4000000 in
theorem rsameP_any (A1 A2 : Option Addr) (c1 c2 : Nat) (fs gs : List MFunc) (w : World) (h1 : Sl w (.slice A1 fs.length c1) fs) (h2 : Sl w (.slice A2 gs.length c2) gs) :
    Calls Try.prog 17 #[.agg #[.slice A1 fs.length c1], .agg #[.slice A2 gs.length c2]] w fun e w' => e = .returned (.bool (decide (fs = gs))) ∧ Below w.heap.size w w' := by
  have b1 := len_bd h1
  have b2 := len_bd h2
  refine enter Try.func17 rfl Try.ntmps17 rfl ?_
  refine cw_seq ?_
  refine cw_region ?_
  refine rw_op (ot_box rfl rfl rfl) rfl rfl (fun g1 _ => ?_)
  refine rw_op (ot_box rfl rfl rfl) rfl rfl (fun g2 _ => ?_)
  refine rw_run tab_ok 1 [(2, _), (3, _)] rfl ⟨rfl, rfl, trivial⟩ ?_
  refine rw_end ?_
  refine cw_seq ?_
  refine cw_seq ?_
  refine cw_region ?_
  refine rw_run tab_ok 1 [(2, _), (3, _), (8, _)] rfl ⟨rfl, rfl, rfl, trivial⟩ ?_
  refine rw_s (qs_ldb fc Try.isAgg22 rfl rfl (by rfl)) rfl rfl ?_
  refine rw_s (qs_len Try.underlying22 rfl rfl) rfl rfl ?_
  refine rw_run tab_ok 1 [(2, _), (3, _), (10, _), (11, _)] rfl ⟨rfl, rfl, rfl, rfl, trivial⟩ ?_
  refine rw_s (qs_ldb fc Try.isAgg22 rfl rfl (by rfl)) rfl rfl ?_
  refine rw_s (qs_len Try.underlying22 rfl rfl) rfl rfl ?_
  refine rw_run tab_ok 1 [(2, _), (3, _), (14, _)] rfl ⟨rfl, rfl, rfl, trivial⟩ ?_
  refine rw_end ?_
  refine cw_condN rfl (fun hn => ?_) (fun hn => ?_)
  · refine cw_seq ?_
    refine cw_region ?_
    refine rw_run tab_ok 1 [(4, _)] rfl ⟨rfl, trivial⟩ ?_
    refine rw_end ?_
    refine cw_ret (xw_thenr ?_)
    refine xw_ret1 Try.results17 (rv_tmp rfl) ?_
    intro w hw
    exact ⟨ret_bool (by rw [eq_comm, decide_eq_false_iff_not]; intro e; exact hn (by rw [e])), hw.below⟩
  · refine cw_skip (xw_then ?_)
    refine cw_seq ?_
    refine cw_seq ?_
    refine cw_region ?_
    refine rw_run tab_ok 1 [(2, _), (3, _), (5, _)] rfl ⟨rfl, rfl, rfl, trivial⟩ ?_
    refine rw_end ?_
    refine cw_block (cw_loop (fun k : Nat => k ≤ fs.length ∧ fs.take k = gs.take k) (fun k => fs.length - k) (fun k => [(2, .pointer (some ⟨g1, 0, none⟩)), (3, .pointer (some ⟨g2, 0, none⟩)), (5, .int .i64 (k : Int))]) (fun _ => [RBox g1 [.slice A1 fs.length c1] 24, RBox g2 [.slice A2 gs.length c2] 24]) 0 (⟨Nat.zero_le _, rfl⟩) ⟨rfl, rfl, rfl, trivial⟩ me ?_)
    rintro k hk'
    obtain ⟨hk, hno⟩ : k ≤ fs.length ∧ fs.take k = gs.take k := hk'
    refine cw_seq ?_
    refine cw_seq ?_
    refine cw_region ?_
    refine rw_run tab_ok 2 [(2, _), (3, _), (5, _), (15, _), (16, _)] rfl ⟨rfl, rfl, rfl, rfl, rfl, trivial⟩ ?_
    refine rw_s (qs_ldb fc Try.isAgg22 rfl rfl (by rfl)) rfl rfl ?_
    refine rw_s (qs_len Try.underlying22 rfl rfl) rfl rfl ?_
    refine rw_run tab_ok 1 [(2, _), (3, _), (5, _), (19, _)] rfl ⟨rfl, rfl, rfl, rfl, trivial⟩ ?_
    refine rw_end ?_
    refine cw_condD rfl (fun hlt => ?_) (fun hlt => ?_)
    · have hkl : k < fs.length := by omega
      have hkg : k < gs.length := by omega
      obtain ⟨B1, d1, B2, d2, hl, hc, hi, hcell⟩ := h1.fn hkl
      obtain ⟨B3, d3, B4, d4, hl', hc', hi', hcell'⟩ := h2.fn hkg
      refine cw_skip (xw_then ?_)
      refine cw_seq ?_
      refine cw_block ?_
      refine cw_cut (fun g : Nat × Nat => True) (fun g => [(2, .pointer (some ⟨g1, 0, none⟩)), (3, .pointer (some ⟨g2, 0, none⟩)), (5, .int .i64 (k : Int)), (6, .pointer (some ⟨g.1, 0, none⟩)), (7, .pointer (some ⟨g.2, 0, none⟩))]) (fun g => [RBox g1 [.slice A1 fs.length c1] 24, RBox g2 [.slice A2 gs.length c2] 24, RBox g.1 [.int .i64 (fnAt fs k).params, .slice B1 (fnAt fs k).locals.length d1, .int .i64 (fnAt fs k).result, .slice B2 (fnAt fs k).code.length d2] 54, RBox g.2 [.int .i64 (fnAt gs k).params, .slice B3 (fnAt gs k).locals.length d3, .int .i64 (fnAt gs k).result, .slice B4 (fnAt gs k).code.length d4] 54]) ?_ ?_
      · refine cw_draw (.still 0 (.still 1 (.still 2 (.still 3 (.still 4 (.still 5 (.still 6 (.still 7 (.still 8 (.still 9 (.pick 10 (.pick 11 (.pick 12 (.pick 13 .done .stop) .stop) .stop) (.pick 11 (.pick 10 (.pick 12 (.pick 13 .done .stop) .stop) .stop) .stop)))))))))))) [13] rfl (by kernel_rfl) (by kernel_rfl) ?_
        refine ro_run tab_ok ha 1 [(2, _), (3, _), (5, _), (22, _)] rfl ⟨rfl, rfl, rfl, rfl, trivial⟩ ?_
        refine ro_s2 rfl (qs_ldb fc Try.isAgg22 rfl rfl (by rfl)) rfl rfl ha ?_
        refine ro_run tab_ok ha 1 [(2, _), (3, _), (5, _), (23, _), (24, _)] rfl ⟨rfl, rfl, rfl, rfl, rfl, trivial⟩ ?_
        refine ro_s2 rfl (qs_idx Try.underlying22 Try.sizeOf54 (.ro h1) (by omega) rfl rfl rfl) rfl rfl ha ?_
        refine ro_s2 rfl (qs_ldA (hcell _) rfl rfl Try.isAgg54 Try.sizeOf54) rfl rfl ha ?_
        refine ro_run tab_ok ha 1 [(2, _), (3, _), (5, _), (26, _), (27, _)] rfl ⟨rfl, rfl, rfl, rfl, rfl, trivial⟩ ?_
        refine ro_s2 rfl (qs_ldb fc Try.isAgg22 rfl rfl (by rfl)) rfl rfl ha ?_
        refine ro_run tab_ok ha 1 [(2, _), (3, _), (5, _), (26, _), (28, _), (29, _)] rfl ⟨rfl, rfl, rfl, rfl, rfl, rfl, trivial⟩ ?_
        refine ro_s2 rfl (qs_idx Try.underlying22 Try.sizeOf54 (.ro h2) (by omega) rfl rfl rfl) rfl rfl ha ?_
        refine ro_s2 rfl (qs_ldA (hcell' _) rfl rfl Try.isAgg54 Try.sizeOf54) rfl rfl ha ?_
        refine ro_op2 rfl (ot_alloc Try.zeroValue54 rfl rfl) rfl rfl (.inr fun _ => ha) (fun ga _ => ?_) ?_
        · refine ro_op2 rfl (ot_alloc Try.zeroValue54 rfl rfl) rfl rfl (.inr fun _ => ha) (fun gb _ => ?_) ro_stop
          refine ro_op2 rfl (ot_stb _ fc Try.sizeOf54 rfl rfl rfl rfl rfl (by rfl) rfl (by rfl)) rfl rfl (.inr fun _ => ha) (fun _ _ => ?_) ro_stop
          refine ro_op2 rfl (ot_stb _ fc Try.sizeOf54 rfl rfl rfl rfl rfl (by rfl) rfl (by rfl)) rfl rfl (.inl rfl) (fun _ _ => ?_) ro_stop
          refine ro_endx <| xw_join (ga, gb) (trivial) ⟨rfl, rfl, rfl, rfl, rfl, trivial⟩ me
        · refine ro_op2 rfl (ot_alloc Try.zeroValue54 rfl rfl) rfl rfl (.inr fun _ => ha) (fun gb _ => ?_) ro_stop
          refine ro_op2 rfl (ot_alloc Try.zeroValue54 rfl rfl) rfl rfl (.inr fun _ => ha) (fun ga _ => ?_) ro_stop
          refine ro_op2 rfl (ot_stb _ fc Try.sizeOf54 rfl rfl rfl rfl rfl (by rfl) rfl (by rfl)) rfl rfl (.inr fun _ => ha) (fun _ _ => ?_) ro_stop
          refine ro_op2 rfl (ot_stb _ fc Try.sizeOf54 rfl rfl rfl rfl rfl (by rfl) rfl (by rfl)) rfl rfl (.inl rfl) (fun _ _ => ?_) ro_stop
          refine ro_endx <| xw_join (ga, gb) (trivial) ⟨rfl, rfl, rfl, rfl, rfl, trivial⟩ me
      · rintro ⟨ga, gb⟩ _
        refine cw_seq ?_
        refine cw_region ?_
        refine rw_run tab_ok 1 [(2, _), (3, _), (5, _), (6, _), (7, _), (32, _)] rfl ⟨rfl, rfl, rfl, rfl, rfl, rfl, trivial⟩ ?_
        refine rw_s (qs_ldb fc Try.isAgg3 rfl rfl (by rfl)) rfl rfl ?_
        refine rw_run tab_ok 1 [(2, _), (3, _), (5, _), (6, _), (7, _), (33, _), (34, _)] rfl ⟨rfl, rfl, rfl, rfl, rfl, rfl, rfl, trivial⟩ ?_
        refine rw_s (qs_ldb fc Try.isAgg3 rfl rfl (by rfl)) rfl rfl ?_
        refine rw_run tab_ok 2 [(2, _), (3, _), (5, _), (6, _), (7, _), (37, _)] rfl ⟨rfl, rfl, rfl, rfl, rfl, rfl, trivial⟩ ?_
        refine rw_split (t := 37) rfl (fun p1 => ?_) (fun p1 => ?_)
        · refine rw_run tab_ok 22 [(2, _), (3, _), (5, _), (59, _)] rfl ⟨rfl, rfl, rfl, rfl, trivial⟩ ?_
          refine rw_end ?_
          refine cw_cond_t rfl ?_
          refine cw_seq ?_
          refine cw_region ?_
          refine rw_run tab_ok 1 [(4, _)] rfl ⟨rfl, trivial⟩ ?_
          refine rw_end ?_
          refine cw_ret (xw_blkr (xw_thenr (xw_thenr (xw_blkr (xw_thenr ?_)))))
          refine xw_ret1 Try.results17 (rv_tmp rfl) ?_
          intro w hw
          refine ⟨ret_bool ?_, hw.below⟩
          rw [eq_comm, decide_eq_false_iff_not]
          intro e
          rw [e] at p1
          simp at p1
        · have p1 : (fnAt fs k).params = (fnAt gs k).params := by simpa using p1
          refine rw_run tab_ok 1 [(2, _), (3, _), (5, _), (6, _), (7, _), (37, _), (38, _)] rfl ⟨rfl, rfl, rfl, rfl, rfl, rfl, rfl, trivial⟩ ?_
          refine rw_s (qs_ldb fc Try.isAgg3 rfl rfl (by rfl)) rfl rfl ?_
          refine rw_run tab_ok 1 [(2, _), (3, _), (5, _), (6, _), (7, _), (37, _), (39, _), (40, _)] rfl ⟨rfl, rfl, rfl, rfl, rfl, rfl, rfl, rfl, trivial⟩ ?_
          refine rw_s (qs_ldb fc Try.isAgg3 rfl rfl (by rfl)) rfl rfl ?_
          refine rw_run tab_ok 3 [(2, _), (3, _), (5, _), (6, _), (7, _), (44, _)] rfl ⟨rfl, rfl, rfl, rfl, rfl, rfl, trivial⟩ ?_
          refine rw_split (t := 44) rfl (fun p2 => ?_) (fun p2 => ?_)
          · refine rw_run tab_ok 15 [(2, _), (3, _), (5, _), (59, _)] rfl ⟨rfl, rfl, rfl, rfl, trivial⟩ ?_
            refine rw_end ?_
            refine cw_cond_t rfl ?_
            refine cw_seq ?_
            refine cw_region ?_
            refine rw_run tab_ok 1 [(4, _)] rfl ⟨rfl, trivial⟩ ?_
            refine rw_end ?_
            refine cw_ret (xw_blkr (xw_thenr (xw_thenr (xw_blkr (xw_thenr ?_)))))
            refine xw_ret1 Try.results17 (rv_tmp rfl) ?_
            intro w hw
            refine ⟨ret_bool ?_, hw.below⟩
            rw [eq_comm, decide_eq_false_iff_not]
            intro e
            rw [e] at p2
            simp at p2
          · have p2 : (fnAt fs k).result = (fnAt gs k).result := by simpa using p2
            refine rw_run tab_ok 1 [(2, _), (3, _), (5, _), (6, _), (7, _), (44, _), (45, _)] rfl ⟨rfl, rfl, rfl, rfl, rfl, rfl, rfl, trivial⟩ ?_
            refine rw_s (qs_ldb fc Try.isAgg35 rfl rfl (by rfl)) rfl rfl ?_
            refine rw_run tab_ok 1 [(2, _), (3, _), (5, _), (6, _), (7, _), (44, _), (46, _), (47, _)] rfl ⟨rfl, rfl, rfl, rfl, rfl, rfl, rfl, rfl, trivial⟩ ?_
            refine rw_s (qs_ldb fc Try.isAgg35 rfl rfl (by rfl)) rfl rfl ?_
            refine rw_op (ot_c0 rfl rfl rfl Try.call28 (fun w hw => sameInts_w _ _ _ _ (fnAt fs k).locals (fnAt gs k).locals w (hw.ro hl) (hw.ro hl'))) rfl rfl (fun _ _ => ?_)
            refine rw_run tab_ok 3 [(2, _), (3, _), (5, _), (6, _), (7, _), (52, _)] rfl ⟨rfl, rfl, rfl, rfl, rfl, rfl, trivial⟩ ?_
            refine rw_split (t := 52) rfl (fun p3 => ?_) (fun p3 => ?_)
            · refine rw_run tab_ok 7 [(2, _), (3, _), (5, _), (59, _)] rfl ⟨rfl, rfl, rfl, rfl, trivial⟩ ?_
              refine rw_end ?_
              refine cw_cond_t rfl ?_
              refine cw_seq ?_
              refine cw_region ?_
              refine rw_run tab_ok 1 [(4, _)] rfl ⟨rfl, trivial⟩ ?_
              refine rw_end ?_
              refine cw_ret (xw_blkr (xw_thenr (xw_thenr (xw_blkr (xw_thenr ?_)))))
              refine xw_ret1 Try.results17 (rv_tmp rfl) ?_
              intro w hw
              refine ⟨ret_bool ?_, hw.below⟩
              rw [eq_comm, decide_eq_false_iff_not]
              intro e
              rw [e] at p3
              simp at p3
            · have p3 : (fnAt fs k).locals = (fnAt gs k).locals := by simpa using p3
              refine rw_run tab_ok 1 [(2, _), (3, _), (5, _), (7, _), (52, _), (53, _)] rfl ⟨rfl, rfl, rfl, rfl, rfl, rfl, trivial⟩ ?_
              refine rw_s (qs_ldb fc Try.isAgg52 rfl rfl (by rfl)) rfl rfl ?_
              refine rw_run tab_ok 1 [(2, _), (3, _), (5, _), (52, _), (54, _), (55, _)] rfl ⟨rfl, rfl, rfl, rfl, rfl, rfl, trivial⟩ ?_
              refine rw_s (qs_ldb fc Try.isAgg52 rfl rfl (by rfl)) rfl rfl ?_
              refine rw_op (ot_c0 rfl rfl rfl Try.call48 (fun w hw => rsameOps_any _ _ (fnAt fs k).code (fnAt gs k).code w (hw.ro hc) (hw.ro hc'))) rfl rfl (fun _ _ => ?_)
              refine rw_run tab_ok 2 [(2, _), (3, _), (5, _), (59, _)] rfl ⟨rfl, rfl, rfl, rfl, trivial⟩ ?_
              refine rw_end ?_
              refine cw_condN rfl (fun p4 => ?_) (fun p4 => ?_)
              · refine cw_seq ?_
                refine cw_region ?_
                refine rw_run tab_ok 1 [(4, _)] rfl ⟨rfl, trivial⟩ ?_
                refine rw_end ?_
                refine cw_ret (xw_blkr (xw_thenr (xw_thenr (xw_blkr (xw_thenr ?_)))))
                refine xw_ret1 Try.results17 (rv_tmp rfl) ?_
                intro w hw
                refine ⟨ret_bool ?_, hw.below⟩
                rw [eq_comm, decide_eq_false_iff_not]
                intro e
                rw [e] at p4
                exact p4 rfl
              · have hfe : fs.getD k default = gs.getD k default := by
                  show fnAt fs k = fnAt gs k
                  cases e1 : fnAt fs k
                  cases e2 : fnAt gs k
                  rw [e1, e2] at p1 p2 p3 p4
                  simp only at p1 p2 p3 p4
                  rw [p1, p2, p3, p4]
                refine cw_skip (xw_blkn (xw_then ?_))
                refine cw_region ?_
                refine rw_run tab_ok 1 [(2, _), (3, _), (20, _)] rfl ⟨rfl, rfl, rfl, trivial⟩ ?_
                refine rw_s (qs_add rfl rfl rfl (by omega)) rfl rfl ?_
                refine rw_run tab_ok 1 [(2, _), (3, _), (5, _)] rfl ⟨rfl, rfl, rfl, trivial⟩ ?_
                refine rw_round (k + 1) (⟨by show k + 1 ≤ _; omega, take_eq_g default hno hkl hkg hfe⟩) (by show _ - _ < _ - _; omega) ⟨rfl, rfl, rfl, trivial⟩ me
    · refine cw_exit (xw_thenx (xw_thenx (xw_blk (xw_then ?_))))
      refine cw_seq ?_
      refine cw_region ?_
      refine rw_run tab_ok 1 [(4, _)] rfl ⟨rfl, trivial⟩ ?_
      refine rw_end ?_
      refine cw_ret ?_
      refine xw_ret1 Try.results17 (rv_tmp rfl) ?_
      intro w hw
      refine ⟨ret_bool ?_, hw.below⟩
      rw [List.take_of_length_le (by omega), List.take_of_length_le (by omega)] at hno
      exact (decide_eq_true hno).symm
end Go.Proofs.Ytejpkcheimgdfaa

-- Pr6
/- Programs: Encode. -/
namespace Go.Proofs.Ytejpkcheimgdfaa
open Go.RowKit

theorem Try.inU8 : (Try.prog.info? 5).map (fun i => (i.zero, i.size, i.bytes)) = some (some (.int .u8 0), 1, 1) := by kernel_rfl
theorem SF.s {B : Nat} {w0 : World} {H : List Res} {R : Res} {α : Type} [Rep α] {A : Option Addr} {m c : Nat} {xs : List α} (h : SF B w0 H A m c xs) : SF B w0 (R :: H) A m c xs := ⟨h.1, fun w hw => h.2 w hw.tail⟩
theorem map_snoc {bs : List UInt8} {xs : List Int} {j : Nat} (hj : j < xs.length) : bs ++ (xs.take (j + 1)).map byteOf = (bs ++ (xs.take j).map byteOf) ++ [byteOf (xs.getD j 0)] := by
  rw [List.take_succ_eq_append_getElem hj, List.map_append, List.append_assoc, List.getD_eq_getElem?_getD, List.getElem?_eq_getElem hj]
  rfl
set_option maxRecDepth 100000 in
set_option maxHeartbeats 1000000 in
theorem put_any {B : Nat} {w0 : World} {H : List Res} (gb : Nat) (xs : List Int) (A : Option Addr) (c : Nat) (hs : SF B w0 H A xs.length c xs) (bs : List UInt8) (Ab : Option Addr) (cb : Nat) (hbd : bs.length + xs.length ≤ 1000000) (w : World)
    (hw : Cw B w0 (RBox gb [.slice Ab bs.length cb] 68 :: ROw (.slice Ab bs.length cb) bs :: H) w) :
    Calls Try.prog 36 #[.slice A xs.length c, .pointer (some ⟨gb, 0, none⟩)] w fun e w' => ∃ g : Option Addr × Nat, True ∧ e = .returned (.tuple #[]) ∧
      Cw B w0 (RBox gb [.slice g.1 (bs ++ xs.map byteOf).length g.2] 68 :: ROw (.slice g.1 (bs ++ xs.map byteOf).length g.2) (bs ++ xs.map byteOf) :: H) w' := by
  refine enter_own Try.func36 rfl Try.ntmps36 rfl hw ?_
  refine cw_seq ?_
  refine cw_region ?_
  refine rw_run tab_ok 1 [(1, _), (5, _)] rfl ⟨rfl, rfl, trivial⟩ ?_
  refine rw_s (qs_len Try.underlying35 rfl rfl) rfl rfl ?_
  refine rw_run tab_ok 1 [(1, _), (5, _), (6, _), (7, _)] rfl ⟨rfl, rfl, rfl, rfl, trivial⟩ ?_
  refine rw_end ?_
  refine cw_block (cw_loop (fun g : Nat × Option Addr × Nat => g.1 ≤ xs.length) (fun g => xs.length - g.1) (fun g => [(1, .pointer (some ⟨gb, 0, none⟩)), (5, .slice A xs.length c), (6, .int .i64 (xs.length : Int)), (7, .int .i64 (g.1 : Int))]) (fun g => [RBox gb [.slice g.2.1 (bs ++ (xs.take g.1).map byteOf).length g.2.2] 68, ROw (.slice g.2.1 (bs ++ (xs.take g.1).map byteOf).length g.2.2) (bs ++ (xs.take g.1).map byteOf)] ++ H) (0, Ab, cb) (Nat.zero_le _) ⟨rfl, rfl, rfl, rfl, trivial⟩ (fun _ h => by simpa using h) ?_)
  rintro ⟨j, Aj, cj⟩ hj'
  try dsimp only
  have hj : j ≤ xs.length := hj'
  have hlj : (bs ++ (xs.take j).map byteOf).length ≤ bs.length + xs.length := by rw [List.length_append, List.length_map, List.length_take]; omega
  refine cw_seq ?_
  refine cw_region ?_
  refine rw_run tab_ok 1 [(1, _), (5, _), (6, _), (7, _), (8, _)] rfl ⟨rfl, rfl, rfl, rfl, rfl, trivial⟩ ?_
  refine rw_end ?_
  refine cw_seq ?_
  refine cw_condD rfl (fun hlt => ?_) (fun hlt => ?_)
  · have hjl : j < xs.length := by omega
    refine cw_skip (xw_then ?_)
    refine cw_seq ?_
    refine cw_block ?_
    refine cw_seq ?_
    refine cw_region ?_
    refine rw_s (qs_idx Try.underlying35 Try.sizeOf3 (.s (.s hs)) (by omega) rfl rfl rfl) rfl rfl ?_
    refine rw_s (qs_ld (SF.int (.s (.s hs)) (by omega)) rfl rfl Try.isAgg3) rfl rfl ?_
    refine rw_run tab_ok 1 [(1, _), (4, _), (5, _), (6, _), (7, _)] rfl ⟨rfl, rfl, rfl, rfl, rfl, trivial⟩ ?_
    refine rw_end ?_
    refine cw_region ?_
    refine rw_s (qs_ldb fc Try.isAgg68 rfl rfl (by rfl)) rfl rfl ?_
    refine rw_run tab_ok 1 [(1, _), (5, _), (6, _), (7, _), (11, _), (12, _)] rfl ⟨rfl, rfl, rfl, rfl, rfl, rfl, trivial⟩ ?_
    refine rw_s (qs_i2b Try.underlying3 Try.underlying5 rfl rfl) rfl rfl ?_
    refine rw_op (ot_bsl (cs := [_]) Try.underlying68 Try.sizeOf5 Try.zeroValue5 rfl rfl rfl rfl rfl) rfl rfl (fun g1 _ => ?_)
    refine rw_op (ot_app1 (α := UInt8) (bytes := 1) (byteOf (xs.getD j 0)) [] (map_snoc hjl) Try.underlying68 (info_ex Try.inU8) rfl (perm2 fc fc) (hel_flat trivial) (by omega) (by omega) rfl rfl rfl) rfl rfl (fun ⟨A4, c4⟩ _ => ?_)
    try dsimp only
    refine rw_op (ot_stb _ fc Try.sizeOf68 rfl rfl rfl rfl rfl (by rfl) rfl (by rfl)) rfl rfl (fun _ _ => ?_)
    refine rw_endx (xw_blkn (xw_then ?_))
    refine cw_region ?_
    refine rw_s (qs_add rfl rfl rfl (by omega)) rfl rfl ?_
    refine rw_run tab_ok 1 [(1, _), (5, _), (6, _), (7, _)] rfl ⟨rfl, rfl, rfl, rfl, trivial⟩ ?_
    refine rw_round (j + 1, A4, c4) (by show j + 1 ≤ _; omega) (by show _ - _ < _ - _; omega) ⟨rfl, rfl, rfl, rfl, trivial⟩ (fun _ h => h.msub ms)
  · obtain rfl : j = xs.length := by omega
    refine cw_exit (xw_thenx (xw_thenx (xw_blk ?_)))
    refine xw_end0 Try.results36  ?_
    intro w hw
    refine ⟨(Aj, cj), trivial, rfl, ?_⟩
    rw [List.take_length] at hw
    exact hw.msub ms
theorem codeBytes_le (l : List MOp) : (codeBytes l).length ≤ 5 * l.length := by
  induction l with
  | nil => simp [codeBytes]
  | cons o l ih =>
    have : (opBytes o).length ≤ 5 := by unfold opBytes; split <;> simp [fourOf]
    simp only [codeBytes, List.flatMap_cons, List.length_append, List.length_cons] at *
    omega
theorem oneE_zero {n : Nat} {f : MFunc} (h : oneE n f = 0) : f.locals.length ≤ 6 ∧ (0 ≤ f.params ∧ f.params ≤ f.locals.length) ∧ codeErr f.code = 0 := by
  unfold oneE at h
  split at h
  · cases h
  · rename_i h1
    split at h
    · cases h
    · rename_i h2
      split at h
      · cases h
      · split at h
        · cases h
        · split at h
          · rename_i h3; exact absurd h h3
          · rename_i h3
            refine ⟨by omega, ?_, by simpa using h3⟩
            have : within f.params 0 f.locals.length = true := by simpa using h2
            unfold within at this
            simpa using this
theorem checkP_zero {fs : List MFunc} (h : checkP fs = 0) : fs.length ≠ 0 ∧ fs.length ≤ 5 ∧ ∀ f ∈ fs, oneE fs.length f = 0 := by
  unfold checkP at h
  split at h
  · cases h
  · rename_i h1
    split at h
    · cases h
    · rename_i h2
      split at h
      · rename_i h3; exact absurd h h3
      · rename_i h3
        exact ⟨h1, by omega, firstE_all (by simpa using h3)⟩
theorem funcBytes_le {n : Nat} {f : MFunc} (h : oneE n f = 0) : (funcBytes f).length ≤ 300 := by
  obtain ⟨h1, _, h2⟩ := oneE_zero h
  have := codeErr_len h2
  have := codeBytes_le f.code
  simp only [funcBytes, List.length_append, List.length_cons, List.length_nil, List.length_map]
  omega
theorem flat_snoc {fs : List MFunc} {k : Nat} (hk : k < fs.length) : (fs.take (k + 1)).flatMap funcBytes = (fs.take k).flatMap funcBytes ++ funcBytes (fnAt fs k) := by
  rw [List.take_succ_eq_append_getElem hk, List.flatMap_append]
  unfold fnAt
  rw [List.getD_eq_getElem?_getD, List.getElem?_eq_getElem hk]
  simp
theorem flat_le {fs : List MFunc} {n : Nat} (h : ∀ f ∈ fs, oneE n f = 0) (k : Nat) : ((fs.take k).flatMap funcBytes).length ≤ 300 * k := by
  induction k with
  | zero => simp
  | succ k ih =>
    by_cases hk : k < fs.length
    · rw [flat_snoc hk, List.length_append]
      have := funcBytes_le (h (fnAt fs k) (by unfold fnAt; rw [List.getD_eq_getElem?_getD, List.getElem?_eq_getElem hk]; exact List.getElem_mem hk))
      omega
    · rw [List.take_of_length_le (by omega)]
      rw [List.take_of_length_le (by omega)] at ih
      omega
theorem qs_shr8 {P : Program} {n : Nat} {o : Oper} {env : Env} {B : Nat} {w0 : World} {H : List Res} {i : Operand} {t u : TypeId} {a : Nat} {kk : IntKind} (hop : o.op = .binOp .shr t i (.const (.int kk 8)) u) (hi : opv env i = some (.int .i64 (a : Int))) : QS P n B w0 o env H (.int .i64 (((a / 256 : Nat)) : Int)) := by
  intro a' w hf hw
  have hgd : (eqGuard .shr t i (.const (.int kk 8)) (.int .i64 (a : Int)) (.int kk 8)).run P w = .ok () w := by
    unfold eqGuard
    split <;> simp
  have hb : (binOp .shr t (.int .i64 (a : Int)) (.int kk 8)).run P w = .ok (.int .i64 (((a / 256 : Nat)) : Int)) w := by
    have : (a : Int).fdiv (2 ^ (min (8 : Int).toNat IntKind.i64.bits)) = ((a / 256 : Nat) : Int) := by
      show (a : Int).fdiv 256 = _
      rw [Int.fdiv_eq_ediv_of_nonneg _ (by decide)]
      omega
    simp only [binOp, Op.shift]
    rw [if_neg (by decide), this]
    rfl
  have hj : a'.eval (.const (.int kk 8)) = .int kk 8 := rfl
  unfold execOp
  simp only [hop, hf.opv hi, hj, Sem.run_bind, hgd, Result.andThen_ok, hb, Sem.run_pure]
theorem enc_step {fs : List MFunc} {k : Nat} (hk : k < fs.length) : (byteOf fs.length :: (fs.take (k + 1)).flatMap funcBytes) = ((((byteOf fs.length :: (fs.take k).flatMap funcBytes) ++ [(fnAt fs k).params, ((fnAt fs k).locals.length : Int)].map byteOf) ++ (fnAt fs k).locals.map byteOf) ++
    [(fnAt fs k).result, (((codeBytes (fnAt fs k).code).length / 256 : Nat) : Int), ((codeBytes (fnAt fs k).code).length : Int)].map byteOf) ++ codeBytes (fnAt fs k).code := by
  rw [flat_snoc hk]
  have : (((codeBytes (fnAt fs k).code).length / 256 : Nat) : Int) = ((codeBytes (fnAt fs k).code).length : Int) / 256 := by omega
  rw [this]
  simp only [funcBytes, List.cons_append, List.append_assoc, List.map_cons, List.map_nil, List.nil_append]
theorem encodeP_no {fs : List MFunc} (h : ¬ checkP fs = 0) : encodeP fs = ([], checkP fs) := by unfold encodeP; rw [if_pos h]
theorem encodeP_of {fs : List MFunc} (h : checkP fs = 0) : encodeP fs = (progBytes fs, 0) := by unfold encodeP; rw [if_neg (fun e => e h)]
set_option maxRecDepth 100000 in
set_option maxHeartbeats 4000000 in
theorem pencode_any (A : Option Addr) (c : Nat) (fs : List MFunc) (w : World) (hs : Sl w (.slice A fs.length c) fs) :
    Calls Try.prog 10 #[.agg #[.slice A fs.length c]] w fun e w' => e = .returned (.tuple #[.string ⟨(encodeP fs).1.toArray⟩, .int .i64 (encodeP fs).2]) ∧ Below w.heap.size w w' := by
  have b1 := len_bd hs
  refine enter Try.func10 rfl Try.ntmps10 rfl ?_
  refine cw_seq ?_
  refine cw_region ?_
  refine rw_op (ot_box rfl rfl rfl) rfl rfl (fun g1 _ => ?_)
  refine rw_run tab_ok 2 [(1, _)] rfl ⟨rfl, trivial⟩ ?_
  refine rw_end ?_
  refine cw_seq ?_
  refine cw_seq ?_
  refine cw_region ?_
  refine rw_s (qs_ldbA (vs := [_]) fc Try.isAgg24 Try.sizeOf24 rfl rfl (by rfl) rfl) rfl rfl ?_
  refine rw_op (ot_c0 rfl rfl rfl Try.call16 (fun w hw => pcheck_any A c fs w (hw.ro hs))) rfl rfl (fun _ _ => ?_)
  refine rw_run tab_ok 1 [(1, _), (4, _)] rfl ⟨rfl, rfl, trivial⟩ ?_
  refine rw_end ?_
  refine cw_seq ?_
  refine cw_region ?_
  refine rw_run tab_ok 2 [(1, _), (4, _), (13, _)] rfl ⟨rfl, rfl, rfl, trivial⟩ ?_
  refine rw_end ?_
  refine cw_condN rfl (fun hz => ?_) (fun hz => ?_)
  · refine cw_seq ?_
    refine cw_region ?_
    refine rw_run tab_ok 3 [(2, _), (3, _)] rfl ⟨rfl, rfl, trivial⟩ ?_
    refine rw_end ?_
    refine cw_ret (xw_thenr ?_)
    refine xw_ret2 Try.results10 (rv_tmp rfl) (rv_tmp rfl) ?_
    intro w hw
    exact ⟨by rw [encodeP_no hz], hw.below⟩
  · obtain ⟨hn0, hn5, hall⟩ := checkP_zero hz
    refine cw_skip (xw_then ?_)
    refine cw_seq ?_
    refine cw_region ?_
    refine rw_op (ot_alloc Try.zeroValue68 rfl rfl) rfl rfl (fun g2 _ => ?_)
    refine rw_end ?_
    refine cw_seq ?_
    refine cw_region ?_
    refine rw_run tab_ok 2 [(1, _), (5, _), (6, _)] rfl ⟨rfl, rfl, rfl, trivial⟩ ?_
    refine rw_end ?_
    refine cw_mem (fun w h => Cw.nilO UInt8 h) ?_
    refine cw_seq ?_
    refine cw_region ?_
    refine rw_run tab_ok 2 [(1, _), (5, _), (6, _), (16, _), (17, _)] rfl ⟨rfl, rfl, rfl, rfl, rfl, trivial⟩ ?_
    refine rw_s (qs_ldb fc Try.isAgg22 rfl rfl (by rfl)) rfl rfl ?_
    refine rw_s (qs_len Try.underlying22 rfl rfl) rfl rfl ?_
    refine rw_op (ot_bsl (cs := [_]) Try.underlying35 Try.sizeOf3 Try.zeroValue3 rfl rfl rfl rfl rfl) rfl rfl (fun g3 _ => ?_)
    refine rw_mem (fun w h => row_ow (α := Int) (m := 1) [(fs.length : Int)] rfl (one_i64 (by unfold I64; omega)) rfl (by decide) h) ?_
    refine rw_op (ot_callK rfl rfl rfl Try.call36 (fun w hw => put_any g2 [(fs.length : Int)] _ _ (.own rfl .a) [] none 0 (by simp) w (hw.msub (.s fc (.s fc .r))))) rfl rfl (fun ⟨Ab, cb⟩ _ => ?_)
    try dsimp only
    refine rw_end ?_
    refine cw_seq ?_
    refine cw_seq ?_
    refine cw_region ?_
    refine rw_run tab_ok 1 [(5, _), (6, _), (22, _)] rfl ⟨rfl, rfl, rfl, trivial⟩ ?_
    refine rw_s (qs_ldb fc Try.isAgg22 rfl rfl (by rfl)) rfl rfl ?_
    refine rw_s (qs_len Try.underlying22 rfl rfl) rfl rfl ?_
    refine rw_run tab_ok 1 [(5, _), (6, _), (23, _), (24, _), (25, _)] rfl ⟨rfl, rfl, rfl, rfl, rfl, trivial⟩ ?_
    refine rw_end ?_
    refine cw_block (cw_loop (fun g : Nat × Option Addr × Nat => g.1 ≤ fs.length) (fun g => fs.length - g.1) (fun g => [(5, .pointer (some ⟨g2, 0, none⟩)), (6, .func (.func 36) #[] #[.pointer (some ⟨g2, 0, none⟩)]), (23, .slice A fs.length c), (24, .int .i64 (fs.length : Int)), (25, .int .i64 (g.1 : Int))]) (fun g => [RBox g2 [.slice g.2.1 (byteOf fs.length :: (fs.take g.1).flatMap funcBytes).length g.2.2] 68, ROw (.slice g.2.1 (byteOf fs.length :: (fs.take g.1).flatMap funcBytes).length g.2.2) (byteOf fs.length :: (fs.take g.1).flatMap funcBytes)]) (0, Ab, cb) (Nat.zero_le _) ⟨rfl, rfl, rfl, rfl, rfl, trivial⟩ me ?_)
    rintro ⟨k, Aj, cj⟩ hk'
    try dsimp only
    have hk : k ≤ fs.length := hk'
    have hbl : (byteOf fs.length :: (fs.take k).flatMap funcBytes).length ≤ 1501 := by have := flat_le hall k; rw [List.length_cons]; omega
    refine cw_seq ?_
    refine cw_region ?_
    refine rw_run tab_ok 1 [(5, _), (6, _), (23, _), (24, _), (25, _), (26, _)] rfl ⟨rfl, rfl, rfl, rfl, rfl, rfl, trivial⟩ ?_
    refine rw_end ?_
    refine cw_seq ?_
    refine cw_condD rfl (fun hlt => ?_) (fun hlt => ?_)
    · have hkl : k < fs.length := by omega
      obtain ⟨A1, c1, A2, c2, hl, hc, hi, hcell⟩ := hs.fn hkl
      have hone := hall (fnAt fs k) (by unfold fnAt; rw [List.getD_eq_getElem?_getD, List.getElem?_eq_getElem hkl]; exact List.getElem_mem hkl)
      obtain ⟨hl6, hpar, hce⟩ := oneE_zero hone
      have hc40 := codeErr_len hce
      have hcl := codeBytes_le (fnAt fs k).code
      refine cw_skip (xw_then ?_)
      refine cw_seq ?_
      refine cw_block ?_
      refine cw_seq ?_
      refine cw_region ?_
      refine rw_s (qs_idx Try.underlying22 Try.sizeOf54 (.ro hs) (by omega) rfl rfl rfl) rfl rfl ?_
      refine rw_s (qs_ldA (hcell _) rfl rfl Try.isAgg54 Try.sizeOf54) rfl rfl ?_
      refine rw_op (ot_alloc Try.zeroValue54 rfl rfl) rfl rfl (fun g4 _ => ?_)
      refine rw_op (ot_stb _ fc Try.sizeOf54 rfl rfl rfl rfl rfl (by rfl) rfl (by rfl)) rfl rfl (fun _ _ => ?_)
      refine rw_end ?_
      refine cw_seq ?_
      refine cw_region ?_
      refine rw_run tab_ok 2 [(5, _), (6, _), (8, _), (23, _), (24, _), (25, _), (29, _), (30, _)] rfl ⟨rfl, rfl, rfl, rfl, rfl, rfl, rfl, rfl, trivial⟩ ?_
      refine rw_s (qs_ldb fc Try.isAgg3 rfl rfl (by rfl)) rfl rfl ?_
      refine rw_run tab_ok 1 [(5, _), (6, _), (8, _), (23, _), (24, _), (25, _), (29, _), (31, _), (32, _)] rfl ⟨rfl, rfl, rfl, rfl, rfl, rfl, rfl, rfl, rfl, trivial⟩ ?_
      refine rw_s (qs_ldb fc Try.isAgg35 rfl rfl (by rfl)) rfl rfl ?_
      refine rw_s (qs_len Try.underlying35 rfl rfl) rfl rfl ?_
      refine rw_op (ot_bsl (cs := [_, _]) Try.underlying35 Try.sizeOf3 Try.zeroValue3 rfl rfl rfl rfl rfl) rfl rfl (fun g5 _ => ?_)
      refine rw_mem (fun w h => row_ow (α := Int) (m := 2) [(fnAt fs k).params, ((fnAt fs k).locals.length : Int)] rfl (two_i64 hi.1 (by unfold I64; omega)) rfl (by decide) h) ?_
      refine rw_op (ot_callK rfl rfl rfl Try.call36 (fun w hw => put_any g2 [(fnAt fs k).params, ((fnAt fs k).locals.length : Int)] _ _ (.own rfl .a) (byteOf fs.length :: (fs.take k).flatMap funcBytes) Aj cj (by show _ + 2 ≤ _; omega) w (hw.msub (.s fc (.s fc .r))))) rfl rfl (fun ⟨A10, c10⟩ _ => ?_)
      try dsimp only
      refine rw_end ?_
      refine cw_seq ?_
      refine cw_region ?_
      refine rw_run tab_ok 2 [(5, _), (6, _), (8, _), (23, _), (24, _), (25, _), (37, _), (38, _)] rfl ⟨rfl, rfl, rfl, rfl, rfl, rfl, rfl, rfl, trivial⟩ ?_
      refine rw_s (qs_ldb fc Try.isAgg35 rfl rfl (by rfl)) rfl rfl ?_
      have hb10 : ((byteOf fs.length :: (fs.take k).flatMap funcBytes) ++ [(fnAt fs k).params, ((fnAt fs k).locals.length : Int)].map byteOf).length ≤ 1503 := by rw [List.length_append]; show _ + 2 ≤ _; omega
      refine rw_op (ot_callK rfl rfl rfl Try.call36 (fun w hw => put_any g2 (fnAt fs k).locals _ _ (.ro hl) ((byteOf fs.length :: (fs.take k).flatMap funcBytes) ++ [(fnAt fs k).params, ((fnAt fs k).locals.length : Int)].map byteOf) A10 c10 (by omega) w (hw.msub (.s fc (.s fc .r))))) rfl rfl (fun ⟨A11, c11⟩ _ => ?_)
      try dsimp only
      refine rw_end ?_
      refine cw_seq ?_
      refine cw_region ?_
      refine rw_run tab_ok 1 [(5, _), (6, _), (8, _), (23, _), (24, _), (25, _), (41, _)] rfl ⟨rfl, rfl, rfl, rfl, rfl, rfl, rfl, trivial⟩ ?_
      refine rw_s (qs_ldb fc Try.isAgg52 rfl rfl (by rfl)) rfl rfl ?_
      have hb11 : (((byteOf fs.length :: (fs.take k).flatMap funcBytes) ++ [(fnAt fs k).params, ((fnAt fs k).locals.length : Int)].map byteOf) ++ (fnAt fs k).locals.map byteOf).length ≤ 1509 := by rw [List.length_append, List.length_map]; omega
      refine rw_op (ot_c0 rfl rfl rfl Try.call37 (fun w hw => bytes_any _ (fnAt fs k).code w (hw.ro hc) hc40)) rfl rfl (fun _ _ => ?_)
      refine rw_run tab_ok 1 [(5, _), (6, _), (8, _), (9, _), (23, _), (24, _), (25, _)] rfl ⟨rfl, rfl, rfl, rfl, rfl, rfl, rfl, trivial⟩ ?_
      refine rw_end ?_
      refine cw_seq ?_
      refine cw_region ?_
      refine rw_run tab_ok 2 [(5, _), (6, _), (9, _), (23, _), (24, _), (25, _), (44, _), (45, _)] rfl ⟨rfl, rfl, rfl, rfl, rfl, rfl, rfl, rfl, trivial⟩ ?_
      refine rw_s (qs_ldb fc Try.isAgg3 rfl rfl (by rfl)) rfl rfl ?_
      refine rw_run tab_ok 1 [(5, _), (6, _), (9, _), (23, _), (24, _), (25, _), (44, _), (46, _), (47, _)] rfl ⟨rfl, rfl, rfl, rfl, rfl, rfl, rfl, rfl, rfl, trivial⟩ ?_
      refine rw_s (qs_lenS Try.underlying9 rfl rfl) rfl rfl ?_
      refine rw_s (qs_shr8 rfl rfl) rfl rfl ?_
      refine rw_run tab_ok 1 [(5, _), (6, _), (9, _), (23, _), (24, _), (25, _), (44, _), (46, _), (49, _), (50, _)] rfl ⟨rfl, rfl, rfl, rfl, rfl, rfl, rfl, rfl, rfl, rfl, trivial⟩ ?_
      refine rw_s (qs_lenS Try.underlying9 rfl rfl) rfl rfl ?_
      refine rw_op (ot_bsl (cs := [_, _, _]) Try.underlying35 Try.sizeOf3 Try.zeroValue3 rfl rfl rfl rfl rfl) rfl rfl (fun g6 _ => ?_)
      refine rw_mem (fun w h => row_ow (α := Int) (m := 3) [(fnAt fs k).result, (((codeBytes (fnAt fs k).code).length / 256 : Nat) : Int), ((codeBytes (fnAt fs k).code).length : Int)] rfl (by intro x hx; rcases List.mem_cons.1 hx with hx | hx; (· rw [hx]; exact hi.2); (· exact two_i64 (by unfold I64; omega) (by unfold I64; omega) x hx)) rfl (by decide) h) ?_
      refine rw_op (ot_callK rfl rfl rfl Try.call36 (fun w hw => put_any g2 [(fnAt fs k).result, (((codeBytes (fnAt fs k).code).length / 256 : Nat) : Int), ((codeBytes (fnAt fs k).code).length : Int)] _ _ (.own rfl .a) (((byteOf fs.length :: (fs.take k).flatMap funcBytes) ++ [(fnAt fs k).params, ((fnAt fs k).locals.length : Int)].map byteOf) ++ (fnAt fs k).locals.map byteOf) A11 c11 (by show _ + 3 ≤ _; omega) w (hw.msub (.s fc (.s fc .r))))) rfl rfl (fun ⟨A13, c13⟩ _ => ?_)
      try dsimp only
      refine rw_end ?_
      refine cw_region ?_
      refine rw_s (qs_ldb fc Try.isAgg68 rfl rfl (by rfl)) rfl rfl ?_
      refine rw_run tab_ok 1 [(5, _), (6, _), (23, _), (24, _), (25, _), (54, _), (55, _)] rfl ⟨rfl, rfl, rfl, rfl, rfl, rfl, rfl, trivial⟩ ?_
      have hb13 : ((((byteOf fs.length :: (fs.take k).flatMap funcBytes) ++ [(fnAt fs k).params, ((fnAt fs k).locals.length : Int)].map byteOf) ++ (fnAt fs k).locals.map byteOf) ++ [(fnAt fs k).result, (((codeBytes (fnAt fs k).code).length / 256 : Nat) : Int), ((codeBytes (fnAt fs k).code).length : Int)].map byteOf).length ≤ 1512 := by rw [List.length_append]; show _ + 3 ≤ _; omega
      refine rw_op (ot_appT (bytes := 1) (enc_step hkl) Try.underlying68 Try.underlying9 (info_ex Try.inU8) rfl fc (by omega) (by omega) rfl rfl rfl) rfl rfl (fun ⟨A14, c14⟩ _ => ?_)
      try dsimp only
      refine rw_op (ot_stb _ fc Try.sizeOf68 rfl rfl rfl rfl rfl (by rfl) rfl (by rfl)) rfl rfl (fun _ _ => ?_)
      refine rw_endx (xw_blkn (xw_then ?_))
      refine cw_region ?_
      refine rw_s (qs_add rfl rfl rfl (by omega)) rfl rfl ?_
      refine rw_run tab_ok 1 [(5, _), (6, _), (23, _), (24, _), (25, _)] rfl ⟨rfl, rfl, rfl, rfl, rfl, trivial⟩ ?_
      refine rw_round (k + 1, A14, c14) (by show k + 1 ≤ _; omega) (by show _ - _ < _ - _; omega) ⟨rfl, rfl, rfl, rfl, rfl, trivial⟩ me
    · obtain rfl : k = fs.length := by omega
      rw [List.take_length] at *
      refine cw_exit (xw_thenx (xw_thenx (xw_blk (xw_then ?_))))
      refine cw_seq ?_
      refine cw_region ?_
      refine rw_s (qs_ldb fc Try.isAgg68 rfl rfl (by rfl)) rfl rfl ?_
      refine rw_s (qs_b2s Try.underlying68 Try.underlying9 Try.underlying5 (SF.own rfl fc) rfl rfl) rfl rfl ?_
      refine rw_run tab_ok 2 [(2, _), (3, _)] rfl ⟨rfl, rfl, trivial⟩ ?_
      refine rw_end ?_
      refine cw_ret ?_
      refine xw_ret2 Try.results10 (rv_tmp rfl) (rv_tmp rfl) ?_
      intro w hw
      exact ⟨by rw [encodeP_of hz]; rfl, hw.below⟩
end Go.Proofs.Ytejpkcheimgdfaa

-- Pr7
/- Programs: the document's bytes; the square. -/
namespace Go.Proofs.Ytejpkcheimgdfaa
open Go.RowKit

set_option maxRecDepth 100000 in
theorem rone_any (n : Int) (w : World) : Calls Try.prog 42 #[.int .i64 n] w fun e w' => e = .returned (.string ⟨[byteOf n].toArray⟩) ∧ Below w.heap.size w w' := by
  refine enter Try.func42 rfl Try.ntmps42 rfl ?_
  refine cw_seq ?_
  refine cw_region ?_
  refine rw_run tab_ok 1 [(0, _)] rfl ⟨rfl, trivial⟩ ?_
  refine rw_end ?_
  refine cw_seq ?_
  refine cw_region ?_
  refine rw_run tab_ok 1 [(3, _)] rfl ⟨rfl, trivial⟩ ?_
  refine rw_s (qs_i2b Try.underlying3 Try.underlying5 rfl rfl) rfl rfl ?_
  refine rw_op (ot_bsl (cs := [_]) Try.underlying68 Try.sizeOf5 Try.zeroValue5 rfl rfl rfl rfl rfl) rfl rfl (fun g1 _ => ?_)
  refine rw_mem (fun w h => row_ow (α := UInt8) (m := 1) [byteOf n] rfl (fun _ _ => trivial) rfl (by decide) h) ?_
  refine rw_s (qs_b2s (xs := [byteOf n]) (m := 1) Try.underlying68 Try.underlying9 Try.underlying5 (SF.own rfl fc) rfl rfl) rfl rfl ?_
  refine rw_run tab_ok 1 [(2, _)] rfl ⟨rfl, trivial⟩ ?_
  refine rw_end ?_
  refine cw_ret ?_
  refine xw_ret1 Try.results42 (rv_tmp rfl) ?_
  intro w hw
  exact ⟨rfl, hw.below⟩
theorem prog_step {fs : List MFunc} {k : Nat} (hk : k < fs.length) {X : List UInt8} (hX : X = (byteOf fs.length :: (fs.take k).flatMap funcBytes) ++ ([byteOf (fnAt fs k).params] ++ [byteOf (fnAt fs k).locals.length]) ++ (fnAt fs k).locals.map byteOf) :
    X ++ ((([byteOf (fnAt fs k).result] ++ [byteOf (((codeBytes (fnAt fs k).code).length / 256 : Nat) : Int)]) ++ [byteOf (((codeBytes (fnAt fs k).code).length % 256 : Nat) : Int)]) ++ codeBytes (fnAt fs k).code) = (byteOf fs.length :: (fs.take (k + 1)).flatMap funcBytes) := by
  rw [enc_step hk, hX]
  have : byteOf (((codeBytes (fnAt fs k).code).length % 256 : Nat) : Int) = byteOf ((codeBytes (fnAt fs k).code).length : Int) := by unfold byteOf; congr 2; omega
  rw [this]
  simp only [List.append_assoc, List.cons_append, List.nil_append, List.map_cons, List.map_nil]
end Go.Proofs.Ytejpkcheimgdfaa

-- Pr8
/- Programs: the document's bytes. -/
namespace Go.Proofs.Ytejpkcheimgdfaa
open Go.RowKit

theorem qs_quo256 {P : Program} {n : Nat} {o : Oper} {env : Env} {B : Nat} {w0 : World} {H : List Res} {i : Operand} {t u : TypeId} {a : Nat} (ha : a ≤ 1000000) (hop : o.op = .binOp .quo t i (.const (.int .i64 256)) u) (hi : opv env i = some (.int .i64 (a : Int))) : QS P n B w0 o env H (.int .i64 (((a / 256 : Nat)) : Int)) :=
  qs_arith hop hi rfl (by decide) fun w => by
    have e : (a : Int).tdiv 256 = ((a / 256 : Nat) : Int) := by rw [Int.tdiv_eq_ediv_of_nonneg (by omega)]; omega
    simp only [binOp, Op.intDiv, ne_eq, not_true_eq_false, if_false]
    rw [if_neg (by decide), e, i64_wrap (by omega) (by omega)]
    rfl
theorem qs_rem256 {P : Program} {n : Nat} {o : Oper} {env : Env} {B : Nat} {w0 : World} {H : List Res} {i : Operand} {t u : TypeId} {a : Nat} (ha : a ≤ 1000000) (hop : o.op = .binOp .rem t i (.const (.int .i64 256)) u) (hi : opv env i = some (.int .i64 (a : Int))) : QS P n B w0 o env H (.int .i64 (((a % 256 : Nat)) : Int)) :=
  qs_arith hop hi rfl (by decide) fun w => by
    have e : (a : Int).tmod 256 = ((a % 256 : Nat) : Int) := by rw [Int.tmod_eq_emod_of_nonneg (by omega)]; omega
    simp only [binOp, Op.intDiv, ne_eq, not_true_eq_false, if_false]
    rw [if_neg (by decide), e]
    rfl
set_option maxRecDepth 100000 in
set_option maxHeartbeats 4000000 in
theorem rprogBytes_any (A : Option Addr) (c : Nat) (fs : List MFunc) (w : World) (hs : Sl w (.slice A fs.length c) fs) (hz : checkP fs = 0) :
    Calls Try.prog 13 #[.agg #[.slice A fs.length c]] w fun e w' => e = .returned (.string ⟨(progBytes fs).toArray⟩) ∧ Below w.heap.size w w' := by
  have b1 := len_bd hs
  obtain ⟨hn0, hn5, hall⟩ := checkP_zero hz
  refine enter Try.func13 rfl Try.ntmps13 rfl ?_
  refine cw_seq ?_
  refine cw_region ?_
  refine rw_op (ot_box rfl rfl rfl) rfl rfl (fun g1 _ => ?_)
  refine rw_run tab_ok 1 [(1, _)] rfl ⟨rfl, trivial⟩ ?_
  refine rw_end ?_
  refine cw_seq ?_
  refine cw_region ?_
  refine rw_run tab_ok 1 [(1, _), (3, _)] rfl ⟨rfl, rfl, trivial⟩ ?_
  refine rw_end ?_
  refine cw_seq ?_
  refine cw_region ?_
  refine rw_run tab_ok 2 [(1, _), (3, _), (9, _), (10, _)] rfl ⟨rfl, rfl, rfl, rfl, trivial⟩ ?_
  refine rw_s (qs_ldb fc Try.isAgg22 rfl rfl (by rfl)) rfl rfl ?_
  refine rw_s (qs_len Try.underlying22 rfl rfl) rfl rfl ?_
  refine rw_op (ot_c0K rfl rfl rfl Try.call42 (fun w hw => rone_any (fs.length : Int) w)) rfl rfl (fun _ _ => ?_)
  refine rw_run tab_ok 1 [(1, _), (3, _), (4, _)] rfl ⟨rfl, rfl, rfl, trivial⟩ ?_
  refine rw_end ?_
  refine cw_seq ?_
  refine cw_seq ?_
  refine cw_region ?_
  refine rw_run tab_ok 1 [(1, _), (3, _), (4, _), (5, _)] rfl ⟨rfl, rfl, rfl, rfl, trivial⟩ ?_
  refine rw_end ?_
  refine cw_block (cw_loop (fun k : Nat => k ≤ fs.length) (fun k => fs.length - k) (fun k => [(1, .pointer (some ⟨g1, 0, none⟩)), (3, .func (.func 42) #[] #[]), (4, .string ⟨(byteOf fs.length :: (fs.take k).flatMap funcBytes).toArray⟩), (5, .int .i64 (k : Int))]) (fun _ => [RBox g1 [.slice A fs.length c] 24]) 0 (Nat.zero_le _) ⟨rfl, rfl, rfl, rfl, trivial⟩ me ?_)
  rintro k hk'
  have hk : k ≤ fs.length := hk'
  have hbl : (byteOf fs.length :: (fs.take k).flatMap funcBytes).length ≤ 1501 := by have := flat_le hall k; rw [List.length_cons]; omega
  refine cw_seq ?_
  refine cw_seq ?_
  refine cw_region ?_
  refine rw_run tab_ok 2 [(1, _), (3, _), (4, _), (5, _), (14, _), (15, _)] rfl ⟨rfl, rfl, rfl, rfl, rfl, rfl, trivial⟩ ?_
  refine rw_s (qs_ldb fc Try.isAgg22 rfl rfl (by rfl)) rfl rfl ?_
  refine rw_s (qs_len Try.underlying22 rfl rfl) rfl rfl ?_
  refine rw_run tab_ok 1 [(1, _), (3, _), (4, _), (5, _), (18, _)] rfl ⟨rfl, rfl, rfl, rfl, rfl, trivial⟩ ?_
  refine rw_end ?_
  refine cw_condD rfl (fun hlt => ?_) (fun hlt => ?_)
  · have hkl : k < fs.length := by omega
    obtain ⟨A1, c1, A2, c2, hl, hc, hi, hcell⟩ := hs.fn hkl
    have hone := hall (fnAt fs k) (by unfold fnAt; rw [List.getD_eq_getElem?_getD, List.getElem?_eq_getElem hkl]; exact List.getElem_mem hkl)
    obtain ⟨hl6, hpar, hce⟩ := oneE_zero hone
    have hc40 := codeErr_len hce
    have hcl := codeBytes_le (fnAt fs k).code
    refine cw_skip (xw_then ?_)
    refine cw_seq ?_
    refine cw_block ?_
    refine cw_seq ?_
    refine cw_region ?_
    refine rw_run tab_ok 1 [(1, _), (3, _), (4, _), (5, _), (21, _)] rfl ⟨rfl, rfl, rfl, rfl, rfl, trivial⟩ ?_
    refine rw_s (qs_ldb fc Try.isAgg22 rfl rfl (by rfl)) rfl rfl ?_
    refine rw_run tab_ok 1 [(1, _), (3, _), (4, _), (5, _), (22, _), (23, _)] rfl ⟨rfl, rfl, rfl, rfl, rfl, rfl, trivial⟩ ?_
    refine rw_s (qs_idx Try.underlying22 Try.sizeOf54 (.ro hs) (by omega) rfl rfl rfl) rfl rfl ?_
    refine rw_s (qs_ldA (hcell _) rfl rfl Try.isAgg54 Try.sizeOf54) rfl rfl ?_
    refine rw_op (ot_alloc Try.zeroValue54 rfl rfl) rfl rfl (fun g2 _ => ?_)
    refine rw_op (ot_stb _ fc Try.sizeOf54 rfl rfl rfl rfl rfl (by rfl) rfl (by rfl)) rfl rfl (fun _ _ => ?_)
    refine rw_end ?_
    refine cw_cut (fun _ : Unit => True) (fun _ => [(1, .pointer (some ⟨g1, 0, none⟩)), (3, .func (.func 42) #[] #[]), (4, .string ⟨((byteOf fs.length :: (fs.take k).flatMap funcBytes) ++ ([byteOf (fnAt fs k).params] ++ [byteOf (fnAt fs k).locals.length])).toArray⟩), (5, .int .i64 (k : Int)), (6, .pointer (some ⟨g2, 0, none⟩))]) (fun _ => [RBox g1 [.slice A fs.length c] 24, RBox g2 [.int .i64 (fnAt fs k).params, .slice A1 (fnAt fs k).locals.length c1, .int .i64 (fnAt fs k).result, .slice A2 (fnAt fs k).code.length c2] 54]) ?_ ?_
    · refine cw_draw (.still 0 (.still 1 (.still 2 (.still 3 (.still 5 (.still 6 (.still 7 (.still 8 (.pick 4 (.pick 9 (.still 10 (.still 11 (.still 12 .done))) .stop) .stop))))))))) [] rfl (by kernel_rfl) (by kernel_rfl) ?_
      refine ro_run tab_ok ha 3 [(1, _), (3, _), (4, _), (5, _), (6, _), (26, _), (27, _), (28, _)] rfl ⟨rfl, rfl, rfl, rfl, rfl, rfl, rfl, rfl, trivial⟩ ?_
      refine ro_s2 rfl (qs_ldb fc Try.isAgg3 rfl rfl (by rfl)) rfl rfl ha ?_
      refine ro_run tab_ok ha 2 [(1, _), (3, _), (4, _), (5, _), (6, _), (26, _), (27, _), (29, _), (31, _), (32, _)] rfl ⟨rfl, rfl, rfl, rfl, rfl, rfl, rfl, rfl, rfl, rfl, trivial⟩ ?_
      refine ro_s2 rfl (qs_ldb fc Try.isAgg35 rfl rfl (by rfl)) rfl rfl ha ?_
      refine ro_s2 rfl (qs_len Try.underlying35 rfl rfl) rfl rfl ha ?_
      refine ro_op2 rfl (ot_c0 rfl rfl rfl Try.call42 (fun w hw => rone_any (fnAt fs k).params w)) rfl rfl (.inr fun _ => ha) (fun _ _ => ?_) ro_stop
      refine ro_op2 rfl (ot_c0 rfl rfl rfl Try.call42 (fun w hw => rone_any (fnAt fs k).locals.length w)) rfl rfl (.inr fun _ => ha) (fun _ _ => ?_) ro_stop
      refine ro_s2 rfl (qs_catS (by simp) rfl rfl rfl) rfl rfl ha ?_
      refine ro_s2 rfl (qs_catS (by show _ + 2 ≤ _; omega) rfl rfl rfl) rfl rfl ha ?_
      refine ro_run tab_ok ha 1 [(1, _), (3, _), (4, _), (5, _), (6, _)] rfl ⟨rfl, rfl, rfl, rfl, rfl, trivial⟩ ?_
      refine ro_endx <| xw_join () (trivial) ⟨rfl, rfl, rfl, rfl, rfl, trivial⟩ me
    · rintro _ _
      have hb7 : ((byteOf fs.length :: (fs.take k).flatMap funcBytes) ++ ([byteOf (fnAt fs k).params] ++ [byteOf (fnAt fs k).locals.length])).length ≤ 1503 := by rw [List.length_append]; show _ + 2 ≤ _; omega
      refine cw_seq ?_
      refine cw_seq ?_
      refine cw_region ?_
      refine rw_run tab_ok 1 [(1, _), (3, _), (4, _), (5, _), (6, _), (7, _)] rfl ⟨rfl, rfl, rfl, rfl, rfl, rfl, trivial⟩ ?_
      refine rw_end ?_
      rw [show ((byteOf fs.length :: (fs.take k).flatMap funcBytes) ++ ([byteOf (fnAt fs k).params] ++ [byteOf (fnAt fs k).locals.length])) = ((byteOf fs.length :: (fs.take k).flatMap funcBytes) ++ ([byteOf (fnAt fs k).params] ++ [byteOf (fnAt fs k).locals.length])) ++ ((fnAt fs k).locals.take 0).map byteOf from by simp]
      refine cw_block (cw_loop (fun i : Nat => i ≤ (fnAt fs k).locals.length) (fun i => (fnAt fs k).locals.length - i) (fun i => [(1, .pointer (some ⟨g1, 0, none⟩)), (3, .func (.func 42) #[] #[]), (4, .string ⟨(((byteOf fs.length :: (fs.take k).flatMap funcBytes) ++ ([byteOf (fnAt fs k).params] ++ [byteOf (fnAt fs k).locals.length])) ++ ((fnAt fs k).locals.take i).map byteOf).toArray⟩), (5, .int .i64 (k : Int)), (6, .pointer (some ⟨g2, 0, none⟩)), (7, .int .i64 (i : Int))]) (fun _ => [RBox g1 [.slice A fs.length c] 24, RBox g2 [.int .i64 (fnAt fs k).params, .slice A1 (fnAt fs k).locals.length c1, .int .i64 (fnAt fs k).result, .slice A2 (fnAt fs k).code.length c2] 54]) 0 (Nat.zero_le _) ⟨rfl, rfl, rfl, rfl, rfl, rfl, trivial⟩ me ?_)
      rintro i hi'
      have hil : i ≤ (fnAt fs k).locals.length := hi'
      have hb9 : (((byteOf fs.length :: (fs.take k).flatMap funcBytes) ++ ([byteOf (fnAt fs k).params] ++ [byteOf (fnAt fs k).locals.length])) ++ ((fnAt fs k).locals.take i).map byteOf).length ≤ 1509 := by rw [List.length_append, List.length_map, List.length_take]; omega
      refine cw_seq ?_
      refine cw_seq ?_
      refine cw_region ?_
      refine rw_run tab_ok 2 [(1, _), (3, _), (4, _), (5, _), (6, _), (7, _), (38, _), (39, _)] rfl ⟨rfl, rfl, rfl, rfl, rfl, rfl, rfl, rfl, trivial⟩ ?_
      refine rw_s (qs_ldb fc Try.isAgg35 rfl rfl (by rfl)) rfl rfl ?_
      refine rw_s (qs_len Try.underlying35 rfl rfl) rfl rfl ?_
      refine rw_run tab_ok 1 [(1, _), (3, _), (4, _), (5, _), (6, _), (7, _), (42, _)] rfl ⟨rfl, rfl, rfl, rfl, rfl, rfl, rfl, trivial⟩ ?_
      refine rw_end ?_
      refine cw_condD rfl (fun hlt2 => ?_) (fun hlt2 => ?_)
      · have hil2 : i < (fnAt fs k).locals.length := by omega
        refine cw_skip (xw_then ?_)
        refine cw_seq ?_
        refine cw_block ?_
        refine cw_region ?_
        refine rw_run tab_ok 3 [(1, _), (3, _), (5, _), (6, _), (7, _), (45, _), (46, _), (47, _)] rfl ⟨rfl, rfl, rfl, rfl, rfl, rfl, rfl, rfl, trivial⟩ ?_
        refine rw_s (qs_ldb fc Try.isAgg35 rfl rfl (by rfl)) rfl rfl ?_
        refine rw_run tab_ok 1 [(1, _), (3, _), (5, _), (6, _), (7, _), (45, _), (46, _), (48, _), (49, _)] rfl ⟨rfl, rfl, rfl, rfl, rfl, rfl, rfl, rfl, rfl, trivial⟩ ?_
        refine rw_s (qs_idx Try.underlying35 Try.sizeOf3 (.ro hl) (by omega) rfl rfl rfl) rfl rfl ?_
        refine rw_s (qs_ld (SF.int (.ro hl) (by omega)) rfl rfl Try.isAgg3) rfl rfl ?_
        refine rw_op (ot_c0K rfl rfl rfl Try.call42 (fun w hw => rone_any ((fnAt fs k).locals.getD i 0) w)) rfl rfl (fun _ _ => ?_)
        refine rw_s (qs_catS (by show _ + 1 ≤ _; omega) rfl rfl rfl) rfl rfl ?_
        refine rw_run tab_ok 1 [(1, _), (3, _), (4, _), (5, _), (6, _), (7, _)] rfl ⟨rfl, rfl, rfl, rfl, rfl, rfl, trivial⟩ ?_
        refine rw_endx (xw_blkn (xw_then ?_))
        refine cw_region ?_
        refine rw_run tab_ok 1 [(1, _), (3, _), (4, _), (5, _), (6, _), (43, _)] rfl ⟨rfl, rfl, rfl, rfl, rfl, rfl, trivial⟩ ?_
        refine rw_s (qs_add rfl rfl rfl (by omega)) rfl rfl ?_
        refine rw_run tab_ok 1 [(1, _), (3, _), (4, _), (5, _), (6, _), (7, _)] rfl ⟨rfl, rfl, rfl, rfl, rfl, rfl, trivial⟩ ?_
        rw [← map_snoc hil2]
        refine rw_round (i + 1) (by show i + 1 ≤ _; omega) (by show _ - _ < _ - _; omega) ⟨rfl, rfl, rfl, rfl, rfl, rfl, trivial⟩ me
      · obtain rfl : i = (fnAt fs k).locals.length := by omega
        rw [List.take_length] at *
        refine cw_exit (xw_thenx (xw_thenx (xw_blk (xw_then ?_))))
        refine cw_seq ?_
        refine cw_region ?_
        refine rw_run tab_ok 1 [(1, _), (3, _), (4, _), (5, _), (6, _), (54, _)] rfl ⟨rfl, rfl, rfl, rfl, rfl, rfl, trivial⟩ ?_
        refine rw_s (qs_ldb fc Try.isAgg52 rfl rfl (by rfl)) rfl rfl ?_
        refine rw_op (ot_c0 rfl rfl rfl Try.call43 (fun w hw => rcodeBytes_any _ (fnAt fs k).code w (hw.ro hc) hce)) rfl rfl (fun _ _ => ?_)
        refine rw_run tab_ok 1 [(1, _), (3, _), (4, _), (5, _), (6, _), (8, _)] rfl ⟨rfl, rfl, rfl, rfl, rfl, rfl, trivial⟩ ?_
        refine rw_end ?_
        refine cw_region ?_
        refine rw_run tab_ok 3 [(1, _), (3, _), (5, _), (8, _), (57, _), (58, _), (59, _)] rfl ⟨rfl, rfl, rfl, rfl, rfl, rfl, rfl, trivial⟩ ?_
        refine rw_s (qs_ldb fc Try.isAgg3 rfl rfl (by rfl)) rfl rfl ?_
        refine rw_op (ot_c0K rfl rfl rfl Try.call42 (fun w hw => rone_any (fnAt fs k).result w)) rfl rfl (fun _ _ => ?_)
        refine rw_run tab_ok 2 [(1, _), (3, _), (5, _), (8, _), (57, _), (61, _), (62, _), (63, _)] rfl ⟨rfl, rfl, rfl, rfl, rfl, rfl, rfl, rfl, trivial⟩ ?_
        refine rw_s (qs_lenS Try.underlying9 rfl rfl) rfl rfl ?_
        refine rw_s (qs_quo256 (by omega) rfl rfl) rfl rfl ?_
        refine rw_op (ot_c0K rfl rfl rfl Try.call42 (fun w hw => rone_any (((codeBytes (fnAt fs k).code).length / 256 : Nat) : Int) w)) rfl rfl (fun _ _ => ?_)
        refine rw_s (qs_catS (by simp) rfl rfl rfl) rfl rfl ?_
        refine rw_run tab_ok 2 [(1, _), (3, _), (5, _), (8, _), (57, _), (67, _), (68, _), (69, _)] rfl ⟨rfl, rfl, rfl, rfl, rfl, rfl, rfl, rfl, trivial⟩ ?_
        refine rw_s (qs_lenS Try.underlying9 rfl rfl) rfl rfl ?_
        refine rw_s (qs_rem256 (by omega) rfl rfl) rfl rfl ?_
        refine rw_op (ot_c0K rfl rfl rfl Try.call42 (fun w hw => rone_any (((codeBytes (fnAt fs k).code).length % 256 : Nat) : Int) w)) rfl rfl (fun _ _ => ?_)
        refine rw_s (qs_catS (by simp) rfl rfl rfl) rfl rfl ?_
        refine rw_run tab_ok 1 [(1, _), (3, _), (5, _), (57, _), (73, _), (74, _)] rfl ⟨rfl, rfl, rfl, rfl, rfl, rfl, trivial⟩ ?_
        refine rw_s (qs_catS (by simp; omega) rfl rfl rfl) rfl rfl ?_
        refine rw_s (qs_catS (by rw [show ∀ x y z : UInt8, ((([x] ++ [y]) ++ [z]) ++ codeBytes (fnAt fs k).code).length = 3 + (codeBytes (fnAt fs k).code).length from fun x y z => by simp; omega]; omega) rfl rfl rfl) rfl rfl ?_
        refine rw_run tab_ok 1 [(1, _), (3, _), (4, _), (5, _)] rfl ⟨rfl, rfl, rfl, rfl, trivial⟩ ?_
        refine rw_endx (xw_blkn (xw_then ?_))
        refine cw_region ?_
        refine rw_run tab_ok 1 [(1, _), (3, _), (4, _), (19, _)] rfl ⟨rfl, rfl, rfl, rfl, trivial⟩ ?_
        refine rw_s (qs_add rfl rfl rfl (by omega)) rfl rfl ?_
        refine rw_run tab_ok 1 [(1, _), (3, _), (4, _), (5, _)] rfl ⟨rfl, rfl, rfl, rfl, trivial⟩ ?_
        rw [prog_step hkl (by simp only [List.append_assoc])]
        refine rw_round (k + 1) (by show k + 1 ≤ _; omega) (by show _ - _ < _ - _; omega) ⟨rfl, rfl, rfl, rfl, trivial⟩ me
  · obtain rfl : k = fs.length := by omega
    rw [List.take_length]
    refine cw_exit (xw_thenx (xw_thenx (xw_blk (xw_then ?_))))
    refine cw_seq ?_
    refine cw_region ?_
    refine rw_run tab_ok 2 [(2, _)] rfl ⟨rfl, trivial⟩ ?_
    refine rw_end ?_
    refine cw_ret ?_
    refine xw_ret1 Try.results13 (rv_tmp rfl) ?_
    intro w hw
    exact ⟨rfl, hw.below⟩
end Go.Proofs.Ytejpkcheimgdfaa

-- Pr9
/- Programs: the reader. -/
namespace Go.Proofs.Ytejpkcheimgdfaa
open Go.RowKit

set_option maxRecDepth 100000 in
theorem take_any {B : Nat} {w0 : World} {H : List Res} (gr : Nat) (s : List UInt8) (sh : Bool) (n : Int) (h0 : 0 ≤ n) (hl : s.length ≤ 140737488355328) (w : World) (hw : Cw B w0 (RBox gr [.string ⟨s.toArray⟩, .bool sh] 74 :: H) w) :
    Calls Try.prog 64 #[.pointer (some ⟨gr, 0, none⟩), .int .i64 n] w fun e w' => ∃ _ : Unit, True ∧ e = .returned (.string ⟨(takeR (s, sh) n).1.toArray⟩) ∧
      Cw B w0 (RBox gr [.string ⟨(takeR (s, sh) n).2.1.toArray⟩, .bool (takeR (s, sh) n).2.2] 74 :: H) w' := by
  refine enter_own Try.func64 rfl Try.ntmps64 rfl hw ?_
  refine cw_seq ?_
  refine cw_region ?_
  refine rw_run tab_ok 1 [(0, _), (1, _)] rfl ⟨rfl, rfl, trivial⟩ ?_
  refine rw_end ?_
  refine cw_seq ?_
  refine cw_region ?_
  refine rw_run tab_ok 3 [(0, _), (1, _), (11, _)] rfl ⟨rfl, rfl, rfl, trivial⟩ ?_
  refine rw_s (qs_ldb fc Try.isAgg9 rfl rfl (by rfl)) rfl rfl ?_
  refine rw_run tab_ok 1 [(0, _), (12, _), (13, _)] rfl ⟨rfl, rfl, rfl, trivial⟩ ?_
  refine rw_op (ot_c0 rfl rfl rfl Try.call86 (fun w hw => cut_any s n w h0 hl)) rfl rfl (fun _ _ => ?_)
  refine rw_run tab_ok 7 [(0, _), (5, _), (6, _), (7, _)] rfl ⟨rfl, rfl, rfl, rfl, trivial⟩ ?_
  refine rw_end ?_
  refine cw_seq ?_
  refine cw_region ?_
  refine rw_run tab_ok 4 [(0, _), (5, _), (7, _), (19, _), (21, _)] rfl ⟨rfl, rfl, rfl, rfl, rfl, trivial⟩ ?_
  refine rw_op (ot_stb _ fc Try.sizeOf9 rfl rfl rfl rfl rfl (by rfl) rfl (by rfl)) rfl rfl (fun _ _ => ?_)
  refine rw_end ?_
  refine cw_seq ?_
  refine cw_region ?_
  refine rw_run tab_ok 4 [(5, _), (7, _), (22, _), (25, _)] rfl ⟨rfl, rfl, rfl, rfl, trivial⟩ ?_
  refine rw_s (qs_ldb fc Try.isAgg4 rfl rfl (by rfl)) rfl rfl ?_
  refine rw_run tab_ok 1 [(5, _), (7, _), (22, _), (27, _)] rfl ⟨rfl, rfl, rfl, rfl, trivial⟩ ?_
  refine rw_split (t := 27) rfl (fun h1 => ?_) (fun h1 => ?_)
  · refine rw_run tab_ok 5 [(5, _), (30, _), (32, _)] rfl ⟨rfl, rfl, rfl, trivial⟩ ?_
    refine rw_op (ot_stb _ fc Try.sizeOf4 rfl rfl rfl rfl rfl (by rfl) rfl (by rfl)) rfl rfl (fun _ _ => ?_)
    refine rw_end ?_
    refine cw_seq ?_
    refine cw_region ?_
    refine rw_run tab_ok 2 [(4, _)] rfl ⟨rfl, trivial⟩ ?_
    refine rw_end ?_
    refine cw_ret ?_
    refine xw_ret1 Try.results64 (rv_tmp rfl) ?_
    intro w hw
    have h1 : sh = true := h1
    subst h1
    exact ⟨(), trivial, rfl, hw⟩
  · refine rw_run tab_ok 5 [(5, _), (30, _), (32, _)] rfl ⟨rfl, rfl, rfl, trivial⟩ ?_
    refine rw_op (ot_stb _ fc Try.sizeOf4 rfl rfl rfl rfl rfl (by rfl) rfl (by rfl)) rfl rfl (fun _ _ => ?_)
    refine rw_end ?_
    refine cw_seq ?_
    refine cw_region ?_
    refine rw_run tab_ok 2 [(4, _)] rfl ⟨rfl, trivial⟩ ?_
    refine rw_end ?_
    refine cw_ret ?_
    refine xw_ret1 Try.results64 (rv_tmp rfl) ?_
    intro w hw
    have h1 : sh = false := h1
    subst h1
    exact ⟨(), trivial, rfl, hw⟩
set_option maxRecDepth 100000 in
theorem rdone_any {B : Nat} {w0 : World} {H : List Res} (gr : Nat) (s : List UInt8) (sh : Bool) (hl : s.length ≤ 140737488355328) (w : World) (hw : Cw B w0 (RBox gr [.string ⟨s.toArray⟩, .bool sh] 74 :: H) w) :
    Calls Try.prog 38 #[.pointer (some ⟨gr, 0, none⟩)] w fun e w' => ∃ _ : Unit, True ∧ e = .returned (.int .i64 (oneR (s, sh)).1) ∧
      Cw B w0 (RBox gr [.string ⟨(oneR (s, sh)).2.1.toArray⟩, .bool (oneR (s, sh)).2.2] 74 :: H) w' := by
  refine enter_own Try.func38 rfl Try.ntmps38 rfl hw ?_
  refine cw_seq ?_
  refine cw_region ?_
  refine rw_run tab_ok 1 [(0, _)] rfl ⟨rfl, trivial⟩ ?_
  refine rw_end ?_
  refine cw_seq ?_
  refine cw_region ?_
  refine rw_run tab_ok 1 [(4, _)] rfl ⟨rfl, trivial⟩ ?_
  refine rw_op (ot_call rfl rfl rfl Try.call64 (fun w hw => take_any gr s sh 1 (by decide) hl w hw)) rfl rfl (fun _ _ => ?_)
  refine rw_run tab_ok 1 [(3, _)] rfl ⟨rfl, trivial⟩ ?_
  refine rw_end ?_
  refine cw_seq ?_
  refine cw_seq ?_
  refine cw_region ?_
  refine rw_run tab_ok 1 [(3, _), (6, _)] rfl ⟨rfl, rfl, trivial⟩ ?_
  refine rw_s (qs_eqS rfl rfl rfl) rfl rfl ?_
  refine rw_end ?_
  refine cw_condD rfl (fun he => ?_) (fun he => ?_)
  · refine cw_seq ?_
    refine cw_region ?_
    refine rw_run tab_ok 1 [(2, _)] rfl ⟨rfl, trivial⟩ ?_
    refine rw_end ?_
    refine cw_ret (xw_thenr ?_)
    refine xw_ret1 Try.results38 (rv_tmp rfl) ?_
    intro w hw
    exact ⟨(), trivial, reti (by unfold oneR; rw [he]), hw⟩
  · obtain ⟨b, r, e⟩ : ∃ b r, (takeR (s, sh) 1).1 = b :: r := by
      cases h : (takeR (s, sh) 1).1 with
      | nil => exact absurd h he
      | cons b r => exact ⟨b, r, rfl⟩
    refine cw_skip (xw_then ?_)
    refine cw_seq ?_
    refine cw_region ?_
    refine rw_run tab_ok 1 [(8, _)] rfl ⟨rfl, trivial⟩ ?_
    refine rw_s (qs_idxS (k := 0) Try.underlying9 (by rw [e]; simp) rfl rfl rfl) rfl rfl ?_
    refine rw_s (qs_b2i Try.underlying5 Try.underlying3 rfl rfl) rfl rfl ?_
    refine rw_run tab_ok 1 [(2, _)] rfl ⟨rfl, trivial⟩ ?_
    refine rw_end ?_
    refine cw_ret ?_
    refine xw_ret1 Try.results38 (rv_tmp rfl) ?_
    intro w hw
    exact ⟨(), trivial, reti (by unfold oneR; rw [e]; rfl), hw⟩
end Go.Proofs.Ytejpkcheimgdfaa

-- Rop5
namespace Go.Proofs.Ytejpkcheimgdfaa
open Go.RowKit

theorem dec_at {l : List UInt8} {k : Nat} {out : List MOp} (hlt : k < l.length) (hd : decodeGo (l.drop k).length (l.drop k) out = decodeOps l) : decodeOps l = decodeGo (l[k] :: l.drop (k + 1)).length (l[k] :: l.drop (k + 1)) out := by
  rw [← hd, List.drop_eq_getElem_cons hlt]
theorem is_of {b : UInt8} (h : (!decide ((1 : Int) ≤ b.toNat)) = false ∧ (!decide ((b.toNat : Int) ≤ 21)) = false) : isCode b.toNat = true := by
  simp only [isCode]; simp_all
theorem dec_bad {l : List UInt8} {k : Nat} {out : List MOp} (hlt : k < l.length) (hd : decodeGo (l.drop k).length (l.drop k) out = decodeOps l) (h : (!decide ((1 : Int) ≤ l[k].toNat)) = true ∨ (!decide ((l[k].toNat : Int) ≤ 21)) = true) : decodeOps l = ([], 1) := by
  rw [dec_at hlt hd]
  generalize l[k] = b at *
  generalize l.drop (k + 1) = r at *
  have h1 : isCode b.toNat = false := by simp only [isCode]; rcases h with h | h <;> simp at h ⊢ <;> omega
  simp [decodeGo, firstOp, h1]
theorem dec_short {l : List UInt8} {k : Nat} {out : List MOp} (hlt : k < l.length) (hd : decodeGo (l.drop k).length (l.drop k) out = decodeOps l) (h : (!decide ((1 : Int) ≤ l[k].toNat)) = false ∧ (!decide ((l[k].toNat : Int) ≤ 21)) = false) (hn : names l[k].toNat = true) (h4 : (l.length : Int) < k + 1 + 4) : decodeOps l = ([], 1) := by
  rw [dec_at hlt hd]
  have hc := is_of h
  have hr : ((l.drop (k + 1)).length : Int) < 4 := by simp; omega
  generalize l[k] = b at *
  generalize l.drop (k + 1) = r at *
  simp [decodeGo, firstOp, hc, hn, cutB, hr]
theorem dec_many {l : List UInt8} {k : Nat} {out : List MOp} (hlt : k < l.length) (hd : decodeGo (l.drop k).length (l.drop k) out = decodeOps l) (h : (!decide ((1 : Int) ≤ l[k].toNat)) = false ∧ (!decide ((l[k].toNat : Int) ≤ 21)) = false) (hn : names l[k].toNat = true ∧ (k : Int) + 1 + 4 ≤ l.length ∨ names l[k].toNat = false) (h40 : ((out.length : Int) == 40) = true) : decodeOps l = ([], 2) := by
  have h41 : (out.length == 40) = true := by simp at h40 ⊢; omega
  rw [dec_at hlt hd]
  have hc := is_of h
  rcases hn with ⟨hn, h4⟩ | hn
  · have hr : ¬ ((l.drop (k + 1)).length : Int) < 4 := by simp; omega
    generalize l[k] = b at *
    generalize l.drop (k + 1) = r at *
    have hcut : cutB r 4 = (r.take 4, r.drop 4, true) := by unfold cutB; rw [if_neg hr]; rfl
    simp [decodeGo, firstOp, hc, hn, hcut, h41]
  · generalize l[k] = b at *
    generalize l.drop (k + 1) = r at *
    simp [decodeGo, firstOp, hc, hn, h41]
theorem dec_long {l : List UInt8} {k : Nat} {out : List MOp} (hlt : k < l.length) (hd : decodeGo (l.drop k).length (l.drop k) out = decodeOps l) (h : (!decide ((1 : Int) ≤ l[k].toNat)) = false ∧ (!decide ((l[k].toNat : Int) ≤ 21)) = false) (hn : names l[k].toNat = true) (h4 : (k : Int) + 1 + 4 ≤ l.length) (h40 : ((out.length : Int) == 40) = false) :
    decodeGo (l.drop (k + 5)).length (l.drop (k + 5)) (out ++ [⟨l[k].toNat, numberOf ((l.drop (k + 1)).take 4)⟩]) = decodeOps l := by
  have h41 : (out.length == 40) = false := by simp at h40 ⊢; omega
  have hr : ¬ ((l.drop (k + 1)).length : Int) < 4 := by simp; omega
  have hf : firstOp l[k] (l.drop (k + 1)) = (⟨l[k].toNat, numberOf ((l.drop (k + 1)).take 4)⟩, (l.drop (k + 1)).drop 4, true) := by
    have hc := is_of h
    generalize l[k] = b at *
    generalize l.drop (k + 1) = r at *
    have hcut : cutB r 4 = (r.take 4, r.drop 4, true) := by unfold cutB; rw [if_neg hr]; rfl
    simp [firstOp, hc, hn, hcut]
  rw [dec_at hlt hd, decodeGo_step (by rw [hf]) h41, hf, List.drop_drop]
theorem dec_plain {l : List UInt8} {k : Nat} {out : List MOp} (hlt : k < l.length) (hd : decodeGo (l.drop k).length (l.drop k) out = decodeOps l) (h : (!decide ((1 : Int) ≤ l[k].toNat)) = false ∧ (!decide ((l[k].toNat : Int) ≤ 21)) = false) (hn : names l[k].toNat = false) (h40 : ((out.length : Int) == 40) = false) :
    decodeGo (l.drop (k + 1)).length (l.drop (k + 1)) (out ++ [⟨l[k].toNat, 0⟩]) = decodeOps l := by
  have h41 : (out.length == 40) = false := by simp at h40 ⊢; omega
  have hf : firstOp l[k] (l.drop (k + 1)) = (⟨l[k].toNat, 0⟩, l.drop (k + 1), true) := by
    simp [firstOp, is_of h, hn]
  rw [dec_at hlt hd, decodeGo_step (by rw [hf]) h41, hf]
theorem below_app {a W w2 : World} {e : TypeId} {size n : Nat} {v : Value} {xs : List Value} (h : Below a.heap.size a W) (ho : W.ownsRow a.heap.size e size v n xs) (hg : W.grownBy w2 v.ownBlock) : Below a.heap.size a w2 :=
  h.grown hg h.size (fun k hk => (ho.lt k hk).1)
theorem len40 {out : List MOp} {x : MOp} (h : ((out.length : Int) == 40) = false) (h40 : out.length ≤ 40) : (out ++ [x]).length ≤ 40 := by
  simp at h ⊢; omega
theorem ret_dec {l : List UInt8} {out : List MOp} {e : Int} {v : Value} (h : decodeOps l = (out, e)) : Ending.returned (.tuple #[v, .int .i64 e]) = .returned (.tuple #[v, .int .i64 (decodeOps l).2]) := by rw [h]
theorem own_dec {W : World} {base : Nat} {l : List UInt8} {e : Int} (h : decodeOps l = ([], e)) : W.ownsRow base 61 2 (.slice none 0 0) (decodeOps l).1.length ((decodeOps l).1.flatMap opCells) := by rw [h]; exact World.ownsRow_nil _ _ _ _

set_option maxRecDepth 100000 in
set_option maxHeartbeats 1000000 in
theorem rcodeOf_any (l : List UInt8) (w : World) (hl : l.length ≤ 140737488355320) :
    Calls Try.prog 45 #[.string ⟨l.toArray⟩] w fun e w' => ∃ v, e = .returned (.tuple #[v, .int .i64 (decodeOps l).2]) ∧ Below w.heap.size w w' ∧ w'.ownsRow w.heap.size 61 2 v (decodeOps l).1.length ((decodeOps l).1.flatMap opCells) := by
  go_enter Try.func45, Try.ntmps45
  go_wp2
  go_loopw [4, 5] (fun v t wr => ∃ (k : Nat) (out : List MOp), k ≤ l.length ∧ t = .int .i64 k ∧ Below w.heap.size w wr ∧ wr.ownsRow w.heap.size 61 2 v out.length (out.flatMap opCells) ∧ decodeGo (l.drop k).length (l.drop k) out = decodeOps l ∧ out.length ≤ 40) (fun _ t _ => l.length - (intOf t).toNat)
  case atStart => exact ⟨0, [], by omega, rfl, (by repeat (first | exact Below.refl _ _ | assumption | refine Below.drew ?_ | refine Below.drewN_ ?_ _ | refine below_alloc ?_ _ | refine below_via (by assumption) ?_ | refine below_set ?_ (by simp <;> omega) _)), by simpa using World.ownsRow_nil _ _ _ _, rfl, by simp⟩
  case round =>
    obtain ⟨k, out, hk, rfl, hbl, hown, hd, h40⟩ := hrel
    obtain ⟨A, cap, rfl⟩ := own_form hown
    have Hd := Lib.hid hd; clear hd
    by_cases hlt : k < l.length
    · have hdr : l.drop k = l[k] :: l.drop (k + 1) := List.drop_eq_getElem_cons hlt
      have Hdr := Lib.hid hdr; clear hdr
      have hb8 := (l[k]'hlt).toNat_lt
      have hlr : (l.drop (k + 1)).length = l.length - (k + 1) := by simp
      have Hlr := Lib.hid hlr; clear hlr
      have hsz := hbl.size
      obtain ⟨i0, hi, hz0, hz1, hz2⟩ := info_parts Try.infoOp
      go_wp2_with (first
        | (go_at_call 40; refine (rbetween_any _ _ _ _).mono ?_; rintro e w' ⟨rfl, rfl⟩)
        | (go_at_call 67; refine (rhasA_any _ _).mono ?_; rintro e w' ⟨rfl, rfl⟩)
        | (go_at_call 69; refine (rnumberAt_any l _ _ (by omega) (by omega) hl).mono ?_; rintro e w' ⟨rfl, rfl⟩)
        | (at_builtin; refine mk_in ?_))
      · go_ret2
        exact ⟨_, ret_dec (dec_bad hlt Hd.out (by assumption)), (by repeat (first | exact Below.refl _ _ | assumption | refine Below.drew ?_ | refine Below.drewN_ ?_ _ | refine below_alloc ?_ _ | refine below_via (by assumption) ?_ | refine below_set ?_ (by simp <;> omega) _)), own_dec (dec_bad hlt Hd.out (by assumption))⟩
      · go_ret2
        exact ⟨_, ret_dec (dec_short hlt Hd.out (by assumption) (by assumption) (by assumption)), (by repeat (first | exact Below.refl _ _ | assumption | refine Below.drew ?_ | refine Below.drewN_ ?_ _ | refine below_alloc ?_ _ | refine below_via (by assumption) ?_ | refine below_set ?_ (by simp <;> omega) _)), own_dec (dec_short hlt Hd.out (by assumption) (by assumption) (by assumption))⟩
      · go_ret2
        exact ⟨_, ret_dec (dec_many hlt Hd.out (by assumption) (.inl ⟨by assumption, by assumption⟩) (by assumption)), (by repeat (first | exact Below.refl _ _ | assumption | refine Below.drew ?_ | refine Below.drewN_ ?_ _ | refine below_alloc ?_ _ | refine below_via (by assumption) ?_ | refine below_set ?_ (by simp <;> omega) _)), own_dec (dec_many hlt Hd.out (by assumption) (.inl ⟨by assumption, by assumption⟩) (by assumption))⟩
      · unfold MkD
        have Hn := Lib.hid (dec_long hlt Hd.out (by assumption) (by assumption) (by assumption) (by assumption))
        have Hk5 := Lib.hid (show (k : Int) + 1 + 4 ≤ l.length by assumption)
        refine wpList_append_own _ rfl _ _ 52 rfl w.heap.size 61 i0 (.agg #[.int .i64 0, .int .i64 0]) 2 16 Try.underlying52 hi hz0 hz1 hz2 rfl (by decide) _ _ _ rfl ((hown.alloc _).alloc _) ⟨wr.heap.size + 1, 0, none⟩ 1 1 (opCells ⟨l[k].toNat, numberOf ((l.drop (k + 1)).take 4)⟩) rfl rfl (by have := cell_two_new (wr.alloc (.cells #[.int .i64 l[k].toNat, .int .i64 (numberOf ((l.drop (k + 1)).take 4))] 61)) (.int .i64 l[k].toNat) (.int .i64 (numberOf ((l.drop (k + 1)).take 4))) 61; rwa [World.size_alloc] at this)
          (by simp [opCells, Value.oneCell']) (by unfold maxLen; omega) (by omega) (by simp; omega) ?_
        intro v' w2 hown' hgrow _
        go_wp2
        go_roundw
        case rel => exact ⟨k + 5, out ++ [⟨l[k].toNat, numberOf ((l.drop (k + 1)).take 4)⟩], by have := Hk5.out; omega, by go_num, below_app (below_alloc (below_alloc hbl _) _) ((hown.alloc _).alloc _) hgrow, by rw [List.length_append, List.flatMap_append]; simpa using hown', Hn.out, len40 (by assumption) h40⟩
        case measure => simp [intOf]; omega
      · go_ret2
        exact ⟨_, ret_dec (dec_many hlt Hd.out (by assumption) (.inr (by assumption)) (by assumption)), (by repeat (first | exact Below.refl _ _ | assumption | refine Below.drew ?_ | refine Below.drewN_ ?_ _ | refine below_alloc ?_ _ | refine below_via (by assumption) ?_ | refine below_set ?_ (by simp <;> omega) _)), own_dec (dec_many hlt Hd.out (by assumption) (.inr (by assumption)) (by assumption))⟩
      · unfold MkD
        have Hn := Lib.hid (dec_plain hlt Hd.out (by assumption) (by assumption) (by assumption))
        refine wpList_append_own _ rfl _ _ 52 rfl w.heap.size 61 i0 (.agg #[.int .i64 0, .int .i64 0]) 2 16 Try.underlying52 hi hz0 hz1 hz2 rfl (by decide) _ _ _ rfl ((hown.alloc _).alloc _) ⟨wr.heap.size + 1, 0, none⟩ 1 1 (opCells ⟨l[k].toNat, 0⟩) rfl rfl (by have := cell_two_new (wr.alloc (.cells #[.int .i64 l[k].toNat, .int .i64 0] 61)) (.int .i64 l[k].toNat) (.int .i64 0) 61; rwa [World.size_alloc] at this)
          (by simp [opCells, Value.oneCell']) (by unfold maxLen; omega) (by omega) (by simp; omega) ?_
        intro v' w2 hown' hgrow _
        go_wp2
        go_roundw
        case rel => exact ⟨k + 1, out ++ [⟨l[k].toNat, 0⟩], by omega, by go_num, below_app (below_alloc (below_alloc hbl _) _) ((hown.alloc _).alloc _) hgrow, by rw [List.length_append, List.flatMap_append]; simpa using hown', Hn.out, len40 (by assumption) h40⟩
        case measure => simp [intOf]; omega
    · go_wp2
      go_ret2
      have e0 : decodeOps l = (out, 0) := by rw [← Hd.out, List.drop_of_length_le (by omega)]; rfl
      exact ⟨_, ret_dec e0, (by repeat (first | exact Below.refl _ _ | assumption | refine Below.drew ?_ | refine Below.drewN_ ?_ _ | refine below_alloc ?_ _ | refine below_via (by assumption) ?_ | refine below_set ?_ (by simp <;> omega) _)), by rw [e0]; exact hown⟩
end Go.Proofs.Ytejpkcheimgdfaa

-- Dec
/- Bytes of code are read: what comes is the call's own. -/
namespace Go.Proofs.Ytejpkcheimgdfaa
open Go.RowKit

theorem wrapI_i64 (n : Int) : I64 (wrapI n) := by unfold wrapI I64; omega
theorem firstOp_i64 (b : UInt8) (r : List UInt8) : I64 (firstOp b r).1.c ∧ I64 (firstOp b r).1.a := by
  have hb := b.toNat_lt
  have h0 : I64 (b.toNat : Int) := by unfold I64; omega
  have h1 : I64 0 := by unfold I64; omega
  unfold firstOp
  split
  · exact ⟨h0, h1⟩
  split
  · exact ⟨h0, h1⟩
  · refine ⟨h0, ?_⟩
    dsimp only
    split
    · exact wrapI_i64 _
    · exact h1
theorem decodeGo_i64 (k : Nat) : ∀ (r : List UInt8) (out : List MOp), (∀ o ∈ out, I64 o.c ∧ I64 o.a) → out.length ≤ 40 → (∀ o ∈ (decodeGo k r out).1, I64 o.c ∧ I64 o.a) ∧ (decodeGo k r out).1.length ≤ 40 := by
  induction k with
  | zero => intro r out h h40; cases r <;> simp [decodeGo] <;> first | exact ⟨h, h40⟩ | skip
  | succ k ih =>
    intro r out h h40
    cases r with
    | nil => simpa [decodeGo] using ⟨h, h40⟩
    | cons b r =>
      simp only [decodeGo]
      split
      · simp
      split
      · simp
      · rename_i h41
        refine ih _ _ (fun o ho => ?_) (by simp at h41 ⊢; omega)
        rcases List.mem_append.1 ho with ho | ho
        · exact h o ho
        · simp at ho; subst ho; exact firstOp_i64 b r
theorem decodeOps_i64 (l : List UInt8) : (∀ o ∈ (decodeOps l).1, I64 o.c ∧ I64 o.a) ∧ (decodeOps l).1.length ≤ 40 := decodeGo_i64 _ _ _ (by simp) (by simp)

theorem own_ops {W : World} {base : Nat} {v : Value} {xs : List MOp} (h : W.ownsRow base 61 2 v xs.length (xs.flatMap opCells)) (hi : ∀ o ∈ xs, I64 o.c ∧ I64 o.a) (hl : xs.length ≤ 40) : Sl W v xs :=
  own_sl opCells h (fun o ho => ⟨rfl, hi o ho⟩) (by omega)
theorem decode_any (l : List UInt8) (w : World) (hl : l.length ≤ 140737488355320) : Calls Try.prog 65 #[.string ⟨l.toArray⟩] w fun e w' =>
    ∃ v, e = .returned (.tuple #[v, .int .i64 (decodeOps l).2]) ∧ Below w.heap.size w w' ∧ Sl w' v (decodeOps l).1 ∧ w'.ownsRow w.heap.size 61 2 v (decodeOps l).1.length ((decodeOps l).1.flatMap opCells) :=
  (callsIn_wide.1 (decode_in l w hl)).mono fun e w' ⟨v, h1, h2, h3⟩ => ⟨v, h1, h2, own_ops h3 (decodeOps_i64 l).1 (decodeOps_i64 l).2, own_mono h3 (by omega)⟩
theorem rcodeOf_sl (l : List UInt8) (w : World) (hl : l.length ≤ 140737488355320) : Calls Try.prog 45 #[.string ⟨l.toArray⟩] w fun e w' =>
    ∃ v, e = .returned (.tuple #[v, .int .i64 (decodeOps l).2]) ∧ Below w.heap.size w w' ∧ Sl w' v (decodeOps l).1 ∧ w'.ownsRow w.heap.size 61 2 v (decodeOps l).1.length ((decodeOps l).1.flatMap opCells) :=
  (rcodeOf_any l w hl).mono fun _ _ ⟨v, h1, h2, h3⟩ => ⟨v, h1, h2, own_ops h3 (decodeOps_i64 l).1 (decodeOps_i64 l).2, h3⟩


theorem own_flat {α : Type} [FOw α] {W : World} {base : Nat} {v : Value} {xs : List α} (h : W.ownsRow base (Ow.ty α) (Rep.k α) v xs.length (xs.flatMap FOw.enc)) (hwf : ∀ x ∈ xs, FOw.wf x) (hl : xs.length ≤ 140737488355328) : OwN W base v xs := by
  have hlen : ∀ x ∈ xs, (FOw.enc x).length = Rep.k α := fun x hx => Rep.len (FOw.rep_iff.2 ⟨rfl, hwf x hx⟩ : Rep.rep W 0 (FOw.enc x) x)
  refine OwN.of_zs h h.1 (fun i x hx => ?_) hl
  have hxm := List.mem_of_getElem? hx
  refine FOw.own_iff.2 ⟨⟨?_, hwf x hxm⟩, fun _ h => h⟩
  apply List.ext_getElem?
  intro j
  by_cases hj : j < Rep.k α
  · have hi : j < (FOw.enc x).length := by rw [hlen x hxm]; exact hj
    have := flat_get FOw.enc (Rep.k α) xs hlen i x j _ hx (List.getElem?_eq_getElem hi)
    rw [List.getElem?_take, if_pos hj, List.getElem?_drop, this, List.getElem?_eq_getElem hi]
  · rw [List.getElem?_eq_none (by rw [List.length_take]; omega), List.getElem?_eq_none (by rw [hlen x hxm]; omega)]
theorem decode_own (l : List UInt8) (w : World) (hl : l.length ≤ 140737488355320) : Calls Try.prog 65 #[.string ⟨l.toArray⟩] w fun e w' =>
    ∃ v, e = .returned (.tuple #[v, .int .i64 (decodeOps l).2]) ∧ Below w.heap.size w w' ∧ OwN w' w.heap.size v (decodeOps l).1 :=
  (decode_any l w hl).mono fun e w' ⟨v, h1, h2, _, h3⟩ => ⟨v, h1, h2, own_flat h3 (decodeOps_i64 l).1 (by have := (decodeOps_i64 l).2; omega)⟩
theorem rcodeOf_own (l : List UInt8) (w : World) (hl : l.length ≤ 140737488355320) : Calls Try.prog 45 #[.string ⟨l.toArray⟩] w fun e w' =>
    ∃ v, e = .returned (.tuple #[v, .int .i64 (decodeOps l).2]) ∧ Below w.heap.size w w' ∧ OwN w' w.heap.size v (decodeOps l).1 :=
  (rcodeOf_sl l w hl).mono fun e w' ⟨v, h1, h2, _, h3⟩ => ⟨v, h1, h2, own_flat h3 (decodeOps_i64 l).1 (by have := (decodeOps_i64 l).2; omega)⟩
end Go.Proofs.Ytejpkcheimgdfaa

-- Pr10
/- Programs: the reader's function. -/
namespace Go.Proofs.Ytejpkcheimgdfaa
open Go.RowKit

theorem cutB_bd (l : List UInt8) (n : Int) : (cutB l n).1.length ≤ l.length ∧ (cutB l n).2.1.length ≤ l.length := by
  unfold cutB
  split
  · simp
  · simp only [List.length_take, List.length_drop]; omega
theorem oneR_bd {s s' : List UInt8} {sh sh' : Bool} {p : Int} (e : oneR (s, sh) = (p, s', sh')) : (0 ≤ p ∧ p ≤ 255) ∧ s'.length ≤ s.length := by
  have hb := (cutB_bd s 1).2
  unfold oneR at e
  injection e with e1 e2
  injection e2 with e2 e3
  refine ⟨?_, ?_⟩
  · subst e1
    split
    · omega
    · rename_i b l _
      have := b.toNat_lt
      omega
  · rw [← e2]; exact hb
theorem takeR_bd {s s' c : List UInt8} {sh sh' : Bool} {n : Int} (e : takeR (s, sh) n = (c, s', sh')) : c.length ≤ s.length ∧ s'.length ≤ s.length := by
  have hb := cutB_bd s n
  unfold takeR at e
  injection e with e1 e2
  injection e2 with e2 e3
  subst e1 e2
  exact hb
theorem localsR_bd : ∀ (k : Nat) (s s' : List UInt8) (sh sh' : Bool) (acc L : List Int), localsR k (s, sh) acc = (L, s', sh') → s'.length ≤ s.length ∧ L.length ≤ acc.length + k
  | 0, s, s', sh, sh', acc, L, e => by
    simp only [localsR, Prod.mk.injEq] at e
    obtain ⟨rfl, rfl, rfl⟩ := e
    omega
  | k + 1, s, s', sh, sh', acc, L, e => by
    simp only [localsR] at e
    split at e
    · simp only [Prod.mk.injEq] at e
      obtain ⟨rfl, rfl, rfl⟩ := e
      omega
    · obtain ⟨p, s1, b1, e1⟩ : ∃ p s1 b1, oneR (s, sh) = (p, s1, b1) := ⟨_, _, _, rfl⟩
      rw [e1] at e
      have h1 := oneR_bd e1
      have h2 := localsR_bd k _ _ _ _ _ _ e
      rw [List.length_append, List.length_singleton] at h2
      omega
section
variable {B : Nat} {w0 : World} {H : List Res}
theorem rdone_eq (gr : Nat) {s s' : List UInt8} {sh sh' : Bool} {p : Int} (e : oneR (s, sh) = (p, s', sh')) (hl : s.length ≤ 140737488355328) (w : World) (hw : Cw B w0 (RBox gr [.string ⟨s.toArray⟩, .bool sh] 74 :: H) w) :
    Calls Try.prog 38 #[.pointer (some ⟨gr, 0, none⟩)] w fun e w' => ∃ _ : Unit, True ∧ e = .returned (.int .i64 p) ∧
      Cw B w0 (RBox gr [.string ⟨s'.toArray⟩, .bool sh'] 74 :: H) w' := by
  have := rdone_any gr s sh hl w hw
  rw [e] at this
  exact this
theorem take_eq (gr : Nat) {s s' c : List UInt8} {sh sh' : Bool} {n : Int} (e : takeR (s, sh) n = (c, s', sh')) (h0 : 0 ≤ n) (hl : s.length ≤ 140737488355328) (w : World) (hw : Cw B w0 (RBox gr [.string ⟨s.toArray⟩, .bool sh] 74 :: H) w) :
    Calls Try.prog 64 #[.pointer (some ⟨gr, 0, none⟩), .int .i64 n] w fun e w' => ∃ _ : Unit, True ∧ e = .returned (.string ⟨c.toArray⟩) ∧
      Cw B w0 (RBox gr [.string ⟨s'.toArray⟩, .bool sh'] 74 :: H) w' := by
  have := take_any gr s sh n h0 hl w hw
  rw [e] at this
  exact this
end
theorem qs_shl8 {P : Program} {n : Nat} {o : Oper} {env : Env} {B : Nat} {w0 : World} {H : List Res} {i : Operand} {t u : TypeId} {a : Int} {kk : IntKind} (ha : 0 ≤ a ∧ a ≤ 255) (hop : o.op = .binOp .shl t i (.const (.int kk 8)) u) (hi : opv env i = some (.int .i64 a)) : QS P n B w0 o env H (.int .i64 (a * 256)) := by
  intro a' w hf hw
  have hgd : (eqGuard .shl t i (.const (.int kk 8)) (.int .i64 a) (.int kk 8)).run P w = .ok () w := by
    unfold eqGuard
    split <;> simp
  have hb : (binOp .shl t (.int .i64 a) (.int kk 8)).run P w = .ok (.int .i64 (a * 256)) w := by
    simp only [binOp, Op.shift]
    rw [if_neg (by decide)]
    have : IntKind.i64.wrap (a * 2 ^ (min (8 : Int).toNat IntKind.i64.bits)) = a * 256 := by
      show IntKind.i64.wrap (a * 256) = _
      exact i64_wrap (by omega) (by omega)
    rw [this]
    rfl
  have hj : a'.eval (.const (.int kk 8)) = .int kk 8 := rfl
  unfold execOp
  simp only [hop, hf.opv hi, hj, Sem.run_bind, hgd, Result.andThen_ok, hb, Sem.run_pure]
theorem or_low (a b : Nat) (hb : b ≤ 255) : a * 256 ||| b = a * 256 + b := by
  have := Nat.two_pow_add_eq_or_of_lt (i := 8) (b := b) (by omega) a
  rw [show (2 : Nat) ^ 8 = 256 from rfl] at this
  rw [Nat.mul_comm, this]
theorem qs_or8 {P : Program} {n : Nat} {o : Oper} {env : Env} {B : Nat} {w0 : World} {H : List Res} {i j : Operand} {t u : TypeId} {a b : Int} (ha : 0 ≤ a ∧ a ≤ 255) (hb : 0 ≤ b ∧ b ≤ 255) (hop : o.op = .binOp .or t i j u) (hi : opv env i = some (.int .i64 (a * 256))) (hj : opv env j = some (.int .i64 b)) : QS P n B w0 o env H (.int .i64 (a * 256 + b)) :=
  qs_arith hop hi hj (by decide) fun w => by
    obtain ⟨x, rfl⟩ := Int.eq_ofNat_of_zero_le ha.1
    obtain ⟨y, rfl⟩ := Int.eq_ofNat_of_zero_le hb.1
    have h1 : (BitVec.ofInt 64 ((x : Int) * 256) ||| BitVec.ofInt 64 (y : Int)).toNat = x * 256 + y := by
      rw [show ((x : Int) * 256) = ((x * 256 : Nat) : Int) from by omega, BitVec.ofInt_natCast, BitVec.ofInt_natCast, BitVec.toNat_or, BitVec.toNat_ofNat, BitVec.toNat_ofNat, Nat.mod_eq_of_lt (by omega), Nat.mod_eq_of_lt (by omega), or_low _ _ (by omega)]
    have h2 : (binOp .or t (.int .i64 ((x : Int) * 256)) (.int .i64 (y : Int))).run P w = .ok (.int .i64 (IntKind.i64.wrap ((BitVec.ofInt 64 ((x : Int) * 256) ||| BitVec.ofInt 64 (y : Int)).toNat : Int))) w := rfl
    rw [h2, h1, i64_wrap (by omega) (by omega)]
    have h3 : ((x * 256 + y : Nat) : Int) = (x : Int) * 256 + (y : Int) := by omega
    rw [h3]
set_option maxRecDepth 100000 in
set_option maxHeartbeats 4000000 in
theorem pfunc_any {B : Nat} {w0 : World} {H : List Res} (gr : Nat) (s : List UInt8) (sh : Bool) (hl : s.length ≤ 2000) (w : World) (hw : Cw B w0 (RBox gr [.string ⟨s.toArray⟩, .bool sh] 74 :: H) w) :
    Calls Try.prog 39 #[.pointer (some ⟨gr, 0, none⟩)] w fun e w' => ∃ g : (Option Addr × Nat) × (Option Addr × Nat), True ∧
      e = .returned (.agg #[.int .i64 (funcR (s, sh)).1.params, .slice g.1.1 (funcR (s, sh)).1.locals.length g.1.2, .int .i64 (funcR (s, sh)).1.result, .slice g.2.1 (funcR (s, sh)).1.code.length g.2.2]) ∧
      Cw B w0 (RBox gr [.string ⟨(funcR (s, sh)).2.1.toArray⟩, .bool (funcR (s, sh)).2.2] 74 :: ROw (.slice g.1.1 (funcR (s, sh)).1.locals.length g.1.2) (funcR (s, sh)).1.locals :: ROw (.slice g.2.1 (funcR (s, sh)).1.code.length g.2.2) (funcR (s, sh)).1.code :: H) w' := by
  obtain ⟨p, s1, b1, e1⟩ : ∃ p s1 b1, oneR (s, sh) = (p, s1, b1) := ⟨_, _, _, rfl⟩
  obtain ⟨n, s2, b2, e2⟩ : ∃ p s1' b1', oneR (s1, b1) = (p, s1', b1') := ⟨_, _, _, rfl⟩
  obtain ⟨L, s3, b3, e3⟩ : ∃ p s1' b1', localsR n.toNat (s2, b2) [] = (p, s1', b1') := ⟨_, _, _, rfl⟩
  obtain ⟨t, s4, b4, e4⟩ : ∃ p s1' b1', oneR (s3, b3) = (p, s1', b1') := ⟨_, _, _, rfl⟩
  obtain ⟨x, s5, b5, e5⟩ : ∃ p s1' b1', oneR (s4, b4) = (p, s1', b1') := ⟨_, _, _, rfl⟩
  obtain ⟨y, s6, b6, e6⟩ : ∃ p s1' b1', oneR (s5, b5) = (p, s1', b1') := ⟨_, _, _, rfl⟩
  obtain ⟨c, s7, b7, e7⟩ : ∃ p s1' b1', takeR (s6, b6) (x * 256 + y) = (p, s1', b1') := ⟨_, _, _, rfl⟩
  have hfun : funcR (s, sh) = (⟨p, L, t, (decodeOps c).1⟩, s7, b7 || !decide ((decodeOps c).2 = 0)) := by
    unfold funcR
    simp only [e1, e2, e3, e4, e5, e6, e7]
    simp
  rw [hfun]
  have d1 := oneR_bd e1
  have d2 := oneR_bd e2
  have d3 := localsR_bd _ _ _ _ _ _ _ e3
  have d4 := oneR_bd e4
  have d5 := oneR_bd e5
  have d6 := oneR_bd e6
  have d7 := takeR_bd e7
  rw [List.length_nil] at d3
  refine enter_own Try.func39 rfl Try.ntmps39 rfl hw ?_
  refine cw_seq ?_
  refine cw_region ?_
  refine rw_op (ot_alloc Try.zeroValue54 rfl rfl) rfl rfl (fun g1 _ => ?_)
  refine rw_end ?_
  refine cw_seq ?_
  refine cw_region ?_
  refine rw_run tab_ok 1 [(0, _), (2, _), (8, _)] rfl ⟨rfl, rfl, rfl, trivial⟩ ?_
  refine rw_op (ot_call rfl rfl rfl Try.call38 (fun w hw => rdone_eq gr e1 (by omega) w (hw.msub (.s fc .r)))) rfl rfl (fun _ _ => ?_)
  refine rw_s (qs_bst (cs := [_, _, _, _]) plT54 Try.zeroValue54 rfl rfl (by rfl)) rfl rfl ?_
  refine rw_op (ot_alloc Try.zeroValue54 rfl rfl) rfl rfl (fun g2 _ => ?_)
  refine rw_op (ot_stb _ fc Try.sizeOf54 rfl rfl rfl rfl rfl (by rfl) rfl (by rfl)) rfl rfl (fun _ _ => ?_)
  refine rw_end ?_
  refine cw_seq ?_
  refine cw_seq ?_
  refine cw_region ?_
  refine rw_run tab_ok 1 [(0, _), (2, _), (3, _), (11, _)] rfl ⟨rfl, rfl, rfl, rfl, trivial⟩ ?_
  refine rw_op (ot_call rfl rfl rfl Try.call38 (fun w hw => rdone_eq gr e2 (by omega) w (hw.msub (.s fc .r)))) rfl rfl (fun _ _ => ?_)
  refine rw_run tab_ok 1 [(0, _), (2, _), (3, _), (4, _)] rfl ⟨rfl, rfl, rfl, rfl, trivial⟩ ?_
  refine rw_end ?_
  refine cw_cutk (fun _ : Option Addr × Nat => True) (fun g => [(0, .pointer (some ⟨gr, 0, none⟩)), (2, .pointer (some ⟨g1, 0, none⟩)), (3, .pointer (some ⟨g2, 0, none⟩))]) (fun g => [RBox gr [.string ⟨s3.toArray⟩, .bool b3] 74, RBox g2 [.int .i64 p, .slice g.1 L.length g.2, .int .i64 0, .slice none 0 0] 54, ROw (.slice g.1 L.length g.2) L, RBox g1 [.int .i64 0, .slice none 0 0, .int .i64 0, .slice none 0 0] 54] ++ H) ?_ ?_
  · refine cw_mem (fun w h => Cw.nilO Int h) ?_
    refine cw_block (cw_loop (fun g : Int × List UInt8 × Bool × List Int × Option Addr × Nat => (localsR g.1.toNat (g.2.1, g.2.2.1) g.2.2.2.1 = (L, s3, b3) ∧ g.2.1.length ≤ 2000) ∧ (g.1 ≤ 255 ∧ g.2.2.2.1.length + g.1.toNat ≤ 255)) (fun g => g.1.toNat) (fun g => [(0, .pointer (some ⟨gr, 0, none⟩)), (2, .pointer (some ⟨g1, 0, none⟩)), (3, .pointer (some ⟨g2, 0, none⟩)), (4, .int .i64 g.1)]) (fun g => [RBox gr [.string ⟨g.2.1.toArray⟩, .bool g.2.2.1] 74, RBox g2 [.int .i64 p, .slice g.2.2.2.2.1 g.2.2.2.1.length g.2.2.2.2.2, .int .i64 0, .slice none 0 0] 54, ROw (.slice g.2.2.2.2.1 g.2.2.2.1.length g.2.2.2.2.2) g.2.2.2.1, RBox g1 [.int .i64 0, .slice none 0 0, .int .i64 0, .slice none 0 0] 54] ++ H) (n, s2, b2, [], none, 0) (⟨⟨e3, by show s2.length ≤ _; omega⟩, ⟨d2.1.2, by show 0 + n.toNat ≤ _; omega⟩⟩) ⟨rfl, rfl, rfl, rfl, trivial⟩ (fun _ h => h.msub ms) ?_)
    rintro ⟨k, u, ub, acc, Aj, cj⟩ hj
    try dsimp only
    obtain ⟨⟨hj1, hj2⟩, hj3, hj4⟩ : (localsR k.toNat (u, ub) acc = (L, s3, b3) ∧ u.length ≤ 2000) ∧ (k ≤ 255 ∧ acc.length + k.toNat ≤ 255) := hj
    refine cw_seq ?_
    refine cw_seq ?_
    refine cw_region ?_
    refine rw_run tab_ok 3 [(0, _), (2, _), (3, _), (4, _), (15, _)] rfl ⟨rfl, rfl, rfl, rfl, rfl, trivial⟩ ?_
    refine rw_split (t := 15) rfl (fun h1 => ?_) (fun h1 => ?_)
    · have h1 := of_decide_eq_true h1
      refine rw_run tab_ok 3 [(0, _), (2, _), (3, _), (4, _), (15, _), (18, _)] rfl ⟨rfl, rfl, rfl, rfl, rfl, rfl, trivial⟩ ?_
      refine rw_s (qs_ldb fc Try.isAgg4 rfl rfl (by rfl)) rfl rfl ?_
      refine rw_run tab_ok 2 [(0, _), (2, _), (3, _), (4, _), (21, _)] rfl ⟨rfl, rfl, rfl, rfl, rfl, trivial⟩ ?_
      refine rw_end ?_
      refine cw_cond rfl (fun h2 => ?_) (fun h2 => ?_)
      · have hub : ub = false := by simpa using h2
        obtain ⟨q, u1, ub1, e8⟩ : ∃ p s1' b1', oneR (u, ub) = (p, s1', b1') := ⟨_, _, _, rfl⟩
        have d8 := oneR_bd e8
        have hnx : localsR (k - 1).toNat (u1, ub1) (acc ++ [q]) = (L, s3, b3) := by
          rw [show k.toNat = (k - 1).toNat + 1 from by omega, localsR, hub] at hj1
          rw [← hub] at hj1
          rw [e8, hub] at hj1
          simpa using hj1
        refine cw_skip (xw_then ?_)
        refine cw_seq ?_
        refine cw_block ?_
        refine cw_drawq (.still 0 (.still 1 (.still 2 (.pick 3 (.pick 4 (.pick 5 (.still 6 (.pick 7 .done .stop)) .stop) .stop) .stop)))) [7] rfl (by kernel_rfl) (by kernel_rfl) [RBox g2 [.int .i64 p, .slice Aj acc.length cj, .int .i64 0, .slice none 0 0] 54] ?_
        refine ro_run tab_ok ha 1 [(0, _), (2, _), (3, _), (4, _), (24, _)] rfl ⟨rfl, rfl, rfl, rfl, rfl, trivial⟩ ?_
        refine ro_s2 rfl (qs_ldb fc Try.isAgg35 rfl rfl (by rfl)) rfl rfl ha ?_
        refine ro_run tab_ok ha 1 [(0, _), (2, _), (3, _), (4, _), (25, _), (26, _)] rfl ⟨rfl, rfl, rfl, rfl, rfl, rfl, trivial⟩ ?_
        refine ro_op2 rfl (ot_call rfl rfl rfl Try.call38 (fun w hw => rdone_eq gr e8 (by omega) w (hw.msub (.s fc .r)))) rfl rfl (.inr fun _ => ha) (fun _ _ => ?_) ro_stop
        refine ro_op2 rfl (ot_bsl (cs := [_]) Try.underlying35 Try.sizeOf3 Try.zeroValue3 rfl rfl rfl rfl rfl) rfl rfl (.inr fun _ => ha) (fun g3 _ => ?_) ro_stop
        refine ro_op2 rfl (ot_app1 (α := Int) (bytes := 8) q [] rfl Try.underlying35 (info_ex Try.inI) rfl (perm2 fc fc) (hel_flat ⟨by omega, by omega⟩) (by omega) (by omega) rfl rfl rfl) rfl rfl (.inr fun _ => ha) (fun ⟨A5, c5⟩ _ => ?_) ro_stop
        try dsimp only
        refine ro_run tab_ok ha 1 [(0, _), (2, _), (3, _), (4, _), (29, _), (30, _)] rfl ⟨rfl, rfl, rfl, rfl, rfl, rfl, trivial⟩ ?_
        refine ro_op2 rfl (ot_stb _ fc Try.sizeOf35 rfl rfl rfl rfl rfl (by rfl) rfl (by rfl)) rfl rfl (.inl rfl) (fun _ _ => ?_) ro_stop
        refine ro_endx (xw_blkn (xw_then ?_))
        refine cw_region ?_
        refine rw_run tab_ok 1 [(0, _), (2, _), (3, _), (22, _)] rfl ⟨rfl, rfl, rfl, rfl, trivial⟩ ?_
        refine rw_s (qs_sub rfl rfl rfl (by omega)) rfl rfl ?_
        refine rw_run tab_ok 1 [(0, _), (2, _), (3, _), (4, _)] rfl ⟨rfl, rfl, rfl, rfl, trivial⟩ ?_
        refine rw_round (k - 1, u1, ub1, acc ++ [q], A5, c5) (⟨⟨hnx, by show u1.length ≤ _; omega⟩, ⟨by show k - 1 ≤ _; omega, by show (acc ++ [q]).length + (k - 1).toNat ≤ _; rw [List.length_append, List.length_singleton]; omega⟩⟩) (by show (k - 1).toNat < k.toNat; omega) ⟨rfl, rfl, rfl, rfl, trivial⟩ (fun _ h => h.msub ms)
      · have hub : ub = true := by simpa using h2
        have hx : localsR k.toNat (u, ub) acc = (acc, u, ub) := by
          rw [show k.toNat = (k - 1).toNat + 1 from by omega, localsR, hub]; rfl
        rw [hx] at hj1
        simp only [Prod.mk.injEq] at hj1
        obtain ⟨rfl, rfl, rfl⟩ := hj1
        refine cw_exit (xw_thenx (xw_thenx (xw_blk ?_)))
        refine xw_join (Aj, cj) (trivial) ⟨rfl, rfl, rfl, trivial⟩ (fun _ h => h.msub ms)
    · have h1 := of_decide_eq_false h1
      have hx : localsR k.toNat (u, ub) acc = (acc, u, ub) := by
        rw [show k.toNat = 0 from by omega]; rfl
      rw [hx] at hj1
      simp only [Prod.mk.injEq] at hj1
      obtain ⟨rfl, rfl, rfl⟩ := hj1
      refine rw_run tab_ok 6 [(0, _), (2, _), (3, _), (4, _), (21, _)] rfl ⟨rfl, rfl, rfl, rfl, rfl, trivial⟩ ?_
      refine rw_end ?_
      refine cw_cond_f rfl ?_
      refine cw_exit (xw_thenx (xw_thenx (xw_blk ?_)))
      refine xw_join (Aj, cj) (trivial) ⟨rfl, rfl, rfl, trivial⟩ (fun _ h => h.msub ms)
  · rintro ⟨A3, c3⟩ _
    try dsimp only
    refine cw_seq ?_
    refine cw_region ?_
    refine rw_run tab_ok 1 [(0, _), (2, _), (3, _), (31, _)] rfl ⟨rfl, rfl, rfl, rfl, trivial⟩ ?_
    refine rw_op (ot_call rfl rfl rfl Try.call38 (fun w hw => rdone_eq gr e4 (by omega) w (hw.msub (.s fc .r)))) rfl rfl (fun _ _ => ?_)
    refine rw_run tab_ok 1 [(0, _), (2, _), (3, _), (32, _), (33, _)] rfl ⟨rfl, rfl, rfl, rfl, rfl, trivial⟩ ?_
    refine rw_op (ot_stb _ fc Try.sizeOf3 rfl rfl rfl rfl rfl (by rfl) rfl (by rfl)) rfl rfl (fun _ _ => ?_)
    refine rw_end ?_
    refine cw_seq ?_
    refine cw_region ?_
    refine rw_run tab_ok 1 [(0, _), (2, _), (3, _), (34, _)] rfl ⟨rfl, rfl, rfl, rfl, trivial⟩ ?_
    refine rw_op (ot_call rfl rfl rfl Try.call38 (fun w hw => rdone_eq gr e5 (by omega) w (hw.msub (.s fc .r)))) rfl rfl (fun _ _ => ?_)
    refine rw_s (qs_shl8 d5.1 rfl rfl) rfl rfl ?_
    refine rw_run tab_ok 1 [(0, _), (2, _), (3, _), (5, _)] rfl ⟨rfl, rfl, rfl, rfl, trivial⟩ ?_
    refine rw_end ?_
    refine cw_seq ?_
    refine cw_region ?_
    refine rw_run tab_ok 2 [(0, _), (2, _), (3, _), (37, _), (38, _)] rfl ⟨rfl, rfl, rfl, rfl, rfl, trivial⟩ ?_
    refine rw_op (ot_call rfl rfl rfl Try.call38 (fun w hw => rdone_eq gr e6 (by omega) w (hw.msub (.s fc .r)))) rfl rfl (fun _ _ => ?_)
    refine rw_s (qs_or8 d5.1 d6.1 rfl rfl rfl) rfl rfl ?_
    refine rw_run tab_ok 1 [(0, _), (2, _), (3, _), (5, _)] rfl ⟨rfl, rfl, rfl, rfl, trivial⟩ ?_
    refine rw_end ?_
    refine cw_seq ?_
    refine cw_region ?_
    refine rw_run tab_ok 2 [(0, _), (2, _), (3, _), (42, _), (43, _)] rfl ⟨rfl, rfl, rfl, rfl, rfl, trivial⟩ ?_
    refine rw_op (ot_call rfl rfl rfl Try.call64 (fun w hw => take_eq gr e7 (by omega) (by omega) w (hw.msub (.s fc .r)))) rfl rfl (fun _ _ => ?_)
    refine rw_op (ot_cO rfl rfl rfl Try.call65 (fun w hw => decode_own c w (by omega))) rfl rfl (fun ⟨A8, c8⟩ _ => ?_)
    try dsimp only
    refine rw_run tab_ok 5 [(0, _), (2, _), (3, _), (6, _), (7, _)] rfl ⟨rfl, rfl, rfl, rfl, rfl, trivial⟩ ?_
    refine rw_end ?_
    refine cw_seq ?_
    refine cw_region ?_
    refine rw_run tab_ok 2 [(0, _), (2, _), (3, _), (7, _), (48, _), (49, _)] rfl ⟨rfl, rfl, rfl, rfl, rfl, rfl, trivial⟩ ?_
    refine rw_op (ot_stb _ fc Try.sizeOf52 rfl rfl rfl rfl rfl (by rfl) rfl (by rfl)) rfl rfl (fun _ _ => ?_)
    refine rw_end ?_
    refine cw_seq ?_
    refine cw_region ?_
    refine rw_run tab_ok 4 [(2, _), (3, _), (7, _), (50, _), (53, _)] rfl ⟨rfl, rfl, rfl, rfl, rfl, trivial⟩ ?_
    refine rw_s (qs_ldb fc Try.isAgg4 rfl rfl (by rfl)) rfl rfl ?_
    refine rw_run tab_ok 1 [(2, _), (3, _), (7, _), (50, _), (55, _)] rfl ⟨rfl, rfl, rfl, rfl, rfl, trivial⟩ ?_
    refine rw_split (t := 55) rfl (fun h1 => ?_) (fun h1 => ?_)
    · have h1 : b7 = true := h1
      subst h1
      refine rw_run tab_ok 5 [(2, _), (3, _), (58, _), (60, _)] rfl ⟨rfl, rfl, rfl, rfl, trivial⟩ ?_
      refine rw_op (ot_stb _ fc Try.sizeOf4 rfl rfl rfl rfl rfl (by rfl) rfl (by rfl)) rfl rfl (fun _ _ => ?_)
      refine rw_end ?_
      refine cw_seq ?_
      refine cw_region ?_
      refine rw_s (qs_ldbA (vs := [_, _, _, _]) fc Try.isAgg54 Try.sizeOf54 rfl rfl (by rfl) rfl) rfl rfl ?_
      refine rw_op (ot_stb _ fc Try.sizeOf54 rfl rfl rfl rfl rfl (by rfl) rfl (by rfl)) rfl rfl (fun _ _ => ?_)
      refine rw_end ?_
      refine cw_ret ?_
      refine xw_ret1 Try.results39 (rv_box (cs := [_, _, _, _]) fc Try.isAgg54 Try.sizeOf54 rfl) ?_
      intro w hw
      exact ⟨((A3, c3), (A8, c8)), trivial, rfl, hw.msub ms⟩
    · have h1 : b7 = false := h1
      subst h1
      refine rw_run tab_ok 5 [(2, _), (3, _), (58, _), (60, _)] rfl ⟨rfl, rfl, rfl, rfl, trivial⟩ ?_
      refine rw_op (ot_stb _ fc Try.sizeOf4 rfl rfl rfl rfl rfl (by rfl) rfl (by rfl)) rfl rfl (fun _ _ => ?_)
      refine rw_end ?_
      refine cw_seq ?_
      refine cw_region ?_
      refine rw_s (qs_ldbA (vs := [_, _, _, _]) fc Try.isAgg54 Try.sizeOf54 rfl rfl (by rfl) rfl) rfl rfl ?_
      refine rw_op (ot_stb _ fc Try.sizeOf54 rfl rfl rfl rfl rfl (by rfl) rfl (by rfl)) rfl rfl (fun _ _ => ?_)
      refine rw_end ?_
      refine cw_ret ?_
      refine xw_ret1 Try.results39 (rv_box (cs := [_, _, _, _]) fc Try.isAgg54 Try.sizeOf54 rfl) ?_
      intro w hw
      exact ⟨((A3, c3), (A8, c8)), trivial, rfl, hw.msub ms⟩
end Go.Proofs.Ytejpkcheimgdfaa

