/- Texts of one proof, one behind the other: lemmas alone. -/
import Derived.Test.YtejpkcheimgdfaaM4P
import Derived.Test.YtejpkcheimgdfaaM2P

-- Pr11
/- Programs: Decode. -/
namespace Go.Proofs.Ytejpkcheimgdfaa
open Go.RowKit

theorem funcR_bd {s s' : List UInt8} {sh sh' : Bool} {f : MFunc} (e : funcR (s, sh) = (f, s', sh')) : s'.length ≤ s.length ∧ (I64 f.params ∧ I64 f.result) ∧ f.locals.length ≤ 255 ∧ f.code.length ≤ 40 := by
  obtain ⟨p, s1, b1, e1⟩ : ∃ p s1 b1, oneR (s, sh) = (p, s1, b1) := ⟨_, _, _, rfl⟩
  obtain ⟨n, s2, b2, e2⟩ : ∃ p s1' b1', oneR (s1, b1) = (p, s1', b1') := ⟨_, _, _, rfl⟩
  obtain ⟨L, s3, b3, e3⟩ : ∃ p s1' b1', localsR n.toNat (s2, b2) [] = (p, s1', b1') := ⟨_, _, _, rfl⟩
  obtain ⟨t, s4, b4, e4⟩ : ∃ p s1' b1', oneR (s3, b3) = (p, s1', b1') := ⟨_, _, _, rfl⟩
  obtain ⟨x, s5, b5, e5⟩ : ∃ p s1' b1', oneR (s4, b4) = (p, s1', b1') := ⟨_, _, _, rfl⟩
  obtain ⟨y, s6, b6, e6⟩ : ∃ p s1' b1', oneR (s5, b5) = (p, s1', b1') := ⟨_, _, _, rfl⟩
  obtain ⟨c, s7, b7, e7⟩ : ∃ p s1' b1', takeR (s6, b6) (x * 256 + y) = (p, s1', b1') := ⟨_, _, _, rfl⟩
  unfold funcR at e
  simp only [e1, e2, e3, e4, e5, e6, e7, Prod.mk.injEq] at e
  obtain ⟨rfl, rfl, rfl⟩ := e
  have d1 := oneR_bd e1
  have d2 := oneR_bd e2
  have d3 := localsR_bd _ _ _ _ _ _ _ e3
  have d4 := oneR_bd e4
  have d5 := oneR_bd e5
  have d6 := oneR_bd e6
  have d7 := takeR_bd e7
  rw [List.length_nil] at d3
  exact ⟨by omega, ⟨⟨by show _ ≤ p; omega, by show p ≤ _; omega⟩, ⟨by show _ ≤ t; omega, by show t ≤ _; omega⟩⟩, by show L.length ≤ _; omega, (decodeOps_i64 c).2⟩
theorem funcsR_bd : ∀ (k : Nat) (s s' : List UInt8) (sh sh' : Bool) (acc L : List MFunc), funcsR k (s, sh) acc = (L, s', sh') → s'.length ≤ s.length ∧ L.length ≤ acc.length + k
  | 0, s, s', sh, sh', acc, L, e => by
    simp only [funcsR, Prod.mk.injEq] at e
    obtain ⟨rfl, rfl, rfl⟩ := e
    omega
  | k + 1, s, s', sh, sh', acc, L, e => by
    simp only [funcsR] at e
    split at e
    · simp only [Prod.mk.injEq] at e
      obtain ⟨rfl, rfl, rfl⟩ := e
      omega
    · obtain ⟨p, s1, b1, e1⟩ : ∃ p s1 b1, funcR (s, sh) = (p, s1, b1) := ⟨_, _, _, rfl⟩
      rw [e1] at e
      have h1 := funcR_bd e1
      have h2 := funcsR_bd k _ _ _ _ _ _ e
      rw [List.length_append, List.length_singleton] at h2
      omega
theorem Try.inFunc : (Try.prog.info? 54).map (fun i => (i.zero, i.size, i.bytes)) = some (some (.agg #[.int .i64 0, .slice none 0 0, .int .i64 0, .slice none 0 0]), 4, 64) := by kernel_rfl
section
variable {B : Nat} {w0 : World} {H : List Res}
theorem pfunc_eq (gr : Nat) {s s' : List UInt8} {sh sh' : Bool} {f : MFunc} (e : funcR (s, sh) = (f, s', sh')) (hl : s.length ≤ 2000) (w : World) (hw : Cw B w0 (RBox gr [.string ⟨s.toArray⟩, .bool sh] 74 :: H) w) :
    Calls Try.prog 39 #[.pointer (some ⟨gr, 0, none⟩)] w fun e w' => ∃ g : (Option Addr × Nat) × (Option Addr × Nat), True ∧
      e = .returned (.agg #[.int .i64 f.params, .slice g.1.1 f.locals.length g.1.2, .int .i64 f.result, .slice g.2.1 f.code.length g.2.2]) ∧
      Cw B w0 (RBox gr [.string ⟨s'.toArray⟩, .bool sh'] 74 :: ROw (.slice g.1.1 f.locals.length g.1.2) f.locals :: ROw (.slice g.2.1 f.code.length g.2.2) f.code :: H) w' := by
  have := pfunc_any gr s sh hl w hw
  rw [e] at this
  exact this
end
theorem own_ret {α : Type} [Ow α] {w w' : World} {v : Value} {xs : List α} (hw : Cw w.heap.size w [ROw v xs] w') : Below w.heap.size w w' ∧ OwN w' w.heap.size v xs := by
  obtain ⟨F, h1, h2⟩ := hw.head
  exact ⟨hw.below, F, h1, h2⟩
theorem nil_ret {α : Type} [Ow α] {w w' : World} {H : List Res} (hw : Cw w.heap.size w H w') : Below w.heap.size w w' ∧ OwN w' w.heap.size (.slice none 0 0) ([] : List α) := ⟨hw.below, OwN.nil_ _ _⟩
set_option maxRecDepth 100000 in
set_option maxHeartbeats 4000000 in
theorem pdecode_any (s : List UInt8) (w : World) (hl : s.length ≤ 140737488355320) :
    Calls Try.prog 11 #[.string ⟨s.toArray⟩] w fun e w' => ∃ u, e = .returned (.tuple #[.agg #[u], .int .i64 (decodeP s).2]) ∧ Below w.heap.size w w' ∧ OwN w' w.heap.size u (decodeP s).1 := by
  refine enter Try.func11 rfl Try.ntmps11 rfl ?_
  refine cw_seq ?_
  refine cw_region ?_
  refine rw_op (ot_alloc Try.zeroValue24 rfl rfl) rfl rfl (fun g1 _ => ?_)
  refine rw_run tab_ok 1 [(0, _), (2, _)] rfl ⟨rfl, rfl, trivial⟩ ?_
  refine rw_end ?_
  refine cw_seq ?_
  refine cw_seq ?_
  refine cw_region ?_
  refine rw_run tab_ok 1 [(0, _), (2, _), (8, _)] rfl ⟨rfl, rfl, rfl, trivial⟩ ?_
  refine rw_s (qs_lenS Try.underlying9 rfl rfl) rfl rfl ?_
  refine rw_run tab_ok 1 [(0, _), (2, _), (10, _)] rfl ⟨rfl, rfl, rfl, trivial⟩ ?_
  refine rw_end ?_
  refine cw_condD rfl (fun h0 => ?_) (fun h0 => ?_)
  · have hd : decodeP s = ([], 2) := by unfold decodeP; rw [if_pos (by omega)]
    refine cw_seq ?_
    refine cw_region ?_
    refine rw_s (qs_bst (cs := [_]) plT24 Try.zeroValue24 rfl rfl (by rfl)) rfl rfl ?_
    refine rw_op (ot_stb _ fc Try.sizeOf24 rfl rfl rfl rfl rfl (by rfl) rfl (by rfl)) rfl rfl (fun _ _ => ?_)
    refine rw_run tab_ok 1 [(2, _), (3, _)] rfl ⟨rfl, rfl, trivial⟩ ?_
    refine rw_end ?_
    refine cw_ret (xw_thenr ?_)
    refine xw_ret2 Try.results11 (rv_box (cs := [_]) fc Try.isAgg24 Try.sizeOf24 rfl) (rv_tmp rfl) ?_
    intro w hw
    rw [hd]
    exact ⟨_, rfl, nil_ret hw⟩
  · obtain ⟨n, s1, b1, e1⟩ : ∃ p s1 b1, oneR (s, false) = (p, s1, b1) := ⟨_, _, _, rfl⟩
    obtain ⟨F, s2, b2, e2⟩ : ∃ p s1' b1', funcsR n.toNat (s1, b1) [] = (p, s1', b1') := ⟨_, _, _, rfl⟩
    have d1 := oneR_bd e1
    have d2 := funcsR_bd _ _ _ _ _ _ _ e2
    rw [List.length_nil] at d2
    have hp : parseP s = (F, s2, b2) := by unfold parseP; rw [e1]; exact e2
    refine cw_skip (xw_then ?_)
    refine cw_seq ?_
    refine cw_region ?_
    refine rw_run tab_ok 1 [(2, _), (12, _)] rfl ⟨rfl, rfl, trivial⟩ ?_
    refine rw_s (qs_bst (cs := [_, _]) plT74 Try.zeroValue74 rfl rfl (by rfl)) rfl rfl ?_
    refine rw_op (ot_box rfl rfl rfl) rfl rfl (fun g2 _ => ?_)
    refine rw_run tab_ok 1 [(2, _), (4, _)] rfl ⟨rfl, rfl, trivial⟩ ?_
    refine rw_end ?_
    refine cw_seq ?_
    refine cw_region ?_
    refine rw_op (ot_alloc Try.zeroValue24 rfl rfl) rfl rfl (fun g3 _ => ?_)
    refine rw_end ?_
    refine cw_seq ?_
    refine cw_seq ?_
    refine cw_region ?_
    refine rw_run tab_ok 1 [(2, _), (4, _), (5, _), (15, _)] rfl ⟨rfl, rfl, rfl, rfl, trivial⟩ ?_
    refine rw_op (ot_call rfl rfl rfl Try.call38 (fun w hw => rdone_eq g2 e1 (by omega) w (hw.msub (.s fc .r)))) rfl rfl (fun _ _ => ?_)
    refine rw_run tab_ok 1 [(2, _), (4, _), (5, _), (6, _)] rfl ⟨rfl, rfl, rfl, rfl, trivial⟩ ?_
    refine rw_end ?_
    refine cw_cutk (fun _ : Option Addr × Nat => True) (fun g => [(2, .pointer (some ⟨g1, 0, none⟩)), (4, .pointer (some ⟨g2, 0, none⟩)), (5, .pointer (some ⟨g3, 0, none⟩))]) (fun g => [RBox g2 [.string ⟨s2.toArray⟩, .bool b2] 74, RBox g3 [.slice g.1 F.length g.2] 24, ROw (.slice g.1 F.length g.2) F, RBox g1 [.slice none 0 0] 24]) ?_ ?_
    · refine cw_mem (fun w h => Cw.nilO MFunc h) ?_
      refine cw_block (cw_loop (fun g : Int × List UInt8 × Bool × List MFunc × Option Addr × Nat => (funcsR g.1.toNat (g.2.1, g.2.2.1) g.2.2.2.1 = (F, s2, b2) ∧ g.2.1.length ≤ 2000) ∧ (g.1 ≤ 255 ∧ g.2.2.2.1.length + g.1.toNat ≤ 255)) (fun g => g.1.toNat) (fun g => [(2, .pointer (some ⟨g1, 0, none⟩)), (4, .pointer (some ⟨g2, 0, none⟩)), (5, .pointer (some ⟨g3, 0, none⟩)), (6, .int .i64 g.1)]) (fun g => [RBox g2 [.string ⟨g.2.1.toArray⟩, .bool g.2.2.1] 74, RBox g3 [.slice g.2.2.2.2.1 g.2.2.2.1.length g.2.2.2.2.2] 24, ROw (.slice g.2.2.2.2.1 g.2.2.2.1.length g.2.2.2.2.2) g.2.2.2.1, RBox g1 [.slice none 0 0] 24]) (n, s1, b1, [], none, 0) (⟨⟨e2, by show s1.length ≤ _; omega⟩, ⟨d1.1.2, by show 0 + n.toNat ≤ _; omega⟩⟩) ⟨rfl, rfl, rfl, rfl, trivial⟩ me ?_)
      rintro ⟨k, u, ub, acc, Aj, cj⟩ hj
      try dsimp only
      obtain ⟨⟨hj1, hj2⟩, hj3, hj4⟩ : (funcsR k.toNat (u, ub) acc = (F, s2, b2) ∧ u.length ≤ 2000) ∧ (k ≤ 255 ∧ acc.length + k.toNat ≤ 255) := hj
      refine cw_seq ?_
      refine cw_seq ?_
      refine cw_region ?_
      refine rw_run tab_ok 3 [(2, _), (4, _), (5, _), (6, _), (19, _)] rfl ⟨rfl, rfl, rfl, rfl, rfl, trivial⟩ ?_
      refine rw_split (t := 19) rfl (fun h1 => ?_) (fun h1 => ?_)
      · have h1 := of_decide_eq_true h1
        refine rw_run tab_ok 3 [(2, _), (4, _), (5, _), (6, _), (19, _), (22, _)] rfl ⟨rfl, rfl, rfl, rfl, rfl, rfl, trivial⟩ ?_
        refine rw_s (qs_ldb fc Try.isAgg4 rfl rfl (by rfl)) rfl rfl ?_
        refine rw_run tab_ok 2 [(2, _), (4, _), (5, _), (6, _), (25, _)] rfl ⟨rfl, rfl, rfl, rfl, rfl, trivial⟩ ?_
        refine rw_end ?_
        refine cw_cond rfl (fun h2 => ?_) (fun h2 => ?_)
        · have hub : ub = false := by simpa using h2
          obtain ⟨q, u1, ub1, e8⟩ : ∃ p s1' b1', funcR (u, ub) = (p, s1', b1') := ⟨_, _, _, rfl⟩
          have d8 := funcR_bd e8
          have hnx : funcsR (k - 1).toNat (u1, ub1) (acc ++ [q]) = (F, s2, b2) := by
            rw [show k.toNat = (k - 1).toNat + 1 from by omega, funcsR, hub] at hj1
            rw [← hub] at hj1
            rw [e8, hub] at hj1
            simpa using hj1
          refine cw_skip (xw_then ?_)
          refine cw_seq ?_
          refine cw_block ?_
          refine cw_drawq (.still 0 (.still 1 (.still 2 (.pick 3 (.pick 4 (.pick 5 (.still 6 (.pick 7 .done .stop)) .stop) .stop) .stop)))) [7] rfl (by kernel_rfl) (by kernel_rfl) [RBox g3 [.slice Aj acc.length cj] 24] ?_
          refine ro_run tab_ok ha 1 [(2, _), (4, _), (5, _), (6, _), (28, _)] rfl ⟨rfl, rfl, rfl, rfl, rfl, trivial⟩ ?_
          refine ro_s2 rfl (qs_ldb fc Try.isAgg22 rfl rfl (by rfl)) rfl rfl ha ?_
          refine ro_run tab_ok ha 1 [(2, _), (4, _), (5, _), (6, _), (29, _), (30, _)] rfl ⟨rfl, rfl, rfl, rfl, rfl, rfl, trivial⟩ ?_
          refine ro_op2 rfl (ot_call rfl rfl rfl Try.call39 (fun w hw => pfunc_eq g2 e8 (by omega) w (hw.msub (.s fc .r)))) rfl rfl (.inr fun _ => ha) (fun ⟨⟨A9, c9⟩, ⟨A10, c10⟩⟩ _ => ?_) ro_stop
          try dsimp only
          refine ro_op2 rfl (ot_bsl (cs := [_, _, _, _]) Try.underlying22 Try.sizeOf54 Try.zeroValue54 rfl rfl rfl rfl rfl) rfl rfl (.inr fun _ => ha) (fun g4 _ => ?_) ro_stop
          refine ro_op2 rfl (ot_app1 (α := MFunc) (bytes := 64) q [ROw (.slice A9 q.locals.length c9) q.locals, ROw (.slice A10 q.code.length c10) q.code] rfl Try.underlying22 (info_ex Try.inFunc) rfl (perm4 fc fc fc fc) (hel_fn d8.2.1) (by omega) (by omega) rfl rfl rfl) rfl rfl (.inr fun _ => ha) (fun ⟨A5, c5⟩ _ => ?_) ro_stop
          try dsimp only
          refine ro_run tab_ok ha 1 [(2, _), (4, _), (5, _), (6, _), (33, _), (34, _)] rfl ⟨rfl, rfl, rfl, rfl, rfl, rfl, trivial⟩ ?_
          refine ro_op2 rfl (ot_stb _ fc Try.sizeOf22 rfl rfl rfl rfl rfl (by rfl) rfl (by rfl)) rfl rfl (.inl rfl) (fun _ _ => ?_) ro_stop
          refine ro_endx (xw_blkn (xw_then ?_))
          refine cw_region ?_
          refine rw_run tab_ok 1 [(2, _), (4, _), (5, _), (26, _)] rfl ⟨rfl, rfl, rfl, rfl, trivial⟩ ?_
          refine rw_s (qs_sub rfl rfl rfl (by omega)) rfl rfl ?_
          refine rw_run tab_ok 1 [(2, _), (4, _), (5, _), (6, _)] rfl ⟨rfl, rfl, rfl, rfl, trivial⟩ ?_
          refine rw_round (k - 1, u1, ub1, acc ++ [q], A5, c5) (⟨⟨hnx, by show u1.length ≤ _; omega⟩, ⟨by show k - 1 ≤ _; omega, by show (acc ++ [q]).length + (k - 1).toNat ≤ _; rw [List.length_append, List.length_singleton]; omega⟩⟩) (by show (k - 1).toNat < k.toNat; omega) ⟨rfl, rfl, rfl, rfl, trivial⟩ me
        · have hub : ub = true := by simpa using h2
          have hx : funcsR k.toNat (u, ub) acc = (acc, u, ub) := by
            rw [show k.toNat = (k - 1).toNat + 1 from by omega, funcsR, hub]; rfl
          rw [hx] at hj1
          simp only [Prod.mk.injEq] at hj1
          obtain ⟨rfl, rfl, rfl⟩ := hj1
          refine cw_exit (xw_thenx (xw_thenx (xw_blk ?_)))
          refine xw_join (Aj, cj) (trivial) ⟨rfl, rfl, rfl, trivial⟩ me
      · have h1 := of_decide_eq_false h1
        have hx : funcsR k.toNat (u, ub) acc = (acc, u, ub) := by
          rw [show k.toNat = 0 from by omega]; rfl
        rw [hx] at hj1
        simp only [Prod.mk.injEq] at hj1
        obtain ⟨rfl, rfl, rfl⟩ := hj1
        refine rw_run tab_ok 6 [(2, _), (4, _), (5, _), (6, _), (25, _)] rfl ⟨rfl, rfl, rfl, rfl, rfl, trivial⟩ ?_
        refine rw_end ?_
        refine cw_cond_f rfl ?_
        refine cw_exit (xw_thenx (xw_thenx (xw_blk ?_)))
        refine xw_join (Aj, cj) (trivial) ⟨rfl, rfl, rfl, trivial⟩ me
    · rintro ⟨A3, c3⟩ _
      try dsimp only
      have key : decodeP s = if b2 = true ∨ s2 ≠ [] then ([], 1) else if checkP F ≠ 0 then ([], checkP F) else (F, 0) := by
        unfold decodeP
        rw [if_neg (by omega), hp]
      refine cw_seq ?_
      refine cw_seq ?_
      refine cw_region ?_
      refine rw_run tab_ok 3 [(2, _), (4, _), (5, _), (37, _)] rfl ⟨rfl, rfl, rfl, rfl, trivial⟩ ?_
      refine rw_s (qs_ldb fc Try.isAgg4 rfl rfl (by rfl)) rfl rfl ?_
      refine rw_run tab_ok 1 [(2, _), (4, _), (5, _), (39, _)] rfl ⟨rfl, rfl, rfl, rfl, trivial⟩ ?_
      refine rw_split (t := 39) rfl (fun h1 => ?_) (fun h1 => ?_)
      · have h1 : b2 = true := h1
        refine rw_run tab_ok 6 [(2, _), (5, _), (45, _)] rfl ⟨rfl, rfl, rfl, trivial⟩ ?_
        refine rw_end ?_
        refine cw_cond_t rfl ?_
        refine cw_seq ?_
        refine cw_region ?_
        refine rw_s (qs_bst (cs := [_]) plT24 Try.zeroValue24 rfl rfl (by rfl)) rfl rfl ?_
        refine rw_op (ot_stb _ fc Try.sizeOf24 rfl rfl rfl rfl rfl (by rfl) rfl (by rfl)) rfl rfl (fun _ _ => ?_)
        refine rw_run tab_ok 1 [(2, _), (3, _)] rfl ⟨rfl, rfl, trivial⟩ ?_
        refine rw_end ?_
        refine cw_ret (xw_thenr ?_)
        refine xw_ret2 Try.results11 (rv_box (cs := [_]) fc Try.isAgg24 Try.sizeOf24 rfl) (rv_tmp rfl) ?_
        intro w hw
        rw [key, if_pos (.inl h1)]
        exact ⟨_, rfl, nil_ret hw⟩
      · have h1 : b2 = false := h1
        refine rw_run tab_ok 3 [(2, _), (5, _), (39, _), (42, _)] rfl ⟨rfl, rfl, rfl, rfl, trivial⟩ ?_
        refine rw_s (qs_ldb fc Try.isAgg9 rfl rfl (by rfl)) rfl rfl ?_
        refine rw_s (qs_neS rfl rfl rfl) rfl rfl ?_
        refine rw_run tab_ok 1 [(2, _), (5, _), (45, _)] rfl ⟨rfl, rfl, rfl, trivial⟩ ?_
        refine rw_end ?_
        refine cw_condN rfl (fun h2 => ?_) (fun h2 => ?_)
        · refine cw_seq ?_
          refine cw_region ?_
          refine rw_s (qs_bst (cs := [_]) plT24 Try.zeroValue24 rfl rfl (by rfl)) rfl rfl ?_
          refine rw_op (ot_stb _ fc Try.sizeOf24 rfl rfl rfl rfl rfl (by rfl) rfl (by rfl)) rfl rfl (fun _ _ => ?_)
          refine rw_run tab_ok 1 [(2, _), (3, _)] rfl ⟨rfl, rfl, trivial⟩ ?_
          refine rw_end ?_
          refine cw_ret (xw_thenr ?_)
          refine xw_ret2 Try.results11 (rv_box (cs := [_]) fc Try.isAgg24 Try.sizeOf24 rfl) (rv_tmp rfl) ?_
          intro w hw
          rw [key, if_pos (.inr h2)]
          exact ⟨_, rfl, nil_ret hw⟩
        · have h12 : ¬ (b2 = true ∨ s2 ≠ []) := by rintro (h | h); (· rw [h1] at h; cases h); (· exact h h2)
          rw [if_neg h12] at key
          refine cw_skip (xw_then ?_)
          refine cw_seq ?_
          refine cw_seq ?_
          refine cw_region ?_
          refine rw_s (qs_ldbA (vs := [_]) fc Try.isAgg24 Try.sizeOf24 rfl rfl (by rfl) rfl) rfl rfl ?_
          refine rw_op (ot_c0 rfl rfl rfl Try.call16 (fun w hw => pcheck_any A3 c3 F w ((SF.own rfl fc).at_ hw))) rfl rfl (fun _ _ => ?_)
          refine rw_run tab_ok 1 [(2, _), (5, _), (7, _)] rfl ⟨rfl, rfl, rfl, trivial⟩ ?_
          refine rw_end ?_
          refine cw_seq ?_
          refine cw_region ?_
          refine rw_run tab_ok 2 [(2, _), (5, _), (7, _), (50, _)] rfl ⟨rfl, rfl, rfl, rfl, trivial⟩ ?_
          refine rw_end ?_
          refine cw_condN rfl (fun h3 => ?_) (fun h3 => ?_)
          · refine cw_seq ?_
            refine cw_region ?_
            refine rw_s (qs_bst (cs := [_]) plT24 Try.zeroValue24 rfl rfl (by rfl)) rfl rfl ?_
            refine rw_run tab_ok 1 [(2, _), (51, _), (52, _)] rfl ⟨rfl, rfl, rfl, trivial⟩ ?_
            refine rw_op (ot_stb _ fc Try.sizeOf24 rfl rfl rfl rfl rfl (by rfl) rfl (by rfl)) rfl rfl (fun _ _ => ?_)
            refine rw_run tab_ok 1 [(2, _), (3, _)] rfl ⟨rfl, rfl, trivial⟩ ?_
            refine rw_end ?_
            refine cw_ret (xw_thenr ?_)
            refine xw_ret2 Try.results11 (rv_box (cs := [_]) fc Try.isAgg24 Try.sizeOf24 rfl) (rv_tmp rfl) ?_
            intro w hw
            rw [key, if_pos h3]
            exact ⟨_, rfl, nil_ret hw⟩
          · refine cw_skip (xw_then ?_)
            refine cw_seq ?_
            refine cw_region ?_
            refine rw_s (qs_ldbA (vs := [_]) fc Try.isAgg24 Try.sizeOf24 rfl rfl (by rfl) rfl) rfl rfl ?_
            refine rw_op (ot_stb _ fc Try.sizeOf24 rfl rfl rfl rfl rfl (by rfl) rfl (by rfl)) rfl rfl (fun _ _ => ?_)
            refine rw_run tab_ok 1 [(2, _), (3, _)] rfl ⟨rfl, rfl, trivial⟩ ?_
            refine rw_end ?_
            refine cw_ret ?_
            refine xw_ret2 Try.results11 (rv_box (cs := [_]) fc Try.isAgg24 Try.sizeOf24 rfl) (rv_tmp rfl) ?_
            intro w hw
            rw [key, if_neg (by simpa using h3)]
            exact ⟨_, rfl, own_ret (hw.msub ms)⟩
end Go.Proofs.Ytejpkcheimgdfaa

-- Pr12
/- Programs: the document's program of bytes. -/
namespace Go.Proofs.Ytejpkcheimgdfaa
open Go.RowKit

theorem oneR_nil {sh : Bool} : oneR ([], sh) = (0, [], true) := by
  cases sh <;> rfl
theorem oneR_cons {b : UInt8} {l : List UInt8} {sh : Bool} : oneR (b :: l, sh) = ((b.toNat : Int), l, sh) := by
  unfold oneR takeR cutB
  rw [if_neg (by simp only [List.length_cons]; omega)]
  simp
theorem drop_cons {s : List UInt8} {k : Nat} (hk : k < s.length) : s.drop k = s.getD k 0 :: s.drop (k + 1) := by
  rw [List.drop_eq_getElem_cons hk, List.getD_eq_getElem?_getD, List.getElem?_eq_getElem hk]
  rfl
set_option maxRecDepth 100000 in
theorem rone_eq {B : Nat} {w0 : World} {H : List Res} (ga gs gk : Nat) (s : List UInt8) (k : Nat) {s' : List UInt8} {sh sh' : Bool} {p : Int} (e : oneR (s.drop k, sh) = (p, s', sh')) (hk : k ≤ s.length) (hl : s.length ≤ 140737488355320) (w : World)
    (hw : Cw B w0 (RBox ga [.int .i64 (k : Int)] 3 :: RBox gs [.string ⟨s.toArray⟩] 9 :: RBox gk [.bool (!sh)] 4 :: H) w) :
    Calls Try.prog 44 #[.pointer (some ⟨ga, 0, none⟩), .pointer (some ⟨gs, 0, none⟩), .pointer (some ⟨gk, 0, none⟩)] w fun e w' => ∃ a : Nat, (s.drop a = s' ∧ a ≤ s.length) ∧ e = .returned (.int .i64 p) ∧
      Cw B w0 (RBox ga [.int .i64 (a : Int)] 3 :: RBox gs [.string ⟨s.toArray⟩] 9 :: RBox gk [.bool (!sh')] 4 :: H) w' := by
  refine enter_own Try.func44 rfl Try.ntmps44 rfl hw ?_
  refine cw_seq ?_
  refine cw_region ?_
  refine rw_run tab_ok 1 [(0, _), (1, _), (2, _)] rfl ⟨rfl, rfl, rfl, trivial⟩ ?_
  refine rw_end ?_
  refine cw_seq ?_
  refine cw_seq ?_
  refine cw_region ?_
  refine rw_s (qs_ldb fc Try.isAgg3 rfl rfl (by rfl)) rfl rfl ?_
  refine rw_s (qs_ldb fc Try.isAgg9 rfl rfl (by rfl)) rfl rfl ?_
  refine rw_s (qs_lenS Try.underlying9 rfl rfl) rfl rfl ?_
  refine rw_run tab_ok 1 [(0, _), (1, _), (2, _), (7, _)] rfl ⟨rfl, rfl, rfl, rfl, trivial⟩ ?_
  refine rw_end ?_
  refine cw_condD rfl (fun h => ?_) (fun h => ?_)
  · have hd : s.drop k = [] := List.drop_of_length_le (by omega)
    rw [hd, oneR_nil] at e
    simp only [Prod.mk.injEq] at e
    obtain ⟨rfl, rfl, rfl⟩ := e
    refine cw_seq ?_
    refine cw_region ?_
    refine rw_op (ot_stb _ fc Try.sizeOf4 rfl rfl rfl rfl rfl (by rfl) rfl (by rfl)) rfl rfl (fun _ _ => ?_)
    refine rw_end ?_
    refine cw_seq ?_
    refine cw_region ?_
    refine rw_run tab_ok 1 [(3, _)] rfl ⟨rfl, trivial⟩ ?_
    refine rw_end ?_
    refine cw_ret (xw_thenr ?_)
    refine xw_ret1 Try.results44 (rv_tmp rfl) ?_
    intro w hw
    exact ⟨k, ⟨hd, hk⟩, rfl, hw.msub ms⟩
  · have hk2 : k < s.length := by omega
    rw [drop_cons hk2, oneR_cons] at e
    simp only [Prod.mk.injEq] at e
    obtain ⟨rfl, rfl, rfl⟩ := e
    refine cw_skip (xw_then ?_)
    refine cw_seq ?_
    refine cw_region ?_
    refine rw_s (qs_ldb fc Try.isAgg3 rfl rfl (by rfl)) rfl rfl ?_
    refine rw_s (qs_add rfl rfl rfl (by omega)) rfl rfl ?_
    refine rw_op (ot_stb _ fc Try.sizeOf3 rfl rfl rfl rfl rfl (by rfl) rfl (by rfl)) rfl rfl (fun _ _ => ?_)
    refine rw_end ?_
    refine cw_mem (H' := RBox ga [.int .i64 ((k + 1 : Nat) : Int)] 3 :: RBox gs [.string ⟨s.toArray⟩] 9 :: RBox gk [.bool (!sh)] 4 :: H) (fun w h => by rw [show ((k + 1 : Nat) : Int) = (k : Int) + 1 from by omega]; exact h.msub ms) ?_
    refine cw_seq ?_
    refine cw_region ?_
    refine rw_s (qs_ldb fc Try.isAgg9 rfl rfl (by rfl)) rfl rfl ?_
    refine rw_s (qs_ldb fc Try.isAgg3 rfl rfl (by rfl)) rfl rfl ?_
    refine rw_s (qs_sub rfl rfl rfl (by omega)) rfl rfl ?_
    refine rw_as (t := 12) (v' := .int .i64 (k : Int)) rfl (by congr 1; omega) ?_
    refine rw_s (qs_idxS (k := k) Try.underlying9 hk2 rfl rfl rfl) rfl rfl ?_
    refine rw_s (qs_b2i Try.underlying5 Try.underlying3 rfl rfl) rfl rfl ?_
    refine rw_run tab_ok 1 [(3, _)] rfl ⟨rfl, trivial⟩ ?_
    refine rw_end ?_
    refine cw_ret ?_
    refine xw_ret1 Try.results44 (rv_tmp rfl) ?_
    intro w hw
    exact ⟨k + 1, ⟨rfl, hk2⟩, reti (by rw [List.getD_eq_getElem?_getD, List.getElem?_eq_getElem hk2]), hw.msub ms⟩
theorem funcsR_short : ∀ (k : Nat) (s : List UInt8) (acc : List MFunc), funcsR k (s, true) acc = (acc, s, true)
  | 0, _, _ => rfl
  | _ + 1, _, _ => rfl
theorem takeR_no {s : List UInt8} {sh : Bool} {n : Int} (h : (s.length : Int) < n) : takeR (s, sh) n = ([], [], true) := by
  unfold takeR cutB
  rw [if_pos h]
  cases sh <;> rfl
theorem takeR_of {s : List UInt8} {sh : Bool} {n : Nat} (h : n ≤ s.length) : takeR (s, sh) (n : Int) = (s.take n, s.drop n, sh) := by
  unfold takeR cutB
  rw [if_neg (show ¬ ((s.length : Int) < (n : Int)) from by omega)]
  cases sh <;> rfl
theorem takeR_sh {s s' c : List UInt8} {sh' : Bool} {n : Int} (e : takeR (s, true) n = (c, s', sh')) : sh' = true := by
  unfold takeR at e
  simp only [Bool.true_or, Prod.mk.injEq] at e
  exact e.2.2.symm
set_option maxRecDepth 100000 in
set_option maxHeartbeats 8000000 in
theorem rprogramOf_any (s : List UInt8) (w : World) (hl : s.length ≤ 140737488355320) :
    Calls Try.prog 14 #[.string ⟨s.toArray⟩] w fun e w' => ∃ u, e = .returned (.tuple #[.agg #[u], .int .i64 (decodeP s).2]) ∧ Below w.heap.size w w' ∧ OwN w' w.heap.size u (decodeP s).1 := by
  refine enter Try.func14 rfl Try.ntmps14 rfl ?_
  refine cw_seq ?_
  refine cw_region ?_
  refine rw_op (ot_box rfl rfl rfl) rfl rfl (fun g1 _ => ?_)
  refine rw_op (ot_alloc Try.zeroValue24 rfl rfl) rfl rfl (fun g2 _ => ?_)
  refine rw_run tab_ok 1 [(1, _), (2, _)] rfl ⟨rfl, rfl, trivial⟩ ?_
  refine rw_end ?_
  refine cw_seq ?_
  refine cw_seq ?_
  refine cw_region ?_
  refine rw_s (qs_ldb fc Try.isAgg9 rfl rfl (by rfl)) rfl rfl ?_
  refine rw_s (qs_lenS Try.underlying9 rfl rfl) rfl rfl ?_
  refine rw_run tab_ok 1 [(1, _), (2, _), (19, _)] rfl ⟨rfl, rfl, rfl, trivial⟩ ?_
  refine rw_end ?_
  refine cw_condD rfl (fun h0 => ?_) (fun h0 => ?_)
  · have hd : decodeP s = ([], 2) := by unfold decodeP; rw [if_pos (by omega)]
    refine cw_seq ?_
    refine cw_region ?_
    refine rw_s (qs_bst (cs := [_]) plT24 Try.zeroValue24 rfl rfl (by rfl)) rfl rfl ?_
    refine rw_op (ot_stb _ fc Try.sizeOf24 rfl rfl rfl rfl rfl (by rfl) rfl (by rfl)) rfl rfl (fun _ _ => ?_)
    refine rw_run tab_ok 1 [(2, _), (3, _)] rfl ⟨rfl, rfl, trivial⟩ ?_
    refine rw_end ?_
    refine cw_ret (xw_thenr ?_)
    refine xw_ret2 Try.results14 (rv_box (cs := [_]) fc Try.isAgg24 Try.sizeOf24 rfl) (rv_tmp rfl) ?_
    intro w hw
    rw [hd]
    exact ⟨_, rfl, nil_ret hw⟩
  · obtain ⟨n, s1, b1, e1⟩ : ∃ p s1 b1, oneR (s, false) = (p, s1, b1) := ⟨_, _, _, rfl⟩
    obtain ⟨F, s2, b2, e2⟩ : ∃ p s1' b1', funcsR n.toNat (s1, b1) [] = (p, s1', b1') := ⟨_, _, _, rfl⟩
    have d1 := oneR_bd e1
    have d2 := funcsR_bd _ _ _ _ _ _ _ e2
    rw [List.length_nil] at d2
    have hp : parseP s = (F, s2, b2) := by unfold parseP; rw [e1]; exact e2
    have key : decodeP s = if b2 = true ∨ s2 ≠ [] then ([], 1) else if checkP F ≠ 0 then ([], checkP F) else (F, 0) := by
      unfold decodeP
      rw [if_neg (by omega), hp]
    refine cw_skip (xw_then ?_)
    refine cw_seq ?_
    refine cw_region ?_
    refine rw_op (ot_alloc Try.zeroValue3 rfl rfl) rfl rfl (fun g3 _ => ?_)
    refine rw_op (ot_alloc Try.zeroValue4 rfl rfl) rfl rfl (fun g4 _ => ?_)
    refine rw_op (ot_stb _ fc Try.sizeOf3 rfl rfl rfl rfl rfl (by rfl) rfl (by rfl)) rfl rfl (fun _ _ => ?_)
    refine rw_op (ot_stb _ fc Try.sizeOf4 rfl rfl rfl rfl rfl (by rfl) rfl (by rfl)) rfl rfl (fun _ _ => ?_)
    refine rw_end ?_
    refine cw_seq ?_
    refine cw_region ?_
    refine rw_run tab_ok 2 [(1, _), (2, _), (4, _), (5, _), (6, _)] rfl ⟨rfl, rfl, rfl, rfl, rfl, trivial⟩ ?_
    refine rw_end ?_
    refine cw_seq ?_
    refine cw_region ?_
    refine rw_op (ot_alloc Try.zeroValue24 rfl rfl) rfl rfl (fun g5 _ => ?_)
    refine rw_end ?_
    refine cw_seq ?_
    refine cw_region ?_
    refine rw_run tab_ok 1 [(1, _), (2, _), (4, _), (5, _), (6, _), (7, _), (22, _)] rfl ⟨rfl, rfl, rfl, rfl, rfl, rfl, rfl, trivial⟩ ?_
    refine rw_op (ot_callK rfl rfl rfl Try.call44 (fun w hw => rone_eq g3 g1 g4 s 0 (sh := false) e1 (Nat.zero_le _) hl w (hw.msub (.s fc (.s fc (.s fc .r)))))) rfl rfl (fun a1 ha1 => ?_)
    refine rw_run tab_ok 1 [(1, _), (2, _), (4, _), (5, _), (6, _), (7, _), (8, _)] rfl ⟨rfl, rfl, rfl, rfl, rfl, rfl, rfl, trivial⟩ ?_
    refine rw_end ?_
    refine cw_seq ?_
    refine cw_seq ?_
    refine cw_region ?_
    refine rw_run tab_ok 1 [(1, _), (2, _), (4, _), (5, _), (6, _), (7, _), (8, _), (9, _)] rfl ⟨rfl, rfl, rfl, rfl, rfl, rfl, rfl, rfl, trivial⟩ ?_
    refine rw_end ?_
    obtain ⟨ha1, ha1l⟩ : s.drop a1 = s1 ∧ a1 ≤ s.length := ha1
    refine cw_cutk (fun g : Nat × Option Addr × Nat => s.drop g.1 = s2 ∧ g.1 ≤ s.length) (fun g => [(1, .pointer (some ⟨g1, 0, none⟩)), (2, .pointer (some ⟨g2, 0, none⟩)), (4, .pointer (some ⟨g3, 0, none⟩)), (5, .pointer (some ⟨g4, 0, none⟩)), (7, .pointer (some ⟨g5, 0, none⟩))]) (fun g => [RBox g3 [.int .i64 (g.1 : Int)] 3, RBox g1 [.string ⟨s.toArray⟩] 9, RBox g4 [.bool (!b2)] 4, RBox g5 [.slice g.2.1 F.length g.2.2] 24, ROw (.slice g.2.1 F.length g.2.2) F, RBox g2 [.slice none 0 0] 24]) ?_ ?_
    · refine cw_mem (fun w h => Cw.nilO MFunc h) ?_
      refine cw_block (cw_loop (fun g : Nat × Nat × Bool × List MFunc × Option Addr × Nat => (funcsR (n.toNat - g.1) (s.drop g.2.1, g.2.2.1) g.2.2.2.1 = (F, s2, b2) ∧ g.2.1 ≤ s.length) ∧ (g.1 ≤ n.toNat ∧ g.2.2.2.1.length + (n.toNat - g.1) ≤ 255)) (fun g => n.toNat - g.1) (fun g => [(1, .pointer (some ⟨g1, 0, none⟩)), (2, .pointer (some ⟨g2, 0, none⟩)), (4, .pointer (some ⟨g3, 0, none⟩)), (5, .pointer (some ⟨g4, 0, none⟩)), (6, .func (.func 44) #[] #[.pointer (some ⟨g3, 0, none⟩), .pointer (some ⟨g1, 0, none⟩), .pointer (some ⟨g4, 0, none⟩)]), (7, .pointer (some ⟨g5, 0, none⟩)), (8, .int .i64 n), (9, .int .i64 (g.1 : Int))]) (fun g => [RBox g3 [.int .i64 (g.2.1 : Int)] 3, RBox g1 [.string ⟨s.toArray⟩] 9, RBox g4 [.bool (!g.2.2.1)] 4, RBox g5 [.slice g.2.2.2.2.1 g.2.2.2.1.length g.2.2.2.2.2] 24, ROw (.slice g.2.2.2.2.1 g.2.2.2.1.length g.2.2.2.2.2) g.2.2.2.1, RBox g2 [.slice none 0 0] 24]) (0, a1, b1, [], none, 0) (⟨⟨by show funcsR (n.toNat - 0) _ _ = _; rw [ha1]; exact e2, ha1l⟩, ⟨Nat.zero_le _, by show 0 + (n.toNat - 0) ≤ _; omega⟩⟩) ⟨rfl, rfl, rfl, rfl, rfl, rfl, rfl, rfl, trivial⟩ me ?_)
      rintro ⟨i, at_, ub, acc, Aj, cj⟩ hj
      try dsimp only
      obtain ⟨⟨hj1, hj2⟩, hj3, hj4⟩ : (funcsR (n.toNat - i) (s.drop at_, ub) acc = (F, s2, b2) ∧ at_ ≤ s.length) ∧ (i ≤ n.toNat ∧ acc.length + (n.toNat - i) ≤ 255) := hj
      refine cw_seq ?_
      refine cw_seq ?_
      refine cw_region ?_
      refine rw_run tab_ok 4 [(1, _), (2, _), (4, _), (5, _), (6, _), (7, _), (8, _), (9, _), (27, _)] rfl ⟨rfl, rfl, rfl, rfl, rfl, rfl, rfl, rfl, rfl, trivial⟩ ?_
      refine rw_split (t := 27) rfl (fun h1 => ?_) (fun h1 => ?_)
      · have h1 := of_decide_eq_true h1
        refine rw_s (qs_ldb fc Try.isAgg4 rfl rfl (by rfl)) rfl rfl ?_
        refine rw_run tab_ok 1 [(1, _), (2, _), (4, _), (5, _), (6, _), (7, _), (8, _), (9, _), (29, _)] rfl ⟨rfl, rfl, rfl, rfl, rfl, rfl, rfl, rfl, rfl, trivial⟩ ?_
        refine rw_end ?_
        refine cw_cond rfl (fun h2 => ?_) (fun h2 => ?_)
        · have hub : ub = false := by simpa using h2
          subst hub
          obtain ⟨q, sq, uq, eq⟩ : ∃ p s1' b1', funcR (s.drop at_, false) = (p, s1', b1') := ⟨_, _, _, rfl⟩
          have hnx : funcsR (n.toNat - (i + 1)) (sq, uq) (acc ++ [q]) = (F, s2, b2) := by
            rw [show n.toNat - i = (n.toNat - (i + 1)) + 1 from by omega, funcsR, eq] at hj1
            simpa using hj1
          have hbad : uq = true → decodeP s = ([], 1) := by
            intro h
            rw [h, funcsR_short] at hnx
            simp only [Prod.mk.injEq] at hnx
            rw [key, if_pos (.inl hnx.2.2.symm)]
          obtain ⟨p, t1, u1, f1⟩ : ∃ p s1 b1, oneR (s.drop at_, false) = (p, s1, b1) := ⟨_, _, _, rfl⟩
          obtain ⟨m, t2, u2, f2⟩ : ∃ p s1' b1', oneR (t1, u1) = (p, s1', b1') := ⟨_, _, _, rfl⟩
          obtain ⟨L, t3, u3, f3⟩ : ∃ p s1' b1', localsR m.toNat (t2, u2) [] = (p, s1', b1') := ⟨_, _, _, rfl⟩
          obtain ⟨t, t4, u4, f4⟩ : ∃ p s1' b1', oneR (t3, u3) = (p, s1', b1') := ⟨_, _, _, rfl⟩
          obtain ⟨x, t5, u5, f5⟩ : ∃ p s1' b1', oneR (t4, u4) = (p, s1', b1') := ⟨_, _, _, rfl⟩
          obtain ⟨y, t6, u6, f6⟩ : ∃ p s1' b1', oneR (t5, u5) = (p, s1', b1') := ⟨_, _, _, rfl⟩
          obtain ⟨c, t7, u7, f7⟩ : ∃ p s1' b1', takeR (t6, u6) (x * 256 + y) = (p, s1', b1') := ⟨_, _, _, rfl⟩
          have hfun : funcR (s.drop at_, false) = (⟨p, L, t, (decodeOps c).1⟩, t7, u7 || !decide ((decodeOps c).2 = 0)) := by
            unfold funcR
            simp only [f1, f2, f3, f4, f5, f6, f7]
            simp
          rw [eq] at hfun
          simp only [Prod.mk.injEq] at hfun
          obtain ⟨hq1, hq2, hq3⟩ := hfun
          have k1 := oneR_bd f1
          have k2 := oneR_bd f2
          have k3 := localsR_bd _ _ _ _ _ _ _ f3
          have k4 := oneR_bd f4
          have k5 := oneR_bd f5
          have k6 := oneR_bd f6
          have k7 := takeR_bd f7
          rw [List.length_nil] at k3
          rw [List.length_drop] at k1
          refine cw_skip (xw_then ?_)
          refine cw_seq ?_
          refine cw_block ?_
          refine cw_seq ?_
          refine cw_region ?_
          refine rw_op (ot_alloc Try.zeroValue54 rfl rfl) rfl rfl (fun g6 _ => ?_)
          refine rw_end ?_
          refine cw_seq ?_
          refine cw_region ?_
          refine rw_run tab_ok 1 [(1, _), (2, _), (4, _), (5, _), (6, _), (7, _), (8, _), (9, _), (10, _), (32, _)] rfl ⟨rfl, rfl, rfl, rfl, rfl, rfl, rfl, rfl, rfl, rfl, trivial⟩ ?_
          refine rw_op (ot_callK rfl rfl rfl Try.call44 (fun w hw => rone_eq g3 g1 g4 s at_ f1 hj2 hl w (hw.msub (.s fc (.s fc (.s fc .r)))))) rfl rfl (fun c1 hc1 => ?_)
          refine rw_run tab_ok 1 [(1, _), (2, _), (4, _), (5, _), (6, _), (7, _), (8, _), (9, _), (10, _), (33, _), (34, _)] rfl ⟨rfl, rfl, rfl, rfl, rfl, rfl, rfl, rfl, rfl, rfl, rfl, trivial⟩ ?_
          refine rw_op (ot_stb _ fc Try.sizeOf3 rfl rfl rfl rfl rfl (by rfl) rfl (by rfl)) rfl rfl (fun _ _ => ?_)
          refine rw_end ?_
          refine cw_seq ?_
          refine cw_region ?_
          refine rw_run tab_ok 1 [(1, _), (2, _), (4, _), (5, _), (6, _), (7, _), (8, _), (9, _), (10, _), (35, _)] rfl ⟨rfl, rfl, rfl, rfl, rfl, rfl, rfl, rfl, rfl, rfl, trivial⟩ ?_
          obtain ⟨hc1, hc1l⟩ : s.drop c1 = t1 ∧ c1 ≤ s.length := hc1
          rw [← hc1] at f2
          refine rw_op (ot_callK rfl rfl rfl Try.call44 (fun w hw => rone_eq g3 g1 g4 s c1 f2 hc1l hl w (hw.msub (.s fc (.s fc (.s fc .r)))))) rfl rfl (fun c2 hc2 => ?_)
          refine rw_run tab_ok 1 [(1, _), (2, _), (4, _), (5, _), (6, _), (7, _), (8, _), (9, _), (10, _), (11, _)] rfl ⟨rfl, rfl, rfl, rfl, rfl, rfl, rfl, rfl, rfl, rfl, trivial⟩ ?_
          refine rw_end ?_
          refine cw_seq ?_
          refine cw_seq ?_
          refine cw_region ?_
          refine rw_run tab_ok 1 [(1, _), (2, _), (4, _), (5, _), (6, _), (7, _), (8, _), (9, _), (10, _), (11, _), (12, _)] rfl ⟨rfl, rfl, rfl, rfl, rfl, rfl, rfl, rfl, rfl, rfl, rfl, trivial⟩ ?_
          refine rw_end ?_
          obtain ⟨hc2, hc2l⟩ : s.drop c2 = t2 ∧ c2 ≤ s.length := hc2
          rw [← hc2] at f3
          refine cw_cutk (fun g : Nat × Option Addr × Nat => s.drop g.1 = t3 ∧ g.1 ≤ s.length) (fun g => [(1, .pointer (some ⟨g1, 0, none⟩)), (2, .pointer (some ⟨g2, 0, none⟩)), (4, .pointer (some ⟨g3, 0, none⟩)), (5, .pointer (some ⟨g4, 0, none⟩)), (6, .func (.func 44) #[] #[.pointer (some ⟨g3, 0, none⟩), .pointer (some ⟨g1, 0, none⟩), .pointer (some ⟨g4, 0, none⟩)]), (7, .pointer (some ⟨g5, 0, none⟩)), (8, .int .i64 n), (9, .int .i64 (i : Int)), (10, .pointer (some ⟨g6, 0, none⟩))]) (fun g => [RBox g3 [.int .i64 (g.1 : Int)] 3, RBox g1 [.string ⟨s.toArray⟩] 9, RBox g4 [.bool (!u3)] 4, RBox g5 [.slice Aj acc.length cj] 24, ROw (.slice Aj acc.length cj) acc, RBox g2 [.slice none 0 0] 24, RBox g6 [.int .i64 p, .slice g.2.1 L.length g.2.2, .int .i64 0, .slice none 0 0] 54, ROw (.slice g.2.1 L.length g.2.2) L]) ?_ ?_
          · refine cw_mem (fun w h => Cw.nilO Int h) ?_
            refine cw_block (cw_loop (fun g : Nat × Nat × Bool × List Int × Option Addr × Nat => (localsR (m.toNat - g.1) (s.drop g.2.1, g.2.2.1) g.2.2.2.1 = (L, t3, u3) ∧ g.2.1 ≤ s.length) ∧ (g.1 ≤ m.toNat ∧ g.2.2.2.1.length + (m.toNat - g.1) ≤ 255)) (fun g => m.toNat - g.1) (fun g => [(1, .pointer (some ⟨g1, 0, none⟩)), (2, .pointer (some ⟨g2, 0, none⟩)), (4, .pointer (some ⟨g3, 0, none⟩)), (5, .pointer (some ⟨g4, 0, none⟩)), (6, .func (.func 44) #[] #[.pointer (some ⟨g3, 0, none⟩), .pointer (some ⟨g1, 0, none⟩), .pointer (some ⟨g4, 0, none⟩)]), (7, .pointer (some ⟨g5, 0, none⟩)), (8, .int .i64 n), (9, .int .i64 (i : Int)), (10, .pointer (some ⟨g6, 0, none⟩)), (11, .int .i64 m), (12, .int .i64 (g.1 : Int))]) (fun g => [RBox g3 [.int .i64 (g.2.1 : Int)] 3, RBox g1 [.string ⟨s.toArray⟩] 9, RBox g4 [.bool (!g.2.2.1)] 4, RBox g5 [.slice Aj acc.length cj] 24, ROw (.slice Aj acc.length cj) acc, RBox g2 [.slice none 0 0] 24, RBox g6 [.int .i64 p, .slice g.2.2.2.2.1 g.2.2.2.1.length g.2.2.2.2.2, .int .i64 0, .slice none 0 0] 54, ROw (.slice g.2.2.2.2.1 g.2.2.2.1.length g.2.2.2.2.2) g.2.2.2.1]) (0, c2, u2, [], none, 0) (⟨⟨by show localsR (m.toNat - 0) _ _ = _; exact f3, hc2l⟩, ⟨Nat.zero_le _, by show 0 + (m.toNat - 0) ≤ _; omega⟩⟩) ⟨rfl, rfl, rfl, rfl, rfl, rfl, rfl, rfl, rfl, rfl, rfl, trivial⟩ me ?_)
            rintro ⟨j, bt, vb, ac2, Al, cl⟩ hl'
            try dsimp only
            obtain ⟨⟨hl1, hl2⟩, hl3, hl4⟩ : (localsR (m.toNat - j) (s.drop bt, vb) ac2 = (L, t3, u3) ∧ bt ≤ s.length) ∧ (j ≤ m.toNat ∧ ac2.length + (m.toNat - j) ≤ 255) := hl'
            refine cw_seq ?_
            refine cw_seq ?_
            refine cw_region ?_
            refine rw_run tab_ok 4 [(1, _), (2, _), (4, _), (5, _), (6, _), (7, _), (8, _), (9, _), (10, _), (11, _), (12, _), (40, _)] rfl ⟨rfl, rfl, rfl, rfl, rfl, rfl, rfl, rfl, rfl, rfl, rfl, rfl, trivial⟩ ?_
            refine rw_split (t := 40) rfl (fun h3 => ?_) (fun h3 => ?_)
            · have h3 := of_decide_eq_true h3
              refine rw_s (qs_ldb fc Try.isAgg4 rfl rfl (by rfl)) rfl rfl ?_
              refine rw_run tab_ok 1 [(1, _), (2, _), (4, _), (5, _), (6, _), (7, _), (8, _), (9, _), (10, _), (11, _), (12, _), (42, _)] rfl ⟨rfl, rfl, rfl, rfl, rfl, rfl, rfl, rfl, rfl, rfl, rfl, rfl, trivial⟩ ?_
              refine rw_end ?_
              refine cw_cond rfl (fun h4 => ?_) (fun h4 => ?_)
              · have hvb : vb = false := by simpa using h4
                subst hvb
                obtain ⟨z, tz, uz, fz⟩ : ∃ p s1' b1', oneR (s.drop bt, false) = (p, s1', b1') := ⟨_, _, _, rfl⟩
                have dz := oneR_bd fz
                have hnl : localsR (m.toNat - (j + 1)) (tz, uz) (ac2 ++ [z]) = (L, t3, u3) := by
                  rw [show m.toNat - j = (m.toNat - (j + 1)) + 1 from by omega, localsR, fz] at hl1
                  simpa using hl1
                refine cw_skip (xw_then ?_)
                refine cw_seq ?_
                refine cw_block ?_
                refine cw_drawq (.still 0 (.still 1 (.still 2 (.pick 3 (.pick 4 (.pick 5 (.still 6 (.pick 7 .done .stop)) .stop) .stop) .stop)))) [7] rfl (by kernel_rfl) (by kernel_rfl) [RBox g6 [.int .i64 p, .slice Al ac2.length cl, .int .i64 0, .slice none 0 0] 54] ?_
                refine ro_run tab_ok ha 1 [(1, _), (2, _), (4, _), (5, _), (6, _), (7, _), (8, _), (9, _), (10, _), (11, _), (12, _), (45, _)] rfl ⟨rfl, rfl, rfl, rfl, rfl, rfl, rfl, rfl, rfl, rfl, rfl, rfl, trivial⟩ ?_
                refine ro_s2 rfl (qs_ldb fc Try.isAgg35 rfl rfl (by rfl)) rfl rfl ha ?_
                refine ro_run tab_ok ha 1 [(1, _), (2, _), (4, _), (5, _), (6, _), (7, _), (8, _), (9, _), (10, _), (11, _), (12, _), (46, _), (47, _)] rfl ⟨rfl, rfl, rfl, rfl, rfl, rfl, rfl, rfl, rfl, rfl, rfl, rfl, rfl, trivial⟩ ?_
                refine ro_op2 rfl (ot_callK rfl rfl rfl Try.call44 (fun w hw => rone_eq g3 g1 g4 s bt fz hl2 hl w (hw.msub (.s fc (.s fc (.s fc .r)))))) rfl rfl (.inr fun _ => ha) (fun cz hcz => ?_) ro_stop
                refine ro_op2 rfl (ot_bsl (cs := [_]) Try.underlying35 Try.sizeOf3 Try.zeroValue3 rfl rfl rfl rfl rfl) rfl rfl (.inr fun _ => ha) (fun g7 _ => ?_) ro_stop
                obtain ⟨hcz, hczl⟩ : s.drop cz = tz ∧ cz ≤ s.length := hcz
                refine ro_op2 rfl (ot_app1 (α := Int) (bytes := 8) z [] rfl Try.underlying35 (info_ex Try.inI) rfl (perm2 fc fc) (hel_flat ⟨by omega, by omega⟩) (by omega) (by omega) rfl rfl rfl) rfl rfl (.inr fun _ => ha) (fun ⟨A5, c5⟩ _ => ?_) ro_stop
                try dsimp only
                refine ro_run tab_ok ha 1 [(1, _), (2, _), (4, _), (5, _), (6, _), (7, _), (8, _), (9, _), (10, _), (11, _), (12, _), (50, _), (51, _)] rfl ⟨rfl, rfl, rfl, rfl, rfl, rfl, rfl, rfl, rfl, rfl, rfl, rfl, rfl, trivial⟩ ?_
                refine ro_op2 rfl (ot_stb _ fc Try.sizeOf35 rfl rfl rfl rfl rfl (by rfl) rfl (by rfl)) rfl rfl (.inl rfl) (fun _ _ => ?_) ro_stop
                refine ro_endx (xw_blkn (xw_then ?_))
                refine cw_region ?_
                refine rw_run tab_ok 1 [(1, _), (2, _), (4, _), (5, _), (6, _), (7, _), (8, _), (9, _), (10, _), (11, _), (43, _)] rfl ⟨rfl, rfl, rfl, rfl, rfl, rfl, rfl, rfl, rfl, rfl, rfl, trivial⟩ ?_
                refine rw_s (qs_add rfl rfl rfl (by omega)) rfl rfl ?_
                refine rw_run tab_ok 1 [(1, _), (2, _), (4, _), (5, _), (6, _), (7, _), (8, _), (9, _), (10, _), (11, _), (12, _)] rfl ⟨rfl, rfl, rfl, rfl, rfl, rfl, rfl, rfl, rfl, rfl, rfl, trivial⟩ ?_
                refine rw_round (j + 1, cz, uz, ac2 ++ [z], A5, c5) (⟨⟨by show localsR (m.toNat - (j + 1)) (s.drop cz, uz) _ = _; rw [hcz]; exact hnl, hczl⟩, ⟨by show j + 1 ≤ _; omega, by show (ac2 ++ [z]).length + (m.toNat - (j + 1)) ≤ _; rw [List.length_append, List.length_singleton]; omega⟩⟩) (by show m.toNat - (j + 1) < m.toNat - j; omega) ⟨rfl, rfl, rfl, rfl, rfl, rfl, rfl, rfl, rfl, rfl, rfl, trivial⟩ me
              · have hvb : vb = true := by simpa using h4
                subst hvb
                have hx : localsR (m.toNat - j) (s.drop bt, true) ac2 = (ac2, s.drop bt, true) := by
                  rw [show m.toNat - j = (m.toNat - (j + 1)) + 1 from by omega, localsR]; rfl
                rw [hx] at hl1
                simp only [Prod.mk.injEq] at hl1
                obtain ⟨rfl, hl5, rfl⟩ := hl1
                refine cw_exit (xw_thenx (xw_thenx (xw_blk ?_)))
                refine xw_join (bt, Al, cl) (⟨hl5, hl2⟩) ⟨rfl, rfl, rfl, rfl, rfl, rfl, rfl, rfl, rfl, trivial⟩ me
            · have h3 := of_decide_eq_false h3
              have hx : localsR (m.toNat - j) (s.drop bt, vb) ac2 = (ac2, s.drop bt, vb) := by
                rw [show m.toNat - j = 0 from by omega]; rfl
              rw [hx] at hl1
              simp only [Prod.mk.injEq] at hl1
              obtain ⟨rfl, hl5, rfl⟩ := hl1
              refine rw_run tab_ok 2 [(1, _), (2, _), (4, _), (5, _), (6, _), (7, _), (8, _), (9, _), (10, _), (11, _), (12, _), (42, _)] rfl ⟨rfl, rfl, rfl, rfl, rfl, rfl, rfl, rfl, rfl, rfl, rfl, rfl, trivial⟩ ?_
              refine rw_end ?_
              refine cw_cond_f rfl ?_
              refine cw_exit (xw_thenx (xw_thenx (xw_blk ?_)))
              refine xw_join (bt, Al, cl) (⟨hl5, hl2⟩) ⟨rfl, rfl, rfl, rfl, rfl, rfl, rfl, rfl, rfl, trivial⟩ me
          · rintro ⟨c3, Al, cl⟩ hc3
            obtain ⟨hc3, hc3l⟩ : s.drop c3 = t3 ∧ c3 ≤ s.length := hc3
            try dsimp only
            rw [← hc3] at f4
            refine cw_seq ?_
            refine cw_region ?_
            refine rw_run tab_ok 1 [(1, _), (2, _), (4, _), (5, _), (6, _), (7, _), (8, _), (9, _), (10, _), (52, _)] rfl ⟨rfl, rfl, rfl, rfl, rfl, rfl, rfl, rfl, rfl, rfl, trivial⟩ ?_
            refine rw_op (ot_callK rfl rfl rfl Try.call44 (fun w hw => rone_eq g3 g1 g4 s c3 f4 hc3l hl w (hw.msub (.s fc (.s fc (.s fc .r)))))) rfl rfl (fun c4 hc4 => ?_)
            refine rw_run tab_ok 1 [(1, _), (2, _), (4, _), (5, _), (6, _), (7, _), (8, _), (9, _), (10, _), (53, _), (54, _)] rfl ⟨rfl, rfl, rfl, rfl, rfl, rfl, rfl, rfl, rfl, rfl, rfl, trivial⟩ ?_
            refine rw_op (ot_stb _ fc Try.sizeOf3 rfl rfl rfl rfl rfl (by rfl) rfl (by rfl)) rfl rfl (fun _ _ => ?_)
            refine rw_end ?_
            refine cw_seq ?_
            refine cw_region ?_
            refine rw_run tab_ok 1 [(1, _), (2, _), (4, _), (5, _), (6, _), (7, _), (8, _), (9, _), (10, _), (55, _)] rfl ⟨rfl, rfl, rfl, rfl, rfl, rfl, rfl, rfl, rfl, rfl, trivial⟩ ?_
            obtain ⟨hc4, hc4l⟩ : s.drop c4 = t4 ∧ c4 ≤ s.length := hc4
            rw [← hc4] at f5
            refine rw_op (ot_callK rfl rfl rfl Try.call44 (fun w hw => rone_eq g3 g1 g4 s c4 f5 hc4l hl w (hw.msub (.s fc (.s fc (.s fc .r)))))) rfl rfl (fun c5 hc5 => ?_)
            refine rw_s (qs_mul rfl rfl rfl (by omega)) rfl rfl ?_
            refine rw_run tab_ok 1 [(1, _), (2, _), (4, _), (5, _), (6, _), (7, _), (8, _), (9, _), (10, _), (13, _)] rfl ⟨rfl, rfl, rfl, rfl, rfl, rfl, rfl, rfl, rfl, rfl, trivial⟩ ?_
            refine rw_end ?_
            refine cw_seq ?_
            refine cw_region ?_
            refine rw_run tab_ok 2 [(1, _), (2, _), (4, _), (5, _), (6, _), (7, _), (8, _), (9, _), (10, _), (58, _), (59, _)] rfl ⟨rfl, rfl, rfl, rfl, rfl, rfl, rfl, rfl, rfl, rfl, rfl, trivial⟩ ?_
            obtain ⟨hc5, hc5l⟩ : s.drop c5 = t5 ∧ c5 ≤ s.length := hc5
            rw [← hc5] at f6
            refine rw_op (ot_callK rfl rfl rfl Try.call44 (fun w hw => rone_eq g3 g1 g4 s c5 f6 hc5l hl w (hw.msub (.s fc (.s fc (.s fc .r)))))) rfl rfl (fun c6 hc6 => ?_)
            refine rw_s (qs_add rfl rfl rfl (by omega)) rfl rfl ?_
            refine rw_run tab_ok 1 [(1, _), (2, _), (4, _), (5, _), (6, _), (7, _), (8, _), (9, _), (10, _), (13, _)] rfl ⟨rfl, rfl, rfl, rfl, rfl, rfl, rfl, rfl, rfl, rfl, trivial⟩ ?_
            refine rw_end ?_
            refine cw_seq ?_
            refine cw_seq ?_
            refine cw_region ?_
            refine rw_s (qs_ldb fc Try.isAgg4 rfl rfl (by rfl)) rfl rfl ?_
            refine rw_run tab_ok 2 [(1, _), (2, _), (4, _), (5, _), (6, _), (7, _), (8, _), (9, _), (10, _), (13, _), (64, _)] rfl ⟨rfl, rfl, rfl, rfl, rfl, rfl, rfl, rfl, rfl, rfl, rfl, trivial⟩ ?_
            obtain ⟨hc6, hc6l⟩ : s.drop c6 = t6 ∧ c6 ≤ s.length := hc6
            rw [← hc6] at f7
            refine rw_split (t := 64) rfl (fun h5 => ?_) (fun h5 => ?_)
            · have h5 : u6 = true := by simpa using h5
              subst h5
              refine rw_run tab_ok 7 [(1, _), (2, _), (4, _), (5, _), (6, _), (7, _), (8, _), (9, _), (10, _), (13, _), (71, _)] rfl ⟨rfl, rfl, rfl, rfl, rfl, rfl, rfl, rfl, rfl, rfl, rfl, trivial⟩ ?_
              refine rw_end ?_
              refine cw_cond_t rfl ?_
              refine cw_seq ?_
              refine cw_region ?_
              refine rw_s (qs_bst (cs := [_]) plT24 Try.zeroValue24 rfl rfl (by rfl)) rfl rfl ?_
              refine rw_op (ot_stb _ fc Try.sizeOf24 rfl rfl rfl rfl rfl (by rfl) rfl (by rfl)) rfl rfl (fun _ _ => ?_)
              refine rw_run tab_ok 1 [(2, _), (3, _)] rfl ⟨rfl, rfl, trivial⟩ ?_
              refine rw_end ?_
              refine cw_ret (xw_thenr (xw_blkr (xw_thenr (xw_thenr (xw_blkr (xw_thenr ?_))))))
              refine xw_ret2 Try.results14 (rv_box (cs := [_]) fc Try.isAgg24 Try.sizeOf24 rfl) (rv_tmp rfl) ?_
              intro w hw
              rw [hbad (by rw [hq3, takeR_sh f7]; rfl)]
              exact ⟨_, rfl, nil_ret hw⟩
            · have h5 : u6 = false := by simpa using h5
              subst h5
              refine rw_s (qs_ldb fc Try.isAgg9 rfl rfl (by rfl)) rfl rfl ?_
              refine rw_s (qs_lenS Try.underlying9 rfl rfl) rfl rfl ?_
              refine rw_s (qs_ldb fc Try.isAgg3 rfl rfl (by rfl)) rfl rfl ?_
              refine rw_s (qs_sub rfl rfl rfl (by omega)) rfl rfl ?_
              refine rw_run tab_ok 3 [(1, _), (2, _), (4, _), (5, _), (6, _), (7, _), (8, _), (9, _), (10, _), (13, _), (71, _)] rfl ⟨rfl, rfl, rfl, rfl, rfl, rfl, rfl, rfl, rfl, rfl, rfl, trivial⟩ ?_
              refine rw_end ?_
              refine cw_condD rfl (fun h6 => ?_) (fun h6 => ?_)
              · have hn := takeR_no (s := s.drop c6) (sh := false) (n := x * 256 + y) (by rw [List.length_drop]; omega)
                rw [hn] at f7
                simp only [Prod.mk.injEq] at f7
                refine cw_seq ?_
                refine cw_region ?_
                refine rw_s (qs_bst (cs := [_]) plT24 Try.zeroValue24 rfl rfl (by rfl)) rfl rfl ?_
                refine rw_op (ot_stb _ fc Try.sizeOf24 rfl rfl rfl rfl rfl (by rfl) rfl (by rfl)) rfl rfl (fun _ _ => ?_)
                refine rw_run tab_ok 1 [(2, _), (3, _)] rfl ⟨rfl, rfl, trivial⟩ ?_
                refine rw_end ?_
                refine cw_ret (xw_thenr (xw_blkr (xw_thenr (xw_thenr (xw_blkr (xw_thenr ?_))))))
                refine xw_ret2 Try.results14 (rv_box (cs := [_]) fc Try.isAgg24 Try.sizeOf24 rfl) (rv_tmp rfl) ?_
                intro w hw
                rw [hbad (by rw [hq3, ← f7.2.2]; rfl)]
                exact ⟨_, rfl, nil_ret hw⟩
              · obtain ⟨M, hM⟩ : ∃ M : Nat, x * 256 + y = (M : Int) := ⟨(x * 256 + y).toNat, by omega⟩
                have hle : M ≤ (s.drop c6).length := by rw [List.length_drop]; omega
                rw [hM, takeR_of hle] at f7
                simp only [Prod.mk.injEq] at f7
                obtain ⟨hcc, hcd, rfl⟩ := f7
                refine cw_skip (xw_then ?_)
                refine cw_seq ?_
                refine cw_region ?_
                refine rw_s (qs_ldb fc Try.isAgg9 rfl rfl (by rfl)) rfl rfl ?_
                refine rw_s (qs_ldb fc Try.isAgg3 rfl rfl (by rfl)) rfl rfl ?_
                refine rw_s (qs_ldb fc Try.isAgg3 rfl rfl (by rfl)) rfl rfl ?_
                refine rw_run tab_ok 1 [(1, _), (2, _), (4, _), (5, _), (6, _), (7, _), (8, _), (9, _), (10, _), (13, _), (74, _), (75, _), (76, _), (77, _)] rfl ⟨rfl, rfl, rfl, rfl, rfl, rfl, rfl, rfl, rfl, rfl, rfl, rfl, rfl, rfl, trivial⟩ ?_
                refine rw_s (qs_add rfl rfl rfl (by omega)) rfl rfl ?_
                refine rw_as (t := 78) (v' := .int .i64 ((c6 + M : Nat) : Int)) rfl (by congr 1; omega) ?_
                refine rw_s (qs_sliceS (lo := c6) (hi := c6 + M) Try.underlying9 ⟨by omega, by rw [List.length_drop] at hle; omega⟩ rfl rfl rfl rfl) rfl rfl ?_
                refine rw_as (t := 79) (v' := .string ⟨c.toArray⟩) rfl (by rw [show c6 + M - c6 = M from by omega, hcc]) ?_
                refine rw_op (ot_cO rfl rfl rfl Try.call45 (fun w hw => rcodeOf_own c w (by omega))) rfl rfl (fun ⟨A8, c8⟩ _ => ?_)
                try dsimp only
                refine rw_run tab_ok 5 [(1, _), (2, _), (4, _), (5, _), (6, _), (7, _), (8, _), (9, _), (10, _), (13, _), (14, _), (15, _)] rfl ⟨rfl, rfl, rfl, rfl, rfl, rfl, rfl, rfl, rfl, rfl, rfl, rfl, trivial⟩ ?_
                refine rw_end ?_
                refine cw_seq ?_
                refine cw_seq ?_
                refine cw_region ?_
                refine rw_run tab_ok 2 [(1, _), (2, _), (4, _), (5, _), (6, _), (7, _), (8, _), (9, _), (10, _), (13, _), (14, _), (84, _)] rfl ⟨rfl, rfl, rfl, rfl, rfl, rfl, rfl, rfl, rfl, rfl, rfl, rfl, trivial⟩ ?_
                refine rw_end ?_
                refine cw_condN rfl (fun h7 => ?_) (fun h7 => ?_)
                · refine cw_seq ?_
                  refine cw_region ?_
                  refine rw_s (qs_bst (cs := [_]) plT24 Try.zeroValue24 rfl rfl (by rfl)) rfl rfl ?_
                  refine rw_op (ot_stb _ fc Try.sizeOf24 rfl rfl rfl rfl rfl (by rfl) rfl (by rfl)) rfl rfl (fun _ _ => ?_)
                  refine rw_run tab_ok 1 [(2, _), (3, _)] rfl ⟨rfl, rfl, trivial⟩ ?_
                  refine rw_end ?_
                  refine cw_ret (xw_thenr (xw_blkr (xw_thenr (xw_thenr (xw_blkr (xw_thenr ?_))))))
                  refine xw_ret2 Try.results14 (rv_box (cs := [_]) fc Try.isAgg24 Try.sizeOf24 rfl) (rv_tmp rfl) ?_
                  intro w hw
                  rw [hbad (by rw [hq3, decide_eq_false h7]; rfl)]
                  exact ⟨_, rfl, nil_ret hw⟩
                · have h7 : (decodeOps c).2 = 0 := by simpa using h7
                  have huq : uq = false := by rw [hq3, decide_eq_true h7]; rfl
                  subst hq1
                  have hi64 : I64 p ∧ I64 t := ⟨⟨by omega, by omega⟩, ⟨by omega, by omega⟩⟩
                  refine cw_skip (xw_then ?_)
                  refine cw_seq ?_
                  refine cw_region ?_
                  refine rw_run tab_ok 2 [(1, _), (2, _), (4, _), (5, _), (6, _), (7, _), (8, _), (9, _), (10, _), (13, _), (86, _), (87, _)] rfl ⟨rfl, rfl, rfl, rfl, rfl, rfl, rfl, rfl, rfl, rfl, rfl, rfl, trivial⟩ ?_
                  refine rw_op (ot_stb _ fc Try.sizeOf52 rfl rfl rfl rfl rfl (by rfl) rfl (by rfl)) rfl rfl (fun _ _ => ?_)
                  refine rw_end ?_
                  refine cw_seq ?_
                  refine cw_region ?_
                  refine rw_s (qs_ldb fc Try.isAgg3 rfl rfl (by rfl)) rfl rfl ?_
                  refine rw_run tab_ok 1 [(1, _), (2, _), (4, _), (5, _), (6, _), (7, _), (8, _), (9, _), (10, _), (88, _), (89, _)] rfl ⟨rfl, rfl, rfl, rfl, rfl, rfl, rfl, rfl, rfl, rfl, rfl, trivial⟩ ?_
                  refine rw_s (qs_add rfl rfl rfl (by omega)) rfl rfl ?_
                  refine rw_op (ot_stb _ fc Try.sizeOf3 rfl rfl rfl rfl rfl (by rfl) rfl (by rfl)) rfl rfl (fun _ _ => ?_)
                  refine rw_end ?_
                  refine cw_region ?_
                  refine rw_run tab_ok 1 [(1, _), (2, _), (4, _), (5, _), (6, _), (7, _), (8, _), (9, _), (10, _), (91, _)] rfl ⟨rfl, rfl, rfl, rfl, rfl, rfl, rfl, rfl, rfl, rfl, trivial⟩ ?_
                  refine rw_s (qs_ldb fc Try.isAgg22 rfl rfl (by rfl)) rfl rfl ?_
                  refine rw_s (qs_ldbA (vs := [_, _, _, _]) fc Try.isAgg54 Try.sizeOf54 rfl rfl (by rfl) rfl) rfl rfl ?_
                  refine rw_op (ot_bsl (cs := [_, _, _, _]) Try.underlying22 Try.sizeOf54 Try.zeroValue54 rfl rfl rfl rfl rfl) rfl rfl (fun g8 _ => ?_)
                  refine rw_op (ot_app1 (α := MFunc) (bytes := 64) ⟨p, L, t, (decodeOps c).1⟩ [ROw (.slice Al L.length cl) L, ROw (.slice A8 (decodeOps c).1.length c8) (decodeOps c).1] rfl Try.underlying22 (info_ex Try.inFunc) rfl (perm4 fc fc fc fc) (hel_fn (f := ⟨p, L, t, (decodeOps c).1⟩) hi64) (by omega) (by omega) rfl rfl rfl) rfl rfl (fun ⟨A9, c9⟩ _ => ?_)
                  try dsimp only
                  refine rw_run tab_ok 1 [(1, _), (2, _), (4, _), (5, _), (6, _), (7, _), (8, _), (9, _), (95, _), (96, _)] rfl ⟨rfl, rfl, rfl, rfl, rfl, rfl, rfl, rfl, rfl, rfl, trivial⟩ ?_
                  refine rw_op (ot_stb _ fc Try.sizeOf22 rfl rfl rfl rfl rfl (by rfl) rfl (by rfl)) rfl rfl (fun _ _ => ?_)
                  refine rw_endx (xw_blkn (xw_then ?_))
                  refine cw_region ?_
                  refine rw_run tab_ok 1 [(1, _), (2, _), (4, _), (5, _), (6, _), (7, _), (8, _), (30, _)] rfl ⟨rfl, rfl, rfl, rfl, rfl, rfl, rfl, rfl, trivial⟩ ?_
                  refine rw_s (qs_add rfl rfl rfl (by omega)) rfl rfl ?_
                  refine rw_run tab_ok 1 [(1, _), (2, _), (4, _), (5, _), (6, _), (7, _), (8, _), (9, _)] rfl ⟨rfl, rfl, rfl, rfl, rfl, rfl, rfl, rfl, trivial⟩ ?_
                  refine rw_round (i + 1, c6 + M, uq, acc ++ [⟨p, L, t, (decodeOps c).1⟩], A9, c9) (⟨⟨by show funcsR (n.toNat - (i + 1)) (s.drop (c6 + M), uq) _ = _; rw [← List.drop_drop, hcd, ← hq2]; exact hnx, by show c6 + M ≤ _; rw [List.length_drop] at hle; omega⟩, ⟨by show i + 1 ≤ _; omega, by show (acc ++ [_]).length + (n.toNat - (i + 1)) ≤ _; rw [List.length_append, List.length_singleton]; omega⟩⟩) (by show n.toNat - (i + 1) < n.toNat - i; omega) ⟨rfl, rfl, rfl, rfl, rfl, rfl, rfl, rfl, trivial⟩ (fun w h => by rw [show (c6 : Int) + (256 * x + y) = ((c6 + M : Nat) : Int) from by omega] at h; rw [huq]; exact h.msub ms)
        · have hub : ub = true := by simpa using h2
          subst hub
          rw [funcsR_short] at hj1
          simp only [Prod.mk.injEq] at hj1
          obtain ⟨rfl, hj5, rfl⟩ := hj1
          refine cw_exit (xw_thenx (xw_thenx (xw_blk ?_)))
          refine xw_join (at_, Aj, cj) (⟨hj5, hj2⟩) ⟨rfl, rfl, rfl, rfl, rfl, trivial⟩ me
      · have h1 := of_decide_eq_false h1
        have hx : funcsR (n.toNat - i) (s.drop at_, ub) acc = (acc, s.drop at_, ub) := by
          rw [show n.toNat - i = 0 from by omega]; rfl
        rw [hx] at hj1
        simp only [Prod.mk.injEq] at hj1
        obtain ⟨rfl, hj5, rfl⟩ := hj1
        refine rw_run tab_ok 2 [(1, _), (2, _), (4, _), (5, _), (6, _), (7, _), (8, _), (9, _), (29, _)] rfl ⟨rfl, rfl, rfl, rfl, rfl, rfl, rfl, rfl, rfl, trivial⟩ ?_
        refine rw_end ?_
        refine cw_cond_f rfl ?_
        refine cw_exit (xw_thenx (xw_thenx (xw_blk ?_)))
        refine xw_join (at_, Aj, cj) (⟨hj5, hj2⟩) ⟨rfl, rfl, rfl, rfl, rfl, trivial⟩ me
    · rintro ⟨a9, A3, c3⟩ ha9
      obtain ⟨ha9, ha9l⟩ : s.drop a9 = s2 ∧ a9 ≤ s.length := ha9
      try dsimp only
      have hne : s2 ≠ [] ↔ a9 < s.length := by
        rw [← ha9]
        constructor
        · intro h
          rcases Nat.lt_or_ge a9 s.length with h' | h'
          · exact h'
          · exact absurd (List.drop_of_length_le h') h
        · intro h e
          have := congrArg List.length e
          rw [List.length_drop, List.length_nil] at this
          omega
      refine cw_seq ?_
      refine cw_seq ?_
      refine cw_region ?_
      refine rw_s (qs_ldb fc Try.isAgg4 rfl rfl (by rfl)) rfl rfl ?_
      refine rw_run tab_ok 2 [(1, _), (2, _), (4, _), (7, _), (99, _)] rfl ⟨rfl, rfl, rfl, rfl, rfl, trivial⟩ ?_
      refine rw_split (t := 99) rfl (fun h1 => ?_) (fun h1 => ?_)
      · have h1 : b2 = true := by simpa using h1
        refine rw_run tab_ok 5 [(2, _), (7, _), (104, _)] rfl ⟨rfl, rfl, rfl, trivial⟩ ?_
        refine rw_end ?_
        refine cw_cond_t rfl ?_
        refine cw_seq ?_
        refine cw_region ?_
        refine rw_s (qs_bst (cs := [_]) plT24 Try.zeroValue24 rfl rfl (by rfl)) rfl rfl ?_
        refine rw_op (ot_stb _ fc Try.sizeOf24 rfl rfl rfl rfl rfl (by rfl) rfl (by rfl)) rfl rfl (fun _ _ => ?_)
        refine rw_run tab_ok 1 [(2, _), (3, _)] rfl ⟨rfl, rfl, trivial⟩ ?_
        refine rw_end ?_
        refine cw_ret (xw_thenr ?_)
        refine xw_ret2 Try.results14 (rv_box (cs := [_]) fc Try.isAgg24 Try.sizeOf24 rfl) (rv_tmp rfl) ?_
        intro w hw
        rw [key, if_pos (.inl h1)]
        exact ⟨_, rfl, nil_ret hw⟩
      · have h1 : b2 = false := by simpa using h1
        refine rw_s (qs_ldb fc Try.isAgg3 rfl rfl (by rfl)) rfl rfl ?_
        refine rw_s (qs_ldb fc Try.isAgg9 rfl rfl (by rfl)) rfl rfl ?_
        refine rw_s (qs_lenS Try.underlying9 rfl rfl) rfl rfl ?_
        refine rw_run tab_ok 2 [(2, _), (7, _), (104, _)] rfl ⟨rfl, rfl, rfl, trivial⟩ ?_
        refine rw_end ?_
        refine cw_condD rfl (fun h2 => ?_) (fun h2 => ?_)
        · refine cw_seq ?_
          refine cw_region ?_
          refine rw_s (qs_bst (cs := [_]) plT24 Try.zeroValue24 rfl rfl (by rfl)) rfl rfl ?_
          refine rw_op (ot_stb _ fc Try.sizeOf24 rfl rfl rfl rfl rfl (by rfl) rfl (by rfl)) rfl rfl (fun _ _ => ?_)
          refine rw_run tab_ok 1 [(2, _), (3, _)] rfl ⟨rfl, rfl, trivial⟩ ?_
          refine rw_end ?_
          refine cw_ret (xw_thenr ?_)
          refine xw_ret2 Try.results14 (rv_box (cs := [_]) fc Try.isAgg24 Try.sizeOf24 rfl) (rv_tmp rfl) ?_
          intro w hw
          rw [key, if_pos (.inr (hne.2 (by omega)))]
          exact ⟨_, rfl, nil_ret hw⟩
        · have h12 : ¬ (b2 = true ∨ s2 ≠ []) := by rintro (h | h); (· rw [h1] at h; cases h); (· have := hne.1 h; omega)
          rw [if_neg h12] at key
          refine cw_skip (xw_then ?_)
          refine cw_seq ?_
          refine cw_region ?_
          refine rw_s (qs_ldbA (vs := [_]) fc Try.isAgg24 Try.sizeOf24 rfl rfl (by rfl) rfl) rfl rfl ?_
          refine rw_op (ot_c0 rfl rfl rfl Try.call12 (fun w hw => rcheckP_any A3 c3 F w ((SF.own rfl fc).at_ hw))) rfl rfl (fun _ _ => ?_)
          refine rw_run tab_ok 1 [(2, _), (7, _), (16, _)] rfl ⟨rfl, rfl, rfl, trivial⟩ ?_
          refine rw_end ?_
          refine cw_seq ?_
          refine cw_seq ?_
          refine cw_region ?_
          refine rw_run tab_ok 2 [(2, _), (7, _), (16, _), (109, _)] rfl ⟨rfl, rfl, rfl, rfl, trivial⟩ ?_
          refine rw_end ?_
          refine cw_condN rfl (fun h3 => ?_) (fun h3 => ?_)
          · refine cw_seq ?_
            refine cw_region ?_
            refine rw_s (qs_bst (cs := [_]) plT24 Try.zeroValue24 rfl rfl (by rfl)) rfl rfl ?_
            refine rw_run tab_ok 1 [(2, _), (110, _), (111, _)] rfl ⟨rfl, rfl, rfl, trivial⟩ ?_
            refine rw_op (ot_stb _ fc Try.sizeOf24 rfl rfl rfl rfl rfl (by rfl) rfl (by rfl)) rfl rfl (fun _ _ => ?_)
            refine rw_run tab_ok 1 [(2, _), (3, _)] rfl ⟨rfl, rfl, trivial⟩ ?_
            refine rw_end ?_
            refine cw_ret (xw_thenr ?_)
            refine xw_ret2 Try.results14 (rv_box (cs := [_]) fc Try.isAgg24 Try.sizeOf24 rfl) (rv_tmp rfl) ?_
            intro w hw
            rw [key, if_pos h3]
            exact ⟨_, rfl, nil_ret hw⟩
          · have h3 : checkP F = 0 := by simpa using h3
            refine cw_skip (xw_then ?_)
            refine cw_seq ?_
            refine cw_region ?_
            refine rw_s (qs_ldbA (vs := [_]) fc Try.isAgg24 Try.sizeOf24 rfl rfl (by rfl) rfl) rfl rfl ?_
            refine rw_run tab_ok 1 [(2, _), (112, _), (113, _)] rfl ⟨rfl, rfl, rfl, trivial⟩ ?_
            refine rw_op (ot_stb _ fc Try.sizeOf24 rfl rfl rfl rfl rfl (by rfl) rfl (by rfl)) rfl rfl (fun _ _ => ?_)
            refine rw_run tab_ok 1 [(2, _), (3, _)] rfl ⟨rfl, rfl, trivial⟩ ?_
            refine rw_end ?_
            refine cw_ret ?_
            refine xw_ret2 Try.results14 (rv_box (cs := [_]) fc Try.isAgg24 Try.sizeOf24 rfl) (rv_tmp rfl) ?_
            intro w hw
            rw [key, if_neg (by simpa using h3), h3]
            exact ⟨_, rfl, own_ret (hw.msub ms)⟩
end Go.Proofs.Ytejpkcheimgdfaa

-- W10
/- The walker: a row that was laid, of elements that have memory of their own, is one's own. -/
namespace Go.Proofs.Ytejpkcheimgdfaa
open Go.RowKit

/-- Pieces that make up elements. -/
def Els {α : Type} [Ow α] (Hel : List Res) (cs : List Value) (xs : List α) : Prop := ∀ w F, Hs w Hel F → ∃ Fs : Nat → Nat → Prop, OwE w Fs cs xs ∧ (∀ i j b, i < xs.length → j < xs.length → Fs i b → Fs j b → i = j) ∧ ∀ b, F b ↔ ∃ i, i < xs.length ∧ Fs i b
section
variable {α : Type} [Ow α] {Hel Hel2 : List Res} {cs cs2 : List Value} {x : α} {xs : List α}
theorem Els.nil_ : Els [] [] ([] : List α) := fun w F h => ⟨fun _ _ => False, OwE.nil_ _ _, by simp, fun b => by simp [h b]⟩
theorem Els.cons (h1 : ∀ w F, Hs w Hel F → Ow.own w F cs x) (h2 : Els Hel2 cs2 xs) : Els (Hel ++ Hel2) (cs ++ cs2) (x :: xs) := by
  intro w F h
  obtain ⟨F1, F2, k1, k2, kd, kF⟩ := h.split
  obtain ⟨Fs, e2, d2, f2⟩ := h2 w F2 k2
  have h1 := h1 w F1 k1
  have hl := Rep.len (Ow.rd_ h1)
  have e1 : OwE w (fun _ => F1) cs [x] := ⟨by simp [hl], fun j y hy => by
    cases j with
    | zero =>
      simp only [List.getElem?_cons_zero, Option.some.injEq] at hy
      subst hy
      simp only [Nat.zero_mul, List.drop_zero]
      rw [List.take_of_length_le (by omega)]
      exact h1
    | succ j => simp at hy⟩
  have := e1.append e2
  refine ⟨_, this, ?_, ?_⟩
  · intro i j b hi hj hib hjb
    simp only [List.length_cons, List.length_nil] at hi hj hib hjb
    by_cases i0 : i < 0 + 1 <;> by_cases j0 : j < 0 + 1
    · omega
    · simp only [i0, j0, if_true, if_false] at hib hjb
      exact (kd b hib ((f2 b).2 ⟨_, by omega, hjb⟩)).elim
    · simp only [i0, j0, if_true, if_false] at hib hjb
      exact (kd b hjb ((f2 b).2 ⟨_, by omega, hib⟩)).elim
    · simp only [i0, j0, if_false] at hib hjb
      have := d2 _ _ b (by omega) (by omega) hib hjb
      omega
  · intro b
    rw [kF b, f2 b]
    simp only [List.length_cons, List.length_nil]
    constructor
    · rintro (hb | ⟨i, hi, hb⟩)
      · exact ⟨0, by omega, by simpa using hb⟩
      · exact ⟨i + 1, by omega, by simpa using hb⟩
    · rintro ⟨i, hi, hb⟩
      by_cases i0 : i < 0 + 1
      · simp only [i0, if_true] at hb; exact .inl hb
      · simp only [i0, if_false] at hb; exact .inr ⟨_, by omega, hb⟩
end
section
variable {B : Nat} {w0 : World} {H : List Res}
/-- The row and what its elements have are one slice. -/
theorem row_els {α : Type} [Ow α] {g m : Nat} {cs : List Value} {Hel : List Res} {xs : List α} (hel : Els Hel cs xs) (hl : xs.length = m) (hm : m ≤ 140737488355328) {w : World} (h : Cw B w0 (RBox g cs (Ow.ty α) :: (Hel ++ H)) w) :
    Cw B w0 (ROw (.slice (some ⟨g, 0, none⟩) m m) xs :: H) w := by
  have h := Cw.pack (l1 := RBox g cs (Ow.ty α) :: Hel) (l2 := H) h
  refine h.upd fun F hF _ => ?_
  obtain ⟨F1, F2, ⟨hg, k1⟩, k2, kd, kF⟩ : ∃ F1 F2 : Nat → Prop, (w.heap[g]? = some (.cells cs.toArray (Ow.ty α) (0, 0)) ∧ ∀ b, F1 b ↔ b = g) ∧ Hs w Hel F2 ∧ (∀ b, F1 b → F2 b → False) ∧ ∀ b, F b ↔ F1 b ∨ F2 b := hF
  obtain ⟨Fs, e2, d2, f2⟩ := hel w F2 k2
  subst hl
  refine ⟨F, .inr ⟨g, 0, xs.length, cs.toArray, Fs, OwAt.of e2 hg (by simp) (Nat.le_refl _) (by unfold maxLen; omega) (by simp [e2.len]) hm (fun b => by rw [kF b, k1 b, f2 b]) (fun i hi hb => kd g ((k1 g).2 rfl) ((f2 g).2 ⟨i, hi, hb⟩)) d2⟩, rfl, rfl, rfl, Nat.le_refl _, fun _ _ _ => rfl, fun b hb => .inl hb⟩
end
section
variable {P : Program} {n : Nat} {B : Nat} {w0 : World} {Q : Exit → Act → World → Prop} {env : Env} {H : List Res} {x y z : Code}
theorem cw_cutk2 {γ : Type} (Φ : γ → Prop) (env' : γ → Env) (H' : γ → List Res) (h1 : CW P n B w0 x (Exit.then (y.wp P (Exit.then (Jn n B w0 Φ env' H') Q)) (Exit.then (Jn n B w0 Φ env' H') Q)) env H)
    (h2 : ∀ g, Φ g → CW P n B w0 z Q (env' g) (H' g)) : CW P n B w0 x (Exit.then (y.wp P (Exit.then (z.wp P Q) Q)) (Exit.then (z.wp P Q) Q)) env H := by
  have key : ∀ e a w, Exit.then (Jn n B w0 Φ env' H') Q e a w → Exit.then (z.wp P Q) Q e a w := by
    intro e a' w' h
    cases e
    case normal => obtain ⟨g, hg, hf', hw'⟩ := h; exact h2 g hg a' w' hf' hw'
    all_goals exact h
  intro a w hf hw
  refine wp_mono (h1 a w hf hw) ?_
  intro e a' w' h
  cases e
  case normal => exact wp_mono h key
  all_goals exact h
end
end Go.Proofs.Ytejpkcheimgdfaa

-- V1
/- Verify: what its functions answer, in plain words; Join. -/
namespace Go.Proofs.Ytejpkcheimgdfaa
open Go.RowKit

def standsB (t o : Int) : Bool := decide (t = o) || (decide (t = 3) && decide (o = 2))
def bothI (a b : Int) : Int := if standsB a b then b else if standsB b a then a else 0
def joinL : List Int → List Int → Option (List Int)
  | [], [] => some []
  | a :: l, b :: m => if bothI a b = 0 then none else (joinL l m).map (bothI a b :: ·)
  | _, _ => none
def badT (t : Int) : Bool := decide (t < 1) || decide (3 < t)
def joinE (a b : List Int) : Int := if a.any badT = true then 6 else if b.any badT = true then 6 else if 8 < a.length ∨ 8 < b.length then 2 else if joinL a b = none then 4 else 0
def joinR (a b : List Int) : List Int := if joinE a b = 0 then (joinL a b).getD [] else []

abbrev Stk := List Int × Bool
def popS (s : Stk) : Int × Stk := if s.1.length = 0 then (0, s.1, true) else (s.1.getD (s.1.length - 1) 0, s.1.take (s.1.length - 1), s.2)
def takeS (l : List Int) : Nat → Stk → Stk
  | 0, s => s
  | k + 1, s => takeS l k ((popS s).2.1, (popS s).2.2 || !standsB (popS s).1 (l.getD k 0))
def putS (s : Stk) (l : List Int) : Stk := (s.1 ++ l, s.2)
def resultT (f : MFunc) : List Int := if f.result = 0 then [] else [f.result]
def plainT (c : Int) : List Int × List Int :=
  if c = 1 ∨ c = 21 then ([], [1]) else if c = 5 ∨ c = 6 ∨ c = 7 then ([1, 1], [1]) else if c = 11 ∨ c = 20 then ([1], []) else if c = 14 then ([1], [2]) else
  if c = 15 then ([2, 1], [1]) else if c = 16 then ([2, 1, 1], []) else if c = 17 ∨ c = 19 then ([2], [1]) else if c = 18 then ([], [3]) else ([], [])
def calledT (g : MFunc) : List Int := g.locals.take g.params.toNat
def tryS0 (fs : List MFunc) (f : MFunc) (o : MOp) (s : Stk) : Stk :=
  if o.c = 2 then (popS s).2 else if o.c = 3 then putS (popS s).2 [(popS s).1, (popS s).1] else
  if o.c = 4 then putS (popS (popS s).2).2 [(popS s).1, (popS (popS s).2).1] else
  if o.c = 8 then putS s [f.locals.getD o.a.toNat 0] else if o.c = 9 then takeS [f.locals.getD o.a.toNat 0] 1 s else
  if o.c = 12 then putS (takeS (calledT (fnAt fs o.a.toNat)) (calledT (fnAt fs o.a.toNat)).length s) (resultT (fnAt fs o.a.toNat)) else
  if o.c = 13 then ((takeS (resultT f) (resultT f).length s).1, (takeS (resultT f) (resultT f).length s).2 || decide (0 < (takeS (resultT f) (resultT f).length s).1.length)) else
  putS (takeS (plainT o.c).1 (plainT o.c).1.length s) (plainT o.c).2
def tryS (fs : List MFunc) (f : MFunc) (o : MOp) (s : Stk) : Stk := ((tryS0 fs f o s).1, (tryS0 fs f o s).2 || decide (8 < (tryS0 fs f o s).1.length))

theorem joinL_len : ∀ {a b j : List Int}, joinL a b = some j → a.length = b.length ∧ j.length = a.length
  | [], [], j, h => by simp [joinL] at h; subst h; simp
  | [], _ :: _, j, h => by simp [joinL] at h
  | _ :: _, [], j, h => by simp [joinL] at h
  | a :: l, b :: m, j, h => by
    simp only [joinL] at h
    split at h
    · cases h
    · cases e : joinL l m with
      | none => rw [e] at h; cases h
      | some k =>
        rw [e] at h
        simp only [Option.map_some, Option.some.injEq] at h
        subst h
        have := joinL_len e
        simp only [List.length_cons]
        omega
theorem joinL_ne {a b : List Int} (h : a.length ≠ b.length) : joinL a b = none := by
  cases e : joinL a b with
  | none => rfl
  | some j => exact absurd (joinL_len e).1 h
theorem joinL_step : ∀ {a b out : List Int} {i : Nat}, i < a.length → i < b.length → joinL (a.take i) (b.take i) = some out → joinL (a.take (i + 1)) (b.take (i + 1)) = if bothI (a.getD i 0) (b.getD i 0) = 0 then none else some (out ++ [bothI (a.getD i 0) (b.getD i 0)])
  | [], _, _, _, h, _, _ => by simp at h
  | _ :: _, [], _, _, _, h, _ => by simp at h
  | a :: l, b :: m, out, 0, _, _, h => by
    simp [joinL] at h
    subst h
    simp [joinL]
  | a :: l, b :: m, out, i + 1, h1, h2, h => by
    simp only [List.take_succ_cons, joinL] at h
    simp only [List.take_succ_cons, List.getD_cons_succ]
    simp only [joinL]
    split at h
    · cases h
    · rename_i h0
      cases e : joinL (l.take i) (m.take i) with
      | none => rw [e] at h; cases h
      | some k =>
        rw [e] at h
        simp only [Option.map_some, Option.some.injEq] at h
        subst h
        have := joinL_step (by simpa using h1) (by simpa using h2) e
        rw [if_neg h0, this]
        split <;> simp
theorem joinL_none : ∀ {a b : List Int} {i : Nat}, joinL (a.take i) (b.take i) = none → a.length = b.length → joinL a b = none
  | [], [], i, h, _ => by simp [joinL] at h
  | [], _ :: _, _, _, h => by simp at h
  | _ :: _, [], _, _, h => by simp at h
  | a :: l, b :: m, 0, h, _ => by simp [joinL] at h
  | a :: l, b :: m, i + 1, h, hl => by
    simp only [List.take_succ_cons, joinL] at h ⊢
    split
    · rfl
    · rename_i h0
      rw [if_neg h0] at h
      cases e : joinL (l.take i) (m.take i) with
      | none => rw [joinL_none e (by simpa using hl)]; rfl
      | some k => rw [e] at h; cases h
theorem bothI_i64 {a b : Int} (ha : I64 a) (hb : I64 b) : I64 (bothI a b) := by
  unfold bothI
  split
  · exact hb
  · split
    · exact ha
    · decide

set_option maxRecDepth 100000 in
theorem stands_any (t o : Int) (w : World) : Calls Try.prog 96 #[.int .i64 t, .int .i64 o] w fun e w' => e = .returned (.bool (standsB t o)) ∧ Below w.heap.size w w' := by
  refine enter Try.func96 rfl Try.ntmps96 rfl ?_
  refine cw_seq ?_
  refine cw_region ?_
  refine rw_run tab_ok 1 [(0, _), (1, _)] rfl ⟨rfl, rfl, trivial⟩ ?_
  refine rw_end ?_
  refine cw_seq ?_
  refine cw_region ?_
  refine rw_run tab_ok 4 [(0, _), (1, _), (8, _)] rfl ⟨rfl, rfl, rfl, trivial⟩ ?_
  refine rw_split (t := 8) rfl (fun h1 => ?_) (fun h1 => ?_)
  · have h1 := of_decide_eq_true h1
    refine rw_run tab_ok 8 [(4, _)] rfl ⟨rfl, trivial⟩ ?_
    refine rw_end ?_
    refine cw_ret ?_
    refine xw_ret1 Try.results96 (rv_tmp rfl) ?_
    intro w hw
    exact ⟨ret_bool (by unfold standsB; rw [decide_eq_true h1]; rfl), hw.below⟩
  · have h1 := of_decide_eq_false h1
    refine rw_run tab_ok 3 [(1, _), (8, _), (11, _)] rfl ⟨rfl, rfl, rfl, trivial⟩ ?_
    refine rw_split (t := 11) rfl (fun h2 => ?_) (fun h2 => ?_)
    · have h2 := of_decide_eq_true h2
      refine rw_run tab_ok 5 [(4, _)] rfl ⟨rfl, trivial⟩ ?_
      refine rw_end ?_
      refine cw_ret ?_
      refine xw_ret1 Try.results96 (rv_tmp rfl) ?_
      intro w hw
      exact ⟨ret_bool (by unfold standsB; rw [decide_eq_false h1, decide_eq_true h2]; rfl), hw.below⟩
    · have h2 := of_decide_eq_false h2
      refine rw_run tab_ok 5 [(4, _)] rfl ⟨rfl, trivial⟩ ?_
      refine rw_end ?_
      refine cw_ret ?_
      refine xw_ret1 Try.results96 (rv_tmp rfl) ?_
      intro w hw
      exact ⟨ret_bool (by unfold standsB; rw [decide_eq_false h1, decide_eq_false h2]; rfl), hw.below⟩
set_option maxRecDepth 100000 in
theorem both_any (a b : Int) (w : World) : Calls Try.prog 79 #[.int .i64 a, .int .i64 b] w fun e w' => e = .returned (.int .i64 (bothI a b)) ∧ Below w.heap.size w w' := by
  refine enter Try.func79 rfl Try.ntmps79 rfl ?_
  refine cw_seq ?_
  refine cw_region ?_
  refine rw_run tab_ok 1 [(0, _), (1, _)] rfl ⟨rfl, rfl, trivial⟩ ?_
  refine rw_end ?_
  refine cw_seq ?_
  refine cw_block ?_
  refine cw_seq ?_
  refine cw_region ?_
  refine rw_run tab_ok 2 [(0, _), (1, _), (6, _), (7, _)] rfl ⟨rfl, rfl, rfl, rfl, trivial⟩ ?_
  refine rw_op (ot_c0 rfl rfl rfl Try.call96 (fun w hw => stands_any a b w)) rfl rfl (fun _ _ => ?_)
  refine rw_run tab_ok 1 [(0, _), (1, _), (5, _)] rfl ⟨rfl, rfl, rfl, trivial⟩ ?_
  refine rw_end ?_
  refine cw_cond rfl (fun h1 => ?_) (fun h1 => ?_)
  · refine cw_seq ?_
    refine cw_region ?_
    refine rw_run tab_ok 2 [(4, _)] rfl ⟨rfl, trivial⟩ ?_
    refine rw_end ?_
    refine cw_ret (xw_blkr (xw_thenr ?_))
    refine xw_ret1 Try.results79 (rv_tmp rfl) ?_
    intro w hw
    exact ⟨reti (by unfold bothI; rw [if_pos h1]), hw.below⟩
  · have h1 : ¬ standsB a b = true := by rw [h1]; decide
    refine cw_seq ?_
    refine cw_region ?_
    refine rw_run tab_ok 2 [(0, _), (11, _), (12, _)] rfl ⟨rfl, rfl, rfl, trivial⟩ ?_
    refine rw_op (ot_c0 rfl rfl rfl Try.call96 (fun w hw => stands_any b a w)) rfl rfl (fun _ _ => ?_)
    refine rw_run tab_ok 1 [(0, _), (10, _)] rfl ⟨rfl, rfl, trivial⟩ ?_
    refine rw_end ?_
    refine cw_cond rfl (fun h2 => ?_) (fun h2 => ?_)
    · refine cw_seq ?_
      refine cw_region ?_
      refine rw_run tab_ok 2 [(4, _)] rfl ⟨rfl, trivial⟩ ?_
      refine rw_end ?_
      refine cw_ret (xw_blkr (xw_thenr ?_))
      refine xw_ret1 Try.results79 (rv_tmp rfl) ?_
      intro w hw
      exact ⟨reti (by unfold bothI; rw [if_neg h1, if_pos h2]), hw.below⟩
    · have h2 : ¬ standsB b a = true := by rw [h2]; decide
      refine cw_skip (xw_blkn (xw_then ?_))
      refine cw_seq ?_
      refine cw_region ?_
      refine rw_run tab_ok 1 [(4, _)] rfl ⟨rfl, trivial⟩ ?_
      refine rw_end ?_
      refine cw_ret ?_
      refine xw_ret1 Try.results79 (rv_tmp rfl) ?_
      intro w hw
      exact ⟨reti (by unfold bothI; rw [if_neg h1, if_neg h2]), hw.below⟩
theorem all_i64 {w : World} {B : Nat} {A : Option Addr} {m c k : Nat} {xs : List Int} (h : SlB w B (.slice A m c) xs) (hk : k < m) : I64 (xs.getD k 0) := by
  have hl := h.len_eq
  obtain ⟨b, off, cs, hA, hb, hr, hj⟩ := SlB.at_ h hk _ (getD_get (d := 0) (by omega))
  exact hr.2
set_option maxRecDepth 100000 in
set_option maxHeartbeats 1000000 in
theorem joined_any (A1 A2 : Option Addr) (c1 c2 : Nat) (a b : List Int) (w : World) (h1 : Sl w (.slice A1 a.length c1) a) (h2 : Sl w (.slice A2 b.length c2) b) (hle : a.length ≤ 1000000) :
    Calls Try.prog 52 #[.slice A1 a.length c1, .slice A2 b.length c2] w fun e w' => ∃ u, e = .returned (.tuple #[u, .bool (joinL a b).isSome]) ∧ Below w.heap.size w w' ∧ OwN w' w.heap.size u ((joinL a b).getD []) := by
  have bb := len_bd h2
  refine enter Try.func52 rfl Try.ntmps52 rfl ?_
  refine cw_seq ?_
  refine cw_region ?_
  refine rw_run tab_ok 2 [(0, _), (1, _)] rfl ⟨rfl, rfl, trivial⟩ ?_
  refine rw_end ?_
  refine cw_seq ?_
  refine cw_seq ?_
  refine cw_region ?_
  refine rw_run tab_ok 1 [(0, _), (1, _), (9, _)] rfl ⟨rfl, rfl, rfl, trivial⟩ ?_
  refine rw_s (qs_len Try.underlying35 rfl rfl) rfl rfl ?_
  refine rw_run tab_ok 1 [(0, _), (1, _), (10, _), (11, _)] rfl ⟨rfl, rfl, rfl, rfl, trivial⟩ ?_
  refine rw_s (qs_len Try.underlying35 rfl rfl) rfl rfl ?_
  refine rw_run tab_ok 1 [(0, _), (1, _), (13, _)] rfl ⟨rfl, rfl, rfl, trivial⟩ ?_
  refine rw_end ?_
  refine cw_condN rfl (fun hl => ?_) (fun hl => ?_)
  · have hn := joinL_ne (a := a) (b := b) (fun e => hl (by rw [e]))
    refine cw_seq ?_
    refine cw_region ?_
    refine rw_run tab_ok 2 [(4, _), (5, _)] rfl ⟨rfl, rfl, trivial⟩ ?_
    refine rw_end ?_
    refine cw_ret (xw_thenr ?_)
    refine xw_ret2 Try.results52 (rv_tmp rfl) (rv_tmp rfl) ?_
    intro w hw
    rw [hn]
    exact ⟨_, rfl, nil_ret hw⟩
  · have hl : a.length = b.length := by omega
    refine cw_skip (xw_then ?_)
    refine cw_seq ?_
    refine cw_region ?_
    refine rw_run tab_ok 1 [(0, _), (1, _), (6, _)] rfl ⟨rfl, rfl, rfl, trivial⟩ ?_
    refine rw_end ?_
    refine cw_seq ?_
    refine cw_seq ?_
    refine cw_region ?_
    refine rw_run tab_ok 1 [(0, _), (1, _), (6, _), (14, _)] rfl ⟨rfl, rfl, rfl, rfl, trivial⟩ ?_
    refine rw_s (qs_len Try.underlying35 rfl rfl) rfl rfl ?_
    refine rw_run tab_ok 1 [(0, _), (1, _), (6, _), (15, _), (16, _)] rfl ⟨rfl, rfl, rfl, rfl, rfl, trivial⟩ ?_
    refine rw_end ?_
    refine cw_mem (fun w h => Cw.nilO Int h) ?_
    refine cw_block (cw_loop (fun g : Nat × List Int × Option Addr × Nat => g.1 ≤ a.length ∧ joinL (a.take g.1) (b.take g.1) = some g.2.1) (fun g => a.length - g.1) (fun g => [(0, .slice A1 a.length c1), (1, .slice A2 b.length c2), (6, .slice g.2.2.1 g.2.1.length g.2.2.2), (15, .int .i64 (a.length : Int)), (16, .int .i64 (g.1 : Int))]) (fun g => [ROw (.slice g.2.2.1 g.2.1.length g.2.2.2) g.2.1]) (0, [], none, 0) (⟨Nat.zero_le _, rfl⟩) ⟨rfl, rfl, rfl, rfl, rfl, trivial⟩ me ?_)
    rintro ⟨i, out, Ao, co⟩ hi'
    try dsimp only
    obtain ⟨hi, hj⟩ : i ≤ a.length ∧ joinL (a.take i) (b.take i) = some out := hi'
    have hol : out.length = i := by have := (joinL_len hj).2; rw [List.length_take] at this; omega
    refine cw_seq ?_
    refine cw_region ?_
    refine rw_run tab_ok 1 [(0, _), (1, _), (6, _), (15, _), (16, _), (17, _)] rfl ⟨rfl, rfl, rfl, rfl, rfl, rfl, trivial⟩ ?_
    refine rw_end ?_
    refine cw_seq ?_
    refine cw_condD rfl (fun hlt => ?_) (fun hlt => ?_)
    · have hil : i < a.length := by omega
      have hst := joinL_step hil (by omega) hj
      have i1 := all_i64 h1 hil
      have i2 := all_i64 h2 (k := i) (by omega)
      refine cw_skip (xw_then ?_)
      refine cw_seq ?_
      refine cw_block ?_
      refine cw_seq ?_
      refine cw_region ?_
      refine rw_run tab_ok 2 [(0, _), (1, _), (6, _), (7, _), (15, _), (16, _)] rfl ⟨rfl, rfl, rfl, rfl, rfl, rfl, trivial⟩ ?_
      refine rw_end ?_
      refine cw_seq ?_
      refine cw_draw (.still 0 (.still 1 (.still 2 (.still 3 (.still 4 (.still 5 (.still 6 (.still 7 (.pick 8 (.still 9 .done) .stop))))))))) [] rfl (by kernel_rfl) (by kernel_rfl) ?_
      refine ro_run tab_ok ha 2 [(0, _), (1, _), (6, _), (7, _), (15, _), (16, _), (19, _), (20, _)] rfl ⟨rfl, rfl, rfl, rfl, rfl, rfl, rfl, rfl, trivial⟩ ?_
      refine ro_s2 rfl (qs_idx Try.underlying35 Try.sizeOf3 (.ro h1) (by omega) rfl rfl rfl) rfl rfl ha ?_
      refine ro_s2 rfl (qs_ld (SF.int (.ro h1) (by omega)) rfl rfl Try.isAgg3) rfl rfl ha ?_
      refine ro_run tab_ok ha 2 [(0, _), (1, _), (6, _), (15, _), (16, _), (22, _), (23, _), (24, _)] rfl ⟨rfl, rfl, rfl, rfl, rfl, rfl, rfl, rfl, trivial⟩ ?_
      refine ro_s2 rfl (qs_idx Try.underlying35 Try.sizeOf3 (.ro h2) (by omega) rfl rfl rfl) rfl rfl ha ?_
      refine ro_s2 rfl (qs_ld (SF.int (.ro h2) (by omega)) rfl rfl Try.isAgg3) rfl rfl ha ?_
      refine ro_op2 rfl (ot_c0 rfl rfl rfl Try.call79 (fun w hw => both_any (a.getD i 0) (b.getD i 0) w)) rfl rfl (.inr fun _ => ha) (fun _ _ => ?_) ro_stop
      refine ro_run tab_ok ha 1 [(0, _), (1, _), (6, _), (8, _), (15, _), (16, _)] rfl ⟨rfl, rfl, rfl, rfl, rfl, rfl, trivial⟩ ?_
      refine ro_end ?_
      refine cw_seq ?_
      refine cw_seq ?_
      refine cw_region ?_
      refine rw_run tab_ok 2 [(0, _), (1, _), (6, _), (8, _), (15, _), (16, _), (29, _)] rfl ⟨rfl, rfl, rfl, rfl, rfl, rfl, rfl, trivial⟩ ?_
      refine rw_end ?_
      refine cw_condD rfl (fun h0 => ?_) (fun h0 => ?_)
      · rw [if_pos h0] at hst
        have hn := joinL_none hst hl
        refine cw_seq ?_
        refine cw_region ?_
        refine rw_run tab_ok 2 [(4, _), (5, _)] rfl ⟨rfl, rfl, trivial⟩ ?_
        refine rw_end ?_
        refine cw_ret (xw_thenr (xw_blkr (xw_thenr (xw_thenr (xw_blkr (xw_thenr ?_))))))
        refine xw_ret2 Try.results52 (rv_tmp rfl) (rv_tmp rfl) ?_
        intro w hw
        rw [hn]
        exact ⟨_, rfl, nil_ret hw⟩
      · rw [if_neg h0] at hst
        refine cw_skip (xw_then ?_)
        refine cw_region ?_
        refine rw_run tab_ok 2 [(0, _), (1, _), (15, _), (16, _), (30, _), (31, _)] rfl ⟨rfl, rfl, rfl, rfl, rfl, rfl, trivial⟩ ?_
        refine rw_op (ot_bsl (cs := [_]) Try.underlying35 Try.sizeOf3 Try.zeroValue3 rfl rfl rfl rfl rfl) rfl rfl (fun g1 _ => ?_)
        refine rw_op (ot_app1 (α := Int) (bytes := 8) (bothI (a.getD i 0) (b.getD i 0)) [] rfl Try.underlying35 (info_ex Try.inI) rfl (perm2 fc fc) (hel_flat (bothI_i64 i1 i2)) (by omega) (by omega) rfl rfl rfl) rfl rfl (fun ⟨A5, c5⟩ _ => ?_)
        try dsimp only
        refine rw_run tab_ok 1 [(0, _), (1, _), (6, _), (15, _), (16, _)] rfl ⟨rfl, rfl, rfl, rfl, rfl, trivial⟩ ?_
        refine rw_endx (xw_blkn (xw_then ?_))
        refine cw_region ?_
        refine rw_s (qs_add rfl rfl rfl (by omega)) rfl rfl ?_
        refine rw_run tab_ok 1 [(0, _), (1, _), (6, _), (15, _), (16, _)] rfl ⟨rfl, rfl, rfl, rfl, rfl, trivial⟩ ?_
        refine rw_round (i + 1, out ++ [bothI (a.getD i 0) (b.getD i 0)], A5, c5) (⟨hil, hst⟩) (by show _ - _ < _ - _; omega) ⟨rfl, rfl, rfl, rfl, rfl, trivial⟩ me
    · obtain rfl : i = a.length := by omega
      rw [List.take_length, hl, List.take_length] at hj
      refine cw_exit (xw_thenx (xw_thenx (xw_blk (xw_then ?_))))
      refine cw_seq ?_
      refine cw_region ?_
      refine rw_run tab_ok 3 [(4, _), (5, _)] rfl ⟨rfl, rfl, trivial⟩ ?_
      refine rw_end ?_
      refine cw_ret ?_
      refine xw_ret2 Try.results52 (rv_tmp rfl) (rv_tmp rfl) ?_
      intro w hw
      rw [hj]
      exact ⟨_, rfl, own_ret hw⟩
set_option maxRecDepth 100000 in
theorem badT_any (t : Int) (w : World) : Calls Try.prog 51 #[.int .i64 t] w fun e w' => e = .returned (.bool (badT t)) ∧ Below w.heap.size w w' := by
  refine enter Try.func51 rfl Try.ntmps51 rfl ?_
  refine cw_seq ?_
  refine cw_region ?_
  refine rw_run tab_ok 1 [(0, _)] rfl ⟨rfl, trivial⟩ ?_
  refine rw_end ?_
  refine cw_seq ?_
  refine cw_region ?_
  refine rw_run tab_ok 3 [(0, _), (5, _)] rfl ⟨rfl, rfl, trivial⟩ ?_
  refine rw_split (t := 5) rfl (fun h1 => ?_) (fun h1 => ?_)
  · have h1 := of_decide_eq_true h1
    refine rw_run tab_ok 4 [(2, _)] rfl ⟨rfl, trivial⟩ ?_
    refine rw_end ?_
    refine cw_ret ?_
    refine xw_ret1 Try.results51 (rv_tmp rfl) ?_
    intro w hw
    exact ⟨ret_bool (by unfold badT; rw [decide_eq_true h1]; rfl), hw.below⟩
  · have h1 := of_decide_eq_false h1
    refine rw_run tab_ok 4 [(2, _)] rfl ⟨rfl, trivial⟩ ?_
    refine rw_end ?_
    refine cw_ret ?_
    refine xw_ret1 Try.results51 (rv_tmp rfl) ?_
    intro w hw
    exact ⟨ret_bool (by unfold badT; rw [decide_eq_false h1]; rfl), hw.below⟩
end Go.Proofs.Ytejpkcheimgdfaa

-- V2
/- Verify: the stack on which an op is tried. -/
namespace Go.Proofs.Ytejpkcheimgdfaa
open Go.RowKit

theorem cutA_0 (A : Option Addr) (c sz : Nat) : cutA A 0 c sz = A := by
  unfold cutA
  split
  · rfl
  · cases A <;> simp [Addr.add]
section
variable {P : Program} {n : Nat} {B : Nat} {w0 : World} {env : Env} {H H' : List Res} {o : Oper}
/-- The first ones of a slice. -/
theorem qs_to {t e : TypeId} {sz : Nat} {A : Option Addr} {m c k : Nat} {hi' : Option Operand} {x : Operand} (hu : P.underlying t = some (.slice e)) (hz : ∀ w, (sizeOf e).run P w = .ok sz w) (hk : k ≤ c) (hop : o.op = .slice t x none hi' none)
    (hx : opv env x = some (.slice A m c)) (hh : bnd env hi' m = some (k : Int)) : QS P n B w0 o env H (.slice A k c) := by
  have := qs_slice (lo := 0) (hi := k) hu hz ⟨Nat.zero_le _, hk⟩ hop hx rfl hh (n := n) (B := B) (w0 := w0) (H := H)
  rwa [cutA_0] at this
/-- A slice of one's own has no more than its room. -/
theorem own_cap {α : Type} [Ow α] {A : Option Addr} {m c : Nat} {xs : List α} {w : World} (hw : Cw B w0 H w) (hp : Foc H (ROw (.slice A m c) xs) H') : m ≤ c := by
  obtain ⟨F, h, _⟩ := hw.rd hp
  obtain ⟨_, _, hv, h1, _⟩ := (OwL.sl (show OwL w F _ xs from h)).form
  injection hv with e1 e2 e3
  omega
end
section
variable {B : Nat} {w0 : World} {H : List Res}
set_option maxRecDepth 100000 in
theorem pop_eq (gs : Nat) {l l' : List Int} {wr wr' : Bool} {t : Int} (e : popS (l, wr) = (t, l', wr')) (A : Option Addr) (c : Nat) (hl : l.length ≤ 1000000) (w : World)
    (hw : Cw B w0 (RBox gs [.slice A l.length c, .bool wr] 118 :: ROw (.slice A l.length c) l :: H) w) :
    Calls Try.prog 104 #[.pointer (some ⟨gs, 0, none⟩)] w fun e w' => ∃ g : Option Addr × Nat, True ∧ e = .returned (.int .i64 t) ∧
      Cw B w0 (RBox gs [.slice g.1 l'.length g.2, .bool wr'] 118 :: ROw (.slice g.1 l'.length g.2) l' :: H) w' := by
  unfold popS at e
  refine enter_own Try.func104 rfl Try.ntmps104 rfl hw ?_
  refine cw_seq ?_
  refine cw_region ?_
  refine rw_run tab_ok 1 [(0, _)] rfl ⟨rfl, trivial⟩ ?_
  refine rw_end ?_
  refine cw_seq ?_
  refine cw_region ?_
  refine rw_run tab_ok 3 [(0, _), (7, _)] rfl ⟨rfl, rfl, trivial⟩ ?_
  refine rw_s (qs_ldb fc Try.isAgg35 rfl rfl (by rfl)) rfl rfl ?_
  refine rw_s (qs_len Try.underlying35 rfl rfl) rfl rfl ?_
  refine rw_s (qs_sub rfl rfl rfl (by omega)) rfl rfl ?_
  refine rw_run tab_ok 1 [(0, _), (3, _)] rfl ⟨rfl, rfl, trivial⟩ ?_
  refine rw_end ?_
  refine cw_seq ?_
  refine cw_seq ?_
  refine cw_region ?_
  refine rw_run tab_ok 2 [(0, _), (3, _), (12, _)] rfl ⟨rfl, rfl, rfl, trivial⟩ ?_
  refine rw_end ?_
  refine cw_condD rfl (fun h => ?_) (fun h => ?_)
  · rw [if_pos (show l.length = 0 from by omega)] at e
    simp only [Prod.mk.injEq] at e
    obtain ⟨rfl, rfl, rfl⟩ := e
    refine cw_seq ?_
    refine cw_region ?_
    refine rw_run tab_ok 3 [(15, _)] rfl ⟨rfl, trivial⟩ ?_
    refine rw_op (ot_stb _ fc Try.sizeOf4 rfl rfl rfl rfl rfl (by rfl) rfl (by rfl)) rfl rfl (fun _ _ => ?_)
    refine rw_end ?_
    refine cw_seq ?_
    refine cw_region ?_
    refine rw_run tab_ok 1 [(2, _)] rfl ⟨rfl, trivial⟩ ?_
    refine rw_end ?_
    refine cw_ret (xw_thenr ?_)
    refine xw_ret1 Try.results104 (rv_tmp rfl) ?_
    intro w hw
    exact ⟨(A, c), trivial, rfl, hw⟩
  · rw [if_neg (show ¬ l.length = 0 from by omega)] at e
    simp only [Prod.mk.injEq] at e
    obtain ⟨rfl, rfl, rfl⟩ := e
    have hlt : (l.take (l.length - 1)).length = l.length - 1 := by rw [List.length_take]; omega
    refine cw_as (t := 3) (v' := .int .i64 ((l.length - 1 : Nat) : Int)) rfl (by congr 1; omega) ?_
    refine cw_skip (xw_then ?_)
    refine cw_seq ?_
    refine cw_region ?_
    refine rw_run tab_ok 3 [(0, _), (3, _), (18, _)] rfl ⟨rfl, rfl, rfl, trivial⟩ ?_
    refine rw_s (qs_ldb fc Try.isAgg35 rfl rfl (by rfl)) rfl rfl ?_
    refine rw_run tab_ok 1 [(0, _), (3, _), (19, _), (20, _)] rfl ⟨rfl, rfl, rfl, rfl, trivial⟩ ?_
    refine rw_s (qs_idx Try.underlying35 Try.sizeOf3 (SF.own rfl fc) (by omega) rfl rfl rfl) rfl rfl ?_
    refine rw_s (qs_ld (SF.int (SF.own rfl fc) (by omega)) rfl rfl Try.isAgg3) rfl rfl ?_
    refine rw_run tab_ok 1 [(0, _), (3, _), (4, _)] rfl ⟨rfl, rfl, rfl, trivial⟩ ?_
    refine rw_end ?_
    refine cw_seq ?_
    refine cw_region ?_
    refine rw_run tab_ok 4 [(3, _), (4, _), (23, _), (26, _)] rfl ⟨rfl, rfl, rfl, rfl, trivial⟩ ?_
    refine rw_s (qs_ldb fc Try.isAgg35 rfl rfl (by rfl)) rfl rfl ?_
    refine rw_run tab_ok 1 [(4, _), (23, _), (27, _), (28, _)] rfl ⟨rfl, rfl, rfl, rfl, trivial⟩ ?_
    refine rw_fact (fun w h => own_cap h (xs := l) fc) fun hcap => ?_
    refine rw_s (qs_to (k := l.length - 1) Try.underlying35 Try.sizeOf3 (by omega) rfl rfl rfl) rfl rfl ?_
    refine rw_run tab_ok 2 [(4, _), (29, _), (31, _)] rfl ⟨rfl, rfl, rfl, trivial⟩ ?_
    refine rw_op (ot_stb _ fc Try.sizeOf35 rfl rfl rfl rfl rfl (by rfl) rfl (by rfl)) rfl rfl (fun _ _ => ?_)
    refine rw_end ?_
    refine cw_seq ?_
    refine cw_region ?_
    refine rw_run tab_ok 2 [(2, _)] rfl ⟨rfl, trivial⟩ ?_
    refine rw_end ?_
    refine cw_ret ?_
    refine xw_ret1 Try.results104 (rv_tmp rfl) ?_
    intro w hw
    refine ⟨(A, c), trivial, rfl, ?_⟩
    rw [hlt]
    exact (take_ow (α := Int) (k := l.length - 1) (by omega) (hw.msub (T := ROw (.slice A l.length c) l :: RBox gs _ _ :: H) ms)).msub ms
set_option maxRecDepth 100000 in
theorem put_eq (gs : Nat) {l xs : List Int} {wr : Bool} (A Ax : Option Addr) (c cx : Nat) (hs : SF B w0 H Ax xs.length cx xs) (hl : l.length + xs.length ≤ 1000000) (w : World)
    (hw : Cw B w0 (RBox gs [.slice A l.length c, .bool wr] 118 :: ROw (.slice A l.length c) l :: H) w) :
    Calls Try.prog 105 #[.pointer (some ⟨gs, 0, none⟩), .slice Ax xs.length cx] w fun e w' => ∃ g : Option Addr × Nat, True ∧ e = .returned (.tuple #[]) ∧
      Cw B w0 (RBox gs [.slice g.1 (l ++ xs).length g.2, .bool wr] 118 :: ROw (.slice g.1 (l ++ xs).length g.2) (l ++ xs) :: H) w' := by
  refine enter_own Try.func105 rfl Try.ntmps105 rfl hw ?_
  refine cw_region ?_
  refine rw_run tab_ok 4 [(1, _), (4, _), (7, _)] rfl ⟨rfl, rfl, rfl, trivial⟩ ?_
  refine rw_s (qs_ldb fc Try.isAgg35 rfl rfl (by rfl)) rfl rfl ?_
  refine rw_run tab_ok 1 [(4, _), (8, _), (9, _)] rfl ⟨rfl, rfl, rfl, trivial⟩ ?_
  refine rw_op (ot_appS (α := Int) (bytes := 8) (xs := l) (ys := xs) rfl Try.underlying35 (info_ex Try.inI) rfl fc (.s (.s hs)) (by omega) (by omega) rfl rfl rfl) rfl rfl (fun ⟨A5, c5⟩ _ => ?_)
  try dsimp only
  refine rw_run tab_ok 2 [(10, _), (12, _)] rfl ⟨rfl, rfl, trivial⟩ ?_
  refine rw_op (ot_stb _ fc Try.sizeOf35 rfl rfl rfl rfl rfl (by rfl) rfl (by rfl)) rfl rfl (fun _ _ => ?_)
  refine rw_endx ?_
  refine xw_end0 Try.results105  ?_
  intro w hw
  exact ⟨(A5, c5), trivial, rfl, hw.msub ms⟩
end
end Go.Proofs.Ytejpkcheimgdfaa

-- V3
/- Verify: what plain ops take and leave; the result. -/
namespace Go.Proofs.Ytejpkcheimgdfaa
open Go.RowKit

theorem ints3_i64 {l : List Int} (h : ∀ x ∈ l, 0 ≤ x ∧ x ≤ 3) : ∀ x ∈ l, FOw.wf x := fun x hx => by have := h x hx; show I64 x; unfold I64; omega
set_option maxRecDepth 100000 in
theorem result_any (f : MFunc) (A1 A2 : Option Addr) (c1 c2 : Nat) (i1 : I64 f.result) (w : World) : Calls Try.prog 107 #[.agg #[.int .i64 f.params, .slice A1 f.locals.length c1, .int .i64 f.result, .slice A2 f.code.length c2]] w fun e w' => ∃ g : Option Addr × Nat, True ∧ e = .returned (.slice g.1 (resultT f).length g.2) ∧ Cw w.heap.size w [ROw (.slice g.1 (resultT f).length g.2) (resultT f)] w' := by
  refine enter Try.func107 rfl Try.ntmps107 rfl ?_
  refine cw_seq ?_
  refine cw_region ?_
  refine rw_op (ot_box rfl rfl rfl) rfl rfl (fun g1 _ => ?_)
  refine rw_run tab_ok 1 [(1, _)] rfl ⟨rfl, trivial⟩ ?_
  refine rw_end ?_
  refine cw_seq ?_
  refine cw_seq ?_
  refine cw_region ?_
  refine rw_run tab_ok 1 [(1, _), (3, _)] rfl ⟨rfl, rfl, trivial⟩ ?_
  refine rw_s (qs_ldb fc Try.isAgg3 rfl rfl (by rfl)) rfl rfl ?_
  refine rw_run tab_ok 1 [(1, _), (5, _)] rfl ⟨rfl, rfl, trivial⟩ ?_
  refine rw_end ?_
  refine cw_condD rfl (fun h => ?_) (fun h => ?_)
  · have e : resultT f = [] := by unfold resultT; rw [if_pos h]
    refine cw_seq ?_
    refine cw_region ?_
    refine rw_run tab_ok 1 [(2, _)] rfl ⟨rfl, trivial⟩ ?_
    refine rw_end ?_
    refine cw_ret (xw_thenr ?_)
    refine xw_ret1 Try.results107 (rv_tmp rfl) ?_
    intro w hw
    rw [e]
    exact ⟨(none, 0), trivial, rfl, (Cw.nilO Int hw).msub ms⟩
  · have e : resultT f = [f.result] := by unfold resultT; rw [if_neg h]
    refine cw_skip (xw_then ?_)
    refine cw_seq ?_
    refine cw_region ?_
    refine rw_run tab_ok 1 [(6, _)] rfl ⟨rfl, trivial⟩ ?_
    refine rw_s (qs_ldb fc Try.isAgg3 rfl rfl (by rfl)) rfl rfl ?_
    refine rw_op (ot_bsl (cs := [_]) Try.underlying35 Try.sizeOf3 Try.zeroValue3 rfl rfl rfl rfl rfl) rfl rfl (fun g2 _ => ?_)
    refine rw_run tab_ok 1 [(2, _)] rfl ⟨rfl, trivial⟩ ?_
    refine rw_end ?_
    refine cw_ret ?_
    refine xw_ret1 Try.results107 (rv_tmp rfl) ?_
    intro w hw
    rw [e]
    exact ⟨(some ⟨g2, 0, none⟩, 1), trivial, rfl, row_ow (α := Int) (m := 1) [f.result] rfl (one_i64 i1) rfl (by decide) (hw.msub (T := [RBox g2 _ _]) ms)⟩
set_option maxRecDepth 100000 in
set_option maxHeartbeats 1000000 in
theorem plain_any (c : Int) (w : World) : Calls Try.prog 108 #[.int .i64 c] w fun e w' => ∃ g : (Option Addr × Nat) × (Option Addr × Nat), True ∧
    e = .returned (.tuple #[.slice g.1.1 (plainT c).1.length g.1.2, .slice g.2.1 (plainT c).2.length g.2.2]) ∧ Cw w.heap.size w [ROw (.slice g.1.1 (plainT c).1.length g.1.2) (plainT c).1, ROw (.slice g.2.1 (plainT c).2.length g.2.2) (plainT c).2] w' := by
  refine enter Try.func108 rfl Try.ntmps108 rfl ?_
  refine cw_seq ?_
  refine cw_region ?_
  refine rw_run tab_ok 2 [(0, _)] rfl ⟨rfl, trivial⟩ ?_
  refine rw_end ?_
  refine cw_seq ?_
  refine cw_seq ?_
  refine cw_region ?_
  refine rw_run tab_ok 1 [(4, _)] rfl ⟨rfl, trivial⟩ ?_
  refine rw_end ?_
  refine cw_block ?_
  refine cw_seq ?_
  refine cw_seq ?_
  refine cw_region ?_
  refine rw_run tab_ok 2 [(4, _), (5, _)] rfl ⟨rfl, rfl, trivial⟩ ?_
  refine rw_end ?_
  refine cw_condD rfl (fun h1 => ?_) (fun h1 => ?_)
  · refine cw_as (t := 5) (v' := .bool true) rfl (by rw [decide_eq_true h1]) ?_
    refine cw_skip (xw_then ?_)
    refine cw_cond_t rfl ?_
    refine cw_seq ?_
    refine cw_region ?_
    refine rw_op (ot_bsl (cs := [_]) Try.underlying35 Try.sizeOf3 Try.zeroValue3 rfl rfl rfl rfl rfl) rfl rfl (fun g1 _ => ?_)
    refine rw_run tab_ok 2 [(2, _), (3, _)] rfl ⟨rfl, rfl, trivial⟩ ?_
    refine rw_end ?_
    have e : plainT c = ([], [1]) := by unfold plainT; simp [h1]
    refine cw_ret (xw_blkr (xw_thenr ?_))
    refine xw_ret2 Try.results108 (rv_tmp rfl) (rv_tmp rfl) ?_
    intro w hw
    rw [e]
    refine ⟨((none, 0), (some ⟨g1, 0, none⟩, 1)), trivial, rfl, ?_⟩
    have hw := Cw.nilO Int hw
    have hw := row_ow (α := Int) (m := 1) [1] rfl (ints3_i64 (by decide)) rfl (by decide) (hw.msub (T := [RBox g1 _ _, ROw (.slice none 0 0) ([] : List Int)]) ms)
    exact hw.msub ms
  · refine cw_region ?_
    refine rw_run tab_ok 2 [(4, _), (5, _)] rfl ⟨rfl, rfl, trivial⟩ ?_
    refine rw_end ?_
    refine cw_condD rfl (fun h21 => ?_) (fun h21 => ?_)
    · have e : plainT c = ([], [1]) := by unfold plainT; simp [h21]
      refine cw_seq ?_
      refine cw_region ?_
      refine rw_op (ot_bsl (cs := [_]) Try.underlying35 Try.sizeOf3 Try.zeroValue3 rfl rfl rfl rfl rfl) rfl rfl (fun g2 _ => ?_)
      refine rw_run tab_ok 2 [(2, _), (3, _)] rfl ⟨rfl, rfl, trivial⟩ ?_
      refine rw_end ?_
      refine cw_ret (xw_blkr (xw_thenr ?_))
      refine xw_ret2 Try.results108 (rv_tmp rfl) (rv_tmp rfl) ?_
      intro w hw
      rw [e]
      refine ⟨((none, 0), (some ⟨g2, 0, none⟩, 1)), trivial, rfl, ?_⟩
      have hw := Cw.nilO Int hw
      have hw := row_ow (α := Int) (m := 1) [1] rfl (ints3_i64 (by decide)) rfl (by decide) (hw.msub (T := [RBox g2 _ _, ROw (.slice none 0 0) ([] : List Int)]) ms)
      exact hw.msub ms
    · refine cw_seq ?_
      refine cw_seq ?_
      refine cw_region ?_
      refine rw_run tab_ok 2 [(4, _), (9, _)] rfl ⟨rfl, rfl, trivial⟩ ?_
      refine rw_end ?_
      refine cw_condD rfl (fun h5 => ?_) (fun h5 => ?_)
      · refine cw_as (t := 9) (v' := .bool true) rfl (by rw [decide_eq_true h5]) ?_
        refine cw_skip (xw_then ?_)
        refine cw_cond_t rfl ?_
        refine cw_seq ?_
        refine cw_region ?_
        refine rw_op (ot_bsl (cs := [_, _]) Try.underlying35 Try.sizeOf3 Try.zeroValue3 rfl rfl rfl rfl rfl) rfl rfl (fun g3 _ => ?_)
        refine rw_op (ot_bsl (cs := [_]) Try.underlying35 Try.sizeOf3 Try.zeroValue3 rfl rfl rfl rfl rfl) rfl rfl (fun g4 _ => ?_)
        refine rw_run tab_ok 2 [(2, _), (3, _)] rfl ⟨rfl, rfl, trivial⟩ ?_
        refine rw_end ?_
        have e : plainT c = ([1, 1], [1]) := by unfold plainT; simp [h5]
        refine cw_ret (xw_blkr (xw_thenr ?_))
        refine xw_ret2 Try.results108 (rv_tmp rfl) (rv_tmp rfl) ?_
        intro w hw
        rw [e]
        refine ⟨((some ⟨g3, 0, none⟩, 2), (some ⟨g4, 0, none⟩, 1)), trivial, rfl, ?_⟩
        have hw := row_ow (α := Int) (m := 2) [1, 1] rfl (ints3_i64 (by decide)) rfl (by decide) (hw.msub (T := [RBox g3 _ _, RBox g4 _ _]) ms)
        have hw := row_ow (α := Int) (m := 1) [1] rfl (ints3_i64 (by decide)) rfl (by decide) (hw.msub (T := [RBox g4 _ _, ROw (.slice (some ⟨g3, 0, none⟩) 2 2) ([1, 1] : List Int)]) ms)
        exact hw.msub ms
      · refine cw_seq ?_
        refine cw_region ?_
        refine rw_run tab_ok 2 [(4, _), (9, _)] rfl ⟨rfl, rfl, trivial⟩ ?_
        refine rw_end ?_
        refine cw_condD rfl (fun h6 => ?_) (fun h6 => ?_)
        · refine cw_as (t := 9) (v' := .bool true) rfl (by rw [decide_eq_true h6]) ?_
          refine cw_skip (xw_then ?_)
          refine cw_cond_t rfl ?_
          refine cw_seq ?_
          refine cw_region ?_
          refine rw_op (ot_bsl (cs := [_, _]) Try.underlying35 Try.sizeOf3 Try.zeroValue3 rfl rfl rfl rfl rfl) rfl rfl (fun g5 _ => ?_)
          refine rw_op (ot_bsl (cs := [_]) Try.underlying35 Try.sizeOf3 Try.zeroValue3 rfl rfl rfl rfl rfl) rfl rfl (fun g6 _ => ?_)
          refine rw_run tab_ok 2 [(2, _), (3, _)] rfl ⟨rfl, rfl, trivial⟩ ?_
          refine rw_end ?_
          have e : plainT c = ([1, 1], [1]) := by unfold plainT; simp [h6]
          refine cw_ret (xw_blkr (xw_thenr ?_))
          refine xw_ret2 Try.results108 (rv_tmp rfl) (rv_tmp rfl) ?_
          intro w hw
          rw [e]
          refine ⟨((some ⟨g5, 0, none⟩, 2), (some ⟨g6, 0, none⟩, 1)), trivial, rfl, ?_⟩
          have hw := row_ow (α := Int) (m := 2) [1, 1] rfl (ints3_i64 (by decide)) rfl (by decide) (hw.msub (T := [RBox g5 _ _, RBox g6 _ _]) ms)
          have hw := row_ow (α := Int) (m := 1) [1] rfl (ints3_i64 (by decide)) rfl (by decide) (hw.msub (T := [RBox g6 _ _, ROw (.slice (some ⟨g5, 0, none⟩) 2 2) ([1, 1] : List Int)]) ms)
          exact hw.msub ms
        · refine cw_region ?_
          refine rw_run tab_ok 2 [(4, _), (9, _)] rfl ⟨rfl, rfl, trivial⟩ ?_
          refine rw_end ?_
          refine cw_condD rfl (fun h7 => ?_) (fun h7 => ?_)
          · have e : plainT c = ([1, 1], [1]) := by unfold plainT; simp [h7]
            refine cw_seq ?_
            refine cw_region ?_
            refine rw_op (ot_bsl (cs := [_, _]) Try.underlying35 Try.sizeOf3 Try.zeroValue3 rfl rfl rfl rfl rfl) rfl rfl (fun g7 _ => ?_)
            refine rw_op (ot_bsl (cs := [_]) Try.underlying35 Try.sizeOf3 Try.zeroValue3 rfl rfl rfl rfl rfl) rfl rfl (fun g8 _ => ?_)
            refine rw_run tab_ok 2 [(2, _), (3, _)] rfl ⟨rfl, rfl, trivial⟩ ?_
            refine rw_end ?_
            refine cw_ret (xw_blkr (xw_thenr ?_))
            refine xw_ret2 Try.results108 (rv_tmp rfl) (rv_tmp rfl) ?_
            intro w hw
            rw [e]
            refine ⟨((some ⟨g7, 0, none⟩, 2), (some ⟨g8, 0, none⟩, 1)), trivial, rfl, ?_⟩
            have hw := row_ow (α := Int) (m := 2) [1, 1] rfl (ints3_i64 (by decide)) rfl (by decide) (hw.msub (T := [RBox g7 _ _, RBox g8 _ _]) ms)
            have hw := row_ow (α := Int) (m := 1) [1] rfl (ints3_i64 (by decide)) rfl (by decide) (hw.msub (T := [RBox g8 _ _, ROw (.slice (some ⟨g7, 0, none⟩) 2 2) ([1, 1] : List Int)]) ms)
            exact hw.msub ms
          · refine cw_seq ?_
            refine cw_seq ?_
            refine cw_region ?_
            refine rw_run tab_ok 2 [(4, _), (15, _)] rfl ⟨rfl, rfl, trivial⟩ ?_
            refine rw_end ?_
            refine cw_condD rfl (fun h11 => ?_) (fun h11 => ?_)
            · refine cw_as (t := 15) (v' := .bool true) rfl (by rw [decide_eq_true h11]) ?_
              refine cw_skip (xw_then ?_)
              refine cw_cond_t rfl ?_
              refine cw_seq ?_
              refine cw_region ?_
              refine rw_op (ot_bsl (cs := [_]) Try.underlying35 Try.sizeOf3 Try.zeroValue3 rfl rfl rfl rfl rfl) rfl rfl (fun g9 _ => ?_)
              refine rw_run tab_ok 2 [(2, _), (3, _)] rfl ⟨rfl, rfl, trivial⟩ ?_
              refine rw_end ?_
              have e : plainT c = ([1], []) := by unfold plainT; simp [h11]
              refine cw_ret (xw_blkr (xw_thenr ?_))
              refine xw_ret2 Try.results108 (rv_tmp rfl) (rv_tmp rfl) ?_
              intro w hw
              rw [e]
              refine ⟨((some ⟨g9, 0, none⟩, 1), (none, 0)), trivial, rfl, ?_⟩
              have hw := row_ow (α := Int) (m := 1) [1] rfl (ints3_i64 (by decide)) rfl (by decide) (hw.msub (T := [RBox g9 _ _]) ms)
              have hw := Cw.nilO Int hw
              exact hw.msub ms
            · refine cw_region ?_
              refine rw_run tab_ok 2 [(4, _), (15, _)] rfl ⟨rfl, rfl, trivial⟩ ?_
              refine rw_end ?_
              refine cw_condD rfl (fun h20 => ?_) (fun h20 => ?_)
              · have e : plainT c = ([1], []) := by unfold plainT; simp [h20]
                refine cw_seq ?_
                refine cw_region ?_
                refine rw_op (ot_bsl (cs := [_]) Try.underlying35 Try.sizeOf3 Try.zeroValue3 rfl rfl rfl rfl rfl) rfl rfl (fun g10 _ => ?_)
                refine rw_run tab_ok 2 [(2, _), (3, _)] rfl ⟨rfl, rfl, trivial⟩ ?_
                refine rw_end ?_
                refine cw_ret (xw_blkr (xw_thenr ?_))
                refine xw_ret2 Try.results108 (rv_tmp rfl) (rv_tmp rfl) ?_
                intro w hw
                rw [e]
                refine ⟨((some ⟨g10, 0, none⟩, 1), (none, 0)), trivial, rfl, ?_⟩
                have hw := row_ow (α := Int) (m := 1) [1] rfl (ints3_i64 (by decide)) rfl (by decide) (hw.msub (T := [RBox g10 _ _]) ms)
                have hw := Cw.nilO Int hw
                exact hw.msub ms
              · refine cw_seq ?_
                refine cw_region ?_
                refine rw_run tab_ok 2 [(4, _), (19, _)] rfl ⟨rfl, rfl, trivial⟩ ?_
                refine rw_end ?_
                refine cw_condD rfl (fun h14 => ?_) (fun h14 => ?_)
                · have e : plainT c = ([1], [2]) := by unfold plainT; simp [h14]
                  refine cw_seq ?_
                  refine cw_region ?_
                  refine rw_op (ot_bsl (cs := [_]) Try.underlying35 Try.sizeOf3 Try.zeroValue3 rfl rfl rfl rfl rfl) rfl rfl (fun g11 _ => ?_)
                  refine rw_op (ot_bsl (cs := [_]) Try.underlying35 Try.sizeOf3 Try.zeroValue3 rfl rfl rfl rfl rfl) rfl rfl (fun g12 _ => ?_)
                  refine rw_run tab_ok 2 [(2, _), (3, _)] rfl ⟨rfl, rfl, trivial⟩ ?_
                  refine rw_end ?_
                  refine cw_ret (xw_blkr (xw_thenr ?_))
                  refine xw_ret2 Try.results108 (rv_tmp rfl) (rv_tmp rfl) ?_
                  intro w hw
                  rw [e]
                  refine ⟨((some ⟨g11, 0, none⟩, 1), (some ⟨g12, 0, none⟩, 1)), trivial, rfl, ?_⟩
                  have hw := row_ow (α := Int) (m := 1) [1] rfl (ints3_i64 (by decide)) rfl (by decide) (hw.msub (T := [RBox g11 _ _, RBox g12 _ _]) ms)
                  have hw := row_ow (α := Int) (m := 1) [2] rfl (ints3_i64 (by decide)) rfl (by decide) (hw.msub (T := [RBox g12 _ _, ROw (.slice (some ⟨g11, 0, none⟩) 1 1) ([1] : List Int)]) ms)
                  exact hw.msub ms
                · refine cw_seq ?_
                  refine cw_region ?_
                  refine rw_run tab_ok 2 [(4, _), (23, _)] rfl ⟨rfl, rfl, trivial⟩ ?_
                  refine rw_end ?_
                  refine cw_condD rfl (fun h15 => ?_) (fun h15 => ?_)
                  · have e : plainT c = ([2, 1], [1]) := by unfold plainT; simp [h15]
                    refine cw_seq ?_
                    refine cw_region ?_
                    refine rw_op (ot_bsl (cs := [_, _]) Try.underlying35 Try.sizeOf3 Try.zeroValue3 rfl rfl rfl rfl rfl) rfl rfl (fun g13 _ => ?_)
                    refine rw_op (ot_bsl (cs := [_]) Try.underlying35 Try.sizeOf3 Try.zeroValue3 rfl rfl rfl rfl rfl) rfl rfl (fun g14 _ => ?_)
                    refine rw_run tab_ok 2 [(2, _), (3, _)] rfl ⟨rfl, rfl, trivial⟩ ?_
                    refine rw_end ?_
                    refine cw_ret (xw_blkr (xw_thenr ?_))
                    refine xw_ret2 Try.results108 (rv_tmp rfl) (rv_tmp rfl) ?_
                    intro w hw
                    rw [e]
                    refine ⟨((some ⟨g13, 0, none⟩, 2), (some ⟨g14, 0, none⟩, 1)), trivial, rfl, ?_⟩
                    have hw := row_ow (α := Int) (m := 2) [2, 1] rfl (ints3_i64 (by decide)) rfl (by decide) (hw.msub (T := [RBox g13 _ _, RBox g14 _ _]) ms)
                    have hw := row_ow (α := Int) (m := 1) [1] rfl (ints3_i64 (by decide)) rfl (by decide) (hw.msub (T := [RBox g14 _ _, ROw (.slice (some ⟨g13, 0, none⟩) 2 2) ([2, 1] : List Int)]) ms)
                    exact hw.msub ms
                  · refine cw_seq ?_
                    refine cw_region ?_
                    refine rw_run tab_ok 2 [(4, _), (27, _)] rfl ⟨rfl, rfl, trivial⟩ ?_
                    refine rw_end ?_
                    refine cw_condD rfl (fun h16 => ?_) (fun h16 => ?_)
                    · have e : plainT c = ([2, 1, 1], []) := by unfold plainT; simp [h16]
                      refine cw_seq ?_
                      refine cw_region ?_
                      refine rw_op (ot_bsl (cs := [_, _, _]) Try.underlying35 Try.sizeOf3 Try.zeroValue3 rfl rfl rfl rfl rfl) rfl rfl (fun g15 _ => ?_)
                      refine rw_run tab_ok 2 [(2, _), (3, _)] rfl ⟨rfl, rfl, trivial⟩ ?_
                      refine rw_end ?_
                      refine cw_ret (xw_blkr (xw_thenr ?_))
                      refine xw_ret2 Try.results108 (rv_tmp rfl) (rv_tmp rfl) ?_
                      intro w hw
                      rw [e]
                      refine ⟨((some ⟨g15, 0, none⟩, 3), (none, 0)), trivial, rfl, ?_⟩
                      have hw := row_ow (α := Int) (m := 3) [2, 1, 1] rfl (ints3_i64 (by decide)) rfl (by decide) (hw.msub (T := [RBox g15 _ _]) ms)
                      have hw := Cw.nilO Int hw
                      exact hw.msub ms
                    · refine cw_seq ?_
                      refine cw_seq ?_
                      refine cw_region ?_
                      refine rw_run tab_ok 2 [(4, _), (30, _)] rfl ⟨rfl, rfl, trivial⟩ ?_
                      refine rw_end ?_
                      refine cw_condD rfl (fun h17 => ?_) (fun h17 => ?_)
                      · refine cw_as (t := 30) (v' := .bool true) rfl (by rw [decide_eq_true h17]) ?_
                        refine cw_skip (xw_then ?_)
                        refine cw_cond_t rfl ?_
                        refine cw_seq ?_
                        refine cw_region ?_
                        refine rw_op (ot_bsl (cs := [_]) Try.underlying35 Try.sizeOf3 Try.zeroValue3 rfl rfl rfl rfl rfl) rfl rfl (fun g16 _ => ?_)
                        refine rw_op (ot_bsl (cs := [_]) Try.underlying35 Try.sizeOf3 Try.zeroValue3 rfl rfl rfl rfl rfl) rfl rfl (fun g17 _ => ?_)
                        refine rw_run tab_ok 2 [(2, _), (3, _)] rfl ⟨rfl, rfl, trivial⟩ ?_
                        refine rw_end ?_
                        have e : plainT c = ([2], [1]) := by unfold plainT; simp [h17]
                        refine cw_ret (xw_blkr (xw_thenr ?_))
                        refine xw_ret2 Try.results108 (rv_tmp rfl) (rv_tmp rfl) ?_
                        intro w hw
                        rw [e]
                        refine ⟨((some ⟨g16, 0, none⟩, 1), (some ⟨g17, 0, none⟩, 1)), trivial, rfl, ?_⟩
                        have hw := row_ow (α := Int) (m := 1) [2] rfl (ints3_i64 (by decide)) rfl (by decide) (hw.msub (T := [RBox g16 _ _, RBox g17 _ _]) ms)
                        have hw := row_ow (α := Int) (m := 1) [1] rfl (ints3_i64 (by decide)) rfl (by decide) (hw.msub (T := [RBox g17 _ _, ROw (.slice (some ⟨g16, 0, none⟩) 1 1) ([2] : List Int)]) ms)
                        exact hw.msub ms
                      · refine cw_region ?_
                        refine rw_run tab_ok 2 [(4, _), (30, _)] rfl ⟨rfl, rfl, trivial⟩ ?_
                        refine rw_end ?_
                        refine cw_condD rfl (fun h19 => ?_) (fun h19 => ?_)
                        · have e : plainT c = ([2], [1]) := by unfold plainT; simp [h19]
                          refine cw_seq ?_
                          refine cw_region ?_
                          refine rw_op (ot_bsl (cs := [_]) Try.underlying35 Try.sizeOf3 Try.zeroValue3 rfl rfl rfl rfl rfl) rfl rfl (fun g18 _ => ?_)
                          refine rw_op (ot_bsl (cs := [_]) Try.underlying35 Try.sizeOf3 Try.zeroValue3 rfl rfl rfl rfl rfl) rfl rfl (fun g19 _ => ?_)
                          refine rw_run tab_ok 2 [(2, _), (3, _)] rfl ⟨rfl, rfl, trivial⟩ ?_
                          refine rw_end ?_
                          refine cw_ret (xw_blkr (xw_thenr ?_))
                          refine xw_ret2 Try.results108 (rv_tmp rfl) (rv_tmp rfl) ?_
                          intro w hw
                          rw [e]
                          refine ⟨((some ⟨g18, 0, none⟩, 1), (some ⟨g19, 0, none⟩, 1)), trivial, rfl, ?_⟩
                          have hw := row_ow (α := Int) (m := 1) [2] rfl (ints3_i64 (by decide)) rfl (by decide) (hw.msub (T := [RBox g18 _ _, RBox g19 _ _]) ms)
                          have hw := row_ow (α := Int) (m := 1) [1] rfl (ints3_i64 (by decide)) rfl (by decide) (hw.msub (T := [RBox g19 _ _, ROw (.slice (some ⟨g18, 0, none⟩) 1 1) ([2] : List Int)]) ms)
                          exact hw.msub ms
                        · refine cw_seq ?_
                          refine cw_region ?_
                          refine rw_run tab_ok 2 [(35, _)] rfl ⟨rfl, trivial⟩ ?_
                          refine rw_end ?_
                          refine cw_condD rfl (fun h18 => ?_) (fun h18 => ?_)
                          · have e : plainT c = ([], [3]) := by unfold plainT; simp [h18]
                            refine cw_seq ?_
                            refine cw_region ?_
                            refine rw_op (ot_bsl (cs := [_]) Try.underlying35 Try.sizeOf3 Try.zeroValue3 rfl rfl rfl rfl rfl) rfl rfl (fun g20 _ => ?_)
                            refine rw_run tab_ok 2 [(2, _), (3, _)] rfl ⟨rfl, rfl, trivial⟩ ?_
                            refine rw_end ?_
                            refine cw_ret (xw_blkr (xw_thenr ?_))
                            refine xw_ret2 Try.results108 (rv_tmp rfl) (rv_tmp rfl) ?_
                            intro w hw
                            rw [e]
                            refine ⟨((none, 0), (some ⟨g20, 0, none⟩, 1)), trivial, rfl, ?_⟩
                            have hw := Cw.nilO Int hw
                            have hw := row_ow (α := Int) (m := 1) [3] rfl (ints3_i64 (by decide)) rfl (by decide) (hw.msub (T := [RBox g20 _ _, ROw (.slice none 0 0) ([] : List Int)]) ms)
                            exact hw.msub ms
                          · refine cw_skip (xw_blkn (xw_then ?_))
                            refine cw_seq ?_
                            refine cw_region ?_
                            refine rw_run tab_ok 2 [(2, _), (3, _)] rfl ⟨rfl, rfl, trivial⟩ ?_
                            refine rw_end ?_
                            have e : plainT c = ([], []) := by unfold plainT; simp [h1, h21, h5, h6, h7, h11, h20, h14, h15, h16, h17, h19, h18]
                            refine cw_ret ?_
                            refine xw_ret2 Try.results108 (rv_tmp rfl) (rv_tmp rfl) ?_
                            intro w hw
                            rw [e]
                            refine ⟨((none, 0), (none, 0)), trivial, rfl, ?_⟩
                            have hw := Cw.nilO Int hw
                            have hw := Cw.nilO Int hw
                            exact hw.msub ms
end Go.Proofs.Ytejpkcheimgdfaa

-- V4
/- Verify: an op is tried. -/
namespace Go.Proofs.Ytejpkcheimgdfaa
open Go.RowKit

theorem popS_len (s : Stk) : (popS s).2.1.length ≤ s.1.length := by
  unfold popS
  split
  · exact Nat.le_refl _
  · show (List.take _ _).length ≤ _; rw [List.length_take]; omega
theorem takeS_len (l : List Int) : ∀ (k : Nat) (s : Stk), (takeS l k s).1.length ≤ s.1.length
  | 0, _ => Nat.le_refl _
  | k + 1, s => Nat.le_trans (takeS_len l k _) (popS_len s)
section
variable {B : Nat} {w0 : World} {H : List Res}
set_option maxRecDepth 100000 in
set_option maxHeartbeats 1000000 in
theorem takeS_eq (gs : Nat) {l l' xs : List Int} {wr wr' : Bool} (e : takeS xs xs.length (l, wr) = (l', wr')) (A Ax : Option Addr) (c cx : Nat) (hs : SF B w0 H Ax xs.length cx xs) (hx : xs.length ≤ 1000000) (hl : l.length ≤ 1000000) (w : World)
    (hw : Cw B w0 (RBox gs [.slice A l.length c, .bool wr] 118 :: ROw (.slice A l.length c) l :: H) w) :
    Calls Try.prog 106 #[.pointer (some ⟨gs, 0, none⟩), .slice Ax xs.length cx] w fun e w' => ∃ g : Option Addr × Nat, True ∧ e = .returned (.tuple #[]) ∧
      Cw B w0 (RBox gs [.slice g.1 l'.length g.2, .bool wr'] 118 :: ROw (.slice g.1 l'.length g.2) l' :: H) w' := by
  refine enter_own Try.func106 rfl Try.ntmps106 rfl hw ?_
  refine cw_seq ?_
  refine cw_region ?_
  refine rw_run tab_ok 1 [(0, _), (1, _), (5, _)] rfl ⟨rfl, rfl, rfl, trivial⟩ ?_
  refine rw_s (qs_len Try.underlying35 rfl rfl) rfl rfl ?_
  refine rw_s (qs_sub rfl rfl rfl (by omega)) rfl rfl ?_
  refine rw_run tab_ok 1 [(0, _), (1, _), (4, _)] rfl ⟨rfl, rfl, rfl, trivial⟩ ?_
  refine rw_end ?_
  refine cw_block (cw_loop (fun g : Nat × List Int × Bool × Option Addr × Nat => (takeS xs g.1 (g.2.1, g.2.2.1) = (l', wr') ∧ g.2.1.length ≤ 1000000) ∧ g.1 ≤ xs.length) (fun g => g.1) (fun g => [(0, .pointer (some ⟨gs, 0, none⟩)), (1, .slice Ax xs.length cx), (4, .int .i64 ((g.1 : Int) - 1))]) (fun g => RBox gs [.slice g.2.2.2.1 g.2.1.length g.2.2.2.2, .bool g.2.2.1] 118 :: ROw (.slice g.2.2.2.1 g.2.1.length g.2.2.2.2) g.2.1 :: H) (xs.length, l, wr, A, c) (⟨⟨e, hl⟩, Nat.le_refl _⟩) ⟨rfl, rfl, rfl, trivial⟩ me ?_)
  rintro ⟨k, u, ub, Aj, cj⟩ hj
  try dsimp only
  obtain ⟨⟨hj1, hj2⟩, hj3⟩ : (takeS xs k (u, ub) = (l', wr') ∧ u.length ≤ 1000000) ∧ k ≤ xs.length := hj
  refine cw_seq ?_
  refine cw_seq ?_
  refine cw_region ?_
  refine rw_run tab_ok 2 [(0, _), (1, _), (4, _), (9, _)] rfl ⟨rfl, rfl, rfl, rfl, trivial⟩ ?_
  refine rw_end ?_
  refine cw_condD rfl (fun h => ?_) (fun h => ?_)
  · obtain ⟨j, rfl⟩ : ∃ j, k = j + 1 := ⟨k - 1, by omega⟩
    obtain ⟨t, u1, ub1, ep⟩ : ∃ t u1 ub1, popS (u, ub) = (t, u1, ub1) := ⟨_, _, _, rfl⟩
    have hpl := popS_len (u, ub)
    rw [ep] at hpl
    have hpl : u1.length ≤ u.length := hpl
    have hj1 : takeS xs j (u1, ub1 || !standsB t (xs.getD j 0)) = (l', wr') := by
      unfold takeS at hj1
      rw [ep] at hj1
      exact hj1
    refine cw_skip (xw_then ?_)
    refine cw_as (t := 4) (v' := .int .i64 (j : Int)) rfl (by congr 1; omega) ?_
    refine cw_seq ?_
    refine cw_block ?_
    refine cw_seq ?_
    refine cw_drawq (.still 0 (.still 2 (.still 3 (.still 4 (.still 5 (.pick 1 (.pick 6 (.still 7 .done) .stop) .stop)))))) [] rfl (by kernel_rfl) (by kernel_rfl) H ?_
    refine ro_run tab_ok ha 3 [(0, _), (1, _), (4, _), (12, _), (14, _), (15, _)] rfl ⟨rfl, rfl, rfl, rfl, rfl, rfl, trivial⟩ ?_
    refine ro_s2 rfl (qs_idx Try.underlying35 Try.sizeOf3 hs (by omega) rfl rfl rfl) rfl rfl ha ?_
    refine ro_s2 rfl (qs_ld (SF.int hs (by omega)) rfl rfl Try.isAgg3) rfl rfl ha ?_
    refine ro_op2 rfl (ot_call rfl rfl rfl Try.call104 (fun w hw => pop_eq gs ep Aj cj hj2 w (hw.msub (.s fc (.s fc .r))))) rfl rfl (.inr fun _ => ha) (fun ⟨A1, c1⟩ _ => ?_) ro_stop
    try dsimp only
    refine ro_op2 rfl (ot_c0 rfl rfl rfl Try.call96 (fun w hw => stands_any t (xs.getD j 0) w)) rfl rfl (.inr fun _ => ha) (fun _ _ => ?_) ro_stop
    refine ro_run tab_ok ha 1 [(0, _), (1, _), (4, _), (19, _)] rfl ⟨rfl, rfl, rfl, rfl, trivial⟩ ?_
    refine ro_end ?_
    refine cw_cond rfl (fun hst => ?_) (fun hst => ?_)
    · have hst : standsB t (xs.getD j 0) = false := by simpa using hst
      rw [hst, Bool.not_false, Bool.or_true] at hj1
      refine cw_region ?_
      refine rw_run tab_ok 3 [(0, _), (1, _), (4, _), (22, _)] rfl ⟨rfl, rfl, rfl, rfl, trivial⟩ ?_
      refine rw_op (ot_stb _ fc Try.sizeOf4 rfl rfl rfl rfl rfl (by rfl) rfl (by rfl)) rfl rfl (fun _ _ => ?_)
      refine rw_endx (xw_blkn (xw_then ?_))
      refine cw_region ?_
      refine rw_run tab_ok 1 [(0, _), (1, _), (10, _)] rfl ⟨rfl, rfl, rfl, trivial⟩ ?_
      refine rw_s (qs_sub rfl rfl rfl (by omega)) rfl rfl ?_
      refine rw_run tab_ok 1 [(0, _), (1, _), (4, _)] rfl ⟨rfl, rfl, rfl, trivial⟩ ?_
      refine rw_round (j, u1, true, A1, c1) (⟨⟨hj1, by show u1.length ≤ _; omega⟩, by show j ≤ _; omega⟩) (Nat.lt_succ_self j) ⟨rfl, rfl, rfl, trivial⟩ me
    · have hst : standsB t (xs.getD j 0) = true := by simpa using hst
      rw [hst, Bool.not_true, Bool.or_false] at hj1
      refine cw_skip (xw_blkn (xw_then ?_))
      refine cw_region ?_
      refine rw_run tab_ok 1 [(0, _), (1, _), (10, _)] rfl ⟨rfl, rfl, rfl, trivial⟩ ?_
      refine rw_s (qs_sub rfl rfl rfl (by omega)) rfl rfl ?_
      refine rw_run tab_ok 1 [(0, _), (1, _), (4, _)] rfl ⟨rfl, rfl, rfl, trivial⟩ ?_
      refine rw_round (j, u1, ub1, A1, c1) (⟨⟨hj1, by show u1.length ≤ _; omega⟩, by show j ≤ _; omega⟩) (Nat.lt_succ_self j) ⟨rfl, rfl, rfl, trivial⟩ me
  · obtain rfl : k = 0 := by omega
    simp only [takeS, Prod.mk.injEq] at hj1
    obtain ⟨rfl, rfl⟩ := hj1
    refine cw_exit (xw_thenx (xw_thenx (xw_blk ?_)))
    refine xw_end0 Try.results106  ?_
    intro w hw
    exact ⟨(Aj, cj), trivial, rfl, hw.msub ms⟩
end
end Go.Proofs.Ytejpkcheimgdfaa

-- V5
/- Verify: try of any op. -/
namespace Go.Proofs.Ytejpkcheimgdfaa
open Go.RowKit

theorem popS_mem (s : Stk) : (popS s).1 = 0 ∨ (popS s).1 ∈ s.1 := by
  unfold popS
  split
  · exact .inl rfl
  · right
    show s.1.getD _ 0 ∈ s.1
    rw [List.getD_eq_getElem?_getD, List.getElem?_eq_getElem (by omega)]
    exact List.getElem_mem _
theorem popS_sub (s : Stk) : ∀ x ∈ (popS s).2.1, x ∈ s.1 := by
  unfold popS
  split
  · exact fun _ h => h
  · exact fun x h => List.mem_of_mem_take h
theorem popS_i64 {s : Stk} (h : ∀ x ∈ s.1, I64 x) : I64 (popS s).1 := by
  rcases popS_mem s with e | e
  · rw [e]; decide
  · exact h _ e
/-- What is right with an op of a function of a program. -/
structure OpOk (fs : List MFunc) (f : MFunc) (o : MOp) : Prop where
  loc : (o.c = 8 ∨ o.c = 9) → 0 ≤ o.a ∧ o.a < f.locals.length
  call : o.c = 12 → 0 ≤ o.a ∧ o.a < fs.length
  par : ∀ k, k < fs.length → (0 ≤ (fnAt fs k).params ∧ (fnAt fs k).params ≤ (fnAt fs k).locals.length) ∧ (fnAt fs k).locals.length ≤ 6
  res : I64 f.result
section
variable {B : Nat} {w0 : World} {H H' : List Res}
theorem own_i64 {A : Option Addr} {m c : Nat} {xs : List Int} {w : World} (hw : Cw B w0 H w) (hp : Foc H (ROw (.slice A m c) xs) H') : ∀ x ∈ xs, I64 x := by
  obtain ⟨F, h, _⟩ := hw.rd hp
  have hs : Sl w (.slice A m c) xs := OwL.sl (show OwL w F _ xs from h)
  have hl := SlB.len_eq hs
  intro x hx
  obtain ⟨k, hk, rfl⟩ := List.getElem_of_mem hx
  have := all_i64 hs (k := k) (by omega)
  rwa [List.getD_eq_getElem?_getD, List.getElem?_eq_getElem hk] at this
theorem take_w (gs : Nat) {l l' xs : List Int} {wr wr' : Bool} (e : takeS xs xs.length (l, wr) = (l', wr')) (A Ax : Option Addr) (c cx : Nat) (hx : xs.length ≤ 1000000) (hl : l.length ≤ 1000000) (w : World)
    (hw : Cw B w0 (RBox gs [.slice A l.length c, .bool wr] 118 :: ROw (.slice A l.length c) l :: H) w) (hs : SF B w0 H Ax xs.length cx xs) :
    Calls Try.prog 106 #[.pointer (some ⟨gs, 0, none⟩), .slice Ax xs.length cx] w fun e w' => ∃ g : Option Addr × Nat, True ∧ e = .returned (.tuple #[]) ∧
      Cw B w0 (RBox gs [.slice g.1 l'.length g.2, .bool wr'] 118 :: ROw (.slice g.1 l'.length g.2) l' :: H) w' := takeS_eq gs e A Ax c cx hs hx hl w hw
theorem put_w (gs : Nat) (l xs : List Int) {wr : Bool} (A Ax : Option Addr) (c cx : Nat) (hl : l.length + xs.length ≤ 1000000) (w : World)
    (hw : Cw B w0 (RBox gs [.slice A l.length c, .bool wr] 118 :: ROw (.slice A l.length c) l :: H) w) (hs : SF B w0 H Ax xs.length cx xs) :
    Calls Try.prog 105 #[.pointer (some ⟨gs, 0, none⟩), .slice Ax xs.length cx] w fun e w' => ∃ g : Option Addr × Nat, True ∧ e = .returned (.tuple #[]) ∧
      Cw B w0 (RBox gs [.slice g.1 (l ++ xs).length g.2, .bool wr] 118 :: ROw (.slice g.1 (l ++ xs).length g.2) (l ++ xs) :: H) w' := put_eq gs A Ax c cx hs hl w hw
/-- A literal row of ints. -/
theorem lit_ints {g m : Nat} {cs : List Value} {T : TypeId} (xs : List Int) (hl : xs.length = m) (hm : m ≤ 1000) (hcs : cs = xs.flatMap Flat.enc) (hr : ∀ x ∈ xs, I64 x) (hp : Foc H (RBox g cs T) H') : SF B w0 H (some ⟨g, 0, none⟩) m m xs :=
  SF.lit xs hl (Nat.le_refl _) (by omega) hcs (fun w B x hx => ⟨rfl, hr x hx⟩) hp
theorem SlB.to {α : Type} [Rep α] {w : World} {A : Option Addr} {m c k : Nat} {xs : List α} (h : SlB w B (.slice A m c) xs) (hk : k ≤ m) : SlB w B (.slice A k c) (xs.take k) := by
  have := h.cut 0 k (Nat.zero_le _) hk
  rwa [cutA_0, Nat.sub_zero, Nat.sub_zero, List.drop_zero] at this
theorem SlB.cap {α : Type} [Rep α] {w : World} {A : Option Addr} {m c : Nat} {xs : List α} (h : SlB w B (.slice A m c) xs) : m ≤ c := by
  obtain ⟨_, _, hv, h1, _⟩ := h
  injection hv with e1 e2 e3
  omega
theorem dec_0 (n : Nat) : decide ((0 : Int) < (n : Int)) = (false || decide (0 < n)) := by rw [Bool.false_or]; exact decide_eq_decide.2 (by omega)
theorem dec_8 (n : Nat) : decide ((8 : Int) < (n : Int)) = (false || decide (8 < n)) := by rw [Bool.false_or]; exact decide_eq_decide.2 (by omega)
theorem pair_eq {α β : Type} {a c : α} {b d : β} (h : (a, b) = (c, d)) : a = c ∧ b = d := by injection h with h1 h2; exact ⟨h1, h2⟩
set_option maxRecDepth 100000 in
set_option maxHeartbeats 300000 in
theorem try_any (gs : Nat) (fs : List MFunc) (f : MFunc) (o : MOp) {l l' : List Int} {wr wr' : Bool} (e : tryS fs f o (l, wr) = (l', wr')) (A Ap A1 A2 : Option Addr) (c cp c1 c2 : Nat) (hok : OpOk fs f o) (hp : SlB w0 B (.slice Ap fs.length cp) fs) (hlo : SlB w0 B (.slice A1 f.locals.length c1) f.locals)
    (hl : l.length ≤ 1000) (w : World) (hw : Cw B w0 (RBox gs [.slice A l.length c, .bool wr] 118 :: ROw (.slice A l.length c) l :: H) w) :
    Calls Try.prog 94 #[.pointer (some ⟨gs, 0, none⟩), .agg #[.slice Ap fs.length cp], .agg #[.int .i64 f.params, .slice A1 f.locals.length c1, .int .i64 f.result, .slice A2 f.code.length c2], .agg #[.int .i64 o.c, .int .i64 o.a]] w fun e w' => ∃ g : Option Addr × Nat, True ∧ e = .returned (.tuple #[]) ∧
      Cw B w0 (RBox gs [.slice g.1 l'.length g.2, .bool wr'] 118 :: ROw (.slice g.1 l'.length g.2) l' :: H) w' := by
  have hI : ∀ x ∈ l, I64 x := own_i64 hw .b
  obtain ⟨t, u, ub, ep⟩ : ∃ t u ub, popS (l, wr) = (t, u, ub) := ⟨_, _, _, rfl⟩
  obtain ⟨t2, u2, ub2, ep2⟩ : ∃ t2 u2 ub2, popS (u, ub) = (t2, u2, ub2) := ⟨_, _, _, rfl⟩
  have hpl := popS_len (l, wr)
  have hpl2 := popS_len (u, ub)
  have ht := popS_i64 (s := (l, wr)) hI
  have hsub := popS_sub (l, wr)
  rw [ep] at hpl ht hsub
  have ht2 := popS_i64 (s := (u, ub)) (fun x hx => hI x (hsub x hx))
  rw [ep2] at hpl2 ht2
  have hpl : u.length ≤ l.length := hpl
  have hpl2 : u2.length ≤ u.length := hpl2
  have ht : I64 t := ht
  have ht2 : I64 t2 := ht2
  obtain ⟨L, W1, e0⟩ : ∃ L W1, tryS0 fs f o (l, wr) = (L, W1) := ⟨_, _, rfl⟩
  have e1 : l' = L ∧ wr' = (W1 || decide (8 < L.length)) := by
    unfold tryS at e
    rw [e0] at e
    simp only [Prod.mk.injEq] at e
    exact ⟨e.1.symm, e.2.symm⟩
  obtain ⟨rfl, rfl⟩ := e1
  clear e
  refine enter_own Try.func94 rfl Try.ntmps94 rfl hw ?_
  refine cw_seq ?_
  refine cw_region ?_
  refine rw_op (ot_box rfl rfl rfl) rfl rfl (fun g1 _ => ?_)
  refine rw_op (ot_box rfl rfl rfl) rfl rfl (fun g2 _ => ?_)
  refine rw_op (ot_box rfl rfl rfl) rfl rfl (fun g3 _ => ?_)
  refine rw_end ?_
  refine cw_cut (fun _ : Option Addr × Nat => l'.length ≤ 100000) (fun g => [(0, .pointer (some ⟨gs, 0, none⟩))]) (fun g => RBox gs [.slice g.1 l'.length g.2, .bool W1] 118 :: ROw (.slice g.1 l'.length g.2) l' :: H) ?_ ?_
  · unfold tryS0 at e0
    have hpar := hok.par
    refine cw_seq ?_
    refine cw_region ?_
    refine rw_run tab_ok 1 [(0, _), (5, _), (6, _), (7, _), (14, _)] rfl ⟨rfl, rfl, rfl, rfl, rfl, trivial⟩ ?_
    refine rw_s (qs_ldb fc Try.isAgg3 rfl rfl (by rfl)) rfl rfl ?_
    refine rw_end ?_
    refine cw_block ?_
    refine cw_seq ?_
    refine cw_region ?_
    refine rw_run tab_ok 2 [(0, _), (5, _), (6, _), (7, _), (15, _), (28, _)] rfl ⟨rfl, rfl, rfl, rfl, rfl, rfl, trivial⟩ ?_
    refine rw_end ?_
    refine cw_condD rfl (fun h2 => ?_) (fun h2 => ?_)
    · rw [if_pos h2, ep] at e0
      obtain ⟨rfl, rfl⟩ := pair_eq e0
      refine cw_region ?_
      refine rw_run tab_ok 1 [(0, _), (30, _)] rfl ⟨rfl, rfl, trivial⟩ ?_
      refine rw_op (ot_call rfl rfl rfl Try.call104 (fun w hw => pop_eq gs ep A c (by omega) w (hw.msub (.s fc (.s fc .r))))) rfl rfl (fun ⟨A9, c9⟩ _ => ?_)
      try dsimp only
      refine rw_endx (xw_blkn ?_)
      refine xw_join (A9, c9) (by omega) ⟨rfl, trivial⟩ (fun _ h => h.msub ms)
    · rw [if_neg h2] at e0
      refine cw_seq ?_
      refine cw_region ?_
      refine rw_run tab_ok 2 [(0, _), (5, _), (6, _), (7, _), (15, _), (32, _)] rfl ⟨rfl, rfl, rfl, rfl, rfl, rfl, trivial⟩ ?_
      refine rw_end ?_
      refine cw_condD rfl (fun h3 => ?_) (fun h3 => ?_)
      · rw [if_pos h3, ep] at e0
        obtain ⟨rfl, rfl⟩ := pair_eq e0
        refine cw_seq ?_
        refine cw_region ?_
        refine rw_run tab_ok 1 [(0, _), (34, _)] rfl ⟨rfl, rfl, trivial⟩ ?_
        refine rw_op (ot_call rfl rfl rfl Try.call104 (fun w hw => pop_eq gs ep A c (by omega) w (hw.msub (.s fc (.s fc .r))))) rfl rfl (fun ⟨A9, c9⟩ _ => ?_)
        try dsimp only
        refine rw_run tab_ok 1 [(0, _), (8, _)] rfl ⟨rfl, rfl, trivial⟩ ?_
        refine rw_end ?_
        refine cw_region ?_
        refine rw_run tab_ok 3 [(0, _), (36, _), (37, _), (38, _)] rfl ⟨rfl, rfl, rfl, rfl, trivial⟩ ?_
        refine rw_op (ot_bsl (cs := [_, _]) Try.underlying35 Try.sizeOf3 Try.zeroValue3 rfl rfl rfl rfl rfl) rfl rfl (fun g4 _ => ?_)
        refine rw_op (ot_call rfl rfl rfl Try.call105 (fun w hw => put_w gs u [t, t] A9 _ c9 _ (by simp only [List.length_cons, List.length_nil]; omega) w (hw.msub (.s fc (.s fc .r))) (lit_ints [t, t] rfl (by simp) rfl (two_i64 ht ht) fc))) rfl rfl (fun ⟨A8, c8⟩ _ => ?_)
        try dsimp only
        refine rw_endx (xw_blkn ?_)
        refine xw_join (A8, c8) ((by rw [List.length_append]; simp only [List.length_cons, List.length_nil]; omega)) ⟨rfl, trivial⟩ (fun _ h => h.msub ms)
      · rw [if_neg h3] at e0
        refine cw_seq ?_
        refine cw_region ?_
        refine rw_run tab_ok 2 [(0, _), (5, _), (6, _), (7, _), (15, _), (41, _)] rfl ⟨rfl, rfl, rfl, rfl, rfl, rfl, trivial⟩ ?_
        refine rw_end ?_
        refine cw_condD rfl (fun h4 => ?_) (fun h4 => ?_)
        · rw [if_pos h4, ep] at e0
          simp only [ep2] at e0
          obtain ⟨rfl, rfl⟩ := pair_eq e0
          refine cw_seq ?_
          refine cw_region ?_
          refine rw_run tab_ok 1 [(0, _), (43, _)] rfl ⟨rfl, rfl, trivial⟩ ?_
          refine rw_op (ot_call rfl rfl rfl Try.call104 (fun w hw => pop_eq gs ep A c (by omega) w (hw.msub (.s fc (.s fc .r))))) rfl rfl (fun ⟨A9, c9⟩ _ => ?_)
          try dsimp only
          refine rw_run tab_ok 1 [(0, _), (9, _)] rfl ⟨rfl, rfl, trivial⟩ ?_
          refine rw_end ?_
          refine cw_seq ?_
          refine cw_region ?_
          refine rw_run tab_ok 1 [(0, _), (9, _), (45, _)] rfl ⟨rfl, rfl, rfl, trivial⟩ ?_
          refine rw_op (ot_call rfl rfl rfl Try.call104 (fun w hw => pop_eq gs ep2 A9 c9 (by omega) w (hw.msub (.s fc (.s fc .r))))) rfl rfl (fun ⟨A7, c7⟩ _ => ?_)
          try dsimp only
          refine rw_run tab_ok 1 [(0, _), (9, _), (10, _)] rfl ⟨rfl, rfl, rfl, trivial⟩ ?_
          refine rw_end ?_
          refine cw_region ?_
          refine rw_run tab_ok 3 [(0, _), (47, _), (48, _), (49, _)] rfl ⟨rfl, rfl, rfl, rfl, trivial⟩ ?_
          refine rw_op (ot_bsl (cs := [_, _]) Try.underlying35 Try.sizeOf3 Try.zeroValue3 rfl rfl rfl rfl rfl) rfl rfl (fun g5 _ => ?_)
          refine rw_op (ot_call rfl rfl rfl Try.call105 (fun w hw => put_w gs u2 [t, t2] A7 _ c7 _ (by simp only [List.length_cons, List.length_nil]; omega) w (hw.msub (.s fc (.s fc .r))) (lit_ints [t, t2] rfl (by simp) rfl (two_i64 ht ht2) fc))) rfl rfl (fun ⟨A8, c8⟩ _ => ?_)
          try dsimp only
          refine rw_endx (xw_blkn ?_)
          refine xw_join (A8, c8) ((by rw [List.length_append]; simp only [List.length_cons, List.length_nil]; omega)) ⟨rfl, trivial⟩ (fun _ h => h.msub ms)
        · rw [if_neg h4] at e0
          refine cw_seq ?_
          refine cw_region ?_
          refine rw_run tab_ok 2 [(0, _), (5, _), (6, _), (7, _), (15, _), (52, _)] rfl ⟨rfl, rfl, rfl, rfl, rfl, rfl, trivial⟩ ?_
          refine rw_end ?_
          refine cw_condD rfl (fun h8 => ?_) (fun h8 => ?_)
          · have hlc := hok.loc (.inl h8)
            rw [if_pos h8] at e0
            obtain ⟨rfl, rfl⟩ := pair_eq e0
            have hq := all_i64 hlo (k := o.a.toNat) (by omega)
            refine cw_region ?_
            refine rw_run tab_ok 2 [(0, _), (7, _), (54, _), (55, _)] rfl ⟨rfl, rfl, rfl, rfl, trivial⟩ ?_
            refine rw_s (qs_ldb fc Try.isAgg35 rfl rfl (by rfl)) rfl rfl ?_
            refine rw_run tab_ok 1 [(0, _), (54, _), (56, _), (57, _)] rfl ⟨rfl, rfl, rfl, rfl, trivial⟩ ?_
            refine rw_s (qs_ldb fc Try.isAgg3 rfl rfl (by rfl)) rfl rfl ?_
            refine rw_s (qs_idxI Try.underlying35 Try.sizeOf3 (.ro hlo) (by omega) rfl rfl rfl) rfl rfl ?_
            refine rw_s (qs_ld (SF.int (.ro hlo) (by omega)) rfl rfl Try.isAgg3) rfl rfl ?_
            refine rw_op (ot_bsl (cs := [_]) Try.underlying35 Try.sizeOf3 Try.zeroValue3 rfl rfl rfl rfl rfl) rfl rfl (fun g6 _ => ?_)
            refine rw_op (ot_call rfl rfl rfl Try.call105 (fun w hw => put_w gs l [f.locals.getD o.a.toNat 0] A _ c _ (by simp only [List.length_cons, List.length_nil]; omega) w (hw.msub (.s fc (.s fc .r))) (lit_ints [f.locals.getD o.a.toNat 0] rfl (by simp) rfl (one_i64 hq) fc))) rfl rfl (fun ⟨A8, c8⟩ _ => ?_)
            try dsimp only
            refine rw_endx (xw_blkn ?_)
            refine xw_join (A8, c8) ((by rw [List.length_append]; simp only [List.length_cons, List.length_nil]; omega)) ⟨rfl, trivial⟩ (fun _ h => h.msub ms)
          · rw [if_neg h8] at e0
            refine cw_seq ?_
            refine cw_region ?_
            refine rw_run tab_ok 2 [(0, _), (5, _), (6, _), (7, _), (15, _), (63, _)] rfl ⟨rfl, rfl, rfl, rfl, rfl, rfl, trivial⟩ ?_
            refine rw_end ?_
            refine cw_condD rfl (fun h9 => ?_) (fun h9 => ?_)
            · have hlc := hok.loc (.inr h9)
              rw [if_pos h9] at e0
              have hq := all_i64 hlo (k := o.a.toNat) (by omega)
              have htl := takeS_len [f.locals.getD o.a.toNat 0] 1 (l, wr)
              rw [e0] at htl
              have htl : l'.length ≤ l.length := htl
              refine cw_region ?_
              refine rw_run tab_ok 2 [(0, _), (7, _), (65, _), (66, _)] rfl ⟨rfl, rfl, rfl, rfl, trivial⟩ ?_
              refine rw_s (qs_ldb fc Try.isAgg35 rfl rfl (by rfl)) rfl rfl ?_
              refine rw_run tab_ok 1 [(0, _), (65, _), (67, _), (68, _)] rfl ⟨rfl, rfl, rfl, rfl, trivial⟩ ?_
              refine rw_s (qs_ldb fc Try.isAgg3 rfl rfl (by rfl)) rfl rfl ?_
              refine rw_s (qs_idxI Try.underlying35 Try.sizeOf3 (.ro hlo) (by omega) rfl rfl rfl) rfl rfl ?_
              refine rw_s (qs_ld (SF.int (.ro hlo) (by omega)) rfl rfl Try.isAgg3) rfl rfl ?_
              refine rw_op (ot_bsl (cs := [_]) Try.underlying35 Try.sizeOf3 Try.zeroValue3 rfl rfl rfl rfl rfl) rfl rfl (fun g7 _ => ?_)
              refine rw_op (ot_call rfl rfl rfl Try.call106 (fun w hw => take_w gs (xs := [f.locals.getD o.a.toNat 0]) e0 A _ c _ (by simp) (by omega) w (hw.msub (.s fc (.s fc .r))) (lit_ints [f.locals.getD o.a.toNat 0] rfl (by simp) rfl (one_i64 hq) fc))) rfl rfl (fun ⟨A8, c8⟩ _ => ?_)
              try dsimp only
              refine rw_endx (xw_blkn ?_)
              refine xw_join (A8, c8) (by omega) ⟨rfl, trivial⟩ (fun _ h => h.msub ms)
            · rw [if_neg h9] at e0
              refine cw_seq ?_
              refine cw_region ?_
              refine rw_run tab_ok 2 [(0, _), (5, _), (6, _), (7, _), (15, _), (74, _)] rfl ⟨rfl, rfl, rfl, rfl, rfl, rfl, trivial⟩ ?_
              refine rw_end ?_
              refine cw_condD rfl (fun h12 => ?_) (fun h12 => ?_)
              · have hcall := hok.call h12
                rw [if_pos h12] at e0
                obtain ⟨k, hk⟩ : ∃ k : Nat, o.a = (k : Int) := ⟨o.a.toNat, by omega⟩
                have hkl : k < fs.length := by omega
                rw [hk, Int.toNat_natCast] at e0
                obtain ⟨A3, c3, A4, c4, hl3, hc3, hi3, hcell⟩ := hp.fn hkl
                obtain ⟨hpk, hl6⟩ := hpar k hkl
                obtain ⟨u3, ub3, e3⟩ : ∃ u3 ub3, takeS (calledT (fnAt fs k)) (calledT (fnAt fs k)).length (l, wr) = (u3, ub3) := ⟨_, _, rfl⟩
                have htl := takeS_len (calledT (fnAt fs k)) (calledT (fnAt fs k)).length (l, wr)
                rw [e3] at htl e0
                have htl : u3.length ≤ l.length := htl
                obtain ⟨rfl, rfl⟩ := pair_eq e0
                have hcl : (calledT (fnAt fs k)).length = (fnAt fs k).params.toNat := by unfold calledT; rw [List.length_take]; omega
                have hcap := hl3.cap
                have hto := hl3.to (k := (fnAt fs k).params.toNat) (by omega)
                have hrl : (resultT (fnAt fs k)).length ≤ 1 := by unfold resultT; split <;> simp
                refine cw_mem (H' := _) (fun w h => by rw [hk] at h; exact h) ?_
                refine cw_seq ?_
                refine cw_region ?_
                refine rw_run tab_ok 1 [(0, _), (7, _), (76, _)] rfl ⟨rfl, rfl, rfl, trivial⟩ ?_
                refine rw_s (qs_ldb fc Try.isAgg22 rfl rfl (by rfl)) rfl rfl ?_
                refine rw_run tab_ok 1 [(0, _), (77, _), (78, _)] rfl ⟨rfl, rfl, rfl, trivial⟩ ?_
                refine rw_s (qs_ldb fc Try.isAgg3 rfl rfl (by rfl)) rfl rfl ?_
                refine rw_s (qs_idx (k := k) Try.underlying22 Try.sizeOf54 (.ro hp) (by omega) rfl rfl rfl) rfl rfl ?_
                refine rw_s (qs_ldA (hcell _) rfl rfl Try.isAgg54 Try.sizeOf54) rfl rfl ?_
                refine rw_op (ot_alloc Try.zeroValue54 rfl rfl) rfl rfl (fun g8 _ => ?_)
                refine rw_op (ot_stb _ fc Try.sizeOf54 rfl rfl rfl rfl rfl (by rfl) rfl (by rfl)) rfl rfl (fun _ _ => ?_)
                refine rw_end ?_
                refine cw_seq ?_
                refine cw_region ?_
                refine rw_run tab_ok 2 [(0, _), (11, _), (82, _), (83, _)] rfl ⟨rfl, rfl, rfl, rfl, trivial⟩ ?_
                refine rw_s (qs_ldb fc Try.isAgg35 rfl rfl (by rfl)) rfl rfl ?_
                refine rw_run tab_ok 1 [(0, _), (11, _), (82, _), (84, _), (85, _)] rfl ⟨rfl, rfl, rfl, rfl, rfl, trivial⟩ ?_
                refine rw_s (qs_ldb fc Try.isAgg3 rfl rfl (by rfl)) rfl rfl ?_
                refine rw_as (t := 86) (v' := .int .i64 ((fnAt fs k).params.toNat : Int)) rfl (by congr 1; omega) ?_
                refine rw_s (qs_to Try.underlying35 Try.sizeOf3 (by omega) rfl rfl rfl) rfl rfl ?_
                refine rw_as (t := 87) (v' := .slice A3 (calledT (fnAt fs k)).length c3) rfl (by rw [hcl]) ?_
                refine rw_op (ot_call rfl rfl rfl Try.call106 (fun w hw => take_w gs e3 A _ c _ (by omega) (by omega) w (hw.msub (.s fc (.s fc .r))) (by rw [hcl]; exact .ro hto))) rfl rfl (fun ⟨A9, c9⟩ _ => ?_)
                try dsimp only
                refine rw_end ?_
                refine cw_region ?_
                refine rw_run tab_ok 1 [(0, _), (11, _), (89, _)] rfl ⟨rfl, rfl, rfl, trivial⟩ ?_
                refine rw_s (qs_ldbA (vs := [_, _, _, _]) fc Try.isAgg54 Try.sizeOf54 rfl rfl (by rfl) rfl) rfl rfl ?_
                refine rw_op (ot_c rfl rfl rfl Try.call107 (fun w hw => result_any (fnAt fs k) A3 A4 c3 c4 hi3.2 w)) rfl rfl (fun ⟨A7, c7⟩ _ => ?_)
                try dsimp only
                refine rw_op (ot_call rfl rfl rfl Try.call105 (fun w hw => put_w gs u3 (resultT (fnAt fs k)) A9 _ c9 _ (by omega) w (hw.msub (.s fc (.s fc .r))) (.own rfl fc))) rfl rfl (fun ⟨A8, c8⟩ _ => ?_)
                try dsimp only
                refine rw_endx (xw_blkn ?_)
                refine xw_join (A8, c8) ((by rw [List.length_append]; omega)) ⟨rfl, trivial⟩ (fun _ h => h.msub ms)
              · rw [if_neg h12] at e0
                refine cw_seq ?_
                refine cw_region ?_
                refine rw_run tab_ok 2 [(0, _), (6, _), (7, _), (93, _)] rfl ⟨rfl, rfl, rfl, rfl, trivial⟩ ?_
                refine rw_end ?_
                refine cw_condD rfl (fun h13 => ?_) (fun h13 => ?_)
                · rw [if_pos h13] at e0
                  obtain ⟨u3, ub3, e3⟩ : ∃ u3 ub3, takeS (resultT f) (resultT f).length (l, wr) = (u3, ub3) := ⟨_, _, rfl⟩
                  have htl := takeS_len (resultT f) (resultT f).length (l, wr)
                  rw [e3] at htl e0
                  have htl : u3.length ≤ l.length := htl
                  obtain ⟨rfl, rfl⟩ := pair_eq e0
                  have hrl : (resultT f).length ≤ 1 := by unfold resultT; split <;> simp
                  refine cw_seq ?_
                  refine cw_region ?_
                  refine rw_run tab_ok 1 [(0, _), (6, _), (95, _)] rfl ⟨rfl, rfl, rfl, trivial⟩ ?_
                  refine rw_s (qs_ldbA (vs := [_, _, _, _]) fc Try.isAgg54 Try.sizeOf54 rfl rfl (by rfl) rfl) rfl rfl ?_
                  refine rw_op (ot_c rfl rfl rfl Try.call107 (fun w hw => result_any f A1 A2 c1 c2 hok.res w)) rfl rfl (fun ⟨A7, c7⟩ _ => ?_)
                  try dsimp only
                  refine rw_op (ot_call rfl rfl rfl Try.call106 (fun w hw => take_w gs e3 A _ c _ (by omega) (by omega) w (hw.msub (.s fc (.s fc .r))) (.own rfl fc))) rfl rfl (fun ⟨A9, c9⟩ _ => ?_)
                  try dsimp only
                  refine rw_end ?_
                  refine cw_region ?_
                  refine rw_run tab_ok 4 [(0, _), (99, _), (102, _)] rfl ⟨rfl, rfl, rfl, trivial⟩ ?_
                  refine rw_s (qs_ldb fc Try.isAgg4 rfl rfl (by rfl)) rfl rfl ?_
                  refine rw_run tab_ok 1 [(0, _), (99, _), (104, _)] rfl ⟨rfl, rfl, rfl, trivial⟩ ?_
                  refine rw_split (t := 104) rfl (fun hq => ?_) (fun hq => ?_)
                  · have hq : ub3 = true := hq
                    subst hq
                    refine rw_run tab_ok 9 [(0, _), (111, _), (113, _)] rfl ⟨rfl, rfl, rfl, trivial⟩ ?_
                    refine rw_op (ot_stb _ fc Try.sizeOf4 rfl rfl rfl rfl rfl (by rfl) rfl (by rfl)) rfl rfl (fun _ _ => ?_)
                    refine rw_endx (xw_blkn ?_)
                    refine xw_join (A9, c9) (by omega) ⟨rfl, trivial⟩ (fun _ h => h.msub ms)
                  · have hq : ub3 = false := hq
                    subst hq
                    refine rw_run tab_ok 3 [(0, _), (99, _), (104, _), (107, _)] rfl ⟨rfl, rfl, rfl, rfl, trivial⟩ ?_
                    refine rw_s (qs_ldb fc Try.isAgg35 rfl rfl (by rfl)) rfl rfl ?_
                    refine rw_s (qs_len Try.underlying35 rfl rfl) rfl rfl ?_
                    refine rw_run tab_ok 4 [(0, _), (111, _), (113, _)] rfl ⟨rfl, rfl, rfl, trivial⟩ ?_
                    refine rw_op (ot_stb _ fc Try.sizeOf4 rfl rfl rfl rfl rfl (by rfl) rfl (by rfl)) rfl rfl (fun _ _ => ?_)
                    refine rw_endx (xw_blkn ?_)
                    refine xw_join (A9, c9) (by omega) ⟨rfl, trivial⟩ (fun _ h => by rw [dec_0] at h; exact h.msub ms)
                · rw [if_neg h13] at e0
                  obtain ⟨u3, ub3, e3⟩ : ∃ u3 ub3, takeS (plainT o.c).1 (plainT o.c).1.length (l, wr) = (u3, ub3) := ⟨_, _, rfl⟩
                  have htl := takeS_len (plainT o.c).1 (plainT o.c).1.length (l, wr)
                  rw [e3] at htl e0
                  have htl : u3.length ≤ l.length := htl
                  obtain ⟨rfl, rfl⟩ := pair_eq e0
                  have hpl3 : (plainT o.c).1.length ≤ 3 ∧ (plainT o.c).2.length ≤ 3 := by unfold plainT; repeat (first | split | decide)
                  refine cw_seq ?_
                  refine cw_region ?_
                  refine rw_run tab_ok 1 [(0, _), (17, _)] rfl ⟨rfl, rfl, trivial⟩ ?_
                  refine rw_s (qs_ldb fc Try.isAgg3 rfl rfl (by rfl)) rfl rfl ?_
                  refine rw_op (ot_c rfl rfl rfl Try.call108 (fun w hw => plain_any o.c w)) rfl rfl (fun ⟨⟨A6, c6⟩, ⟨A7, c7⟩⟩ _ => ?_)
                  try dsimp only
                  refine rw_run tab_ok 5 [(0, _), (12, _), (13, _)] rfl ⟨rfl, rfl, rfl, trivial⟩ ?_
                  refine rw_end ?_
                  refine cw_seq ?_
                  refine cw_region ?_
                  refine rw_run tab_ok 2 [(0, _), (13, _), (22, _), (23, _)] rfl ⟨rfl, rfl, rfl, rfl, trivial⟩ ?_
                  refine rw_op (ot_call rfl rfl rfl Try.call106 (fun w hw => take_w gs e3 A _ c _ (by omega) (by omega) w (hw.msub (.s fc (.s fc .r))) (.own rfl fc))) rfl rfl (fun ⟨A9, c9⟩ _ => ?_)
                  try dsimp only
                  refine rw_end ?_
                  refine cw_region ?_
                  refine rw_run tab_ok 2 [(0, _), (25, _), (26, _)] rfl ⟨rfl, rfl, rfl, trivial⟩ ?_
                  refine rw_op (ot_call rfl rfl rfl Try.call105 (fun w hw => put_w gs u3 (plainT o.c).2 A9 _ c9 _ (by omega) w (hw.msub (.s fc (.s fc .r))) (.own rfl fc))) rfl rfl (fun ⟨A8, c8⟩ _ => ?_)
                  try dsimp only
                  refine rw_endx (xw_blkn ?_)
                  refine xw_join (A8, c8) ((by rw [List.length_append]; omega)) ⟨rfl, trivial⟩ (fun _ h => h.msub ms)
  · rintro ⟨A9, c9⟩ hlen
    try dsimp only
    refine cw_region ?_
    refine rw_run tab_ok 4 [(0, _), (114, _), (117, _)] rfl ⟨rfl, rfl, rfl, trivial⟩ ?_
    refine rw_s (qs_ldb fc Try.isAgg4 rfl rfl (by rfl)) rfl rfl ?_
    refine rw_run tab_ok 1 [(0, _), (114, _), (119, _)] rfl ⟨rfl, rfl, rfl, trivial⟩ ?_
    refine rw_split (t := 119) rfl (fun hq => ?_) (fun hq => ?_)
    · have hq : W1 = true := hq
      subst hq
      refine rw_run tab_ok 9 [(126, _), (128, _)] rfl ⟨rfl, rfl, trivial⟩ ?_
      refine rw_op (ot_stb _ fc Try.sizeOf4 rfl rfl rfl rfl rfl (by rfl) rfl (by rfl)) rfl rfl (fun _ _ => ?_)
      refine rw_endx ?_
      refine xw_end0 Try.results94  ?_
      intro w hw
      exact ⟨(A9, c9), trivial, rfl, hw.msub ms⟩
    · have hq : W1 = false := hq
      subst hq
      refine rw_run tab_ok 3 [(114, _), (119, _), (122, _)] rfl ⟨rfl, rfl, rfl, trivial⟩ ?_
      refine rw_s (qs_ldb fc Try.isAgg35 rfl rfl (by rfl)) rfl rfl ?_
      refine rw_s (qs_len Try.underlying35 rfl rfl) rfl rfl ?_
      refine rw_run tab_ok 4 [(126, _), (128, _)] rfl ⟨rfl, rfl, trivial⟩ ?_
      refine rw_op (ot_stb _ fc Try.sizeOf4 rfl rfl rfl rfl rfl (by rfl) rfl (by rfl)) rfl rfl (fun _ _ => ?_)
      refine rw_endx ?_
      refine xw_end0 Try.results94  ?_
      intro w hw
      refine ⟨(A9, c9), trivial, rfl, ?_⟩
      rw [dec_8] at hw
      exact hw.msub ms
end
end Go.Proofs.Ytejpkcheimgdfaa

