/- Texts of one proof, one behind the other: lemmas alone. -/
import Derived.Test.YtejpkcheimgdfaaM9Q
import Derived.Test.YtejpkcheimgdfaaM7Q
import Derived.Test.YtejpkcheimgdfaaM5Q

-- V22
/- Verify: its law More. -/
namespace Go.Proofs.Ytejpkcheimgdfaa
open Go.RowKit

section
variable {P : Program} {n B : Nat} {w0 : World} {o : Oper} {env : Env} {H : List Res}
theorem OT.mem {γ : Type} {Φ : γ → Prop} {val : γ → Value} {H' H'' : γ → List Res} (h : OT P n B w0 o env H Φ val H') (hm : ∀ g w, Cw B w0 (H' g) w → Cw B w0 (H'' g) w) : OT P n B w0 o env H Φ val H'' := fun a w hf hw =>
  Oper.wp_mono_ (h a w hf hw) (fun _ _ ⟨g, h1, h2, h3⟩ => ⟨g, h1, h2, hm g _ h3⟩) (fun _ _ _ h => h)
end
set_option maxRecDepth 100000 in
set_option maxHeartbeats 4000000 in
theorem verifyMore_any (A A1 A2 : Option Addr) (c c1 c2 : Nat) (fs : List MFunc) (m : MFunc) (z : Int) (w : World) (hs : Sl w (.slice A fs.length c) fs) (h1 : Sl w (.slice A1 m.locals.length c1) m.locals) (h2 : Sl w (.slice A2 m.code.length c2) m.code) (hi : I64 m.params ∧ I64 m.result) (hl : fs.length * 64 ≤ 140737488351232) :
    Calls Try.prog 8 #[.agg #[.slice A fs.length c], .agg #[.int .i64 m.params, .slice A1 m.locals.length c1, .int .i64 m.result, .slice A2 m.code.length c2], .int .i64 z] w fun e w' => e = .returned (.bool true) ∧ Below w.heap.size w w' := by
  have b1 := len_bd hs
  obtain ⟨hf, hfl, hfr, hfs⟩ := SlB.hfun hs
  obtain ⟨q, hq⟩ : ∃ q, hf ++ [(⟨m.params, .slice A1 m.locals.length c1, m.result, .slice A2 m.code.length c2⟩ : HFun)] = q := ⟨_, rfl⟩
  have hql : q.length = (fs ++ [m]).length := by rw [← hq]; simp [hfl]
  have hqr : ∀ (i : Nat) (a : HFun) (f : MFunc), q[i]? = some a → (fs ++ [m])[i]? = some f → HOf w.heap.size w a f := fun i a f ha hf2 => by
    rw [← hq] at ha
    by_cases hlt : i < fs.length
    · rw [List.getElem?_append_left (by omega)] at ha
      rw [List.getElem?_append_left hlt] at hf2
      exact hfr i a f ha hf2
    · rw [List.getElem?_append_right (by omega)] at ha hf2
      rw [show i - hf.length = i - fs.length from by omega] at ha
      obtain ⟨hi0, rfl⟩ := List.getElem?_eq_some_iff.1 ha
      obtain ⟨_, rfl⟩ := List.getElem?_eq_some_iff.1 hf2
      simp at hi0
      have : i - fs.length = 0 := by omega
      simp only [this, List.getElem_cons_zero]
      exact ⟨rfl, rfl, hi, h1, h2⟩
  refine enter Try.func8 rfl Try.ntmps8 rfl ?_
  refine cw_seq ?_
  refine cw_region ?_
  refine rw_op (ot_box rfl rfl rfl) rfl rfl (fun g1 _ => ?_)
  refine rw_op (ot_box rfl rfl rfl) rfl rfl (fun g2 _ => ?_)
  refine rw_run tab_ok 1 [(2, _), (3, _), (4, _)] rfl ⟨rfl, rfl, rfl, trivial⟩ ?_
  refine rw_end ?_
  refine cw_seq ?_
  refine cw_seq ?_
  refine cw_region ?_
  refine rw_op (ot_c0 rfl rfl rfl Try.call23 (fun w hw => verifyBegun_any w)) rfl rfl (fun _ _ => ?_)
  refine rw_run tab_ok 2 [(2, _), (3, _), (4, _), (14, _)] rfl ⟨rfl, rfl, rfl, rfl, trivial⟩ ?_
  refine rw_op (ot_c0 rfl rfl rfl Try.call15 (fun w hw => progBegun_any w)) rfl rfl (fun _ _ => ?_)
  refine rw_run tab_ok 2 [(2, _), (3, _), (4, _), (17, _)] rfl ⟨rfl, rfl, rfl, rfl, trivial⟩ ?_
  refine rw_end ?_
  refine cw_cond_f rfl ?_
  refine cw_skip (xw_then ?_)
  refine cw_cut (fun _ : Nat × Option Addr × Nat => True) (fun g => [(2, .int .i64 z), (3, .pointer (some ⟨g1, 0, none⟩)), (7, .pointer (some ⟨g.1, 0, none⟩))]) (fun g => [RBox g1 [.slice A fs.length c] 24, RBox g.1 [.slice g.2.1 q.length g.2.2] 24, ROw (.slice g.2.1 q.length g.2.2) q]) ?_ ?_
  · refine cw_draw (.still 1 (.still 2 (.still 4 (.pick 0 (.pick 3 (.pick 5 (.pick 6 (.still 7 (.pick 8 (.pick 9 .done .stop) .stop)) (.pick 8 (.pick 6 (.still 7 (.pick 9 .done .stop)) .stop) .stop)) (.pick 8 (.pick 5 (.pick 6 (.still 7 (.pick 9 .done .stop)) .stop) .stop) .stop)) (.pick 5 (.pick 3 (.pick 6 (.still 7 (.pick 8 (.pick 9 .done .stop) .stop)) (.pick 8 (.pick 6 (.still 7 (.pick 9 .done .stop)) .stop) .stop)) (.pick 8 (.pick 3 (.pick 6 (.still 7 (.pick 9 .done .stop)) .stop) .stop) .stop)) (.pick 8 (.pick 3 (.pick 5 (.pick 6 (.still 7 (.pick 9 .done .stop)) .stop) .stop) (.pick 5 (.pick 3 (.pick 6 (.still 7 (.pick 9 .done .stop)) .stop) .stop) .stop)) .stop))) (.pick 5 (.pick 0 (.pick 3 (.pick 6 (.still 7 (.pick 8 (.pick 9 .done .stop) .stop)) (.pick 8 (.pick 6 (.still 7 (.pick 9 .done .stop)) .stop) .stop)) (.pick 8 (.pick 3 (.pick 6 (.still 7 (.pick 9 .done .stop)) .stop) .stop) .stop)) (.pick 8 (.pick 0 (.pick 3 (.pick 6 (.still 7 (.pick 9 .done .stop)) .stop) .stop) .stop) .stop)) (.pick 8 (.pick 0 (.pick 3 (.pick 5 (.pick 6 (.still 7 (.pick 9 .done .stop)) .stop) .stop) (.pick 5 (.pick 3 (.pick 6 (.still 7 (.pick 9 .done .stop)) .stop) .stop) .stop)) (.pick 5 (.pick 0 (.pick 3 (.pick 6 (.still 7 (.pick 9 .done .stop)) .stop) .stop) .stop) .stop)) .stop)))))) [9] rfl (by kernel_rfl) (by kernel_rfl) ?_
    refine ro_run tab_ok ha 1 [(2, _), (3, _), (4, _), (19, _)] rfl ⟨rfl, rfl, rfl, rfl, trivial⟩ ?_
    refine ro_s2 rfl (qs_ldb fc Try.isAgg22 rfl rfl (by rfl)) rfl rfl ha ?_
    refine ro_s2 rfl (qs_ldbA (vs := [_, _, _, _]) fc Try.isAgg54 Try.sizeOf54 rfl rfl (by rfl) rfl) rfl rfl ha ?_
    refine ro_op2 rfl ((ot_bsl (cs := []) Try.underlying22 Try.sizeOf54 Try.zeroValue54 rfl rfl rfl rfl rfl).mem (H'' := fun g => ROw (.slice (some ⟨g, 0, none⟩) 0 0) ([] : List HFun) :: _) fun g w h => row_ow (α := HFun) (m := 0) [] rfl (by simp) rfl (by decide) h) rfl rfl (.inr fun _ => ha) (fun ge _ => ?_) ?_
    · refine ro_op2 rfl (ot_appS (α := HFun) (bytes := 64) (xs := []) (ys := hf) (List.nil_append hf).symm Try.underlying22 (info_ex Try.inFunc) rfl fc (.ro hfs) (by simp only [List.length_nil]; omega) (by simp only [List.length_nil]; omega) rfl rfl rfl) rfl rfl (.inr fun _ => ha) (fun ⟨A5, c5⟩ _ => ?_) ?_
      · try dsimp only
        refine ro_op2 rfl (ot_bsl (cs := [_, _, _, _]) Try.underlying22 Try.sizeOf54 Try.zeroValue54 rfl rfl rfl rfl rfl) rfl rfl (.inr fun _ => ha) (fun g3 _ => ?_) ?_
        · try dsimp only
          refine ro_op2 rfl (ot_app1 (α := HFun) (bytes := 64) ⟨m.params, .slice A1 m.locals.length c1, m.result, .slice A2 m.code.length c2⟩ [] rfl Try.underlying22 (info_ex Try.inFunc) rfl (perm2 fc fc) (hel_flat ⟨hi, rfl, rfl⟩) (by omega) (by omega) rfl rfl rfl) rfl rfl (.inr fun _ => ha) (fun ⟨A6, c6⟩ _ => ?_) ?_
          · try dsimp only
            refine ro_s2 rfl (qs_bst (cs := [_]) plT24 Try.zeroValue24 rfl rfl (by rfl)) rfl rfl ha ?_
            refine ro_op2 rfl (ot_alloc Try.zeroValue24 rfl rfl) rfl rfl (.inr fun _ => ha) (fun gx _ => ?_) ro_stop
            refine ro_op2 rfl (ot_stb _ fc Try.sizeOf24 rfl rfl rfl rfl rfl (by rfl) rfl (by rfl)) rfl rfl (.inl rfl) (fun _ _ => ?_) ro_stop
            rw [hq]
            refine ro_endx <| xw_join (gx, A6, c6) (trivial) ⟨rfl, rfl, rfl, trivial⟩ (fun _ h => h.msub ms)
          · refine ro_op2 rfl (ot_alloc Try.zeroValue24 rfl rfl) rfl rfl (.inr fun _ => ha) (fun gx _ => ?_) ro_stop
            refine ro_op2 rfl (ot_app1 (α := HFun) (bytes := 64) ⟨m.params, .slice A1 m.locals.length c1, m.result, .slice A2 m.code.length c2⟩ [] rfl Try.underlying22 (info_ex Try.inFunc) rfl (perm2 fc fc) (hel_flat ⟨hi, rfl, rfl⟩) (by omega) (by omega) rfl rfl rfl) rfl rfl (.inr fun _ => ha) (fun ⟨A6, c6⟩ _ => ?_) ro_stop
            try dsimp only
            refine ro_s2 rfl (qs_bst (cs := [_]) plT24 Try.zeroValue24 rfl rfl (by rfl)) rfl rfl ha ?_
            refine ro_op2 rfl (ot_stb _ fc Try.sizeOf24 rfl rfl rfl rfl rfl (by rfl) rfl (by rfl)) rfl rfl (.inl rfl) (fun _ _ => ?_) ro_stop
            rw [hq]
            refine ro_endx <| xw_join (gx, A6, c6) (trivial) ⟨rfl, rfl, rfl, trivial⟩ (fun _ h => h.msub ms)
        · refine ro_op2 rfl (ot_alloc Try.zeroValue24 rfl rfl) rfl rfl (.inr fun _ => ha) (fun gx _ => ?_) ro_stop
          refine ro_op2 rfl (ot_bsl (cs := [_, _, _, _]) Try.underlying22 Try.sizeOf54 Try.zeroValue54 rfl rfl rfl rfl rfl) rfl rfl (.inr fun _ => ha) (fun g4 _ => ?_) ro_stop
          refine ro_op2 rfl (ot_app1 (α := HFun) (bytes := 64) ⟨m.params, .slice A1 m.locals.length c1, m.result, .slice A2 m.code.length c2⟩ [] rfl Try.underlying22 (info_ex Try.inFunc) rfl (perm2 fc fc) (hel_flat ⟨hi, rfl, rfl⟩) (by omega) (by omega) rfl rfl rfl) rfl rfl (.inr fun _ => ha) (fun ⟨A6, c6⟩ _ => ?_) ro_stop
          try dsimp only
          refine ro_s2 rfl (qs_bst (cs := [_]) plT24 Try.zeroValue24 rfl rfl (by rfl)) rfl rfl ha ?_
          refine ro_op2 rfl (ot_stb _ fc Try.sizeOf24 rfl rfl rfl rfl rfl (by rfl) rfl (by rfl)) rfl rfl (.inl rfl) (fun _ _ => ?_) ro_stop
          rw [hq]
          refine ro_endx <| xw_join (gx, A6, c6) (trivial) ⟨rfl, rfl, rfl, trivial⟩ (fun _ h => h.msub ms)
      · refine ro_op2 rfl (ot_bsl (cs := [_, _, _, _]) Try.underlying22 Try.sizeOf54 Try.zeroValue54 rfl rfl rfl rfl rfl) rfl rfl (.inr fun _ => ha) (fun g5 _ => ?_) ?_
        · try dsimp only
          refine ro_op2 rfl (ot_appS (α := HFun) (bytes := 64) (xs := []) (ys := hf) (List.nil_append hf).symm Try.underlying22 (info_ex Try.inFunc) rfl fc (.ro hfs) (by simp only [List.length_nil]; omega) (by simp only [List.length_nil]; omega) rfl rfl rfl) rfl rfl (.inr fun _ => ha) (fun ⟨A5, c5⟩ _ => ?_) ?_
          · try dsimp only
            refine ro_op2 rfl (ot_app1 (α := HFun) (bytes := 64) ⟨m.params, .slice A1 m.locals.length c1, m.result, .slice A2 m.code.length c2⟩ [] rfl Try.underlying22 (info_ex Try.inFunc) rfl (perm2 fc fc) (hel_flat ⟨hi, rfl, rfl⟩) (by omega) (by omega) rfl rfl rfl) rfl rfl (.inr fun _ => ha) (fun ⟨A6, c6⟩ _ => ?_) ?_
            · try dsimp only
              refine ro_s2 rfl (qs_bst (cs := [_]) plT24 Try.zeroValue24 rfl rfl (by rfl)) rfl rfl ha ?_
              refine ro_op2 rfl (ot_alloc Try.zeroValue24 rfl rfl) rfl rfl (.inr fun _ => ha) (fun gx _ => ?_) ro_stop
              refine ro_op2 rfl (ot_stb _ fc Try.sizeOf24 rfl rfl rfl rfl rfl (by rfl) rfl (by rfl)) rfl rfl (.inl rfl) (fun _ _ => ?_) ro_stop
              rw [hq]
              refine ro_endx <| xw_join (gx, A6, c6) (trivial) ⟨rfl, rfl, rfl, trivial⟩ (fun _ h => h.msub ms)
            · refine ro_op2 rfl (ot_alloc Try.zeroValue24 rfl rfl) rfl rfl (.inr fun _ => ha) (fun gx _ => ?_) ro_stop
              refine ro_op2 rfl (ot_app1 (α := HFun) (bytes := 64) ⟨m.params, .slice A1 m.locals.length c1, m.result, .slice A2 m.code.length c2⟩ [] rfl Try.underlying22 (info_ex Try.inFunc) rfl (perm2 fc fc) (hel_flat ⟨hi, rfl, rfl⟩) (by omega) (by omega) rfl rfl rfl) rfl rfl (.inr fun _ => ha) (fun ⟨A6, c6⟩ _ => ?_) ro_stop
              try dsimp only
              refine ro_s2 rfl (qs_bst (cs := [_]) plT24 Try.zeroValue24 rfl rfl (by rfl)) rfl rfl ha ?_
              refine ro_op2 rfl (ot_stb _ fc Try.sizeOf24 rfl rfl rfl rfl rfl (by rfl) rfl (by rfl)) rfl rfl (.inl rfl) (fun _ _ => ?_) ro_stop
              rw [hq]
              refine ro_endx <| xw_join (gx, A6, c6) (trivial) ⟨rfl, rfl, rfl, trivial⟩ (fun _ h => h.msub ms)
          · refine ro_op2 rfl (ot_alloc Try.zeroValue24 rfl rfl) rfl rfl (.inr fun _ => ha) (fun gx _ => ?_) ro_stop
            refine ro_op2 rfl (ot_appS (α := HFun) (bytes := 64) (xs := []) (ys := hf) (List.nil_append hf).symm Try.underlying22 (info_ex Try.inFunc) rfl fc (.ro hfs) (by simp only [List.length_nil]; omega) (by simp only [List.length_nil]; omega) rfl rfl rfl) rfl rfl (.inr fun _ => ha) (fun ⟨A5, c5⟩ _ => ?_) ro_stop
            try dsimp only
            refine ro_op2 rfl (ot_app1 (α := HFun) (bytes := 64) ⟨m.params, .slice A1 m.locals.length c1, m.result, .slice A2 m.code.length c2⟩ [] rfl Try.underlying22 (info_ex Try.inFunc) rfl (perm2 fc fc) (hel_flat ⟨hi, rfl, rfl⟩) (by omega) (by omega) rfl rfl rfl) rfl rfl (.inr fun _ => ha) (fun ⟨A6, c6⟩ _ => ?_) ro_stop
            try dsimp only
            refine ro_s2 rfl (qs_bst (cs := [_]) plT24 Try.zeroValue24 rfl rfl (by rfl)) rfl rfl ha ?_
            refine ro_op2 rfl (ot_stb _ fc Try.sizeOf24 rfl rfl rfl rfl rfl (by rfl) rfl (by rfl)) rfl rfl (.inl rfl) (fun _ _ => ?_) ro_stop
            rw [hq]
            refine ro_endx <| xw_join (gx, A6, c6) (trivial) ⟨rfl, rfl, rfl, trivial⟩ (fun _ h => h.msub ms)
        · refine ro_op2 rfl (ot_alloc Try.zeroValue24 rfl rfl) rfl rfl (.inr fun _ => ha) (fun gx _ => ?_) ro_stop
          refine ro_op2 rfl (ot_appS (α := HFun) (bytes := 64) (xs := []) (ys := hf) (List.nil_append hf).symm Try.underlying22 (info_ex Try.inFunc) rfl fc (.ro hfs) (by simp only [List.length_nil]; omega) (by simp only [List.length_nil]; omega) rfl rfl rfl) rfl rfl (.inr fun _ => ha) (fun ⟨A5, c5⟩ _ => ?_) ?_
          · try dsimp only
            refine ro_op2 rfl (ot_bsl (cs := [_, _, _, _]) Try.underlying22 Try.sizeOf54 Try.zeroValue54 rfl rfl rfl rfl rfl) rfl rfl (.inr fun _ => ha) (fun g6 _ => ?_) ro_stop
            refine ro_op2 rfl (ot_app1 (α := HFun) (bytes := 64) ⟨m.params, .slice A1 m.locals.length c1, m.result, .slice A2 m.code.length c2⟩ [] rfl Try.underlying22 (info_ex Try.inFunc) rfl (perm2 fc fc) (hel_flat ⟨hi, rfl, rfl⟩) (by omega) (by omega) rfl rfl rfl) rfl rfl (.inr fun _ => ha) (fun ⟨A6, c6⟩ _ => ?_) ro_stop
            try dsimp only
            refine ro_s2 rfl (qs_bst (cs := [_]) plT24 Try.zeroValue24 rfl rfl (by rfl)) rfl rfl ha ?_
            refine ro_op2 rfl (ot_stb _ fc Try.sizeOf24 rfl rfl rfl rfl rfl (by rfl) rfl (by rfl)) rfl rfl (.inl rfl) (fun _ _ => ?_) ro_stop
            rw [hq]
            refine ro_endx <| xw_join (gx, A6, c6) (trivial) ⟨rfl, rfl, rfl, trivial⟩ (fun _ h => h.msub ms)
          · refine ro_op2 rfl (ot_bsl (cs := [_, _, _, _]) Try.underlying22 Try.sizeOf54 Try.zeroValue54 rfl rfl rfl rfl rfl) rfl rfl (.inr fun _ => ha) (fun g7 _ => ?_) ro_stop
            refine ro_op2 rfl (ot_appS (α := HFun) (bytes := 64) (xs := []) (ys := hf) (List.nil_append hf).symm Try.underlying22 (info_ex Try.inFunc) rfl fc (.ro hfs) (by simp only [List.length_nil]; omega) (by simp only [List.length_nil]; omega) rfl rfl rfl) rfl rfl (.inr fun _ => ha) (fun ⟨A5, c5⟩ _ => ?_) ro_stop
            try dsimp only
            refine ro_op2 rfl (ot_app1 (α := HFun) (bytes := 64) ⟨m.params, .slice A1 m.locals.length c1, m.result, .slice A2 m.code.length c2⟩ [] rfl Try.underlying22 (info_ex Try.inFunc) rfl (perm2 fc fc) (hel_flat ⟨hi, rfl, rfl⟩) (by omega) (by omega) rfl rfl rfl) rfl rfl (.inr fun _ => ha) (fun ⟨A6, c6⟩ _ => ?_) ro_stop
            try dsimp only
            refine ro_s2 rfl (qs_bst (cs := [_]) plT24 Try.zeroValue24 rfl rfl (by rfl)) rfl rfl ha ?_
            refine ro_op2 rfl (ot_stb _ fc Try.sizeOf24 rfl rfl rfl rfl rfl (by rfl) rfl (by rfl)) rfl rfl (.inl rfl) (fun _ _ => ?_) ro_stop
            rw [hq]
            refine ro_endx <| xw_join (gx, A6, c6) (trivial) ⟨rfl, rfl, rfl, trivial⟩ (fun _ h => h.msub ms)
    · refine ro_op2 rfl (ot_bsl (cs := [_, _, _, _]) Try.underlying22 Try.sizeOf54 Try.zeroValue54 rfl rfl rfl rfl rfl) rfl rfl (.inr fun _ => ha) (fun g8 _ => ?_) ?_
      · try dsimp only
        refine ro_op2 rfl ((ot_bsl (cs := []) Try.underlying22 Try.sizeOf54 Try.zeroValue54 rfl rfl rfl rfl rfl).mem (H'' := fun g => ROw (.slice (some ⟨g, 0, none⟩) 0 0) ([] : List HFun) :: _) fun g w h => row_ow (α := HFun) (m := 0) [] rfl (by simp) rfl (by decide) h) rfl rfl (.inr fun _ => ha) (fun ge _ => ?_) ?_
        · refine ro_op2 rfl (ot_appS (α := HFun) (bytes := 64) (xs := []) (ys := hf) (List.nil_append hf).symm Try.underlying22 (info_ex Try.inFunc) rfl fc (.ro hfs) (by simp only [List.length_nil]; omega) (by simp only [List.length_nil]; omega) rfl rfl rfl) rfl rfl (.inr fun _ => ha) (fun ⟨A5, c5⟩ _ => ?_) ?_
          · try dsimp only
            refine ro_op2 rfl (ot_app1 (α := HFun) (bytes := 64) ⟨m.params, .slice A1 m.locals.length c1, m.result, .slice A2 m.code.length c2⟩ [] rfl Try.underlying22 (info_ex Try.inFunc) rfl (perm2 fc fc) (hel_flat ⟨hi, rfl, rfl⟩) (by omega) (by omega) rfl rfl rfl) rfl rfl (.inr fun _ => ha) (fun ⟨A6, c6⟩ _ => ?_) ?_
            · try dsimp only
              refine ro_s2 rfl (qs_bst (cs := [_]) plT24 Try.zeroValue24 rfl rfl (by rfl)) rfl rfl ha ?_
              refine ro_op2 rfl (ot_alloc Try.zeroValue24 rfl rfl) rfl rfl (.inr fun _ => ha) (fun gx _ => ?_) ro_stop
              refine ro_op2 rfl (ot_stb _ fc Try.sizeOf24 rfl rfl rfl rfl rfl (by rfl) rfl (by rfl)) rfl rfl (.inl rfl) (fun _ _ => ?_) ro_stop
              rw [hq]
              refine ro_endx <| xw_join (gx, A6, c6) (trivial) ⟨rfl, rfl, rfl, trivial⟩ (fun _ h => h.msub ms)
            · refine ro_op2 rfl (ot_alloc Try.zeroValue24 rfl rfl) rfl rfl (.inr fun _ => ha) (fun gx _ => ?_) ro_stop
              refine ro_op2 rfl (ot_app1 (α := HFun) (bytes := 64) ⟨m.params, .slice A1 m.locals.length c1, m.result, .slice A2 m.code.length c2⟩ [] rfl Try.underlying22 (info_ex Try.inFunc) rfl (perm2 fc fc) (hel_flat ⟨hi, rfl, rfl⟩) (by omega) (by omega) rfl rfl rfl) rfl rfl (.inr fun _ => ha) (fun ⟨A6, c6⟩ _ => ?_) ro_stop
              try dsimp only
              refine ro_s2 rfl (qs_bst (cs := [_]) plT24 Try.zeroValue24 rfl rfl (by rfl)) rfl rfl ha ?_
              refine ro_op2 rfl (ot_stb _ fc Try.sizeOf24 rfl rfl rfl rfl rfl (by rfl) rfl (by rfl)) rfl rfl (.inl rfl) (fun _ _ => ?_) ro_stop
              rw [hq]
              refine ro_endx <| xw_join (gx, A6, c6) (trivial) ⟨rfl, rfl, rfl, trivial⟩ (fun _ h => h.msub ms)
          · refine ro_op2 rfl (ot_alloc Try.zeroValue24 rfl rfl) rfl rfl (.inr fun _ => ha) (fun gx _ => ?_) ro_stop
            refine ro_op2 rfl (ot_appS (α := HFun) (bytes := 64) (xs := []) (ys := hf) (List.nil_append hf).symm Try.underlying22 (info_ex Try.inFunc) rfl fc (.ro hfs) (by simp only [List.length_nil]; omega) (by simp only [List.length_nil]; omega) rfl rfl rfl) rfl rfl (.inr fun _ => ha) (fun ⟨A5, c5⟩ _ => ?_) ro_stop
            try dsimp only
            refine ro_op2 rfl (ot_app1 (α := HFun) (bytes := 64) ⟨m.params, .slice A1 m.locals.length c1, m.result, .slice A2 m.code.length c2⟩ [] rfl Try.underlying22 (info_ex Try.inFunc) rfl (perm2 fc fc) (hel_flat ⟨hi, rfl, rfl⟩) (by omega) (by omega) rfl rfl rfl) rfl rfl (.inr fun _ => ha) (fun ⟨A6, c6⟩ _ => ?_) ro_stop
            try dsimp only
            refine ro_s2 rfl (qs_bst (cs := [_]) plT24 Try.zeroValue24 rfl rfl (by rfl)) rfl rfl ha ?_
            refine ro_op2 rfl (ot_stb _ fc Try.sizeOf24 rfl rfl rfl rfl rfl (by rfl) rfl (by rfl)) rfl rfl (.inl rfl) (fun _ _ => ?_) ro_stop
            rw [hq]
            refine ro_endx <| xw_join (gx, A6, c6) (trivial) ⟨rfl, rfl, rfl, trivial⟩ (fun _ h => h.msub ms)
        · refine ro_op2 rfl (ot_alloc Try.zeroValue24 rfl rfl) rfl rfl (.inr fun _ => ha) (fun gx _ => ?_) ro_stop
          refine ro_op2 rfl ((ot_bsl (cs := []) Try.underlying22 Try.sizeOf54 Try.zeroValue54 rfl rfl rfl rfl rfl).mem (H'' := fun g => ROw (.slice (some ⟨g, 0, none⟩) 0 0) ([] : List HFun) :: _) fun g w h => row_ow (α := HFun) (m := 0) [] rfl (by simp) rfl (by decide) h) rfl rfl (.inr fun _ => ha) (fun ge _ => ?_) ro_stop
          refine ro_op2 rfl (ot_appS (α := HFun) (bytes := 64) (xs := []) (ys := hf) (List.nil_append hf).symm Try.underlying22 (info_ex Try.inFunc) rfl fc (.ro hfs) (by simp only [List.length_nil]; omega) (by simp only [List.length_nil]; omega) rfl rfl rfl) rfl rfl (.inr fun _ => ha) (fun ⟨A5, c5⟩ _ => ?_) ro_stop
          try dsimp only
          refine ro_op2 rfl (ot_app1 (α := HFun) (bytes := 64) ⟨m.params, .slice A1 m.locals.length c1, m.result, .slice A2 m.code.length c2⟩ [] rfl Try.underlying22 (info_ex Try.inFunc) rfl (perm2 fc fc) (hel_flat ⟨hi, rfl, rfl⟩) (by omega) (by omega) rfl rfl rfl) rfl rfl (.inr fun _ => ha) (fun ⟨A6, c6⟩ _ => ?_) ro_stop
          try dsimp only
          refine ro_s2 rfl (qs_bst (cs := [_]) plT24 Try.zeroValue24 rfl rfl (by rfl)) rfl rfl ha ?_
          refine ro_op2 rfl (ot_stb _ fc Try.sizeOf24 rfl rfl rfl rfl rfl (by rfl) rfl (by rfl)) rfl rfl (.inl rfl) (fun _ _ => ?_) ro_stop
          rw [hq]
          refine ro_endx <| xw_join (gx, A6, c6) (trivial) ⟨rfl, rfl, rfl, trivial⟩ (fun _ h => h.msub ms)
      · refine ro_op2 rfl (ot_alloc Try.zeroValue24 rfl rfl) rfl rfl (.inr fun _ => ha) (fun gx _ => ?_) ro_stop
        refine ro_op2 rfl ((ot_bsl (cs := []) Try.underlying22 Try.sizeOf54 Try.zeroValue54 rfl rfl rfl rfl rfl).mem (H'' := fun g => ROw (.slice (some ⟨g, 0, none⟩) 0 0) ([] : List HFun) :: _) fun g w h => row_ow (α := HFun) (m := 0) [] rfl (by simp) rfl (by decide) h) rfl rfl (.inr fun _ => ha) (fun ge _ => ?_) ?_
        · refine ro_op2 rfl (ot_appS (α := HFun) (bytes := 64) (xs := []) (ys := hf) (List.nil_append hf).symm Try.underlying22 (info_ex Try.inFunc) rfl fc (.ro hfs) (by simp only [List.length_nil]; omega) (by simp only [List.length_nil]; omega) rfl rfl rfl) rfl rfl (.inr fun _ => ha) (fun ⟨A5, c5⟩ _ => ?_) ?_
          · try dsimp only
            refine ro_op2 rfl (ot_bsl (cs := [_, _, _, _]) Try.underlying22 Try.sizeOf54 Try.zeroValue54 rfl rfl rfl rfl rfl) rfl rfl (.inr fun _ => ha) (fun g9 _ => ?_) ro_stop
            refine ro_op2 rfl (ot_app1 (α := HFun) (bytes := 64) ⟨m.params, .slice A1 m.locals.length c1, m.result, .slice A2 m.code.length c2⟩ [] rfl Try.underlying22 (info_ex Try.inFunc) rfl (perm2 fc fc) (hel_flat ⟨hi, rfl, rfl⟩) (by omega) (by omega) rfl rfl rfl) rfl rfl (.inr fun _ => ha) (fun ⟨A6, c6⟩ _ => ?_) ro_stop
            try dsimp only
            refine ro_s2 rfl (qs_bst (cs := [_]) plT24 Try.zeroValue24 rfl rfl (by rfl)) rfl rfl ha ?_
            refine ro_op2 rfl (ot_stb _ fc Try.sizeOf24 rfl rfl rfl rfl rfl (by rfl) rfl (by rfl)) rfl rfl (.inl rfl) (fun _ _ => ?_) ro_stop
            rw [hq]
            refine ro_endx <| xw_join (gx, A6, c6) (trivial) ⟨rfl, rfl, rfl, trivial⟩ (fun _ h => h.msub ms)
          · refine ro_op2 rfl (ot_bsl (cs := [_, _, _, _]) Try.underlying22 Try.sizeOf54 Try.zeroValue54 rfl rfl rfl rfl rfl) rfl rfl (.inr fun _ => ha) (fun g10 _ => ?_) ro_stop
            refine ro_op2 rfl (ot_appS (α := HFun) (bytes := 64) (xs := []) (ys := hf) (List.nil_append hf).symm Try.underlying22 (info_ex Try.inFunc) rfl fc (.ro hfs) (by simp only [List.length_nil]; omega) (by simp only [List.length_nil]; omega) rfl rfl rfl) rfl rfl (.inr fun _ => ha) (fun ⟨A5, c5⟩ _ => ?_) ro_stop
            try dsimp only
            refine ro_op2 rfl (ot_app1 (α := HFun) (bytes := 64) ⟨m.params, .slice A1 m.locals.length c1, m.result, .slice A2 m.code.length c2⟩ [] rfl Try.underlying22 (info_ex Try.inFunc) rfl (perm2 fc fc) (hel_flat ⟨hi, rfl, rfl⟩) (by omega) (by omega) rfl rfl rfl) rfl rfl (.inr fun _ => ha) (fun ⟨A6, c6⟩ _ => ?_) ro_stop
            try dsimp only
            refine ro_s2 rfl (qs_bst (cs := [_]) plT24 Try.zeroValue24 rfl rfl (by rfl)) rfl rfl ha ?_
            refine ro_op2 rfl (ot_stb _ fc Try.sizeOf24 rfl rfl rfl rfl rfl (by rfl) rfl (by rfl)) rfl rfl (.inl rfl) (fun _ _ => ?_) ro_stop
            rw [hq]
            refine ro_endx <| xw_join (gx, A6, c6) (trivial) ⟨rfl, rfl, rfl, trivial⟩ (fun _ h => h.msub ms)
        · refine ro_op2 rfl (ot_bsl (cs := [_, _, _, _]) Try.underlying22 Try.sizeOf54 Try.zeroValue54 rfl rfl rfl rfl rfl) rfl rfl (.inr fun _ => ha) (fun g11 _ => ?_) ro_stop
          refine ro_op2 rfl ((ot_bsl (cs := []) Try.underlying22 Try.sizeOf54 Try.zeroValue54 rfl rfl rfl rfl rfl).mem (H'' := fun g => ROw (.slice (some ⟨g, 0, none⟩) 0 0) ([] : List HFun) :: _) fun g w h => row_ow (α := HFun) (m := 0) [] rfl (by simp) rfl (by decide) h) rfl rfl (.inr fun _ => ha) (fun ge _ => ?_) ro_stop
          refine ro_op2 rfl (ot_appS (α := HFun) (bytes := 64) (xs := []) (ys := hf) (List.nil_append hf).symm Try.underlying22 (info_ex Try.inFunc) rfl fc (.ro hfs) (by simp only [List.length_nil]; omega) (by simp only [List.length_nil]; omega) rfl rfl rfl) rfl rfl (.inr fun _ => ha) (fun ⟨A5, c5⟩ _ => ?_) ro_stop
          try dsimp only
          refine ro_op2 rfl (ot_app1 (α := HFun) (bytes := 64) ⟨m.params, .slice A1 m.locals.length c1, m.result, .slice A2 m.code.length c2⟩ [] rfl Try.underlying22 (info_ex Try.inFunc) rfl (perm2 fc fc) (hel_flat ⟨hi, rfl, rfl⟩) (by omega) (by omega) rfl rfl rfl) rfl rfl (.inr fun _ => ha) (fun ⟨A6, c6⟩ _ => ?_) ro_stop
          try dsimp only
          refine ro_s2 rfl (qs_bst (cs := [_]) plT24 Try.zeroValue24 rfl rfl (by rfl)) rfl rfl ha ?_
          refine ro_op2 rfl (ot_stb _ fc Try.sizeOf24 rfl rfl rfl rfl rfl (by rfl) rfl (by rfl)) rfl rfl (.inl rfl) (fun _ _ => ?_) ro_stop
          rw [hq]
          refine ro_endx <| xw_join (gx, A6, c6) (trivial) ⟨rfl, rfl, rfl, trivial⟩ (fun _ h => h.msub ms)
  · rintro ⟨gx, A6, c6⟩ _
    try dsimp only
    refine cw_mem (fun w' h => rb_of (Hel := [ROw (.slice A6 q.length c6) q]) (read_hfun hql hqr) (h.msub (T := [ROw (.slice A6 q.length c6) q, RBox g1 [.slice A fs.length c] 24, RBox gx [.slice A6 q.length c6] 24]) ms)) ?_
    rw [hql]
    refine cw_seq ?_
    refine cw_seq ?_
    refine cw_region ?_
    refine rw_s (qs_ldbA (vs := [_]) fc Try.isAgg24 Try.sizeOf24 rfl rfl (by rfl) rfl) rfl rfl ?_
    refine rw_op (ot_c0 rfl rfl rfl Try.call16 (fun w hw => pcheck_any A c fs w (hw.ro hs))) rfl rfl (fun _ _ => ?_)
    refine rw_run tab_ok 2 [(2, _), (3, _), (7, _), (29, _)] rfl ⟨rfl, rfl, rfl, rfl, trivial⟩ ?_
    refine rw_split (t := 29) rfl (fun k1 => ?_) (fun k1 => ?_)
    · refine rw_run tab_ok 15 [(2, _), (3, _), (7, _), (44, _)] rfl ⟨rfl, rfl, rfl, rfl, trivial⟩ ?_
      refine rw_end ?_
      refine cw_cond_t rfl ?_
      refine cw_seq ?_
      refine cw_region ?_
      refine rw_run tab_ok 1 [(6, _)] rfl ⟨rfl, trivial⟩ ?_
      refine rw_end ?_
      refine cw_ret (xw_thenr ?_)
      refine xw_ret1 Try.results8 (rv_tmp rfl) ?_
      intro w hw
      exact ⟨rfl, hw.below⟩
    · have k1 : checkP fs = 0 := by simpa using k1
      refine rw_s (qs_ldbA (vs := [_]) fc Try.isAgg24 Try.sizeOf24 rfl rfl (by rfl) rfl) rfl rfl ?_
      refine rw_op (ot_c0 rfl rfl rfl Try.call16 (fun w hw => pcheck_any A6 c6 (fs ++ [m]) w (SF.at_ (SF.rb rfl fc) hw))) rfl rfl (fun _ _ => ?_)
      refine rw_run tab_ok 3 [(2, _), (3, _), (7, _), (34, _)] rfl ⟨rfl, rfl, rfl, rfl, trivial⟩ ?_
      refine rw_split (t := 34) rfl (fun k2 => ?_) (fun k2 => ?_)
      · refine rw_run tab_ok 10 [(2, _), (3, _), (7, _), (44, _)] rfl ⟨rfl, rfl, rfl, rfl, trivial⟩ ?_
        refine rw_end ?_
        refine cw_cond_t rfl ?_
        refine cw_seq ?_
        refine cw_region ?_
        refine rw_run tab_ok 1 [(6, _)] rfl ⟨rfl, trivial⟩ ?_
        refine rw_end ?_
        refine cw_ret (xw_thenr ?_)
        refine xw_ret1 Try.results8 (rv_tmp rfl) ?_
        intro w hw
        exact ⟨rfl, hw.below⟩
      · have k2 : checkP (fs ++ [m]) = 0 := by simpa using k2
        refine rw_run tab_ok 4 [(2, _), (3, _), (7, _), (38, _)] rfl ⟨rfl, rfl, rfl, rfl, trivial⟩ ?_
        refine rw_split (t := 38) rfl (fun k3 => ?_) (fun k3 => ?_)
        · refine rw_run tab_ok 6 [(2, _), (3, _), (7, _), (44, _)] rfl ⟨rfl, rfl, rfl, rfl, trivial⟩ ?_
          refine rw_end ?_
          refine cw_cond_t rfl ?_
          refine cw_seq ?_
          refine cw_region ?_
          refine rw_run tab_ok 1 [(6, _)] rfl ⟨rfl, trivial⟩ ?_
          refine rw_end ?_
          refine cw_ret (xw_thenr ?_)
          refine xw_ret1 Try.results8 (rv_tmp rfl) ?_
          intro w hw
          exact ⟨rfl, hw.below⟩
        · have k3 := of_decide_eq_false k3
          refine rw_run tab_ok 2 [(2, _), (3, _), (7, _), (38, _), (39, _), (40, _)] rfl ⟨rfl, rfl, rfl, rfl, rfl, rfl, trivial⟩ ?_
          refine rw_s (qs_ldb fc Try.isAgg22 rfl rfl (by rfl)) rfl rfl ?_
          refine rw_s (qs_len Try.underlying22 rfl rfl) rfl rfl ?_
          refine rw_run tab_ok 2 [(2, _), (3, _), (7, _), (44, _)] rfl ⟨rfl, rfl, rfl, rfl, trivial⟩ ?_
          refine rw_end ?_
          refine cw_condD rfl (fun k4 => ?_) (fun k4 => ?_)
          · refine cw_seq ?_
            refine cw_region ?_
            refine rw_run tab_ok 1 [(6, _)] rfl ⟨rfl, trivial⟩ ?_
            refine rw_end ?_
            refine cw_ret (xw_thenr ?_)
            refine xw_ret1 Try.results8 (rv_tmp rfl) ?_
            intro w hw
            exact ⟨rfl, hw.below⟩
          · obtain ⟨k, rfl⟩ : ∃ k : Nat, z = (k : Int) := ⟨z.toNat, by omega⟩
            have hsame := more_same (m := m) k1 k2 (k := k) (by omega)
            have hvf : ∀ w1, Sl w1 (.slice A6 (fs ++ [m]).length c6) (fs ++ [m]) → Calls Try.prog 18 #[.agg #[.slice A6 (fs ++ [m]).length c6], .int .i64 (k : Int)] w1 fun e w' => ∃ g : Option Addr × Nat, True ∧ e = .returned (.tuple #[.slice g.1 (funcS fs k).1.length g.2, .int .i64 (funcS fs k).2]) ∧ Cw w1.heap.size w1 [RRd (.slice g.1 (funcS fs k).1.length g.2) (funcS fs k).1] w' := fun w1 h => by
              have := vfunc_any A6 c6 (fs ++ [m]) k w1 h
              rw [hsame] at this
              exact this
            refine cw_skip (xw_then ?_)
            refine cw_seq ?_
            refine cw_region ?_
            refine rw_s (qs_ldbA (vs := [_]) fc Try.isAgg24 Try.sizeOf24 rfl rfl (by rfl) rfl) rfl rfl ?_
            refine rw_run tab_ok 1 [(2, _), (7, _), (46, _), (47, _)] rfl ⟨rfl, rfl, rfl, rfl, trivial⟩ ?_
            refine rw_op (ot_c rfl rfl rfl Try.call18 (fun w hw => vfunc_any A c fs k w (hw.ro hs))) rfl rfl (fun ⟨A7, c7⟩ _ => ?_)
            try dsimp only
            refine rw_run tab_ok 5 [(2, _), (7, _), (8, _), (9, _)] rfl ⟨rfl, rfl, rfl, rfl, trivial⟩ ?_
            refine rw_end ?_
            refine cw_seq ?_
            refine cw_region ?_
            refine rw_s (qs_ldbA (vs := [_]) fc Try.isAgg24 Try.sizeOf24 rfl rfl (by rfl) rfl) rfl rfl ?_
            refine rw_run tab_ok 1 [(8, _), (9, _), (52, _), (53, _)] rfl ⟨rfl, rfl, rfl, rfl, trivial⟩ ?_
            refine rw_op (ot_c rfl rfl rfl Try.call18 (fun w hw => hvf w (SF.at_ (SF.rb rfl fc) hw))) rfl rfl (fun ⟨A8, c8⟩ _ => ?_)
            try dsimp only
            refine rw_run tab_ok 5 [(8, _), (9, _), (10, _), (11, _)] rfl ⟨rfl, rfl, rfl, rfl, trivial⟩ ?_
            refine rw_end ?_
            refine cw_seq ?_
            refine cw_region ?_
            refine rw_run tab_ok 4 [(8, _), (10, _), (60, _)] rfl ⟨rfl, rfl, rfl, trivial⟩ ?_
            refine rw_as (t := 60) (v' := .bool true) rfl (by rw [decide_eq_true rfl]) ?_
            refine rw_run tab_ok 2 [(60, _), (61, _), (62, _)] rfl ⟨rfl, rfl, rfl, trivial⟩ ?_
            refine rw_op (ot_c0 rfl rfl rfl Try.call24 (fun w hw => rsameE_any A7 A8 c7 c8 (funcS fs k).1 (funcS fs k).1 w (hw.rdSl fc) (hw.rdSl fc))) rfl rfl (fun _ _ => ?_)
            refine rw_run tab_ok 2 [(6, _)] rfl ⟨rfl, trivial⟩ ?_
            refine rw_end ?_
            refine cw_ret ?_
            refine xw_ret1 Try.results8 (rv_tmp rfl) ?_
            intro w hw
            exact ⟨ret_bool (by simp), hw.below⟩
theorem verifyMore_law (v v1 v2 : Value) (fs : List MFunc) (m : MFunc) (z : Int) (w : World) (hs : Sl w v fs) (hl : fs.length * 64 ≤ 140737488351232) (hi : I64 m.params ∧ I64 m.result) (h1 : Sl w v1 m.locals) (h2 : Sl w v2 m.code) :
    Calls Try.prog 8 #[.agg #[v], .agg #[.int .i64 m.params, v1, .int .i64 m.result, v2], .int .i64 z] w fun e w' => e = .returned (.bool true) ∧ Below w.heap.size w w' := by
  obtain ⟨A, c, rfl, _⟩ := hs.form
  obtain ⟨A1, c1, rfl, _⟩ := h1.form
  obtain ⟨A2, c2, rfl, _⟩ := h2.form
  exact verifyMore_any A A1 A2 c c1 c2 fs m z w hs h1 h2 hi hl
end Go.Proofs.Ytejpkcheimgdfaa

-- ReadS
/- Arguments that are slices of bounded size, read as data. -/
namespace Go.Proofs.Ytejpkcheimgdfaa
open Go.ChangeShapes Go.WideShapes Go.ChangeAt Go.RowKit Go.Deep

/-- A list that lies within reach, at so many bytes an element. -/
structure BL (n : Nat) (α : Type) where
  l : List α
instance {n : Nat} {α : Type} [Rep α] : Rep (BL n α) where
  k := 1
  rep w B cs x := ∃ v, cs = [v] ∧ SlB w B v x.l ∧ x.l.length * n ≤ 140737488351232
  len h := by obtain ⟨v, h, _⟩ := h; rw [h]; rfl
  keep h hc := by obtain ⟨v, h, hs, hn⟩ := h; exact ⟨v, h, hs.keep hc, hn⟩
  more h hb := by obtain ⟨v, h, hs, hn⟩ := h; exact ⟨v, h, hs.more hb, hn⟩
  one h := by obtain ⟨v, h, hs, _⟩ := h; obtain ⟨A, c, rfl, _⟩ := hs.form; rw [h]; simp [Value.oneCell']
theorem rd_sliceb {t e : TypeId} {α : Type} [Rep α] {n : Nat} (hr : Rd t (List α)) (ht : Try.prog.underlying t = some (.slice e)) (hn : Try.prog.bytesOf e = n) : Rd t (BL n α) := by
  intro H enc W fuel cs x h hw
  obtain ⟨xs, v, hcs, hs⟩ := hr _ _ _ _ _ _ h hw
  refine ⟨⟨xs⟩, v, hcs, hs, ?_⟩
  subst hcs
  rcases open_slice ht h with ⟨hcs, hx⟩ | ⟨a', len', cap', m, k, D, Pl, hcs, _, hl', hm, hmm, hx, hi⟩
  · simp only [List.cons.injEq, and_true] at hcs
    subst hcs
    have := SlB.len_eq hs
    show xs.length * n ≤ _
    rw [this]; omega
  · simp only [List.cons.injEq, and_true] at hcs
    subst hcs
    have hl := SlB.len_eq hs
    have := hw ((((List.range len').map D).length + ((List.range (m - len')).map fun j => D (len' + j)).length) * Try.prog.bytesOf e) (by rw [hx]; simp only [DataW.weights, ht]; exact List.mem_cons_self)
    rw [hn] at this
    have h2 : xs.length * n ≤ (((List.range len').map D).length + ((List.range (m - len')).map fun j => D (len' + j)).length) * n := Nat.mul_le_mul_right _ (by rw [hl]; simp)
    unfold reachBytes at this
    show xs.length * n ≤ _
    omega
/-- A program. -/
structure MProgB where
  funcs : BL 64 MFunc
instance : Rep MProgB where
  k := 1
  rep w B cs p := ∃ v, cs = [v] ∧ SlB w B v p.funcs.l ∧ p.funcs.l.length * 64 ≤ 140737488351232
  len h := by obtain ⟨v, h, _⟩ := h; rw [h]; rfl
  keep h hc := by obtain ⟨v, h, hs, hn⟩ := h; exact ⟨v, h, hs.keep hc, hn⟩
  more h hb := by obtain ⟨v, h, hs, hn⟩ := h; exact ⟨v, h, hs.more hb, hn⟩
  one h := by obtain ⟨v, h, hs, _⟩ := h; obtain ⟨A, c, rfl, _⟩ := hs.form; rw [h]; simp [Value.oneCell']
set_option maxRecDepth 100000 in
theorem rd_progb : Rd 24 MProgB := by
  intro H enc W fuel cs x h hw
  obtain ⟨hl, hp⟩ := rd_parts Try.underlying24 h hw
  rw [show Try.prog.cellsOf 24 = 1 from by kernel_rfl] at hl
  obtain ⟨c0, rfl⟩ : ∃ c0, cs = [c0] := by
    match cs, hl with
    | [c0], _ => exact ⟨c0, rfl⟩
  obtain ⟨y0, v, h0, i0, j0⟩ := hp 0 _ rfl (BL 64 MFunc) (rd_sliceb rd_funcs Try.underlying22 Try.bFuncP)
  simp [Try.cFuncsP] at h0
  subst h0
  exact ⟨⟨y0⟩, _, rfl, i0, j0⟩
end Go.Proofs.Ytejpkcheimgdfaa

