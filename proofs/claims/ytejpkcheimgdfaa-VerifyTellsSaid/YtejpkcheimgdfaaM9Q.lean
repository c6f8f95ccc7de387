/- Texts of one proof, one behind the other: lemmas alone. -/
import Derived.Test.YtejpkcheimgdfaaM8Q
import Derived.Test.YtejpkcheimgdfaaM7Q
import Derived.Test.YtejpkcheimgdfaaM1Q
import Derived.Test.YtejpkcheimgdfaaRows
import Derived.ProofKit
import Derived.Deep.Slices
import Derived.SizedLaws
import Derived.OpenShut
import Derived.ShutString
import Derived.ChangeOld
import Derived.Test.YtejpkcheimgdfaaM2Q
import Derived.Test.YtejpkcheimgdfaaM3Q

-- V20
/- Verify: its law Tells. -/
namespace Go.Proofs.Ytejpkcheimgdfaa
open Go.RowKit

set_option maxRecDepth 100000 in
theorem intsAre_true (A1 A2 : Option Addr) (c1 c2 : Nat) (x y : List Int) (v : Int) (w : World) (hx : v ≠ 0 → x = []) (hy : v = 0 → y = x) (h1 : Sl w (.slice A1 x.length c1) x) (h2 : Sl w (.slice A2 y.length c2) y) :
    Calls Try.prog 27 #[.slice A1 x.length c1, .int .i64 v, .int .i64 v, .slice A2 y.length c2] w fun e w' => e = .returned (.bool true) ∧ Below w.heap.size w w' := by
  refine enter Try.func27 rfl Try.ntmps27 rfl ?_
  refine cw_seq ?_
  refine cw_region ?_
  refine rw_run tab_ok 1 [(0, _), (1, _), (2, _), (3, _)] rfl ⟨rfl, rfl, rfl, rfl, trivial⟩ ?_
  refine rw_end ?_
  refine cw_seq ?_
  refine cw_seq ?_
  refine cw_region ?_
  refine rw_run tab_ok 2 [(0, _), (1, _), (2, _), (3, _), (10, _)] rfl ⟨rfl, rfl, rfl, rfl, rfl, trivial⟩ ?_
  refine rw_end ?_
  refine cw_condN rfl (fun hv => ?_) (fun hv => ?_)
  · have hx := hx hv
    subst hx
    refine cw_region ?_
    refine rw_run tab_ok 1 [(0, _), (1, _), (2, _), (3, _)] rfl ⟨rfl, rfl, rfl, rfl, trivial⟩ ?_
    refine rw_end ?_
    refine cw_seq ?_
    refine cw_region ?_
    refine rw_run tab_ok 4 [(0, _), (3, _), (14, _)] rfl ⟨rfl, rfl, rfl, trivial⟩ ?_
    refine rw_as (t := 14) (v' := .bool true) rfl (by simp) ?_
    refine rw_run tab_ok 2 [(14, _), (15, _), (16, _)] rfl ⟨rfl, rfl, rfl, trivial⟩ ?_
    refine rw_op (ot_c0 rfl rfl rfl Try.call28 (fun w hw => sameInts_w A1 none c1 0 [] [] w (hw.ro h1) Sl.nil_)) rfl rfl (fun _ _ => ?_)
    refine rw_run tab_ok 2 [(8, _)] rfl ⟨rfl, trivial⟩ ?_
    refine rw_end ?_
    refine cw_ret ?_
    refine xw_ret1 Try.results27 (rv_tmp rfl) ?_
    intro w hw
    exact ⟨ret_bool (by simp), hw.below⟩
  · have hy := hy hv
    subst hy
    refine cw_skip (xw_then ?_)
    refine cw_seq ?_
    refine cw_region ?_
    refine rw_run tab_ok 4 [(0, _), (3, _), (14, _)] rfl ⟨rfl, rfl, rfl, trivial⟩ ?_
    refine rw_as (t := 14) (v' := .bool true) rfl (by simp) ?_
    refine rw_run tab_ok 2 [(14, _), (15, _), (16, _)] rfl ⟨rfl, rfl, rfl, trivial⟩ ?_
    refine rw_op (ot_c0 rfl rfl rfl Try.call28 (fun w hw => sameInts_w A1 A2 c1 c2 y y w (hw.ro h1) (hw.ro h2))) rfl rfl (fun _ _ => ?_)
    refine rw_run tab_ok 2 [(8, _)] rfl ⟨rfl, trivial⟩ ?_
    refine rw_end ?_
    refine cw_ret ?_
    refine xw_ret1 Try.results27 (rv_tmp rfl) ?_
    intro w hw
    exact ⟨ret_bool (by simp), hw.below⟩
set_option maxRecDepth 100000 in
set_option maxHeartbeats 2000000 in
theorem verifyTells_any (A A1 A2 : Option Addr) (c c1 c2 : Nat) (fs : List MFunc) (z : Int) (a b : List Int) (w : World) (hs : Sl w (.slice A fs.length c) fs) (h1 : Sl w (.slice A1 a.length c1) a) (h2 : Sl w (.slice A2 b.length c2) b) :
    Calls Try.prog 5 #[.agg #[.slice A fs.length c], .int .i64 z, .slice A1 a.length c1, .slice A2 b.length c2] w fun e w' => e = .returned (.bool true) ∧ Below w.heap.size w w' := by
  have b1 := len_bd hs
  obtain ⟨⟨FL, FU⟩, hF⟩ : ∃ F, funcS fs z = F := ⟨_, rfl⟩
  have hvf : ∀ w1, Sl w1 (.slice A fs.length c) fs → Calls Try.prog 18 #[.agg #[.slice A fs.length c], .int .i64 z] w1 fun e w' => ∃ g : Option Addr × Nat, True ∧ e = .returned (.tuple #[.slice g.1 FL.length g.2, .int .i64 FU]) ∧ Cw w1.heap.size w1 [RRd (.slice g.1 FL.length g.2) FL] w' := fun w1 h => by
    have := vfunc_any A c fs z w1 h
    rw [hF] at this
    exact this
  have hjr : joinE a b ≠ 0 → joinR a b = [] := fun h => by unfold joinR; rw [if_neg h]
  refine enter Try.func5 rfl Try.ntmps5 rfl ?_
  refine cw_seq ?_
  refine cw_region ?_
  refine rw_op (ot_box rfl rfl rfl) rfl rfl (fun g1 _ => ?_)
  refine rw_run tab_ok 1 [(1, _), (2, _), (3, _), (4, _)] rfl ⟨rfl, rfl, rfl, rfl, trivial⟩ ?_
  refine rw_end ?_
  refine cw_seq ?_
  refine cw_region ?_
  refine rw_s (qs_ldbA (vs := [_]) fc Try.isAgg24 Try.sizeOf24 rfl rfl (by rfl) rfl) rfl rfl ?_
  refine rw_run tab_ok 1 [(1, _), (2, _), (3, _), (4, _), (20, _), (21, _)] rfl ⟨rfl, rfl, rfl, rfl, rfl, rfl, trivial⟩ ?_
  refine rw_op (ot_c rfl rfl rfl Try.call18 (fun w hw => hvf w (hw.ro hs))) rfl rfl (fun ⟨A5, c5⟩ _ => ?_)
  try dsimp only
  refine rw_run tab_ok 5 [(1, _), (2, _), (3, _), (4, _), (9, _), (10, _)] rfl ⟨rfl, rfl, rfl, rfl, rfl, rfl, trivial⟩ ?_
  refine rw_end ?_
  refine cw_seq ?_
  refine cw_region ?_
  refine rw_run tab_ok 2 [(1, _), (2, _), (3, _), (4, _), (9, _), (10, _), (26, _), (27, _)] rfl ⟨rfl, rfl, rfl, rfl, rfl, rfl, rfl, rfl, trivial⟩ ?_
  refine rw_op (ot_cO rfl rfl rfl Try.call19 (fun w hw => join_any A1 A2 c1 c2 a b w (hw.ro h1) (hw.ro h2))) rfl rfl (fun ⟨A6, c6⟩ _ => ?_)
  try dsimp only
  refine rw_run tab_ok 5 [(1, _), (2, _), (3, _), (4, _), (9, _), (10, _), (11, _), (12, _)] rfl ⟨rfl, rfl, rfl, rfl, rfl, rfl, rfl, rfl, trivial⟩ ?_
  refine rw_end ?_
  refine cw_seq ?_
  refine cw_region ?_
  refine rw_s (qs_ldbA (vs := [_]) fc Try.isAgg24 Try.sizeOf24 rfl rfl (by rfl) rfl) rfl rfl ?_
  refine rw_op (ot_c0 rfl rfl rfl Try.call12 (fun w hw => rcheckP_any A c fs w (hw.ro hs))) rfl rfl (fun _ _ => ?_)
  refine rw_run tab_ok 2 [(1, _), (2, _), (3, _), (4, _), (9, _), (10, _), (11, _), (12, _), (32, _), (33, _), (34, _)] rfl ⟨rfl, rfl, rfl, rfl, rfl, rfl, rfl, rfl, rfl, rfl, rfl, trivial⟩ ?_
  refine rw_op (ot_c0 rfl rfl rfl Try.call20 (fun w hw => rcheckJoin_any A1 A2 c1 c2 a b w (hw.ro h1) (hw.ro h2))) rfl rfl (fun _ _ => ?_)
  refine rw_run tab_ok 2 [(1, _), (2, _), (3, _), (4, _), (9, _), (10, _), (11, _), (12, _), (13, _), (14, _)] rfl ⟨rfl, rfl, rfl, rfl, rfl, rfl, rfl, rfl, rfl, rfl, trivial⟩ ?_
  refine rw_end ?_
  refine cw_cut (fun u : Int => (u = 0 → checkP fs = 0 ∧ 0 ≤ z ∧ z < (fs.length : Int)) ∧ (u ≠ 0 → (FL, FU) = (([] : List MEntry), u))) (fun u => [(1, .int .i64 z), (2, .slice A1 a.length c1), (3, .slice A2 b.length c2), (4, .pointer (some ⟨g1, 0, none⟩)), (9, .slice A5 FL.length c5), (10, .int .i64 FU), (11, .slice A6 (joinR a b).length c6), (12, .int .i64 (joinE a b)), (13, .int .i64 u), (14, .int .i64 (joinE a b))]) (fun _ => [RBox g1 [.slice A fs.length c] 24, RRd (.slice A5 FL.length c5) FL, ROw (.slice A6 (joinR a b).length c6) (joinR a b)]) ?_ ?_
  · refine cw_seq ?_
    refine cw_region ?_
    refine rw_run tab_ok 3 [(1, _), (2, _), (3, _), (4, _), (9, _), (10, _), (11, _), (12, _), (13, _), (14, _), (38, _)] rfl ⟨rfl, rfl, rfl, rfl, rfl, rfl, rfl, rfl, rfl, rfl, rfl, trivial⟩ ?_
    refine rw_split (t := 38) rfl (fun h0 => ?_) (fun h0 => ?_)
    · have h0 := of_decide_eq_true h0
      refine rw_run tab_ok 3 [(1, _), (2, _), (3, _), (4, _), (9, _), (10, _), (11, _), (12, _), (13, _), (14, _), (38, _), (41, _)] rfl ⟨rfl, rfl, rfl, rfl, rfl, rfl, rfl, rfl, rfl, rfl, rfl, rfl, trivial⟩ ?_
      refine rw_split (t := 41) rfl (fun hz => ?_) (fun hz => ?_)
      · have hz := of_decide_eq_true hz
        refine rw_run tab_ok 7 [(1, _), (2, _), (3, _), (4, _), (9, _), (10, _), (11, _), (12, _), (13, _), (14, _), (48, _)] rfl ⟨rfl, rfl, rfl, rfl, rfl, rfl, rfl, rfl, rfl, rfl, rfl, trivial⟩ ?_
        refine rw_end ?_
        refine cw_cond_t rfl ?_
        refine cw_region ?_
        refine rw_run tab_ok 1 [(1, _), (2, _), (3, _), (4, _), (9, _), (10, _), (11, _), (12, _), (13, _), (14, _)] rfl ⟨rfl, rfl, rfl, rfl, rfl, rfl, rfl, rfl, rfl, rfl, trivial⟩ ?_
        refine rw_join 3 (⟨fun h => (by cases h), fun _ => by rw [← hF]; unfold funcS; rw [if_neg (by omega), if_pos (.inl hz)]⟩) ⟨rfl, rfl, rfl, rfl, rfl, rfl, rfl, rfl, rfl, rfl, trivial⟩ me
      · have hz := of_decide_eq_false hz
        refine rw_run tab_ok 2 [(1, _), (2, _), (3, _), (4, _), (9, _), (10, _), (11, _), (12, _), (13, _), (14, _), (38, _), (41, _), (42, _), (43, _)] rfl ⟨rfl, rfl, rfl, rfl, rfl, rfl, rfl, rfl, rfl, rfl, rfl, rfl, rfl, rfl, trivial⟩ ?_
        refine rw_s (qs_ldb fc Try.isAgg22 rfl rfl (by rfl)) rfl rfl ?_
        refine rw_s (qs_len Try.underlying22 rfl rfl) rfl rfl ?_
        refine rw_run tab_ok 3 [(1, _), (2, _), (3, _), (4, _), (9, _), (10, _), (11, _), (12, _), (13, _), (14, _), (48, _)] rfl ⟨rfl, rfl, rfl, rfl, rfl, rfl, rfl, rfl, rfl, rfl, rfl, trivial⟩ ?_
        refine rw_end ?_
        refine cw_condD rfl (fun hz2 => ?_) (fun hz2 => ?_)
        · refine cw_region ?_
          refine rw_run tab_ok 1 [(1, _), (2, _), (3, _), (4, _), (9, _), (10, _), (11, _), (12, _), (13, _), (14, _)] rfl ⟨rfl, rfl, rfl, rfl, rfl, rfl, rfl, rfl, rfl, rfl, trivial⟩ ?_
          refine rw_join 3 (⟨fun h => (by cases h), fun _ => by rw [← hF]; unfold funcS; rw [if_neg (by omega), if_pos (.inr (by omega))]⟩) ⟨rfl, rfl, rfl, rfl, rfl, rfl, rfl, rfl, rfl, rfl, trivial⟩ me
        · refine cw_skip ?_
          refine xw_join (checkP fs) (⟨fun h => ⟨h0, by omega, by omega⟩, fun h => absurd h0 h⟩) ⟨rfl, rfl, rfl, rfl, rfl, rfl, rfl, rfl, rfl, rfl, trivial⟩ me
    · have h0 := of_decide_eq_false h0
      refine rw_run tab_ok 10 [(1, _), (2, _), (3, _), (4, _), (9, _), (10, _), (11, _), (12, _), (13, _), (14, _), (48, _)] rfl ⟨rfl, rfl, rfl, rfl, rfl, rfl, rfl, rfl, rfl, rfl, rfl, trivial⟩ ?_
      refine rw_end ?_
      refine cw_cond_f rfl ?_
      refine cw_skip ?_
      refine xw_join (checkP fs) (⟨fun h => absurd h h0, fun _ => by rw [← hF]; unfold funcS; rw [if_pos h0]⟩) ⟨rfl, rfl, rfl, rfl, rfl, rfl, rfl, rfl, rfl, rfl, trivial⟩ me
  · rintro u ⟨hu0, hu1⟩
    refine cw_seq ?_
    refine cw_region ?_
    refine rw_run tab_ok 1 [(1, _), (2, _), (3, _), (4, _), (9, _), (10, _), (11, _), (12, _), (13, _), (14, _), (15, _)] rfl ⟨rfl, rfl, rfl, rfl, rfl, rfl, rfl, rfl, rfl, rfl, rfl, trivial⟩ ?_
    refine rw_end ?_
    refine cw_seq ?_
    refine cw_region ?_
    refine rw_run tab_ok 1 [(1, _), (2, _), (3, _), (4, _), (9, _), (10, _), (11, _), (12, _), (13, _), (14, _), (15, _), (16, _)] rfl ⟨rfl, rfl, rfl, rfl, rfl, rfl, rfl, rfl, rfl, rfl, rfl, rfl, trivial⟩ ?_
    refine rw_end ?_
    refine cw_cut (fun g : Option Addr × Nat => True) (fun g => [(2, .slice A1 a.length c1), (3, .slice A2 b.length c2), (4, .pointer (some ⟨g1, 0, none⟩)), (9, .slice A5 FL.length c5), (10, .int .i64 FU), (11, .slice A6 (joinR a b).length c6), (12, .int .i64 (joinE a b)), (13, .int .i64 FU), (14, .int .i64 (joinE a b)), (15, .slice g.1 FL.length g.2), (16, .slice none 0 0)]) (fun g => [RBox g1 [.slice A fs.length c] 24, RRd (.slice A5 FL.length c5) FL, ROw (.slice A6 (joinR a b).length c6) (joinR a b), RRb w.heap.size w (.slice g.1 FL.length g.2) FL]) ?_ ?_
    · refine cw_seq ?_
      refine cw_region ?_
      refine rw_run tab_ok 2 [(1, _), (2, _), (3, _), (4, _), (9, _), (10, _), (11, _), (12, _), (13, _), (14, _), (15, _), (16, _), (50, _)] rfl ⟨rfl, rfl, rfl, rfl, rfl, rfl, rfl, rfl, rfl, rfl, rfl, rfl, rfl, trivial⟩ ?_
      refine rw_end ?_
      refine cw_condD rfl (fun hu => ?_) (fun hu => ?_)
      · obtain ⟨hc0, hz0, hzl⟩ := hu0 hu
        obtain rfl : u = 0 := hu
        obtain ⟨k, hk⟩ : ∃ k : Nat, z = (k : Int) := ⟨z.toNat, by omega⟩
        have hkl : k < fs.length := by omega
        obtain ⟨hok, hn0⟩ := fn_ok hc0 hkl
        have hty := fn_ty hc0 hkl
        have hf : (FL, FU) = if (entriesS fs (fnAt fs k)).2 = true then ((entriesS fs (fnAt fs k)).1, (0 : Int)) else ([], 4) := by
          rw [← hF, hk]
          unfold funcS
          rw [if_neg (by simpa using hc0), if_neg (by omega), Int.toNat_natCast]
        refine cw_seq ?_
        refine cw_region ?_
        refine rw_s (qs_ldbA (vs := [_]) fc Try.isAgg24 Try.sizeOf24 rfl rfl (by rfl) rfl) rfl rfl ?_
        refine rw_run tab_ok 1 [(2, _), (3, _), (4, _), (9, _), (10, _), (11, _), (12, _), (13, _), (14, _), (16, _), (52, _), (53, _)] rfl ⟨rfl, rfl, rfl, rfl, rfl, rfl, rfl, rfl, rfl, rfl, rfl, rfl, trivial⟩ ?_
        refine rw_as (t := 53) (v' := .int .i64 (k : Int)) rfl (by rw [hk]) ?_
        refine rw_op (ot_c rfl rfl rfl Try.call21 (fun w hw => rentries_own A c fs k w (hw.ro hs) hkl hok hty hn0)) rfl rfl (fun ⟨⟨A7, c7⟩, es, L⟩ hre => ?_)
        try dsimp only
        refine rw_run tab_ok 5 [(2, _), (3, _), (4, _), (9, _), (10, _), (11, _), (12, _), (13, _), (14, _), (16, _), (17, _), (18, _)] rfl ⟨rfl, rfl, rfl, rfl, rfl, rfl, rfl, rfl, rfl, rfl, rfl, rfl, trivial⟩ ?_
        refine rw_end ?_
        refine cw_seq ?_
        refine cw_region ?_
        refine rw_run tab_ok 2 [(2, _), (3, _), (4, _), (9, _), (10, _), (11, _), (12, _), (13, _), (14, _), (15, _), (16, _), (18, _)] rfl ⟨rfl, rfl, rfl, rfl, rfl, rfl, rfl, rfl, rfl, rfl, rfl, rfl, trivial⟩ ?_
        refine rw_end ?_
        refine cw_seq ?_
        refine cw_region ?_
        refine rw_run tab_ok 2 [(2, _), (3, _), (4, _), (9, _), (10, _), (11, _), (12, _), (13, _), (14, _), (15, _), (16, _), (59, _)] rfl ⟨rfl, rfl, rfl, rfl, rfl, rfl, rfl, rfl, rfl, rfl, rfl, rfl, trivial⟩ ?_
        refine rw_end ?_
        have hre : RelE es L (entriesS fs (fnAt fs k)).1 := hre
        refine cw_cond rfl (fun h3 => ?_) (fun h3 => ?_)
        · have h3 : (entriesS fs (fnAt fs k)).2 = false := by simpa using h3
          rw [h3] at hf
          have hf : (FL, FU) = ([], (4 : Int)) := hf
          obtain ⟨rfl, rfl⟩ := Prod.mk.inj hf
          refine cw_region ?_
          refine rw_run tab_ok 2 [(2, _), (3, _), (4, _), (9, _), (10, _), (11, _), (12, _), (13, _), (14, _), (15, _), (16, _)] rfl ⟨rfl, rfl, rfl, rfl, rfl, rfl, rfl, rfl, rfl, rfl, rfl, trivial⟩ ?_
          refine rw_join (none, 0) (trivial) ⟨rfl, rfl, rfl, rfl, rfl, rfl, rfl, rfl, rfl, rfl, rfl, trivial⟩ (fun w h => (rb_ro (SlB.nil_ (α := MEntry)) h).msub ms)
        · have h3 : (entriesS fs (fnAt fs k)).2 = true := by simpa using h3
          rw [h3, if_pos rfl] at hf
          obtain ⟨rfl, rfl⟩ := Prod.mk.inj hf
          refine cw_skip ?_
          rw [← hre.len]
          refine xw_join (A7, c7) (trivial) ⟨rfl, rfl, rfl, rfl, rfl, rfl, rfl, rfl, rfl, rfl, rfl, trivial⟩ (fun w h => (rb_of (Hel := [ROw (.slice A7 es.length c7) es, RPool L]) (fun w F h _ _ => read_ents hre w F h) (h.msub (T := [ROw (.slice A7 es.length c7) es, RPool L, RBox g1 [.slice A fs.length c] 24, RRd (.slice A5 es.length c5) (entriesS fs (fnAt fs k)).1, ROw (.slice A6 (joinR a b).length c6) (joinR a b)]) ms)).msub ms)
      · obtain ⟨rfl, rfl⟩ := Prod.mk.inj (hu1 hu)
        refine cw_skip ?_
        refine xw_join (none, 0) (trivial) ⟨rfl, rfl, rfl, rfl, rfl, rfl, rfl, rfl, rfl, rfl, rfl, trivial⟩ (fun w h => (rb_ro (SlB.nil_ (α := MEntry)) h).msub ms)
    · rintro ⟨A7, c7⟩ _
      try dsimp only
      refine cw_cut (fun g : List Int × Option Addr × Nat => joinE a b = 0 → g.1 = joinR a b) (fun g => [(4, .pointer (some ⟨g1, 0, none⟩)), (9, .slice A5 FL.length c5), (10, .int .i64 FU), (11, .slice A6 (joinR a b).length c6), (12, .int .i64 (joinE a b)), (13, .int .i64 FU), (14, .int .i64 (joinE a b)), (15, .slice A7 FL.length c7), (16, .slice g.2.1 g.1.length g.2.2)]) (fun g => [RBox g1 [.slice A fs.length c] 24, RRd (.slice A5 FL.length c5) FL, ROw (.slice A6 (joinR a b).length c6) (joinR a b), RRb w.heap.size w (.slice A7 FL.length c7) FL, ROw (.slice g.2.1 g.1.length g.2.2) g.1]) ?_ ?_
      · refine cw_seq ?_
        refine cw_region ?_
        refine rw_run tab_ok 2 [(2, _), (3, _), (4, _), (9, _), (10, _), (11, _), (12, _), (13, _), (14, _), (15, _), (16, _), (61, _)] rfl ⟨rfl, rfl, rfl, rfl, rfl, rfl, rfl, rfl, rfl, rfl, rfl, rfl, trivial⟩ ?_
        refine rw_end ?_
        refine cw_condD rfl (fun hj => ?_) (fun hj => ?_)
        · obtain ⟨ka, kb, hlen, x, hx, hxr⟩ := joinE_parts hj
          refine cw_region ?_
          refine rw_run tab_ok 2 [(4, _), (9, _), (10, _), (11, _), (12, _), (13, _), (14, _), (15, _), (63, _), (64, _)] rfl ⟨rfl, rfl, rfl, rfl, rfl, rfl, rfl, rfl, rfl, rfl, trivial⟩ ?_
          refine rw_op (ot_cO rfl rfl rfl Try.call22 (fun w hw => rjoinOf_any A1 A2 c1 c2 a b w (hw.ro h1) (hw.ro h2) ka kb (by omega))) rfl rfl (fun ⟨A8, c8⟩ _ => ?_)
          try dsimp only
          refine rw_run tab_ok 4 [(4, _), (9, _), (10, _), (11, _), (12, _), (13, _), (14, _), (15, _), (16, _)] rfl ⟨rfl, rfl, rfl, rfl, rfl, rfl, rfl, rfl, rfl, trivial⟩ ?_
          rw [hx, Option.getD_some]
          refine rw_join (x, A8, c8) (fun _ => hxr.symm) ⟨rfl, rfl, rfl, rfl, rfl, rfl, rfl, rfl, rfl, trivial⟩ (fun w h => h.msub ms)
        · refine cw_skip ?_
          refine xw_join ([], none, 0) (fun h => absurd h hj) ⟨rfl, rfl, rfl, rfl, rfl, rfl, rfl, rfl, rfl, trivial⟩ (fun w h => (Cw.nilO Int h).msub ms)
      · rintro ⟨y, A8, c8⟩ hy
        have hy : joinE a b = 0 → y = joinR a b := hy
        try dsimp only
        refine cw_seq ?_
        refine cw_draw (.pick 0 (.still 1 (.still 2 (.still 3 (.still 4 (.still 5 (.still 6 (.still 7 (.still 8 (.pick 9 (.still 10 (.still 11 (.still 12 (.still 14 (.pick 13 (.pick 15 (.still 16 (.still 17 (.still 18 (.still 19 (.still 20 (.still 21 (.still 22 (.pick 23 (.still 24 (.still 25 .done)) .stop)))))))) .stop) .stop))))) .stop))))))))) .stop) [] rfl (by kernel_rfl) (by kernel_rfl) ?_
        refine ro_op2 rfl (ot_c0 rfl rfl rfl Try.call23 (fun w hw => verifyBegun_any w)) rfl rfl (.inr fun _ => ha) (fun _ _ => ?_) ro_stop
        refine ro_run tab_ok ha 6 [(4, _), (9, _), (11, _), (12, _), (14, _), (15, _), (16, _), (74, _)] rfl ⟨rfl, rfl, rfl, rfl, rfl, rfl, rfl, rfl, trivial⟩ ?_
        refine ro_as (t := 74) (v' := .bool true) rfl (by rw [decide_eq_true rfl]) ?_
        refine ro_run tab_ok ha 2 [(4, _), (11, _), (12, _), (14, _), (16, _), (74, _), (75, _), (76, _)] rfl ⟨rfl, rfl, rfl, rfl, rfl, rfl, rfl, rfl, trivial⟩ ?_
        refine ro_op2 rfl (ot_c0 rfl rfl rfl Try.call24 (fun w hw => rsameE_any A5 A7 c5 c7 FL FL w (hw.rdSl fc) (SF.at_ (SF.rb rfl fc) hw))) rfl rfl (.inr fun _ => ha) (fun _ _ => ?_) ro_stop
        refine ro_run tab_ok ha 2 [(4, _), (11, _), (12, _), (14, _), (16, _), (79, _)] rfl ⟨rfl, rfl, rfl, rfl, rfl, rfl, trivial⟩ ?_
        refine ro_as (t := 79) (v' := .bool true) rfl (by rw [decide_eq_true rfl]) ?_
        refine ro_s2 rfl (qs_ldbA (vs := [_]) fc Try.isAgg24 Try.sizeOf24 rfl rfl (by rfl) rfl) rfl rfl ha ?_
        refine ro_s2 rfl (qs_ldbA (vs := [_]) fc Try.isAgg24 Try.sizeOf24 rfl rfl (by rfl) rfl) rfl rfl ha ?_
        refine ro_op2 rfl (ot_c0 rfl rfl rfl Try.call25 (fun w hw => vprog_any A c fs w (hw.ro hs))) rfl rfl (.inr fun _ => ha) (fun _ _ => ?_) ro_stop
        refine ro_op2 rfl (ot_c0 rfl rfl rfl Try.call26 (fun w hw => rcheckFits_any A c fs w (hw.ro hs))) rfl rfl (.inr fun _ => ha) (fun _ _ => ?_) ro_stop
        refine ro_run tab_ok ha 3 [(11, _), (12, _), (14, _), (16, _), (86, _)] rfl ⟨rfl, rfl, rfl, rfl, rfl, trivial⟩ ?_
        refine ro_as (t := 86) (v' := .bool true) rfl (by rw [decide_eq_true rfl]) ?_
        refine ro_run tab_ok ha 4 [(86, _), (87, _), (88, _), (89, _), (90, _)] rfl ⟨rfl, rfl, rfl, rfl, rfl, trivial⟩ ?_
        refine ro_op2 rfl (ot_c0 rfl rfl rfl Try.call27 (fun w hw => intsAre_true A6 A8 c6 c8 (joinR a b) y (joinE a b) w hjr hy (SF.at_ (SF.own rfl fc) hw) (SF.at_ (SF.own rfl fc) hw))) rfl rfl (.inr fun _ => ha) (fun _ _ => ?_) ro_stop
        refine ro_run tab_ok ha 2 [(8, _)] rfl ⟨rfl, trivial⟩ ?_
        refine ro_end ?_
        refine cw_ret ?_
        refine xw_ret1 Try.results5 (rv_tmp rfl) ?_
        intro w hw
        exact ⟨rfl, hw.below⟩
theorem verifyTells_law (v v1 v2 : Value) (fs : List MFunc) (z : Int) (a b : List Int) (w : World) (hs : Sl w v fs) (h1 : Sl w v1 a) (h2 : Sl w v2 b) : Calls Try.prog 5 #[.agg #[v], .int .i64 z, v1, v2] w fun e w' => e = .returned (.bool true) ∧ Below w.heap.size w w' := by
  obtain ⟨A, c, rfl, _⟩ := hs.form
  obtain ⟨A1, c1, rfl, _⟩ := h1.form
  obtain ⟨A2, c2, rfl, _⟩ := h2.form
  exact verifyTells_any A A1 A2 c c1 c2 fs z a b w hs h1 h2
end Go.Proofs.Ytejpkcheimgdfaa

-- Read
/- How what came in reads as data of the proofs' own types: numbers, texts, slices of whatever reads. -/
namespace Go.Proofs.Ytejpkcheimgdfaa
open Go.ChangeShapes Go.WideShapes Go.ChangeAt Go.RowKit Go.Deep

/-- Whatever reads at type t is a datum of α. -/
def Rd (t : TypeId) (α : Type) [Rep α] : Prop :=
  ∀ (H : Type) (enc : TypeId × Value → H) (W : World) (fuel : Nat) (cs : List Value) (x : DataW H × List MemPlace),
    DataW.trod enc Try.prog W 0 (fun _ => true) true fuel t cs = some x → (∀ n ∈ x.1.weights Try.prog t, n ≤ reachBytes) → ∃ y : α, Rep.rep W W.heap.size cs y

theorem i64_of_wf {n : Int} (hw : (Lit.int .i64 n).wf = true) : I64 n := by
  simp [Lit.wf, IntKind.min, IntKind.max, IntKind.signed, IntKind.bits] at hw
  exact ⟨by omega, by omega⟩
theorem rd_int {t : TypeId} (ht : Try.prog.underlying t = some (.int .i64)) : Rd t Int := by
  intro H enc W fuel cs x h _
  obtain ⟨n, rfl, _, hw⟩ := DataW.trod_int ht h
  refine ⟨n, rfl, ?_⟩
  simp [Lit.wf, IntKind.min, IntKind.max, IntKind.signed, IntKind.bits] at hw
  exact ⟨by omega, by omega⟩

theorem exists_list {α : Type} {R : Nat → α → Prop} (n : Nat) (h : ∀ i, i < n → ∃ y, R i y) : ∃ ys : List α, ys.length = n ∧ ∀ i y, ys[i]? = some y → R i y := by
  induction n with
  | zero => exact ⟨[], rfl, fun i y h => by simp at h⟩
  | succ n ih =>
    obtain ⟨ys, hl, hy⟩ := ih (fun i hi => h i (by omega))
    obtain ⟨y, hR⟩ := h n (by omega)
    refine ⟨ys ++ [y], by simp [hl], fun i z hz => ?_⟩
    by_cases hi : i < ys.length
    · rw [List.getElem?_append_left hi] at hz; exact hy i z hz
    · rw [List.getElem?_append_right (by omega)] at hz
      have : i - ys.length = 0 := by
        rcases Nat.eq_zero_or_pos (i - ys.length) with h | h
        · exact h
        · rw [List.getElem?_eq_none (by simp; omega)] at hz; cases hz
      rw [this] at hz
      simp at hz
      subst hz
      have : i = n := by omega
      rw [this]; exact hR

theorem rd_slice {t e : TypeId} {α : Type} [Rep α] (hr : Rd e α) (ht : Try.prog.underlying t = some (.slice e)) (hc : Try.prog.cellsOf e = Rep.k α) (hk : 0 < Rep.k α) (hb : 0 < Try.prog.bytesOf e) :
    Rd t (List α) := by
  intro H enc W fuel cs x h hw
  rcases open_slice ht h with ⟨rfl, rfl⟩ | ⟨a, len, cap, m, n, D, Pl, rfl, _, hl, hm, hmm, rfl, hi⟩
  · exact ⟨[], _, rfl, SlB.nil_⟩
  · have hmc : cap = m := by simpa using hmm.symm
    clear hmm
    rw [hmc] at hl hm ⊢
    clear hmc
    have hel : ∀ i, i < len → ∃ y : α, ∃ cs', W.cells? 0 (a.add (i * Rep.k α)) (Rep.k α) = some cs' ∧ Rep.rep W W.heap.size cs' y := by
      intro i hil
      obtain ⟨cs', hcs, htr⟩ := hi i (by omega)
      rw [hc] at hcs
      obtain ⟨y, hy⟩ := hr H enc W n cs' _ htr (fun u hu => hw u (by
        simp only [DataW.weights, ht]
        refine List.mem_cons_of_mem _ (List.mem_append_left _ ?_)
        have : ∀ (l : List Nat), i ∈ l → u ∈ DataW.weightsAll Try.prog e (l.map D) := by
          intro l
          induction l with
          | nil => simp
          | cons z l ih =>
            intro hz
            simp only [List.map_cons, DataW.weightsAll, List.mem_append]
            rcases List.mem_cons.1 hz with rfl | hz
            · exact .inl hu
            · exact .inr (ih hz)
        exact this _ (List.mem_range.2 hil)))
      exact ⟨y, cs', hcs, hy⟩
    obtain ⟨ys, hyl, hy⟩ := exists_list len hel
    have hbytes : (len + (m - len)) * Try.prog.bytesOf e ≤ reachBytes := by
      have := hw ((((List.range len).map D).length + ((List.range (m - len)).map fun j => D (len + j)).length) * Try.prog.bytesOf e) (by simp only [DataW.weights, ht]; exact List.mem_cons_self)
      simpa using this
    have hlen : len ≤ 140737488355328 := by
      have h1 : len + (m - len) ≤ (len + (m - len)) * Try.prog.bytesOf e := Nat.le_mul_of_pos_right _ hb
      have h2 := reachBytes_lt
      omega
    refine ⟨ys, _, rfl, some a, m, by rw [hyl], by omega, hm, by omega, fun h0 => ?_⟩
    have hsome : ∀ i, i < len → ∀ j, j < Rep.k α → ∃ v, W.cell? ((a.add (i * Rep.k α)).add j) = some v := by
      intro i hil j hj
      obtain ⟨y, cs', hcs, _⟩ := hel i hil
      obtain ⟨_, hcl, hat⟩ := World.cells?_some hcs
      exact ⟨cs'[j]'(by omega), by rw [hat j hj]; exact List.getElem?_eq_getElem (by omega)⟩
    obtain ⟨b, off, spot⟩ := a
    obtain ⟨v0, hv0⟩ := hsome 0 (by omega) 0 hk
    have hspot : spot = none := by simpa [Addr.add] using World.cell?_spot hv0
    subst hspot
    have hadd : ∀ i j : Nat, ((⟨b, off, none⟩ : Addr).add i).add j = ⟨b, off + i + j, none⟩ := by
      intro i j; unfold Addr.add; by_cases hi : i = 0 <;> by_cases hj : j = 0 <;> simp [hi, hj, Nat.add_assoc]
    have hblt : b < W.heap.size := by
      rw [hadd] at hv0
      rcases Nat.lt_or_ge b W.heap.size with h | h
      · exact h
      · simp [World.cell?, Array.getElem?_eq_none h] at hv0
    refine ⟨b, off, rfl, hblt, fun i y hyi => ?_⟩
    obtain ⟨cs', hcs, hrep⟩ := hy i y hyi
    obtain ⟨_, hcl, hat⟩ := World.cells?_some hcs
    refine ⟨cs', hrep, fun j u hu => ?_⟩
    have hj : j < Rep.k α := by have := (List.getElem?_eq_some_iff.1 hu).1; omega
    have := hat j hj
    rw [hadd] at this
    rw [this, hu]

/-! Arguments. -/
section
variable {H : Type} {enc : TypeId × Value → H} {W : World} {t e : TypeId} {v : Value} {d : DataW H} {p : List MemPlace} {base : Nat}
set_option maxRecDepth 100000 in
theorem arg_int (ht : Try.prog.underlying t = some (.int .i64)) (hv : Value.okWide Try.prog W .any base t v) (h : DataW.Trod enc Try.prog W 0 (fun _ => true) true t v d p) : ∃ n, v = .int .i64 n ∧ I64 n := by
  obtain ⟨n, rfl, _, _, hw⟩ := open_int ht hv h
  refine ⟨n, rfl, ?_⟩
  simp [Lit.wf, IntKind.min, IntKind.max, IntKind.signed, IntKind.bits] at hw
  exact ⟨by omega, by omega⟩
set_option maxRecDepth 100000 in
theorem arg_string (ht : Try.prog.underlying t = some .string) (hv : Value.okWide Try.prog W .any base t v) (h : DataW.Trod enc Try.prog W 0 (fun _ => true) true t v d p) (hw : ∀ n ∈ d.weights Try.prog t, n ≤ reachBytes) : ∃ l : List UInt8, v = .string ⟨l.toArray⟩ ∧ l.length ≤ 140737488351232 := by
  obtain ⟨⟨⟨l⟩⟩, rfl, rfl, _, _⟩ := Go.ChangeMaps.open_string ht hv h
  refine ⟨l, rfl, ?_⟩
  have := hw l.length (by simp [DataW.weights])
  unfold reachBytes at this
  omega
set_option maxRecDepth 100000 in
theorem arg_slice {α : Type} [Rep α] (hr : Rd t (List α)) (ht : Try.prog.underlying t = some (.slice e)) (hv : Value.okWide Try.prog W .any base t v) (h : DataW.Trod enc Try.prog W 0 (fun _ => true) true t v d p) (hw : ∀ n ∈ d.weights Try.prog t, n ≤ reachBytes) : ∃ xs : List α, Sl W v xs := by
  obtain ⟨a, len, cap, rfl⟩ := okWide_slice ht hv
  obtain ⟨fuel, hf⟩ := h
  obtain ⟨xs, v', hv', hs⟩ := hr _ _ _ _ _ _ hf hw
  simp [Value.cells] at hv'
  subst hv'
  exact ⟨xs, hs⟩
set_option maxRecDepth 100000 in
theorem arg_slice_b {α : Type} [Rep α] (hr : Rd t (List α)) (ht : Try.prog.underlying t = some (.slice e)) (hv : Value.okWide Try.prog W .any base t v) (h : DataW.Trod enc Try.prog W 0 (fun _ => true) true t v d p) (hw : ∀ n ∈ d.weights Try.prog t, n ≤ reachBytes) : ∃ xs : List α, Sl W v xs ∧ xs.length * Try.prog.bytesOf e ≤ reachBytes := by
  obtain ⟨xs, hs⟩ := arg_slice hr ht hv h hw
  obtain ⟨a, len, cap, rfl⟩ := okWide_slice ht hv
  have hl := SlB.len_eq hs
  refine ⟨xs, hs, ?_⟩
  obtain ⟨fuel, hf⟩ := h
  rcases open_slice ht hf with ⟨hcs, hx⟩ | ⟨a', len', cap', m, n, D, Pl, hcs, _, hl', hm, hmm, hx, hi⟩
  · simp [Value.cells] at hcs
    rw [hl, hcs.2.1]; simp
  · simp [Value.cells] at hcs
    obtain ⟨_, rfl, _⟩ := hcs
    simp only [Prod.mk.injEq] at hx
    have := hw ((((List.range len).map D).length + ((List.range (m - len)).map fun j => D (len + j)).length) * Try.prog.bytesOf e) (by rw [hx.1]; simp only [DataW.weights, ht]; exact List.mem_cons_self)
    refine Nat.le_trans ?_ this
    rw [hl]
    exact Nat.mul_le_mul_right _ (by simp)
set_option maxRecDepth 100000 in
theorem arg_agg {α : Type} [Rep α] {fs : Array Field} (hr : Rd t α) (ht : Try.prog.underlying t = some (.struct fs)) (hv : Value.okWide Try.prog W .any base t v) (h : DataW.Trod enc Try.prog W 0 (fun _ => true) true t v d p) (hw : ∀ n ∈ d.weights Try.prog t, n ≤ reachBytes) : ∃ (x : α) (cs : List Value), v = .agg cs.toArray ∧ Rep.rep W W.heap.size cs x := by
  obtain ⟨cs, rfl, _⟩ := okWide_struct ht hv
  obtain ⟨fuel, hf⟩ := h
  obtain ⟨x, hx⟩ := hr _ _ _ _ _ _ hf hw
  exact ⟨x, _, rfl, hx⟩
end
end Go.Proofs.Ytejpkcheimgdfaa

-- ReadOp
namespace Go.Proofs.Ytejpkcheimgdfaa
open Go.ChangeShapes Go.WideShapes Go.ChangeAt Go.RowKit Go.Deep

theorem Try.cOp : Try.prog.cellsOf 61 = 2 := by kernel_rfl
theorem Try.bOp : Try.prog.bytesOf 61 = 16 := by kernel_rfl
theorem Try.cInt : Try.prog.cellsOf 3 = 1 := by kernel_rfl
set_option maxRecDepth 100000 in
theorem rd_op : Rd 61 MOp := by
  intro H enc W fuel cs x h hw
  obtain ⟨xs, n, _, rfl, hcl, hxl, hf⟩ := DataW.trod_struct Try.underlying61 h
  rw [Try.cOp] at hcl
  obtain ⟨c0, c1, rfl⟩ : ∃ c0 c1, cs = [c0, c1] := by
    match cs, hcl with
    | [c0, c1], _ => exact ⟨c0, c1, rfl⟩
  match xs, hxl with
  | [y0, y1], _ =>
    have h0 := hf 0 _ rfl
    have h1 := hf 1 _ rfl
    simp [Try.cInt] at h0 h1
    obtain ⟨n0, e0, he0, hi0⟩ := DataW.trod_int Try.underlying3 h0
    obtain ⟨n1, e1, he1, hi1⟩ := DataW.trod_int Try.underlying3 h1
    simp at e0 e1
    subst e0 e1
    exact ⟨⟨n0, n1⟩, rfl, i64_of_wf hi0, i64_of_wf hi1⟩
theorem rd_ops : Rd 52 (List MOp) := rd_slice rd_op Try.underlying52 Try.cOp (by decide) (by rw [Try.bOp]; decide)
theorem rd_i : Rd 3 Int := rd_int Try.underlying3
end Go.Proofs.Ytejpkcheimgdfaa

-- ReadP
/- Arguments that are programs, read as data. -/
namespace Go.Proofs.Ytejpkcheimgdfaa
open Go.ChangeShapes Go.WideShapes Go.ChangeAt Go.RowKit Go.Deep

/-- The parts of a struct that reads. -/
theorem rd_parts {t : TypeId} {fs : Array Field} (ht : Try.prog.underlying t = some (.struct fs)) {H : Type} {enc : TypeId × Value → H} {W : World} {fuel : Nat} {cs : List Value} {x : DataW H × List MemPlace}
    (h : DataW.trod enc Try.prog W 0 (fun _ => true) true fuel t cs = some x) (hw : ∀ n ∈ x.1.weights Try.prog t, n ≤ reachBytes) :
    cs.length = Try.prog.cellsOf t ∧ ∀ (i : Nat) (f : Field), fs[i]? = some f → ∀ (α : Type) [Rep α], Rd f.type α → ∃ y : α, Rep.rep W W.heap.size ((cs.drop f.offset).take (Try.prog.cellsOf f.type)) y := by
  obtain ⟨xs, n, _, rfl, hcl, hxl, hf⟩ := DataW.trod_struct ht h
  refine ⟨hcl, fun i f hfi α _ hr => ?_⟩
  have h1 := hf i f hfi
  have hi : i < xs.length := by rw [hxl]; exact (Array.getElem?_eq_some_iff.1 hfi).1
  rw [List.getElem?_eq_getElem hi] at h1
  refine hr _ _ _ _ _ _ h1 fun u hu => hw u ?_
  simp only [DataW.weights, ht]
  exact DataW.weights_mem_each (j := i) (by rw [List.getElem?_map, Array.getElem?_toList, hfi]; rfl) (by rw [List.getElem?_map, List.getElem?_eq_getElem hi]; rfl) u hu
theorem Try.cIntP : Try.prog.cellsOf 3 = 1 := by kernel_rfl
theorem Try.bIntP : Try.prog.bytesOf 3 = 8 := by kernel_rfl
theorem Try.cIntsP : Try.prog.cellsOf 35 = 1 := by kernel_rfl
theorem Try.cOpsP : Try.prog.cellsOf 52 = 1 := by kernel_rfl
theorem Try.cFuncP : Try.prog.cellsOf 54 = 4 := by kernel_rfl
theorem Try.bFuncP : Try.prog.bytesOf 54 = 64 := by kernel_rfl
theorem Try.cFuncsP : Try.prog.cellsOf 22 = 1 := by kernel_rfl
theorem rd_ints : Rd 35 (List Int) := rd_slice rd_i Try.underlying35 Try.cIntP (by decide) (by rw [Try.bIntP]; decide)
set_option maxRecDepth 100000 in
theorem rd_func : Rd 54 MFunc := by
  intro H enc W fuel cs x h hw
  obtain ⟨hl, hp⟩ := rd_parts Try.underlying54 h hw
  rw [Try.cFuncP] at hl
  obtain ⟨c0, c1, c2, c3, rfl⟩ : ∃ c0 c1 c2 c3, cs = [c0, c1, c2, c3] := by
    match cs, hl with
    | [c0, c1, c2, c3], _ => exact ⟨c0, c1, c2, c3, rfl⟩
  obtain ⟨y0, h0, i0⟩ := hp 0 _ rfl Int rd_i
  obtain ⟨y1, v1, h1, i1⟩ := hp 1 _ rfl (List Int) rd_ints
  obtain ⟨y2, h2, i2⟩ := hp 2 _ rfl Int rd_i
  obtain ⟨y3, v3, h3, i3⟩ := hp 3 _ rfl (List MOp) rd_ops
  simp [Try.cIntP, Try.cIntsP, Try.cOpsP] at h0 h1 h2 h3
  subst h0 h1 h2 h3
  exact ⟨⟨y0, y1, y2, y3⟩, _, _, rfl, ⟨i0, i2⟩, i1, i3⟩
theorem rd_funcs : Rd 22 (List MFunc) := rd_slice rd_func Try.underlying22 Try.cFuncP (by decide) (by rw [Try.bFuncP]; decide)
/-- A program. -/
structure MProg where
  funcs : List MFunc
instance : Rep MProg where
  k := 1
  rep w B cs p := ∃ v, cs = [v] ∧ SlB w B v p.funcs
  len h := by obtain ⟨v, h, _⟩ := h; rw [h]; rfl
  keep h hc := by obtain ⟨v, h, hs⟩ := h; exact ⟨v, h, hs.keep hc⟩
  more h hb := by obtain ⟨v, h, hs⟩ := h; exact ⟨v, h, hs.more hb⟩
  one h := by obtain ⟨v, h, hs⟩ := h; obtain ⟨A, c, rfl, _⟩ := hs.form; rw [h]; simp [Value.oneCell']
set_option maxRecDepth 100000 in
theorem rd_prog : Rd 24 MProg := by
  intro H enc W fuel cs x h hw
  obtain ⟨hl, hp⟩ := rd_parts Try.underlying24 h hw
  rw [show Try.prog.cellsOf 24 = 1 from by kernel_rfl] at hl
  obtain ⟨c0, rfl⟩ : ∃ c0, cs = [c0] := by
    match cs, hl with
    | [c0], _ => exact ⟨c0, rfl⟩
  obtain ⟨y0, v, h0, i0⟩ := hp 0 _ rfl (List MFunc) rd_funcs
  simp [Try.cFuncsP] at h0
  subst h0
  exact ⟨⟨y0⟩, _, rfl, i0⟩
/-- A law over a program, from one over its functions. -/
theorem prog_law {f : FuncId} {W : World} {v : Value} {fs : List MFunc} {rest : List Value} {R : Ending → World → Prop} (hs : Sl W v fs) (h : ∀ A c, Sl W (.slice A fs.length c) fs → Calls Try.prog f (Value.agg #[.slice A fs.length c] :: rest).toArray W R) : Calls Try.prog f (Value.agg #[v] :: rest).toArray W R := by
  obtain ⟨A, c, rfl, _⟩ := hs.form
  exact h A c hs
end Go.Proofs.Ytejpkcheimgdfaa

