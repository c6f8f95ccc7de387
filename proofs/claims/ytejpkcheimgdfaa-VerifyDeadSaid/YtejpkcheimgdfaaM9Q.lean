/- Texts of one proof, one behind the other: lemmas alone. -/
import Derived.Test.YtejpkcheimgdfaaM8Q
import Derived.Test.YtejpkcheimgdfaaM1Q
import Derived.Test.YtejpkcheimgdfaaRows
import Derived.ProofKit
import Derived.Deep.Slices
import Derived.SizedLaws
import Derived.OpenShut
import Derived.ShutString
import Derived.ChangeOld
import Derived.Test.YtejpkcheimgdfaaM2Q
import Derived.Test.YtejpkcheimgdfaaM3Q

-- V23
/- Verify: its law Dead: a copy of a program; an op of it is another one. -/
namespace Go.Proofs.Ytejpkcheimgdfaa
open Go.RowKit

theorem fitP_of {fs : List MFunc} (h : checkP fs = 0) : FitP fs := by
  obtain ⟨_, h5, hall⟩ := checkP_zero h
  refine ⟨by omega, fun f hf => ?_⟩
  obtain ⟨h1, _, h2⟩ := oneE_zero (hall f hf)
  have := codeErr_len h2
  omega
theorem flowE_of {fs : List MFunc} (h : checkP fs = 0) {k : Nat} (hk : k < fs.length) : flowE (fnAt fs k).code = 0 := by
  obtain ⟨_, _, hall⟩ := checkP_zero h
  obtain ⟨_, _, _, _, h5, h6, h7⟩ := oneE_all (hall _ (fnAt_mem hk))
  unfold flowE
  rw [if_pos h6, if_neg h5, if_neg]
  intro ha
  obtain ⟨o, ho, hf⟩ := List.any_eq_true.1 ha
  have h8 := h7 o ho
  unfold isFar at hf
  simp only [Bool.and_eq_true, Bool.or_eq_true, decide_eq_true_eq] at hf
  obtain ⟨hc, hr⟩ := hf
  unfold fitsO at h8
  rw [if_neg (by omega), if_pos hc] at h8
  have := within_iff.1 h8
  omega
theorem reach_not {l : List MOp} {q : Nat} (hf : flowE l = 0) (hq : q ≤ l.length) (h : (reachR l).contains (q : Int) = false) : ¬ Rch l q := fun hr => by
  have hm : (q : Int) ∈ reachR l := by
    rw [reachR_of hf]
    unfold reachL
    exact List.mem_filter.2 ⟨upto_mem.2 ⟨by omega, by omega⟩, rchB_iff.2 (by simpa using hr)⟩
  rw [List.contains_iff_mem.2 hm] at h
  cases h
set_option maxRecDepth 100000 in
set_option maxHeartbeats 4000000 in
theorem verifyDead_any (A : Option Addr) (c : Nat) (fs : List MFunc) (z p : Int) (o : MOp) (w : World) (hs : Sl w (.slice A fs.length c) fs) (hio : I64 o.c ∧ I64 o.a) :
    Calls Try.prog 9 #[.agg #[.slice A fs.length c], .int .i64 z, .int .i64 p, .agg #[.int .i64 o.c, .int .i64 o.a]] w fun e w' => e = .returned (.bool true) ∧ Below w.heap.size w w' := by
  have b1 := len_bd hs
  refine enter Try.func9 rfl Try.ntmps9 rfl ?_
  refine cw_seq ?_
  refine cw_region ?_
  refine rw_op (ot_box rfl rfl rfl) rfl rfl (fun g1 _ => ?_)
  refine rw_op (ot_box rfl rfl rfl) rfl rfl (fun g2 _ => ?_)
  refine rw_run tab_ok 1 [(1, _), (2, _), (4, _), (7, _)] rfl ⟨rfl, rfl, rfl, rfl, trivial⟩ ?_
  refine rw_end ?_
  refine cw_seq ?_
  refine cw_seq ?_
  refine cw_region ?_
  refine rw_op (ot_c0 rfl rfl rfl Try.call23 (fun w hw => verifyBegun_any w)) rfl rfl (fun _ _ => ?_)
  refine rw_run tab_ok 2 [(1, _), (2, _), (4, _), (7, _), (17, _)] rfl ⟨rfl, rfl, rfl, rfl, rfl, trivial⟩ ?_
  refine rw_op (ot_c0 rfl rfl rfl Try.call30 (fun w hw => flowBegun_any w)) rfl rfl (fun _ _ => ?_)
  refine rw_run tab_ok 3 [(1, _), (2, _), (4, _), (7, _), (21, _)] rfl ⟨rfl, rfl, rfl, rfl, rfl, trivial⟩ ?_
  refine rw_op (ot_c0 rfl rfl rfl Try.call15 (fun w hw => progBegun_any w)) rfl rfl (fun _ _ => ?_)
  refine rw_run tab_ok 2 [(1, _), (2, _), (4, _), (7, _), (24, _)] rfl ⟨rfl, rfl, rfl, rfl, rfl, trivial⟩ ?_
  refine rw_end ?_
  refine cw_cond_f rfl ?_
  refine cw_skip (xw_then ?_)
  refine cw_seq ?_
  refine cw_seq ?_
  refine cw_region ?_
  refine rw_s (qs_ldbA (vs := [_]) fc Try.isAgg24 Try.sizeOf24 rfl rfl (by rfl) rfl) rfl rfl ?_
  refine rw_op (ot_c0 rfl rfl rfl Try.call16 (fun w hw => pcheck_any A c fs w (hw.ro hs))) rfl rfl (fun _ _ => ?_)
  refine rw_run tab_ok 2 [(1, _), (2, _), (4, _), (7, _), (28, _)] rfl ⟨rfl, rfl, rfl, rfl, rfl, trivial⟩ ?_
  refine rw_split (t := 28) rfl (fun k1 => ?_) (fun k1 => ?_)
  · refine rw_run tab_ok 25 [(1, _), (2, _), (4, _), (7, _), (53, _)] rfl ⟨rfl, rfl, rfl, rfl, rfl, trivial⟩ ?_
    refine rw_end ?_
    refine cw_cond_t rfl ?_
    refine cw_seq ?_
    refine cw_region ?_
    refine rw_run tab_ok 1 [(8, _)] rfl ⟨rfl, trivial⟩ ?_
    refine rw_end ?_
    refine cw_ret (xw_thenr ?_)
    refine xw_ret1 Try.results9 (rv_tmp rfl) ?_
    intro w hw
    exact ⟨rfl, hw.below⟩
  · have k1 : checkP fs = 0 := by simpa using k1
    refine rw_run tab_ok 4 [(1, _), (2, _), (4, _), (7, _), (32, _)] rfl ⟨rfl, rfl, rfl, rfl, rfl, trivial⟩ ?_
    refine rw_split (t := 32) rfl (fun k2 => ?_) (fun k2 => ?_)
    · refine rw_run tab_ok 21 [(1, _), (2, _), (4, _), (7, _), (53, _)] rfl ⟨rfl, rfl, rfl, rfl, rfl, trivial⟩ ?_
      refine rw_end ?_
      refine cw_cond_t rfl ?_
      refine cw_seq ?_
      refine cw_region ?_
      refine rw_run tab_ok 1 [(8, _)] rfl ⟨rfl, trivial⟩ ?_
      refine rw_end ?_
      refine cw_ret (xw_thenr ?_)
      refine xw_ret1 Try.results9 (rv_tmp rfl) ?_
      intro w hw
      exact ⟨rfl, hw.below⟩
    · have k2 := of_decide_eq_false k2
      refine rw_run tab_ok 2 [(1, _), (2, _), (4, _), (7, _), (32, _), (33, _), (34, _)] rfl ⟨rfl, rfl, rfl, rfl, rfl, rfl, rfl, trivial⟩ ?_
      refine rw_s (qs_ldb fc Try.isAgg22 rfl rfl (by rfl)) rfl rfl ?_
      refine rw_s (qs_len Try.underlying22 rfl rfl) rfl rfl ?_
      refine rw_run tab_ok 3 [(1, _), (2, _), (4, _), (7, _), (39, _)] rfl ⟨rfl, rfl, rfl, rfl, rfl, trivial⟩ ?_
      refine rw_split (t := 39) rfl (fun k3 => ?_) (fun k3 => ?_)
      · refine rw_run tab_ok 14 [(1, _), (2, _), (4, _), (7, _), (53, _)] rfl ⟨rfl, rfl, rfl, rfl, rfl, trivial⟩ ?_
        refine rw_end ?_
        refine cw_cond_t rfl ?_
        refine cw_seq ?_
        refine cw_region ?_
        refine rw_run tab_ok 1 [(8, _)] rfl ⟨rfl, trivial⟩ ?_
        refine rw_end ?_
        refine cw_ret (xw_thenr ?_)
        refine xw_ret1 Try.results9 (rv_tmp rfl) ?_
        intro w hw
        exact ⟨rfl, hw.below⟩
      · have k3 := of_decide_eq_false k3
        obtain ⟨k, rfl⟩ : ∃ k : Nat, z = (k : Int) := ⟨z.toNat, by omega⟩
        have hkl : k < fs.length := by omega
        refine rw_run tab_ok 4 [(1, _), (2, _), (4, _), (7, _), (43, _)] rfl ⟨rfl, rfl, rfl, rfl, rfl, trivial⟩ ?_
        refine rw_split (t := 43) rfl (fun k4 => ?_) (fun k4 => ?_)
        · refine rw_run tab_ok 10 [(1, _), (2, _), (4, _), (7, _), (53, _)] rfl ⟨rfl, rfl, rfl, rfl, rfl, trivial⟩ ?_
          refine rw_end ?_
          refine cw_cond_t rfl ?_
          refine cw_seq ?_
          refine cw_region ?_
          refine rw_run tab_ok 1 [(8, _)] rfl ⟨rfl, trivial⟩ ?_
          refine rw_end ?_
          refine cw_ret (xw_thenr ?_)
          refine xw_ret1 Try.results9 (rv_tmp rfl) ?_
          intro w hw
          exact ⟨rfl, hw.below⟩
        · have k4 := of_decide_eq_false k4
          obtain ⟨A1, c1, A2, c2, hl, hc, hi, hcell⟩ := hs.fn hkl
          obtain ⟨q, rfl⟩ : ∃ q : Nat, p = (q : Int) := ⟨p.toNat, by omega⟩
          have hfl := flowE_of k1 hkl
          have hfit := fitP_of k1
          obtain ⟨hok, hn0⟩ := fn_ok k1 hkl
          have hn40 := hok.n40
          refine rw_run tab_ok 2 [(1, _), (2, _), (4, _), (7, _), (43, _), (44, _), (45, _)] rfl ⟨rfl, rfl, rfl, rfl, rfl, rfl, rfl, trivial⟩ ?_
          refine rw_s (qs_ldb fc Try.isAgg22 rfl rfl (by rfl)) rfl rfl ?_
          refine rw_run tab_ok 1 [(1, _), (2, _), (4, _), (7, _), (43, _), (44, _), (46, _), (47, _)] rfl ⟨rfl, rfl, rfl, rfl, rfl, rfl, rfl, rfl, trivial⟩ ?_
          refine rw_s (qs_idx Try.underlying22 Try.sizeOf54 (.ro hs) (by omega) rfl rfl rfl) rfl rfl ?_
          refine rw_run tab_ok 1 [(1, _), (2, _), (4, _), (7, _), (43, _), (44, _), (49, _)] rfl ⟨rfl, rfl, rfl, rfl, rfl, rfl, rfl, trivial⟩ ?_
          refine rw_s (qs_ld (fun w hw => hcell _ w hw 3 _ rfl) rfl rfl Try.isAgg52) rfl rfl ?_
          refine rw_s (qs_len Try.underlying52 rfl rfl) rfl rfl ?_
          refine rw_run tab_ok 2 [(1, _), (2, _), (4, _), (7, _), (53, _)] rfl ⟨rfl, rfl, rfl, rfl, rfl, trivial⟩ ?_
          refine rw_end ?_
          refine cw_condD rfl (fun k5 => ?_) (fun k5 => ?_)
          · refine cw_seq ?_
            refine cw_region ?_
            refine rw_run tab_ok 1 [(8, _)] rfl ⟨rfl, trivial⟩ ?_
            refine rw_end ?_
            refine cw_ret (xw_thenr ?_)
            refine xw_ret1 Try.results9 (rv_tmp rfl) ?_
            intro w hw
            exact ⟨rfl, hw.below⟩
          · have hql : q < (fnAt fs k).code.length := by omega
            refine cw_skip (xw_then ?_)
            refine cw_seq ?_
            refine cw_region ?_
            refine rw_run tab_ok 1 [(1, _), (2, _), (4, _), (7, _), (55, _)] rfl ⟨rfl, rfl, rfl, rfl, rfl, trivial⟩ ?_
            refine rw_s (qs_ldb fc Try.isAgg22 rfl rfl (by rfl)) rfl rfl ?_
            refine rw_run tab_ok 1 [(1, _), (2, _), (4, _), (7, _), (56, _), (57, _)] rfl ⟨rfl, rfl, rfl, rfl, rfl, rfl, trivial⟩ ?_
            refine rw_s (qs_idx Try.underlying22 Try.sizeOf54 (.ro hs) (by omega) rfl rfl rfl) rfl rfl ?_
            refine rw_run tab_ok 1 [(1, _), (2, _), (4, _), (7, _), (59, _)] rfl ⟨rfl, rfl, rfl, rfl, rfl, trivial⟩ ?_
            refine rw_s (qs_ld (fun w hw => hcell _ w hw 3 _ rfl) rfl rfl Try.isAgg52) rfl rfl ?_
            refine rw_op (ot_c rfl rfl rfl Try.call31 (fun w hw => reach_any A2 c2 _ w (hw.ro hc))) rfl rfl (fun ⟨A5, c5⟩ _ => ?_)
            try dsimp only
            refine rw_run tab_ok 5 [(1, _), (2, _), (4, _), (7, _), (9, _), (10, _)] rfl ⟨rfl, rfl, rfl, rfl, rfl, rfl, trivial⟩ ?_
            refine rw_end ?_
            refine cw_seq ?_
            refine cw_seq ?_
            refine cw_region ?_
            refine rw_run tab_ok 2 [(1, _), (2, _), (4, _), (7, _), (9, _), (65, _)] rfl ⟨rfl, rfl, rfl, rfl, rfl, rfl, trivial⟩ ?_
            refine rw_end ?_
            rw [hfl]
            refine cw_as (t := 65) (v' := .bool false) rfl (by rw [decide_eq_true rfl]; rfl) ?_
            refine cw_cond_f rfl ?_
            refine cw_skip (xw_then ?_)
            refine cw_seq ?_
            refine cw_region ?_
            refine rw_s (qs_ldbA (vs := [_]) fc Try.isAgg24 Try.sizeOf24 rfl rfl (by rfl) rfl) rfl rfl ?_
            refine rw_op (ot_c rfl rfl rfl Try.call34 (fun w hw => copied_any A c fs w (hw.ro hs) hfit)) rfl rfl (fun ⟨A6, c6⟩ _ => ?_)
            try dsimp only
            refine rw_op (ot_alloc Try.zeroValue24 rfl rfl) rfl rfl (fun g3 _ => ?_)
            refine rw_op (ot_stb _ fc Try.sizeOf24 rfl rfl rfl rfl rfl (by rfl) rfl (by rfl)) rfl rfl (fun _ _ => ?_)
            refine rw_end ?_
            refine cw_opn (α := MFunc) fc (fun l hls hlok => ?_)
            have hll : l.length = fs.length := by rw [← hls, List.length_map]
            have hlm : (l.map Prod.fst).length = fs.length := by rw [List.length_map, hll]
            have hkl2 : k < l.length := by omega
            obtain ⟨hd, f, hlk⟩ : ∃ hd f, l[k] = (hd, f) := ⟨l[k].1, l[k].2, rfl⟩
            have hf : f = fnAt fs k := by
              unfold fnAt
              rw [List.getD_eq_getElem?_getD, ← hls, List.getElem?_map, List.getElem?_eq_getElem hkl2, hlk]
              rfl
            subst hf
            refine cw_mem (fun w h => by have := rpl_at hkl2 (h.perm (List.Perm.swap ..)); rw [hlk] at this; exact this) ?_
            show CW _ _ _ _ _ _ _ (ROw hd.v1 (fnAt fs k).locals :: ROw hd.v2 (fnAt fs k).code :: RPL (l.eraseIdx k) :: _)
            refine cw_fact (fun w h => Cw.oform h (H := ROw hd.v1 (fnAt fs k).locals :: ROw hd.v2 (fnAt fs k).code :: _) Foc.b) ?_
            rintro ⟨A7, c7, hv2⟩
            obtain ⟨f', hf'⟩ : ∃ f', (fnAt fs k).code.set q o = f' := ⟨_, rfl⟩
            have hcl : ∀ H w', Cw w.heap.size w H w' → ∀ H', Foc H (ROw (.slice A6 fs.length c6) (l.map Prod.fst)) H' → w'.cell? ⟨ab A6, ao A6 + k * 4 + 3, none⟩ = some (.slice A7 (fnAt fs k).code.length c7) := fun H w' h H' hp => by
              have h1 := SF.cell (α := HFun) (SF.own hlm hp) (k := k) (by omega) default (j := 3) rfl w' h
              have h2 : (l.map Prod.fst).getD k default = hd := by
                rw [List.getD_eq_getElem?_getD, List.getElem?_map, List.getElem?_eq_getElem hkl2, hlk]
                rfl
              rw [h2] at h1
              rw [← hv2]
              exact h1
            rw [hv2]
            refine cw_seq ?_
            refine cw_draw (.still 0 (.still 1 (.still 2 (.still 3 (.still 4 (.still 5 (.still 6 (.still 7 (.still 8 (.pick 9 .done .stop)))))))))) [9] rfl (by kernel_rfl) (by kernel_rfl) ?_
            refine ro_run tab_ok ha 1 [(1, _), (2, _), (4, _), (7, _), (9, _), (11, _), (68, _)] rfl ⟨rfl, rfl, rfl, rfl, rfl, rfl, rfl, trivial⟩ ?_
            refine ro_s2 rfl (qs_ldb fc Try.isAgg22 rfl rfl (by rfl)) rfl rfl ha ?_
            refine ro_run tab_ok ha 1 [(1, _), (2, _), (4, _), (7, _), (9, _), (11, _), (69, _), (70, _)] rfl ⟨rfl, rfl, rfl, rfl, rfl, rfl, rfl, rfl, trivial⟩ ?_
            refine ro_s2 rfl (qs_idx Try.underlying22 Try.sizeOf54 (SF.own hlm fc) (by omega) rfl rfl rfl) rfl rfl ha ?_
            refine ro_run tab_ok ha 1 [(1, _), (2, _), (4, _), (7, _), (9, _), (11, _), (72, _)] rfl ⟨rfl, rfl, rfl, rfl, rfl, rfl, rfl, trivial⟩ ?_
            refine ro_s2 rfl (qs_ld (fun w h => hcl _ w h _ fc) rfl rfl Try.isAgg52) rfl rfl ha ?_
            refine ro_run tab_ok ha 1 [(1, _), (2, _), (4, _), (7, _), (9, _), (11, _), (73, _), (74, _)] rfl ⟨rfl, rfl, rfl, rfl, rfl, rfl, rfl, rfl, trivial⟩ ?_
            refine ro_s2 rfl (qs_ldbA (vs := [_, _]) fc Try.isAgg61 Try.sizeOf61 rfl rfl (by rfl) rfl) rfl rfl ha ?_
            refine ro_s2 rfl (qs_idx Try.underlying52 Try.sizeOf61 (SF.own rfl fc) (by omega) rfl rfl rfl) rfl rfl ha ?_
            refine ro_op2 rfl (ot_stE0 (α := MOp) o default hf'.symm fc hql hio Try.sizeOf61 rfl rfl rfl rfl rfl rfl rfl rfl) rfl rfl (.inl rfl) (fun _ _ => ?_) ro_stop
            refine ro_end ?_
            refine cw_seq ?_
            refine cw_seq ?_
            refine cw_region ?_
            refine rw_run tab_ok 2 [(1, _), (4, _), (11, _), (77, _), (78, _)] rfl ⟨rfl, rfl, rfl, rfl, rfl, trivial⟩ ?_
            obtain ⟨gs, hgs⟩ : ∃ gs, fs.set k (setOp (fnAt fs k) q o) = gs := ⟨_, rfl⟩
            have hgl : gs.length = fs.length := by rw [← hgs, List.length_set]
            have hok1 := hlok l[k] (List.getElem_mem hkl2)
            rw [hlk] at hok1
            refine rw_mem (H' := [ROw (.slice A6 gs.length c6) gs, RBox g1 [.slice A fs.length c] 24, RBox g3 [.slice A6 gs.length c6] 24, ROw (.slice A5 (reachR (fnAt fs k).code).length c5) (reachR (fnAt fs k).code)]) (fun w h => by
              have h := h.msub (T := [ROw hd.v1 (fnAt fs k).locals, ROw (.slice A7 (fnAt fs k).code.length c7) f', RPL (l.eraseIdx k), ROw (.slice A6 fs.length c6) (l.map Prod.fst), RBox g1 [.slice A fs.length c] 24, RBox g3 [.slice A6 fs.length c6] 24, ROw (.slice A5 (reachR (fnAt fs k).code).length c5) (reachR (fnAt fs k).code)]) ms
              rw [← hv2, ← hf'] at h
              have h := rpl_set (α := MFunc) (q := (hd, setOp (fnAt fs k) q o)) hkl2 h
              have h := cls_ow (l := l.set k (hd, setOp (fnAt fs k) q o)) (hlok.set hok1) (by rw [map_set_fst hkl2 (by rw [hlk])]; exact h.perm (List.Perm.swap ..))
              rw [List.map_set, hls] at h
              rw [hgl, ← hgs]
              exact h) ?_
            refine rw_op (ot_c0 rfl rfl rfl Try.call35 (fun w hw => has_w A5 c5 (reachR (fnAt fs k).code) q w (SF.at_ (SF.own rfl fc) hw))) rfl rfl (fun _ _ => ?_)
            refine rw_run tab_ok 1 [(1, _), (4, _), (11, _), (80, _)] rfl ⟨rfl, rfl, rfl, rfl, trivial⟩ ?_
            refine rw_split (t := 80) rfl (fun k6 => ?_) (fun k6 => ?_)
            · refine rw_run tab_ok 4 [(1, _), (4, _), (11, _), (84, _)] rfl ⟨rfl, rfl, rfl, rfl, trivial⟩ ?_
              refine rw_end ?_
              refine cw_cond_t rfl ?_
              refine cw_seq ?_
              refine cw_region ?_
              refine rw_run tab_ok 1 [(8, _)] rfl ⟨rfl, trivial⟩ ?_
              refine rw_end ?_
              refine cw_ret (xw_thenr ?_)
              refine xw_ret1 Try.results9 (rv_tmp rfl) ?_
              intro w hw
              exact ⟨rfl, hw.below⟩
            · have hnr := reach_not hfl (Nat.le_of_lt hql) k6
              refine rw_s (qs_ldbA (vs := [_]) fc Try.isAgg24 Try.sizeOf24 rfl rfl (by rfl) rfl) rfl rfl ?_
              refine rw_op (ot_c0 rfl rfl rfl Try.call16 (fun w hw => pcheck_any A6 c6 gs w (SF.at_ (SF.own rfl fc) hw))) rfl rfl (fun _ _ => ?_)
              refine rw_run tab_ok 2 [(1, _), (4, _), (11, _), (84, _)] rfl ⟨rfl, rfl, rfl, rfl, trivial⟩ ?_
              refine rw_end ?_
              refine cw_condN rfl (fun k7 => ?_) (fun k7 => ?_)
              · refine cw_seq ?_
                refine cw_region ?_
                refine rw_run tab_ok 1 [(8, _)] rfl ⟨rfl, trivial⟩ ?_
                refine rw_end ?_
                refine cw_ret (xw_thenr ?_)
                refine xw_ret1 Try.results9 (rv_tmp rfl) ?_
                intro w hw
                exact ⟨rfl, hw.below⟩
              · have hsame := dead_same (o := o) hkl k1 (by rw [hgs]; exact k7) hnr
                rw [hgs] at hsame
                have hvf : ∀ w1, Sl w1 (.slice A6 gs.length c6) gs → Calls Try.prog 18 #[.agg #[.slice A6 gs.length c6], .int .i64 (k : Int)] w1 fun e w' => ∃ g : Option Addr × Nat, True ∧ e = .returned (.tuple #[.slice g.1 (funcS fs k).1.length g.2, .int .i64 (funcS fs k).2]) ∧ Cw w1.heap.size w1 [RRd (.slice g.1 (funcS fs k).1.length g.2) (funcS fs k).1] w' := fun w1 h => by
                  have := vfunc_any A6 c6 gs k w1 h
                  rw [hsame] at this
                  exact this
                refine cw_skip (xw_then ?_)
                refine cw_seq ?_
                refine cw_region ?_
                refine rw_s (qs_ldbA (vs := [_]) fc Try.isAgg24 Try.sizeOf24 rfl rfl (by rfl) rfl) rfl rfl ?_
                refine rw_run tab_ok 1 [(1, _), (11, _), (86, _), (87, _)] rfl ⟨rfl, rfl, rfl, rfl, trivial⟩ ?_
                refine rw_op (ot_c rfl rfl rfl Try.call18 (fun w hw => vfunc_any A c fs k w (hw.ro hs))) rfl rfl (fun ⟨A8, c8⟩ _ => ?_)
                try dsimp only
                refine rw_run tab_ok 5 [(1, _), (10, _), (11, _), (12, _)] rfl ⟨rfl, rfl, rfl, rfl, trivial⟩ ?_
                refine rw_end ?_
                refine cw_seq ?_
                refine cw_region ?_
                refine rw_s (qs_ldbA (vs := [_]) fc Try.isAgg24 Try.sizeOf24 rfl rfl (by rfl) rfl) rfl rfl ?_
                refine rw_run tab_ok 1 [(10, _), (12, _), (92, _), (93, _)] rfl ⟨rfl, rfl, rfl, rfl, trivial⟩ ?_
                refine rw_op (ot_c rfl rfl rfl Try.call18 (fun w hw => hvf w (SF.at_ (SF.own rfl fc) hw))) rfl rfl (fun ⟨A9, c9⟩ _ => ?_)
                try dsimp only
                refine rw_run tab_ok 5 [(10, _), (12, _), (13, _), (14, _)] rfl ⟨rfl, rfl, rfl, rfl, trivial⟩ ?_
                refine rw_end ?_
                refine cw_seq ?_
                refine cw_region ?_
                refine rw_run tab_ok 4 [(12, _), (13, _), (100, _)] rfl ⟨rfl, rfl, rfl, trivial⟩ ?_
                refine rw_as (t := 100) (v' := .bool true) rfl (by rw [decide_eq_true rfl]) ?_
                refine rw_run tab_ok 2 [(100, _), (101, _), (102, _)] rfl ⟨rfl, rfl, rfl, trivial⟩ ?_
                refine rw_op (ot_c0 rfl rfl rfl Try.call24 (fun w hw => rsameE_any A8 A9 c8 c9 (funcS fs k).1 (funcS fs k).1 w (hw.rdSl fc) (hw.rdSl fc))) rfl rfl (fun _ _ => ?_)
                refine rw_run tab_ok 2 [(8, _)] rfl ⟨rfl, trivial⟩ ?_
                refine rw_end ?_
                refine cw_ret ?_
                refine xw_ret1 Try.results9 (rv_tmp rfl) ?_
                intro w hw
                exact ⟨ret_bool (by simp), hw.below⟩
theorem verifyDead_law (v : Value) (fs : List MFunc) (z p : Int) (o : MOp) (w : World) (hs : Sl w v fs) (hio : I64 o.c ∧ I64 o.a) :
    Calls Try.prog 9 #[.agg #[v], .int .i64 z, .int .i64 p, .agg #[.int .i64 o.c, .int .i64 o.a]] w fun e w' => e = .returned (.bool true) ∧ Below w.heap.size w w' := by
  obtain ⟨A, c, rfl, _⟩ := hs.form
  exact verifyDead_any A c fs z p o w hs hio
end Go.Proofs.Ytejpkcheimgdfaa

-- Read
/- How what came in reads as data of the proofs' own types: numbers, texts, slices of whatever reads. -/
namespace Go.Proofs.Ytejpkcheimgdfaa
open Go.ChangeShapes Go.WideShapes Go.ChangeAt Go.RowKit Go.Deep

/-- Whatever reads at type t is a datum of α. -/
def Rd (t : TypeId) (α : Type) [Rep α] : Prop :=
  ∀ (H : Type) (enc : TypeId × Value → H) (W : World) (fuel : Nat) (cs : List Value) (x : DataW H × List MemPlace),
    DataW.trod enc Try.prog W 0 (fun _ => true) true fuel t cs = some x → (∀ n ∈ x.1.weights Try.prog t, n ≤ reachBytes) → ∃ y : α, Rep.rep W W.heap.size cs y

theorem i64_of_wf {n : Int} (hw : (Lit.int .i64 n).wf = true) : I64 n := by
  simp [Lit.wf, IntKind.min, IntKind.max, IntKind.signed, IntKind.bits] at hw
  exact ⟨by omega, by omega⟩
theorem rd_int {t : TypeId} (ht : Try.prog.underlying t = some (.int .i64)) : Rd t Int := by
  intro H enc W fuel cs x h _
  obtain ⟨n, rfl, _, hw⟩ := DataW.trod_int ht h
  refine ⟨n, rfl, ?_⟩
  simp [Lit.wf, IntKind.min, IntKind.max, IntKind.signed, IntKind.bits] at hw
  exact ⟨by omega, by omega⟩

theorem exists_list {α : Type} {R : Nat → α → Prop} (n : Nat) (h : ∀ i, i < n → ∃ y, R i y) : ∃ ys : List α, ys.length = n ∧ ∀ i y, ys[i]? = some y → R i y := by
  induction n with
  | zero => exact ⟨[], rfl, fun i y h => by simp at h⟩
  | succ n ih =>
    obtain ⟨ys, hl, hy⟩ := ih (fun i hi => h i (by omega))
    obtain ⟨y, hR⟩ := h n (by omega)
    refine ⟨ys ++ [y], by simp [hl], fun i z hz => ?_⟩
    by_cases hi : i < ys.length
    · rw [List.getElem?_append_left hi] at hz; exact hy i z hz
    · rw [List.getElem?_append_right (by omega)] at hz
      have : i - ys.length = 0 := by
        rcases Nat.eq_zero_or_pos (i - ys.length) with h | h
        · exact h
        · rw [List.getElem?_eq_none (by simp; omega)] at hz; cases hz
      rw [this] at hz
      simp at hz
      subst hz
      have : i = n := by omega
      rw [this]; exact hR

theorem rd_slice {t e : TypeId} {α : Type} [Rep α] (hr : Rd e α) (ht : Try.prog.underlying t = some (.slice e)) (hc : Try.prog.cellsOf e = Rep.k α) (hk : 0 < Rep.k α) (hb : 0 < Try.prog.bytesOf e) :
    Rd t (List α) := by
  intro H enc W fuel cs x h hw
  rcases open_slice ht h with ⟨rfl, rfl⟩ | ⟨a, len, cap, m, n, D, Pl, rfl, _, hl, hm, hmm, rfl, hi⟩
  · exact ⟨[], _, rfl, SlB.nil_⟩
  · have hmc : cap = m := by simpa using hmm.symm
    clear hmm
    rw [hmc] at hl hm ⊢
    clear hmc
    have hel : ∀ i, i < len → ∃ y : α, ∃ cs', W.cells? 0 (a.add (i * Rep.k α)) (Rep.k α) = some cs' ∧ Rep.rep W W.heap.size cs' y := by
      intro i hil
      obtain ⟨cs', hcs, htr⟩ := hi i (by omega)
      rw [hc] at hcs
      obtain ⟨y, hy⟩ := hr H enc W n cs' _ htr (fun u hu => hw u (by
        simp only [DataW.weights, ht]
        refine List.mem_cons_of_mem _ (List.mem_append_left _ ?_)
        have : ∀ (l : List Nat), i ∈ l → u ∈ DataW.weightsAll Try.prog e (l.map D) := by
          intro l
          induction l with
          | nil => simp
          | cons z l ih =>
            intro hz
            simp only [List.map_cons, DataW.weightsAll, List.mem_append]
            rcases List.mem_cons.1 hz with rfl | hz
            · exact .inl hu
            · exact .inr (ih hz)
        exact this _ (List.mem_range.2 hil)))
      exact ⟨y, cs', hcs, hy⟩
    obtain ⟨ys, hyl, hy⟩ := exists_list len hel
    have hbytes : (len + (m - len)) * Try.prog.bytesOf e ≤ reachBytes := by
      have := hw ((((List.range len).map D).length + ((List.range (m - len)).map fun j => D (len + j)).length) * Try.prog.bytesOf e) (by simp only [DataW.weights, ht]; exact List.mem_cons_self)
      simpa using this
    have hlen : len ≤ 140737488355328 := by
      have h1 : len + (m - len) ≤ (len + (m - len)) * Try.prog.bytesOf e := Nat.le_mul_of_pos_right _ hb
      have h2 := reachBytes_lt
      omega
    refine ⟨ys, _, rfl, some a, m, by rw [hyl], by omega, hm, by omega, fun h0 => ?_⟩
    have hsome : ∀ i, i < len → ∀ j, j < Rep.k α → ∃ v, W.cell? ((a.add (i * Rep.k α)).add j) = some v := by
      intro i hil j hj
      obtain ⟨y, cs', hcs, _⟩ := hel i hil
      obtain ⟨_, hcl, hat⟩ := World.cells?_some hcs
      exact ⟨cs'[j]'(by omega), by rw [hat j hj]; exact List.getElem?_eq_getElem (by omega)⟩
    obtain ⟨b, off, spot⟩ := a
    obtain ⟨v0, hv0⟩ := hsome 0 (by omega) 0 hk
    have hspot : spot = none := by simpa [Addr.add] using World.cell?_spot hv0
    subst hspot
    have hadd : ∀ i j : Nat, ((⟨b, off, none⟩ : Addr).add i).add j = ⟨b, off + i + j, none⟩ := by
      intro i j; unfold Addr.add; by_cases hi : i = 0 <;> by_cases hj : j = 0 <;> simp [hi, hj, Nat.add_assoc]
    have hblt : b < W.heap.size := by
      rw [hadd] at hv0
      rcases Nat.lt_or_ge b W.heap.size with h | h
      · exact h
      · simp [World.cell?, Array.getElem?_eq_none h] at hv0
    refine ⟨b, off, rfl, hblt, fun i y hyi => ?_⟩
    obtain ⟨cs', hcs, hrep⟩ := hy i y hyi
    obtain ⟨_, hcl, hat⟩ := World.cells?_some hcs
    refine ⟨cs', hrep, fun j u hu => ?_⟩
    have hj : j < Rep.k α := by have := (List.getElem?_eq_some_iff.1 hu).1; omega
    have := hat j hj
    rw [hadd] at this
    rw [this, hu]

/-! Arguments. -/
section
variable {H : Type} {enc : TypeId × Value → H} {W : World} {t e : TypeId} {v : Value} {d : DataW H} {p : List MemPlace} {base : Nat}
set_option maxRecDepth 100000 in
theorem arg_int (ht : Try.prog.underlying t = some (.int .i64)) (hv : Value.okWide Try.prog W .any base t v) (h : DataW.Trod enc Try.prog W 0 (fun _ => true) true t v d p) : ∃ n, v = .int .i64 n ∧ I64 n := by
  obtain ⟨n, rfl, _, _, hw⟩ := open_int ht hv h
  refine ⟨n, rfl, ?_⟩
  simp [Lit.wf, IntKind.min, IntKind.max, IntKind.signed, IntKind.bits] at hw
  exact ⟨by omega, by omega⟩
set_option maxRecDepth 100000 in
theorem arg_string (ht : Try.prog.underlying t = some .string) (hv : Value.okWide Try.prog W .any base t v) (h : DataW.Trod enc Try.prog W 0 (fun _ => true) true t v d p) (hw : ∀ n ∈ d.weights Try.prog t, n ≤ reachBytes) : ∃ l : List UInt8, v = .string ⟨l.toArray⟩ ∧ l.length ≤ 140737488351232 := by
  obtain ⟨⟨⟨l⟩⟩, rfl, rfl, _, _⟩ := Go.ChangeMaps.open_string ht hv h
  refine ⟨l, rfl, ?_⟩
  have := hw l.length (by simp [DataW.weights])
  unfold reachBytes at this
  omega
set_option maxRecDepth 100000 in
theorem arg_slice {α : Type} [Rep α] (hr : Rd t (List α)) (ht : Try.prog.underlying t = some (.slice e)) (hv : Value.okWide Try.prog W .any base t v) (h : DataW.Trod enc Try.prog W 0 (fun _ => true) true t v d p) (hw : ∀ n ∈ d.weights Try.prog t, n ≤ reachBytes) : ∃ xs : List α, Sl W v xs := by
  obtain ⟨a, len, cap, rfl⟩ := okWide_slice ht hv
  obtain ⟨fuel, hf⟩ := h
  obtain ⟨xs, v', hv', hs⟩ := hr _ _ _ _ _ _ hf hw
  simp [Value.cells] at hv'
  subst hv'
  exact ⟨xs, hs⟩
set_option maxRecDepth 100000 in
theorem arg_slice_b {α : Type} [Rep α] (hr : Rd t (List α)) (ht : Try.prog.underlying t = some (.slice e)) (hv : Value.okWide Try.prog W .any base t v) (h : DataW.Trod enc Try.prog W 0 (fun _ => true) true t v d p) (hw : ∀ n ∈ d.weights Try.prog t, n ≤ reachBytes) : ∃ xs : List α, Sl W v xs ∧ xs.length * Try.prog.bytesOf e ≤ reachBytes := by
  obtain ⟨xs, hs⟩ := arg_slice hr ht hv h hw
  obtain ⟨a, len, cap, rfl⟩ := okWide_slice ht hv
  have hl := SlB.len_eq hs
  refine ⟨xs, hs, ?_⟩
  obtain ⟨fuel, hf⟩ := h
  rcases open_slice ht hf with ⟨hcs, hx⟩ | ⟨a', len', cap', m, n, D, Pl, hcs, _, hl', hm, hmm, hx, hi⟩
  · simp [Value.cells] at hcs
    rw [hl, hcs.2.1]; simp
  · simp [Value.cells] at hcs
    obtain ⟨_, rfl, _⟩ := hcs
    simp only [Prod.mk.injEq] at hx
    have := hw ((((List.range len).map D).length + ((List.range (m - len)).map fun j => D (len + j)).length) * Try.prog.bytesOf e) (by rw [hx.1]; simp only [DataW.weights, ht]; exact List.mem_cons_self)
    refine Nat.le_trans ?_ this
    rw [hl]
    exact Nat.mul_le_mul_right _ (by simp)
set_option maxRecDepth 100000 in
theorem arg_agg {α : Type} [Rep α] {fs : Array Field} (hr : Rd t α) (ht : Try.prog.underlying t = some (.struct fs)) (hv : Value.okWide Try.prog W .any base t v) (h : DataW.Trod enc Try.prog W 0 (fun _ => true) true t v d p) (hw : ∀ n ∈ d.weights Try.prog t, n ≤ reachBytes) : ∃ (x : α) (cs : List Value), v = .agg cs.toArray ∧ Rep.rep W W.heap.size cs x := by
  obtain ⟨cs, rfl, _⟩ := okWide_struct ht hv
  obtain ⟨fuel, hf⟩ := h
  obtain ⟨x, hx⟩ := hr _ _ _ _ _ _ hf hw
  exact ⟨x, _, rfl, hx⟩
end
end Go.Proofs.Ytejpkcheimgdfaa

-- ReadOp
namespace Go.Proofs.Ytejpkcheimgdfaa
open Go.ChangeShapes Go.WideShapes Go.ChangeAt Go.RowKit Go.Deep

theorem Try.cOp : Try.prog.cellsOf 61 = 2 := by kernel_rfl
theorem Try.bOp : Try.prog.bytesOf 61 = 16 := by kernel_rfl
theorem Try.cInt : Try.prog.cellsOf 3 = 1 := by kernel_rfl
set_option maxRecDepth 100000 in
theorem rd_op : Rd 61 MOp := by
  intro H enc W fuel cs x h hw
  obtain ⟨xs, n, _, rfl, hcl, hxl, hf⟩ := DataW.trod_struct Try.underlying61 h
  rw [Try.cOp] at hcl
  obtain ⟨c0, c1, rfl⟩ : ∃ c0 c1, cs = [c0, c1] := by
    match cs, hcl with
    | [c0, c1], _ => exact ⟨c0, c1, rfl⟩
  match xs, hxl with
  | [y0, y1], _ =>
    have h0 := hf 0 _ rfl
    have h1 := hf 1 _ rfl
    simp [Try.cInt] at h0 h1
    obtain ⟨n0, e0, he0, hi0⟩ := DataW.trod_int Try.underlying3 h0
    obtain ⟨n1, e1, he1, hi1⟩ := DataW.trod_int Try.underlying3 h1
    simp at e0 e1
    subst e0 e1
    exact ⟨⟨n0, n1⟩, rfl, i64_of_wf hi0, i64_of_wf hi1⟩
theorem rd_ops : Rd 52 (List MOp) := rd_slice rd_op Try.underlying52 Try.cOp (by decide) (by rw [Try.bOp]; decide)
theorem rd_i : Rd 3 Int := rd_int Try.underlying3
end Go.Proofs.Ytejpkcheimgdfaa

-- ReadP
/- Arguments that are programs, read as data. -/
namespace Go.Proofs.Ytejpkcheimgdfaa
open Go.ChangeShapes Go.WideShapes Go.ChangeAt Go.RowKit Go.Deep

/-- The parts of a struct that reads. -/
theorem rd_parts {t : TypeId} {fs : Array Field} (ht : Try.prog.underlying t = some (.struct fs)) {H : Type} {enc : TypeId × Value → H} {W : World} {fuel : Nat} {cs : List Value} {x : DataW H × List MemPlace}
    (h : DataW.trod enc Try.prog W 0 (fun _ => true) true fuel t cs = some x) (hw : ∀ n ∈ x.1.weights Try.prog t, n ≤ reachBytes) :
    cs.length = Try.prog.cellsOf t ∧ ∀ (i : Nat) (f : Field), fs[i]? = some f → ∀ (α : Type) [Rep α], Rd f.type α → ∃ y : α, Rep.rep W W.heap.size ((cs.drop f.offset).take (Try.prog.cellsOf f.type)) y := by
  obtain ⟨xs, n, _, rfl, hcl, hxl, hf⟩ := DataW.trod_struct ht h
  refine ⟨hcl, fun i f hfi α _ hr => ?_⟩
  have h1 := hf i f hfi
  have hi : i < xs.length := by rw [hxl]; exact (Array.getElem?_eq_some_iff.1 hfi).1
  rw [List.getElem?_eq_getElem hi] at h1
  refine hr _ _ _ _ _ _ h1 fun u hu => hw u ?_
  simp only [DataW.weights, ht]
  exact DataW.weights_mem_each (j := i) (by rw [List.getElem?_map, Array.getElem?_toList, hfi]; rfl) (by rw [List.getElem?_map, List.getElem?_eq_getElem hi]; rfl) u hu
theorem Try.cIntP : Try.prog.cellsOf 3 = 1 := by kernel_rfl
theorem Try.bIntP : Try.prog.bytesOf 3 = 8 := by kernel_rfl
theorem Try.cIntsP : Try.prog.cellsOf 35 = 1 := by kernel_rfl
theorem Try.cOpsP : Try.prog.cellsOf 52 = 1 := by kernel_rfl
theorem Try.cFuncP : Try.prog.cellsOf 54 = 4 := by kernel_rfl
theorem Try.bFuncP : Try.prog.bytesOf 54 = 64 := by kernel_rfl
theorem Try.cFuncsP : Try.prog.cellsOf 22 = 1 := by kernel_rfl
theorem rd_ints : Rd 35 (List Int) := rd_slice rd_i Try.underlying35 Try.cIntP (by decide) (by rw [Try.bIntP]; decide)
set_option maxRecDepth 100000 in
theorem rd_func : Rd 54 MFunc := by
  intro H enc W fuel cs x h hw
  obtain ⟨hl, hp⟩ := rd_parts Try.underlying54 h hw
  rw [Try.cFuncP] at hl
  obtain ⟨c0, c1, c2, c3, rfl⟩ : ∃ c0 c1 c2 c3, cs = [c0, c1, c2, c3] := by
    match cs, hl with
    | [c0, c1, c2, c3], _ => exact ⟨c0, c1, c2, c3, rfl⟩
  obtain ⟨y0, h0, i0⟩ := hp 0 _ rfl Int rd_i
  obtain ⟨y1, v1, h1, i1⟩ := hp 1 _ rfl (List Int) rd_ints
  obtain ⟨y2, h2, i2⟩ := hp 2 _ rfl Int rd_i
  obtain ⟨y3, v3, h3, i3⟩ := hp 3 _ rfl (List MOp) rd_ops
  simp [Try.cIntP, Try.cIntsP, Try.cOpsP] at h0 h1 h2 h3
  subst h0 h1 h2 h3
  exact ⟨⟨y0, y1, y2, y3⟩, _, _, rfl, ⟨i0, i2⟩, i1, i3⟩
theorem rd_funcs : Rd 22 (List MFunc) := rd_slice rd_func Try.underlying22 Try.cFuncP (by decide) (by rw [Try.bFuncP]; decide)
/-- A program. -/
structure MProg where
  funcs : List MFunc
instance : Rep MProg where
  k := 1
  rep w B cs p := ∃ v, cs = [v] ∧ SlB w B v p.funcs
  len h := by obtain ⟨v, h, _⟩ := h; rw [h]; rfl
  keep h hc := by obtain ⟨v, h, hs⟩ := h; exact ⟨v, h, hs.keep hc⟩
  more h hb := by obtain ⟨v, h, hs⟩ := h; exact ⟨v, h, hs.more hb⟩
  one h := by obtain ⟨v, h, hs⟩ := h; obtain ⟨A, c, rfl, _⟩ := hs.form; rw [h]; simp [Value.oneCell']
set_option maxRecDepth 100000 in
theorem rd_prog : Rd 24 MProg := by
  intro H enc W fuel cs x h hw
  obtain ⟨hl, hp⟩ := rd_parts Try.underlying24 h hw
  rw [show Try.prog.cellsOf 24 = 1 from by kernel_rfl] at hl
  obtain ⟨c0, rfl⟩ : ∃ c0, cs = [c0] := by
    match cs, hl with
    | [c0], _ => exact ⟨c0, rfl⟩
  obtain ⟨y0, v, h0, i0⟩ := hp 0 _ rfl (List MFunc) rd_funcs
  simp [Try.cFuncsP] at h0
  subst h0
  exact ⟨⟨y0⟩, _, rfl, i0⟩
/-- A law over a program, from one over its functions. -/
theorem prog_law {f : FuncId} {W : World} {v : Value} {fs : List MFunc} {rest : List Value} {R : Ending → World → Prop} (hs : Sl W v fs) (h : ∀ A c, Sl W (.slice A fs.length c) fs → Calls Try.prog f (Value.agg #[.slice A fs.length c] :: rest).toArray W R) : Calls Try.prog f (Value.agg #[v] :: rest).toArray W R := by
  obtain ⟨A, c, rfl, _⟩ := hs.form
  exact h A c hs
end Go.Proofs.Ytejpkcheimgdfaa

