import Derived.Test.YtjojipeodionmaaRbl3
namespace Go.Proofs.Ytjojipeodionmaa
open Go.RowKit

theorem run_make_intsR (n : Nat) (h : n * 8 ≤ 140737488355328) (w : World) : (Instr.makeSlice 41 (.int .i64 (n : Int)) (.int .i64 (n : Int))).run Try.prog w = .ok (.slice (some ⟨w.heap.size, 0, none⟩) n n) (w.alloc (.cells (madeCells #[.int .i64 0] n) 3)) :=
  run_make_row' (P := Try.prog) 41 3 (.int .i64 0) 8 Try.underlying41 Try.infoInt rfl .i64 .i64 n (by omega) (by omega) w
attribute [local go_sem] run_make_intsR

set_option maxHeartbeats 1000000 in
theorem rkeepOf_any (v vr : Value) (l : List (List Int)) (refs : List Int) (w : World) (hs : Sl w v l) (hrs : Sl w vr refs) (hfit : Fit l) (hin : ∀ r ∈ refs, 0 ≤ r ∧ r ≤ l.length) (hby : refs.length * 8 ≤ 140737488355328) :
    Calls Try.prog 43 #[v, vr] w fun e w' => ∃ u ur, e = .returned (.tuple #[u, ur]) ∧ Below w.heap.size w w' ∧ Sl w' u (keptTo l refs l.length) ∧ Sl w' ur (refs.map (keptN l refs)) := by
  obtain ⟨i0, hi, hz0, hz1, hz2⟩ := info_parts Try.infoInts
  obtain ⟨i1, hi1, hy0, hy1, hy2⟩ := info_parts Try.infoInt
  have hL1 := hfit.1
  have Hfit := Lib.hid hfit; clear hfit
  have Hin := Lib.hid hin; clear hin
  obtain ⟨L, hL⟩ : ∃ n, l.length = n := ⟨_, rfl⟩
  obtain ⟨R, hR⟩ : ∃ n, refs.length = n := ⟨_, rfl⟩
  obtain ⟨A, c, rfl, hlc, hc, _⟩ := hs.form_n hL
  obtain ⟨Ar, cr, rfl, hlcr, hcr, _⟩ := hrs.form_n hR
  rw [hL] at hL1
  rw [hR] at hby
  have HL := Lib.hid hL; clear hL
  have HR := Lib.hid hR; clear hR
  have hrow := IntRow.made w R
  go_enter Try.func43, Try.ntmps43
  go_wp2
  go_loopw [6, 8] (fun s t wr => ∃ k : Nat, k ≤ L ∧ t = .int .i64 k ∧ OwN wr (w.heap.size + 1) s (keptTo l refs k) ∧ IntRow wr w.heap.size (refs.map (thenF l refs k)) ∧ Below w.heap.size w wr) (fun _ t _ => L - (intOf t).toNat)
  case atStart => exact ⟨0, by omega, rfl, OwN.nil_ _ _, by rw [thenMix_start, HR.out]; exact hrow, (by repeat (first | exact Below.refl _ _ | assumption | refine Below.drew ?_ | refine Below.drewN_ ?_ _ | refine below_alloc ?_ _ | refine below_via (by assumption) ?_ | refine below_set ?_ (by simp <;> omega) _))⟩
  case round =>
    obtain ⟨k, hk, rfl, hown, his, hbl⟩ := hrel
    clear hrow
    have hkl := keptTo_len l refs k
    obtain ⟨K, hK⟩ : ∃ n, (keptTo l refs k).length = n := ⟨_, rfl⟩
    obtain ⟨A1, c1, rfl, _, _, _⟩ := hown.form_n hK
    rw [hK] at hkl
    have HK := Lib.hid hK; clear hK
    have hsz := his.lt
    by_cases hlt : k < L
    · obtain ⟨w1, rfl⟩ : ∃ x, x = wr := ⟨_, rfl⟩
      rw [← thenMix_zero] at his
      go_wp2
      go_loopw [9, 10] (fun kp t wr => ∃ j : Nat, j ≤ R ∧ t = .int .i64 j ∧ kp = .bool ((refs.take j).contains ((k : Int) + 1)) ∧ OwN wr (w.heap.size + 1) (.slice A1 K c1) (keptTo l refs k) ∧ IntRow wr w.heap.size (thenMix l refs k j) ∧ Below w.heap.size w wr) (fun _ t _ => R - (intOf t).toNat)
      case atStart => exact ⟨0, by omega, rfl, rfl, hown, his, hbl⟩
      case round =>
        obtain ⟨j, hj, rfl, rfl, hown, his, hbl⟩ := hrel
        have hsz := his.lt
        by_cases hlj : j < R
        · obtain ⟨b, off, rfl, hb, hcell, hir⟩ := (hrs.via hbl).int_at hlj
          have hjr : j < refs.length := by rw [HR.out]; exact hlj
          have hcs := Lib.hid (contains_snoc (x := (k : Int) + 1) hjr)
          obtain ⟨x, hx⟩ : ∃ x, refs.getD j 0 = x := ⟨_, rfl⟩
          have Hjr := Lib.hid hjr; clear hjr
          rw [hx] at hcell hir
          have Hx := Lib.hid hx; clear hx
          by_cases hxk : x = (k : Int) + 1
          · have hcon := Lib.hid (contains_mem Hjr.out (Hx.out.trans hxk))
            subst hxk
            have hset := his.set j (((K + 1 : Nat) : Int))
            have hcell2 := his.cell (j := j) (by rw [thenMix_len]; exact Hjr.out)
            have hfz2 := his.frozen j
            have Hset : IntRow (wr.setCell ⟨w.heap.size, j, none⟩ (.int .i64 ((K : Int) + 1))) w.heap.size (thenMix l refs k (j + 1)) := by
              rw [thenMix_step Hjr.out, Hx.out, thenF_hit hcon.out, HK.out]; exact hset
            have Hfar := hown.far (a := ⟨w.heap.size, j, none⟩) (by simp) (.int .i64 ((K : Int) + 1))
            have Hyes : (refs.take (j + 1)).contains ((k : Int) + 1) = true := by rw [hcs.out, Hx.out]; simp
            clear hset his hir
            have HYes := Lib.hid Hyes; clear Hyes
            go_wp2
            go_roundw
            case rel => exact ⟨j + 1, by omega, by go_num, by rw [HYes.out], Hfar, Hset, below_set hbl (by simp) _⟩
            case measure => simp [intOf]; omega
          · have hne : (x == (k : Int) + 1) = false := by simpa using hxk
            have Hmix : IntRow wr w.heap.size (thenMix l refs k (j + 1)) := by rw [thenMix_skip Hjr.out (by rw [Hx.out]; exact hxk)]; exact his
            have Hc : (refs.take (j + 1)).contains ((k : Int) + 1) = (refs.take j).contains ((k : Int) + 1) := by rw [hcs.out, Hx.out, hne, Bool.or_false]
            have HC := Lib.hid Hc; clear Hc
            clear hxk
            go_wp2
            go_roundw
            case rel => exact ⟨j + 1, by omega, by go_num, by rw [HC.out], hown, Hmix, hbl⟩
            case measure => simp [intOf]; omega
        · have hjR : j = R := by omega
          subst hjR
          rw [← HR.out, thenMix_end] at his
          obtain ⟨q, hq⟩ : ∃ q, (refs.take j).contains ((k : Int) + 1) = q := ⟨_, rfl⟩
          have hq2 : refs.contains ((k : Int) + 1) = q := by rw [← hq, List.take_of_length_le (by rw [HR.out]; exact Nat.le_refl _)]
          rw [hq]
          clear hq
          have Hq := Lib.hid hq2; clear hq2
          cases q
          · go_wp2
            go_roundw
            case rel => exact ⟨k + 1, by omega, by go_num, by rw [keptTo_no Hq.out]; exact hown, his, hbl⟩
            case measure => simp [intOf]; omega
          · obtain ⟨b, off, u, rfl, hb, hcell, hu⟩ := (hs.via hbl).sl_at hlt
            have hfk := Hfit.out.at_ k
            obtain ⟨m, hm⟩ : ∃ m, (l.getD k []).length = m := ⟨_, rfl⟩
            obtain ⟨A', c', rfl, _, _, _⟩ := hu.form_n hm
            rw [hm] at hfk
            have Hm := Lib.hid hm; clear hm
            go_wp2_with (at_builtin; refine mk_in ?_)
            unfold MkD
            refine wpList_append_sl _ rfl _ _ 41 rfl wr.heap.size 3 i1 (.int .i64 0) 8 Try.underlying41 hi1 hy0 hy1 hy2 rfl (by decide) _ _ _ rfl (own_made wr wr.heap.size 3 1 (Nat.le_refl _)) _ (l.getD k []) rfl (hu.alloc _) (by rw [Hm.out]; unfold maxLen; omega) (by rw [Hm.out]; omega) (by simp) ?_
            intro v1 w2 zs hzl hzr hown1 hg _
            have hbx : Below wr.heap.size wr w2 := below_row (below_alloc (Below.refl _ _) _) (own_made wr wr.heap.size 3 1 (Nat.le_refl _)) hg (by simp)
            simp only [Nat.zero_add, List.nil_append] at hown1
            have hux : OwN w2 wr.heap.size v1 (l.getD k []) := OwN.of_zs hown1 hzl (fun i x hx => flat_int (hzr i x hx)) (by rw [Hm.out]; omega)
            clear hown1 hzr hzl hg
            obtain ⟨A2, c2, rfl, _, _, _⟩ := hux.form_n Hm.out
            go_wp2_with (at_builtin; refine mk_in ?_)
            unfold MkD
            refine wpList_append_new (α := List Int) _ rfl _ _ 39 rfl i0 (.slice none 0 0) 24 Try.underlying39 hi hz0 hz1 hz2 rfl rfl ⟨w2.heap.size, 0, none⟩ 1 rfl _ (l.getD k []) (OwD.newer hown (below_alloc hbx _) hsz (own_one (hux.alloc _))) (one_at (by simp)) (by have := hbx.size; simp; omega) (by rw [HK.out]; omega) (by rw [HK.out]; omega) ?_
            intro v2 w3 hown2 hbel2
            have hB2 : Below (w.heap.size + 1) wr w3 := hbel2 wr ((below_alloc hbx _).mono hsz)
            have hB3 : Below w.heap.size w w3 := hbl.trans (hB2.mono (by omega))
            have his2 : IntRow w3 w.heap.size (refs.map (thenF l refs (k + 1))) := his.frame (hB2.block _ (by omega))
            have Hown2 : OwN w3 (w.heap.size + 1) v2 (keptTo l refs (k + 1)) := by rw [keptTo_yes Hq.out]; exact hown2
            clear hown2 hbel2 his hown hcell hB2 hbx hux
            go_wp2
            go_roundw
            case rel => exact ⟨k + 1, by omega, by go_num, Hown2, his2, hB3⟩
            case measure => simp [intOf]; omega
    · have hkL : k = L := by omega
      subst hkL
      have hout : Sl wr (.slice A1 K c1) (keptTo l refs k) := hown.sl
      rw [← HL.out, thenF_all Hin.out] at his
      have hall : ∀ x ∈ refs.map (keptN l refs), I64 x := by
        rw [← thenF_all Hin.out]
        intro x hx
        obtain ⟨r, _, rfl⟩ := List.mem_map.1 hx
        exact thenF_i64 _ _ _ _ (by rw [HL.out]; omega)
      have hths := his.sl hall (by rw [List.length_map, HR.out]; omega)
      rw [List.length_map, HR.out] at hths
      have Hall := Lib.hid hall; clear hall
      clear his hown
      go_wp2
      go_ret2
      exact ⟨_, _, rfl, hbl, by rw [HL.out]; exact hout, hths⟩
end Go.Proofs.Ytjojipeodionmaa
