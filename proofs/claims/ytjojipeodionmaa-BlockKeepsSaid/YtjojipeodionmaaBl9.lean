import Derived.Test.YtjojipeodionmaaBl8
namespace Go.Proofs.Ytjojipeodionmaa
open Go.RowKit

theorem run_make_ints1 (n : Nat) (h : n ≤ 1000) (w : World) : (Instr.makeSlice 41 (.int .i64 ((n : Int) + 1)) (.int .i64 ((n : Int) + 1))).run Try.prog w = .ok (.slice (some ⟨w.heap.size, 0, none⟩) (n + 1) (n + 1)) (w.alloc (.cells (madeCells #[.int .i64 0] (n + 1)) 3)) :=
  run_make_row' (P := Try.prog) 41 3 (.int .i64 0) 8 Try.underlying41 Try.infoInt rfl .i64 .i64 (n + 1) (by omega) (by omega) w
attribute [local go_sem] run_make_ints1

set_option maxHeartbeats 1000000 in
theorem kept_any (v vr : Value) (l : List (List Int)) (refs : List Int) (w : World) (hs : Sl w v l) (hrs : Sl w vr refs) (hfit : Fit l) (hin : ∀ r ∈ refs, 0 ≤ r ∧ r ≤ l.length) (hby : refs.length * 8 ≤ 140737488355328) :
    Calls Try.prog 94 #[v, vr] w fun e w' => ∃ u ur, e = .returned (.tuple #[u, ur]) ∧ Below w.heap.size w w' ∧ Sl w' u (keptTo l refs l.length) ∧ Sl w' ur (refs.map (keptN l refs)) := by
  obtain ⟨i0, hi, hz0, hz1, hz2⟩ := info_parts Try.infoInts
  obtain ⟨i1, hi1, hy0, hy1, hy2⟩ := info_parts Try.infoInt
  have hL1 := hfit.1
  have Hfit := Lib.hid hfit; clear hfit
  have Hin := Lib.hid hin; clear hin
  obtain ⟨L, hL⟩ : ∃ n, l.length = n := ⟨_, rfl⟩
  obtain ⟨R, hR⟩ : ∃ n, refs.length = n := ⟨_, rfl⟩
  obtain ⟨A, c, rfl, hlc, hc, _⟩ := hs.form_n hL
  obtain ⟨Ar, cr, rfl, hlcr, hcr, _⟩ := hrs.form_n hR
  rw [hL] at hL1
  rw [hR] at hby
  have HL := Lib.hid hL; clear hL
  have HR := Lib.hid hR; clear hR
  have hrow := IntRow.made w (L + 1)
  go_enter Try.func94, Try.ntmps94
  go_wp2
  go_loopw [6, 19] (fun s t wr => ∃ k : Nat, k ≤ L ∧ t = .int .i64 k ∧ OwN wr (w.heap.size + 1) s (keptTo l refs k) ∧ IntRow wr w.heap.size (isTo l refs k) ∧ Below w.heap.size w wr) (fun _ t _ => L - (intOf t).toNat)
  case atStart => exact ⟨0, by omega, rfl, OwN.nil_ _ _, by unfold isTo; rw [HL.out]; exact hrow, (by repeat (first | exact Below.refl _ _ | assumption | refine Below.drew ?_ | refine Below.drewN_ ?_ _ | refine below_alloc ?_ _ | refine below_via (by assumption) ?_ | refine below_set ?_ (by simp <;> omega) _))⟩
  case round =>
    obtain ⟨k, hk, rfl, hown, his, hbl⟩ := hrel
    clear hrow
    have hkl := keptTo_len l refs k
    obtain ⟨K, hK⟩ : ∃ n, (keptTo l refs k).length = n := ⟨_, rfl⟩
    obtain ⟨A1, c1, rfl, _, _, _⟩ := hown.form_n hK
    rw [hK] at hkl
    have HK := Lib.hid hK; clear hK
    have hsz := his.lt
    by_cases hlt : k < L
    · obtain ⟨b, off, u, rfl, hb, hcell, hu⟩ := (hs.via hbl).sl_at hlt
      have hfk := Hfit.out.at_ k
      have hq := fun w1 (h : Below wr.heap.size wr w1) => Lib.hid (clone_any _ _ w1 (hu.via h) (by omega))
      obtain ⟨m, hm⟩ : ∃ m, (l.getD k []).length = m := ⟨_, rfl⟩
      obtain ⟨A', c', rfl, _, _, _⟩ := hu.form_n hm
      rw [hm] at hfk
      have Hm := Lib.hid hm; clear hm
      have hcn := Lib.hid (contains_int _ refs ((k : Int) + 1) wr (hrs.via hbl))
      cases hct : refs.contains ((k : Int) + 1)
      · have Hct := Lib.hid hct; clear hct
        go_wp2_with (first
          | (go_at_call 106; refine (hcn.out).mono ?_; rintro e w' ⟨rfl, rfl⟩; rw [Hct.out]))
        go_roundw
        case rel => exact ⟨k + 1, by omega, by go_num, by rw [keptTo_no Hct.out]; exact hown, by rw [isTo_no Hct.out]; exact his, hbl⟩
        case measure => simp [intOf]; omega
      · have Hct := Lib.hid hct; clear hct
        go_wp2_with (first
          | (go_at_call 106; refine (hcn.out).mono ?_; rintro e w' ⟨rfl, rfl⟩; rw [Hct.out])
          | (go_at_call 121; refine ((hq _ (Below.refl _ _)).out).mono ?_; rintro e w' ⟨u', rfl, hbx, hux⟩; obtain ⟨A2, c2, rfl, _, _, _⟩ := hux.form_n Hm.out)
          | (at_builtin; refine mk_in ?_))
        unfold MkD
        have hB1 : w.heap.size + 1 ≤ wr.heap.size := hsz
        have hbs := hbx.size
        refine wpList_append_new (α := List Int) _ rfl _ _ 39 rfl i0 (.slice none 0 0) 24 Try.underlying39 hi hz0 hz1 hz2 rfl rfl ⟨w'.heap.size, 0, none⟩ 1 rfl _ (l.getD k []) (OwD.newer hown (below_alloc hbx _) (by omega) (own_one (hux.alloc _))) (one_at (by simp)) (by simp; omega) (by rw [HK.out]; omega) (by rw [HK.out]; omega) ?_
        intro v2 w2 hown2 hbel2
        have hB2 : Below (w.heap.size + 1) wr w2 := hbel2 wr ((below_alloc hbx _).mono hB1)
        have hB3 : Below w.heap.size w w2 := hbl.trans (hB2.mono (by omega))
        have his2 : IntRow w2 w.heap.size (isTo l refs k) := his.frame (hB2.block _ (by omega))
        have Hown2 : OwN w2 (w.heap.size + 1) v2 (keptTo l refs (k + 1)) := by rw [keptTo_yes Hct.out]; exact hown2
        have hlen2 : (keptTo l refs (k + 1)).length = K + 1 := by rw [keptTo_yes Hct.out, List.length_append, HK.out]; rfl
        obtain ⟨A3, c3, rfl, _, _, _⟩ := Hown2.form_n hlen2
        have hset := his2.set (k + 1) (((K + 1 : Nat) : Int))
        have hcell2 := his2.cell (j := k + 1) (by rw [isTo_len, HL.out]; omega)
        have hfz2 := his2.frozen (k + 1)
        have hlt2 := his2.lt
        have Hset : IntRow (w2.setCell ⟨w.heap.size, k + 1, none⟩ (.int .i64 ((K : Int) + 1))) w.heap.size (isTo l refs (k + 1)) := by rw [isTo_yes Hct.out, hlen2]; exact hset
        have Hfar := Hown2.far (a := ⟨w.heap.size, k + 1, none⟩) (by simp) (.int .i64 ((K : Int) + 1))
        clear hset hown2 hbel2 hlen2 his2 his hown hcell hB2 hbx hux
        go_wp2
        go_roundw
        case rel => exact ⟨k + 1, by omega, by go_num, Hfar, Hset, below_set hB3 (by simp) _⟩
        case measure => simp [intOf]; omega
    · have hkL : k = L := by omega
      subst hkL
      have hout : Sl wr (.slice A1 K c1) (keptTo l refs k) := hown.sl
      have hget : ∀ i, i < R → (isTo l refs k).getD (refs.getD i 0).toNat 0 = keptN l refs (refs.getD i 0) ∧ 0 ≤ refs.getD i 0 ∧ refs.getD i 0 ≤ k := by
        intro i hi
        have hm : refs.getD i 0 ∈ refs := mem_getD (by rw [HR.out]; exact hi)
        have := Hin.out _ hm
        refine ⟨?_, this.1, by rw [HL.out] at this; exact this.2⟩
        rw [← HL.out]
        exact isTo_at hm this.1 this.2
      have Hget := Lib.hid hget; clear hget
      clear hown
      obtain ⟨w1, rfl⟩ : ∃ x, x = wr := ⟨_, rfl⟩
      clear hk hlt
      have hmk : ∀ i, i < R → keptN l refs (refs.getD i 0) = (isTo l refs k).getD (refs.getD i 0).toNat 0 := fun i hi => (Hget.out i hi).1.symm
      have Hmk := Lib.hid hmk; clear hmk
      go_wp2
      go_loopw [10, 42] (fun s t wr => ∃ i : Nat, i ≤ R ∧ t = .int .i64 i ∧ OwN wr w1.heap.size s ((refs.map (keptN l refs)).take i) ∧ Below w1.heap.size w1 wr) (fun _ t _ => R - (intOf t).toNat)
      case atStart => exact ⟨0, by omega, rfl, OwN.nil_ _ _, (by repeat (first | exact Below.refl _ _ | assumption | refine Below.drew ?_ | refine Below.drewN_ ?_ _ | refine below_alloc ?_ _ | refine below_via (by assumption) ?_ | refine below_set ?_ (by simp <;> omega) _))⟩
      case round =>
        obtain ⟨i, hiR, rfl, hown, hbx⟩ := hrel
        have htl : ((refs.map (keptN l refs)).take i).length = i := by rw [List.length_take, List.length_map, HR.out]; omega
        obtain ⟨A2, c2, rfl, _, _, _⟩ := hown.form_n htl
        have Htl := Lib.hid htl; clear htl
        have hszx := hbx.size
        by_cases hlt : i < R
        · obtain ⟨b, off, rfl, hb, hcell, hir⟩ := ((hrs.via hbl).via hbx).int_at hlt
          obtain ⟨hg1, hg2, hg3⟩ := Hget.out i hlt
          obtain ⟨ρ, hρ⟩ : ∃ ρ : Nat, refs.getD i 0 = ρ := ⟨(refs.getD i 0).toNat, by omega⟩
          rw [hρ] at hcell hg1 hg3
          rw [Int.toNat_natCast] at hg1
          have hρk : ρ < k + 1 := by omega
          have hic := (his.via hbx).cell (j := ρ) (by rw [isTo_len, HL.out]; omega)
          rw [hg1] at hic
          have hir2 : I64 (keptN l refs ρ) := by
            unfold keptN
            split
            · simp [I64]
            · have := keptTo_len l refs ρ
              unfold I64
              rw [Int.toNat_natCast]
              omega
          obtain ⟨x, hx⟩ : ∃ x, keptN l refs ρ = x := ⟨_, rfl⟩
          rw [hx] at hic hir2
          have hval : (refs.map (keptN l refs)).getD i 0 = x := by
            rw [List.getD_eq_getElem?_getD, List.getElem?_map, List.getElem?_eq_getElem (by rw [HR.out]; exact hlt)]
            rw [List.getD_eq_getElem?_getD, List.getElem?_eq_getElem (by rw [HR.out]; exact hlt)] at hρ
            simp only [Option.map_some, Option.getD_some] at hρ ⊢
            rw [hρ, hx]
          have hsn : (refs.map (keptN l refs)).take (i + 1) = (refs.map (keptN l refs)).take i ++ [x] := by
            rw [take_snoc _ i 0 (by rw [List.length_map, HR.out]; exact hlt), hval]
          clear hval
          have Hsn := Lib.hid hsn; clear hsn
          have hgx := his.lt
          clear hρ hx hg1 hg2 hg3 hir
          go_wp2_with (first
            | (at_builtin; refine mk_in ?_))
          unfold MkD
          refine wpList_append_new (α := Int) _ rfl _ _ 41 rfl i1 (.int .i64 0) 8 Try.underlying41 hi1 hy0 hy1 hy2 rfl rfl ⟨wr.heap.size, 0, none⟩ 1 rfl _ x (OwD.newer hown (below_alloc (Below.refl _ _) _) hszx ⟨fun _ => False, flat_int (w := wr) (B := 0) ⟨rfl, hir2⟩, fun _ h => h.elim⟩) (one_at (by simp)) (by simp; omega) (by rw [Htl.out]; omega) (by rw [Htl.out]; omega) ?_
          intro v2 w2 hown2 hbel2
          have hB2 : Below w1.heap.size w1 w2 := hbel2 w1 (below_alloc hbx _)
          rw [← Hsn.out] at hown2
          clear hbel2
          go_wp2
          go_roundw
          case rel => exact ⟨i + 1, by omega, by go_num, hown2, hB2⟩
          case measure => simp [intOf]; omega
        · have hiR' : i = R := by omega
          subst hiR'
          rw [List.take_of_length_le (by rw [List.length_map, HR.out]; exact Nat.le_refl _)] at hown
          go_wp2
          go_ret2
          exact ⟨_, _, rfl, below_via hbx hbl, by rw [HL.out]; exact hout.via hbx, hown.sl⟩
end Go.Proofs.Ytjojipeodionmaa
