import Derived.Test.YtjojipeodionmaaRop2
namespace Go.Proofs.Ytjojipeodionmaa
open Go.RowKit

set_option maxHeartbeats 400000 in
theorem rcheckCode_any (v : Value) (l : List MOp) (w : World) (hs : Sl w v l) :
    Calls Try.prog 22 #[v] w fun e w' => e = .returned (.int .i64 (codeErr l)) ∧ Below w.heap.size w w' := by
  obtain ⟨A, c, rfl, hlc, hc, hl⟩ := hs.form
  go_enter Try.func22, Try.ntmps22
  go_wp2
  · go_ret
    exact ⟨ret_int (by simp [codeErr]; omega), (by repeat (first | exact Below.refl _ _ | assumption | refine Below.drew ?_ | refine Below.drewN_ ?_ _ | refine below_alloc ?_ _ | refine below_via (by assumption) ?_ | refine below_set ?_ (by simp <;> omega) _))⟩
  go_loopw [3] (fun t wr => ∃ k : Nat, k ≤ l.length ∧ t = .int .i64 k ∧ Below w.heap.size w wr ∧ checkOps (l.take k) = 0) (fun t _ => l.length - (intOf t).toNat)
  case atStart => exact ⟨0, by omega, rfl, (by repeat (first | exact Below.refl _ _ | assumption | refine Below.drew ?_ | refine Below.drewN_ ?_ _ | refine below_alloc ?_ _ | refine below_via (by assumption) ?_ | refine below_set ?_ (by simp <;> omega) _)), by simp [checkOps]⟩
  case round =>
    obtain ⟨k, hk, rfl, hbl, hck⟩ := hrel
    have Hck := Lib.hid hck; clear hck
    have hs' := hs.via hbl
    by_cases hlt : k < l.length
    · obtain ⟨b, off, o, rfl, hb, ho, hc0, hc1, hi0, hi1⟩ := hs'.op_at hlt
      have Ho := Lib.hid ho; clear ho
      have hsz := hbl.size
      go_wp2_with (go_at_call 27; refine (rcheckOp_any o _).mono ?_; rintro e w' ⟨rfl, hb⟩)
      · go_ret
        exact ⟨ret_int (codeErr_of (by omega) Ho.out Hck.out (by assumption)), (by repeat (first | exact Below.refl _ _ | assumption | refine Below.drew ?_ | refine Below.drewN_ ?_ _ | refine below_alloc ?_ _ | refine below_via (by assumption) ?_ | refine below_set ?_ (by simp <;> omega) _))⟩
      · go_roundw
        case rel => exact ⟨k + 1, by omega, by go_num, (by repeat (first | exact Below.refl _ _ | assumption | refine Below.drew ?_ | refine Below.drewN_ ?_ _ | refine below_alloc ?_ _ | refine below_via (by assumption) ?_ | refine below_set ?_ (by simp <;> omega) _)), by rw [checkOps_snoc Ho.out Hck.out]; simp_all⟩
        case measure => simp [intOf]; omega
    · go_wp2
      go_ret
      exact ⟨ret_int (codeErr_ok (by omega) (by rw [← Hck.out, List.take_of_length_le (by omega)])), (by repeat (first | exact Below.refl _ _ | assumption | refine Below.drew ?_ | refine Below.drewN_ ?_ _ | refine below_alloc ?_ _ | refine below_via (by assumption) ?_ | refine below_set ?_ (by simp <;> omega) _))⟩

theorem conv_one0 (W : World) (x : Int) : (convert 106 9 (.slice (some ⟨W.heap.size, 0, none⟩) 1 1)).run Try.prog (W.alloc (.cells #[.int .u8 x] 5)) =
    .ok (.string ⟨[UInt8.ofNat x.toNat].toArray⟩) (W.alloc (.cells #[.int .u8 x] 5)) :=
  run_convert_bytes_arg (P := Try.prog) _ 106 5 Try.underlying106 Try.underlying5 _ 0 1 1 [x] rfl
    (by intro i hi; match i, hi with | 0, _ => simp) 9 Try.underlying9
theorem checkOps_mem {l : List MOp} (h : checkOps l = 0) : ∀ o ∈ l, checkOp o = 0 := by
  induction l with
  | nil => simp
  | cons a l ih =>
    simp only [checkOps] at h
    split at h
    · rename_i e; rw [h] at e; simp at e
    · rename_i e
      intro o ho
      rcases List.mem_cons.1 ho with rfl | ho
      · simpa using e
      · exact ih h o ho
theorem codeErr_zero {l : List MOp} (h : codeErr l = 0) : l.length ≤ 40 ∧ ∀ o ∈ l, checkOp o = 0 := by
  unfold codeErr at h
  split at h
  · omega
  · exact ⟨by omega, checkOps_mem h⟩
theorem checkOp_zero {o : MOp} (h : checkOp o = 0) : isCode o.c = true ∧ (names o.c = true ∨ o.a = 0) ∧ isInt o.a = true := by
  unfold checkOp at h
  split at h; · omega
  split at h; · omega
  split at h; · omega
  simp_all
  rename_i h2 _
  cases hn : names o.c <;> simp_all

set_option maxHeartbeats 400000 in
theorem rcodeBytes_any (v : Value) (l : List MOp) (w : World) (hs : Sl w v l) (h40 : codeErr l = 0) :
    Calls Try.prog 23 #[v] w fun e w' => e = .returned (.string ⟨(codeBytes l).toArray⟩) ∧ Below w.heap.size w w' := by
  obtain ⟨A, c, rfl, hlc, hc, hl⟩ := hs.form
  obtain ⟨h40, hch⟩ := codeErr_zero h40
  have Hch := Lib.hid hch; clear hch
  have hcv := conv_one0
  go_enter Try.func23, Try.ntmps23
  go_wp2
  go_loopw [3, 4] (fun s t wr => ∃ k : Nat, k ≤ l.length ∧ t = .int .i64 k ∧ Below w.heap.size w wr ∧ s = .string ⟨(codeBytes (l.take k)).toArray⟩) (fun _ t _ => l.length - (intOf t).toNat)
  case atStart => exact ⟨0, by omega, rfl, (by repeat (first | exact Below.refl _ _ | assumption | refine Below.drew ?_ | refine Below.drewN_ ?_ _ | refine below_alloc ?_ _ | refine below_via (by assumption) ?_ | refine below_set ?_ (by simp <;> omega) _)), rfl⟩
  case round =>
    obtain ⟨k, hk, rfl, hbl, rfl⟩ := hrel
    have hs' := hs.via hbl
    have hln := codeBytes_len (l.take k)
    have hln' : (l.take k).length ≤ k := List.length_take_le _ _
    by_cases hlt : k < l.length
    · obtain ⟨b, off, o, rfl, hb, ho, hc0, hc1, hi0, hi1⟩ := hs'.op_at hlt
      have hint := Lib.hid ((checkOp_zero (Hch.out o (List.mem_of_getElem? ho))).2.2)
      have Ho := Lib.hid ho; clear ho
      have hsz := hbl.size
      have Hsn := Lib.hid (codeBytes_snoc Ho.out)
      have h4 : (fourOf o.a).length ≤ 4 := by simp [fourOf]
      generalize codeBytes (l.take k) = cb at *
      go_wp2_with (first
       | (go_at_call 79; refine (rhasA_any o.c _).mono ?_; rintro e w' ⟨rfl, rfl⟩)
       | (go_at_call 80; refine (rfour_any o.a _ hint.out).mono ?_; rintro e w' ⟨rfl, hb⟩))
      all_goals
        go_roundw
        case rel => exact ⟨k + 1, by omega, by go_num, (by repeat (first | exact Below.refl _ _ | assumption | refine Below.drew ?_ | refine Below.drewN_ ?_ _ | refine below_alloc ?_ _ | refine below_via (by assumption) ?_ | refine below_set ?_ (by simp <;> omega) _)), by rw [Hsn.out]; simp_all [opBytes]⟩
        case measure => simp [intOf]; omega
    · go_wp2
      go_ret
      exact ⟨ret_str (by rw [List.take_of_length_le (by omega)]), (by repeat (first | exact Below.refl _ _ | assumption | refine Below.drew ?_ | refine Below.drewN_ ?_ _ | refine below_alloc ?_ _ | refine below_via (by assumption) ?_ | refine below_set ?_ (by simp <;> omega) _))⟩

end Go.Proofs.Ytjojipeodionmaa
