import Derived.Test.YtjojipeodionmaaOp3
namespace Go.Proofs.Ytjojipeodionmaa
open Go.RowKit

theorem conv_one (W : World) (o : Obj) (x : Int) : (convert 106 9 (.slice (some ⟨W.heap.size + 1, 0, none⟩) 1 1)).run Try.prog ((W.alloc o).alloc (.cells #[.int .u8 x] 5)) =
    .ok (.string ⟨[UInt8.ofNat x.toNat].toArray⟩) ((W.alloc o).alloc (.cells #[.int .u8 x] 5)) :=
  run_convert_bytes_arg (P := Try.prog) _ 106 5 Try.underlying106 Try.underlying5 _ 0 1 1 [x] rfl
    (by intro i hi; match i, hi with | 0, _ => simp) 9 Try.underlying9
theorem codeBytes_snoc {l : List MOp} {k : Nat} {o : MOp} (hk : l[k]? = some o) : codeBytes (l.take (k + 1)) = codeBytes (l.take k) ++ opBytes o := by
  obtain ⟨h, rfl⟩ := List.getElem?_eq_some_iff.1 hk
  rw [List.take_succ_eq_append_getElem h, codeBytes, List.flatMap_append]
  simp [codeBytes]
theorem opBytes_len (o : MOp) : (opBytes o).length ≤ 5 := by unfold opBytes fourOf; split <;> simp
theorem codeBytes_len (l : List MOp) : (codeBytes l).length ≤ 5 * l.length := by
  induction l with
  | nil => simp [codeBytes]
  | cons o l ih => have := opBytes_len o; simp [codeBytes] at ih ⊢; omega

set_option maxHeartbeats 400000 in
theorem bytes_any (v : Value) (l : List MOp) (w : World) (hs : Sl w v l) (h40 : l.length ≤ 40) :
    Calls Try.prog 77 #[v] w fun e w' => e = .returned (.string ⟨(codeBytes l).toArray⟩) ∧ Below w.heap.size w w' := by
  obtain ⟨A, c, rfl, hlc, hc, hl⟩ := hs.form
  have hcv := conv_one
  go_enter Try.func77, Try.ntmps77
  go_wp2
  go_loopw [3, 8] (fun s t wr => ∃ k : Nat, k ≤ l.length ∧ t = .int .i64 k ∧ Below w.heap.size w wr ∧ s = .string ⟨(codeBytes (l.take k)).toArray⟩) (fun _ t _ => l.length - (intOf t).toNat)
  case atStart => exact ⟨0, by omega, rfl, (by repeat (first | exact Below.refl _ _ | assumption | refine Below.drew ?_ | refine Below.drewN_ ?_ _ | refine below_alloc ?_ _ | refine below_via (by assumption) ?_ | refine below_set ?_ (by simp <;> omega) _)), rfl⟩
  case round =>
    obtain ⟨k, hk, rfl, hbl, rfl⟩ := hrel
    have hs' := hs.via hbl
    have hln := codeBytes_len (l.take k)
    have hln' : (l.take k).length ≤ k := List.length_take_le _ _
    by_cases hlt : k < l.length
    · obtain ⟨b, off, o, rfl, hb, ho, hc0, hc1, hi0, hi1⟩ := hs'.op_at hlt
      have Ho := Lib.hid ho; clear ho
      have hsz := hbl.size
      have Hsn := Lib.hid (codeBytes_snoc Ho.out)
      have h4 : (fourOf o.a).length ≤ 4 := by simp [fourOf]
      generalize codeBytes (l.take k) = cb at *
      go_wp2_with (first
       | (go_at_call 85; refine (names_any o.c _).mono ?_; rintro e w' ⟨rfl, hb⟩; obtain ⟨hc, hf⟩ := bcell hb)
       | (go_at_call 115; refine (four_any o.a _).mono ?_; rintro e w' ⟨rfl, hb⟩))
      all_goals
        go_roundw
        case rel => exact ⟨k + 1, by omega, by go_num, (by repeat (first | exact Below.refl _ _ | assumption | refine Below.drew ?_ | refine Below.drewN_ ?_ _ | refine below_alloc ?_ _ | refine below_via (by assumption) ?_ | refine below_set ?_ (by simp <;> omega) _)), by rw [Hsn.out]; simp_all [opBytes]⟩
        case measure => simp [intOf]; omega
    · go_wp2
      go_ret
      exact ⟨ret_str (by rw [List.take_of_length_le (by omega)]), (by repeat (first | exact Below.refl _ _ | assumption | refine Below.drew ?_ | refine Below.drewN_ ?_ _ | refine below_alloc ?_ _ | refine below_via (by assumption) ?_ | refine below_set ?_ (by simp <;> omega) _))⟩
end Go.Proofs.Ytjojipeodionmaa
