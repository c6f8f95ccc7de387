import Derived.Test.YtjojipeodionmaaOp4
import Derived.Deep.QuietTactic
import Derived.BigQuiet
namespace Go.Proofs.Ytjojipeodionmaa
open Go.RowKit

theorem encode_any (v : Value) (l : List MOp) (w : World) (hs : Sl w v l) :
    Calls Try.prog 20 #[v] w fun e w' => e = .returned (.tuple #[.string ⟨(encodeOps l).1.toArray⟩, .int .i64 (encodeOps l).2]) ∧ Below w.heap.size w w' := by
  have hle : codeErr l = 0 → l.length ≤ 40 := by unfold codeErr; split <;> omega
  go_enter Try.func20, Try.ntmps20
  go_wp2_with (first
       | (go_at_call 76; refine (code_any _ l _ hs).mono ?_; rintro e w' ⟨rfl, hb⟩)
       | (go_at_call 77; refine (bytes_any _ l _ (hs.via (by assumption)) (hle (by simp_all))).mono ?_; rintro e w' ⟨rfl, hb⟩))
  all_goals (go_ret2; exact ⟨by simp_all [encodeOps], (by repeat (first | exact Below.refl _ _ | assumption | refine Below.drew ?_ | refine Below.drewN_ ?_ _ | refine below_alloc ?_ _ | refine below_via (by assumption) ?_ | refine below_set ?_ (by simp <;> omega) _))⟩)

theorem cut_any (l : List UInt8) (n : Int) (w : World) (h0 : 0 ≤ n) (_ : l.length ≤ 140737488355328) :
    Calls Try.prog 136 #[.string ⟨l.toArray⟩, .int .i64 n] w fun e w' => e = .returned (.tuple #[.string ⟨(cutB l n).1.toArray⟩, .string ⟨(cutB l n).2.1.toArray⟩, .bool (cutB l n).2.2]) ∧ Below w.heap.size w w' := by
  by_cases h : (l.length : Int) < n
  · go_enter Try.func136, Try.ntmps136
    go_wp2
    go_ret3
    exact ⟨by simp [cutB, h], (by repeat (first | exact Below.refl _ _ | assumption | refine Below.drew ?_ | refine Below.drewN_ ?_ _ | refine below_alloc ?_ _ | refine below_via (by assumption) ?_ | refine below_set ?_ (by simp <;> omega) _))⟩
  · go_enter Try.func136, Try.ntmps136
    go_wp2
    go_quiet (fail)
    go_wp2
    go_ret3
    exact ⟨by rw [cutB, if_neg (by omega)]; simp [List.take_of_length_le], (by repeat (first | exact Below.refl _ _ | assumption | refine Below.drew ?_ | refine Below.drewN_ ?_ _ | refine below_alloc ?_ _ | refine below_via (by assumption) ?_ | refine below_set ?_ (by simp <;> omega) _))⟩

theorem cutB_len (l : List UInt8) (n : Int) : (cutB l n).1.length ≤ l.length := by unfold cutB; split <;> simp; omega
theorem first_any (b : UInt8) (l : List UInt8) (w : World) (hl : l.length ≤ 140737488355320) :
    Calls Try.prog 117 #[.string ⟨(b :: l).toArray⟩] w fun e w' => e = .returned (.tuple #[.agg #[.int .i64 (firstOp b l).1.c, .int .i64 (firstOp b l).1.a], .string ⟨(firstOp b l).2.1.toArray⟩, .bool (firstOp b l).2.2]) ∧ Below w.heap.size w w' := by
  go_enter Try.func117, Try.ntmps117
  go_wp2_with (first
       | (go_at_call 84; refine (is_any _ _).mono ?_; rintro e w' ⟨rfl, rfl⟩)
       | (go_at_call 85; refine (names_any _ _).mono ?_; rintro e w' ⟨rfl, hb⟩; obtain ⟨hc, hf⟩ := bcell hb; have hz0 : w.heap.size < w'.heap.size := (by have := hb.size; (try simp at this); omega); have hz1 : w.heap.size + 1 < w'.heap.size := (by have := hb.size; (try simp at this); omega))
       | (go_at_call 136; refine (cut_any _ _ _ (by omega) (by omega)).mono ?_; rintro e w' ⟨rfl, hb⟩; obtain ⟨hc, hf⟩ := bcell hb; have hz0 : w.heap.size < w'.heap.size := (by have := hb.size; (try simp at this); omega); have hz1 : w.heap.size + 1 < w'.heap.size := (by have := hb.size; (try simp at this); omega))
       | (go_at_call 137; refine (number_any _ _ (by have := cutB_len l 4; omega)).mono ?_; rintro e w' ⟨rfl, hb⟩; obtain ⟨hc, hf⟩ := bcell hb; have hz0 : w.heap.size < w'.heap.size := (by have := hb.size; (try simp at this); omega); have hz1 : w.heap.size + 1 < w'.heap.size := (by have := hb.size; (try simp at this); omega)))
  all_goals
    exact bodyPost_ret (v := .tuple #[.agg #[.int .i64 (firstOp b l).1.c, .int .i64 (firstOp b l).1.a], .string ⟨(firstOp b l).2.1.toArray⟩, .bool (firstOp b l).2.2])
      (by unfold results; rw [Try.results117]; go_simp; simp_all [firstOp]) rfl ⟨rfl, (by repeat (first | exact Below.refl _ _ | assumption | refine Below.drew ?_ | refine Below.drewN_ ?_ _ | refine below_alloc ?_ _ | refine below_via (by assumption) ?_ | refine below_set ?_ (by simp <;> omega) _))⟩
end Go.Proofs.Ytjojipeodionmaa
