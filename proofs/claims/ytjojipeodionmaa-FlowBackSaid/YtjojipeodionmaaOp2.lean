import Derived.Test.YtjojipeodionmaaOp1
namespace Go.Proofs.Ytjojipeodionmaa
open Go.RowKit

theorem numU_snoc (l : List UInt8) (k : Nat) (h : k < l.length) : numU (l.take (k + 1)) = (numU (l.take k) * 256 + (l.getD k 0).toNat) % 4294967296 := by
  rw [List.take_succ_eq_append_getElem h, numU, List.foldl_append]
  simp [numU, List.getD, h]
theorem numU_bd (l : List UInt8) : 0 ≤ numU l ∧ numU l < 4294967296 := by
  unfold numU
  rcases List.eq_nil_or_concat l with rfl | ⟨l', c, rfl⟩
  · simp
  · rw [List.concat_eq_append, List.foldl_append]; simp; omega

theorem or_u32 (a x : Nat) (_ : a < 4294967296) (hx : x < 256) : bits .or .u32 ((a : Int) * 256 % 4294967296) (x : Int) = ((a : Int) * 256 + x) % 4294967296 := by
  have h1 : ((a : Int) * 256 % 4294967296) = ((a * 256 % 4294967296 : Nat) : Int) := by omega
  have h2 : a * 256 % 4294967296 ||| x = a * 256 % 4294967296 + x := by
    have : a * 256 % 4294967296 = 2 ^ 8 * (a % 16777216) := by omega
    rw [this, ← Nat.two_pow_add_eq_or_of_lt (by omega)]
  have h3 : (BitVec.ofInt 32 ((a * 256 % 4294967296 : Nat) : Int) ||| BitVec.ofInt 32 (x : Int)).toNat = a * 256 % 4294967296 + x := by
    rw [BitVec.toNat_or, BitVec.ofInt_natCast, BitVec.ofInt_natCast, BitVec.toNat_ofNat, BitVec.toNat_ofNat, show a * 256 % 4294967296 % 2 ^ 32 = a * 256 % 4294967296 from by omega, show x % 2 ^ 32 = x from Nat.mod_eq_of_lt (by omega), h2]
  rw [h1]
  show IntKind.wrap .u32 ((BitVec.ofInt 32 ((a * 256 % 4294967296 : Nat) : Int) ||| BitVec.ofInt 32 (x : Int)).toNat : Nat) = _
  rw [h3]
  simp [IntKind.wrap, IntKind.bits, IntKind.signed]

theorem or_u32' {a : Int} {x : Nat} (ha : 0 ≤ a ∧ a < 4294967296) (hx : x < 2 ^ 8) : bits .or .u32 (a * 256 % 4294967296) (x : Int) = (a * 256 + x) % 4294967296 := by
  obtain ⟨n, rfl⟩ := Int.eq_ofNat_of_zero_le ha.1
  exact or_u32 n x (by omega) hx

theorem number_any (l : List UInt8) (w : World) (hl : l.length ≤ 140737488355328) : Calls Try.prog 137 #[.string ⟨l.toArray⟩] w fun e w' => e = .returned (.int .i64 (numberOf l)) ∧ Below w.heap.size w w' := by
  have hcv := Lib.run_convert_string_bytes (P := Try.prog) w 9 106 5 ⟨l.toArray⟩ Try.underlying9 Try.underlying106 Try.underlying5
  have hbw : Below w.heap.size w (Lib.bytesWorld w 5 ⟨l.toArray⟩) := bytesWorld_below _ _ _
  have Hc := Lib.hid (Lib.bytesWorld_cell w 5 ⟨l.toArray⟩)
  generalize Lib.bytesWorld w 5 ⟨l.toArray⟩ = w1 at *
  go_enter Try.func137, Try.ntmps137
  go_wp2
  go_loop [3, 5, 9] (fun u _ t => ∃ k : Nat, k ≤ l.length ∧ t = .int .i64 k ∧ u = .int .u32 (numU (l.take k))) (fun _ _ t => l.length - (intOf t).toNat)
  case atStart => exact ⟨0, by omega, rfl, rfl⟩
  case round =>
    obtain ⟨k, hk, rfl, rfl⟩ := hrel
    have hbd := numU_bd (l.take k)
    by_cases hlt : k < l.length
    · have hcell : w1.cell? ⟨w.heap.size, k, none⟩ = some (.int .u8 (l.getD k 0).toNat) := Hc.out k hlt
      have hsn := Lib.hid (numU_snoc l k hlt)
      have hb2 := (l.getD k 0).toNat_lt
      generalize (l.getD k 0).toNat = x at *
      go_wp2
      go_roundw
      case rel => exact ⟨k + 1, by omega, by go_num, by rw [hsn.out, or_u32' hbd hb2]⟩
      case measure => simp [intOf]; omega
    · go_wp2
      go_ret
      rw [List.take_of_length_le (by omega)]
      exact ⟨ret_int (by simp [numberOf, wrap_eq]), (by repeat (first | exact Below.refl _ _ | assumption | refine Below.drew ?_ | refine Below.drewN_ ?_ _ | refine below_alloc ?_ _ | refine below_via (by assumption) ?_ | refine below_set ?_ (by simp <;> omega) _))⟩
end Go.Proofs.Ytjojipeodionmaa
