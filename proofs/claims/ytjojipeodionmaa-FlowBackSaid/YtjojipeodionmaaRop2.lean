import Derived.Test.YtjojipeodionmaaRop1
namespace Go.Proofs.Ytjojipeodionmaa
open Go.RowKit

/-- Bytes as a number, nothing cut off. -/
def numP (l : List UInt8) : Int := l.foldl (fun u c => u * 256 + c.toNat) 0
theorem numP_snoc (l : List UInt8) (k : Nat) (h : k < l.length) : numP (l.take (k + 1)) = numP (l.take k) * 256 + (l[k].toNat : Int) := by
  rw [List.take_succ_eq_append_getElem h, numP, List.foldl_append]
  simp [numP]
theorem numP_bd (l : List UInt8) : 0 ≤ numP l ∧ numP l < 256 ^ l.length := by
  refine snoc_ind (m := fun l => 0 ≤ numP l ∧ numP l < 256 ^ l.length) (by simp [numP]) ?_ l
  · intro l c ih
    have h1 : numP (l ++ [c]) = numP l * 256 + c.toNat := by simp [numP, List.foldl_append]
    have := c.toNat_lt
    rw [h1, List.length_append, List.length_singleton, Int.pow_succ]
    constructor <;> omega
theorem numU_mod (l : List UInt8) : numU l = numP l % 4294967296 := by
  refine snoc_ind (m := fun l => numU l = numP l % 4294967296) (by simp [numP, numU]) ?_ l
  · intro l c ih
    have h1 : numP (l ++ [c]) = numP l * 256 + c.toNat := by simp [numP, List.foldl_append]
    have h2 : numU (l ++ [c]) = (numU l * 256 + c.toNat) % 4294967296 := by simp [numU, List.foldl_append]
    rw [h1, h2, ih]; omega
theorem pow_le4 (n : Nat) (h : n ≤ 4) : (256 : Int) ^ n ≤ 4294967296 := by
  match n, h with
  | 0, _ => decide
  | 1, _ => decide
  | 2, _ => decide
  | 3, _ => decide
  | 4, _ => decide
theorem wrapI_mod (n : Int) : wrapI (n % 4294967296) = wrapI n := by unfold wrapI; omega

set_option maxHeartbeats 400000 in
theorem rnumberAt_any (l : List UInt8) (a : Int) (w : World) (h0 : 0 ≤ a) (h4 : a + 4 ≤ l.length) (hl : l.length ≤ 140737488355320) :
    Calls Try.prog 82 #[.string ⟨l.toArray⟩, .int .i64 a] w fun e w' => e = .returned (.int .i64 (numberOf ((l.drop a.toNat).take 4))) ∧ w = w' := by
  obtain ⟨k, rfl⟩ := Int.eq_ofNat_of_zero_le h0
  rw [Int.toNat_natCast]
  go_enter Try.func82, Try.ntmps82
  go_wp2
  go_loop [5, 6] (fun n i => ∃ j : Nat, j ≤ 4 ∧ i = .int .i64 (k + j : Nat) ∧ n = .int .i64 (numP ((l.drop k).take j))) (fun _ i => k + 4 - (intOf i).toNat)
  case atStart => exact ⟨0, by omega, rfl, rfl⟩
  case round =>
    obtain ⟨j, hj, rfl, rfl⟩ := hrel
    have hb := numP_bd ((l.drop k).take j)
    have hlen : ((l.drop k).take j).length ≤ 4 := by simp; omega
    have hb2 : numP ((l.drop k).take j) < 4294967296 := by
      exact Int.lt_of_lt_of_le hb.2 (pow_le4 _ hlen)
    have hb1 := hb.1
    clear hb hlen
    by_cases hlt : j < 4
    · have hs := numP_snoc (l.drop k) j (by simp; omega)
      rw [List.getElem_drop] at hs
      have Hs := Lib.hid hs; clear hs
      generalize numP ((l.drop k).take j) = x at *
      have hkl : k + j < l.length := by omega
      have hb8 := (l[k + j]'hkl).toNat_lt
      go_wp2
      go_round
      case rel => exact ⟨j + 1, by omega, by go_num, by rw [Hs.out, Int.mul_comm]⟩
      case measure => simp [intOf]; omega
    · have hge : 4 ≤ j := by omega
      clear hlt
      generalize hx : numP ((l.drop k).take j) = x at *
      have Hx := Lib.hid hx; clear hx
      go_wp2_with (go_at_call 29; refine (rwrap_any _ _ ⟨by omega, by omega⟩).mono ?_; rintro e w' ⟨rfl, rfl⟩)
      go_ret
      obtain rfl : j = 4 := by omega
      exact ⟨ret_int (by rw [← Hx.out, numberOf, numU_mod, wrapI_mod]), rfl⟩
end Go.Proofs.Ytjojipeodionmaa
