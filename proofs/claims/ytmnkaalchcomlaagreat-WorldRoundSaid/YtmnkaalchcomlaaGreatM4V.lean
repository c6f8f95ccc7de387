/- Texts of one proof, one behind the other: lemmas alone. -/
import Derived.Test.YtmnkaalchcomlaaGreatRows
import Derived.Deep.QuietTactic
import Derived.BigQuiet
import Derived.Test.YtmnkaalchcomlaaGreatM2V
import Derived.Test.YtmnkaalchcomlaaGreatM1V

-- Op1
namespace Go.Proofs.YtmnkaalchcomlaaGreat
open Go.RowKit
theorem is_any (a : Int) (w : World) : Calls Tryz.prog 140 #[.int .i64 a] w fun e w' => e = .returned (.bool (isCode a)) ∧ w = w' := by
  go_enter Tryz.func140, Tryz.ntmps140
  go_wp2
  all_goals (go_ret; exact ⟨ret_bool (by simp [isCode, *]; try omega), rfl⟩)
theorem int_any (a : Int) (w : World) : Calls Tryz.prog 113 #[.int .i64 a] w fun e w' => e = .returned (.bool (isInt a)) ∧ w = w' := by
  go_enter Tryz.func113, Tryz.ntmps113
  go_wp2
  all_goals (go_ret; exact ⟨ret_bool (by simp [isInt, *]; try omega), rfl⟩)

def findI (l : List Int) (v : Int) : Int := match l.findIdx? (· == v) with | some i => i | none => -1
theorem findI_at {l : List Int} {v : Int} {k : Nat} (hk : k < l.length) (hv : (v == l[k]?.getD 0) = true) (hne : ∀ j, j < k → l.getD j 0 ≠ v) : findI l v = k := by
 have hv' : l[k] = v := by simp [hk] at hv; exact hv.symm
 have : l.findIdx? (· == v) = some k := by
  rw [List.findIdx?_eq_some_iff_getElem]
  refine ⟨hk, by simp [hv'], fun j hj => ?_⟩
  have := hne j hj
  rw [List.getD_eq_getElem?_getD, List.getElem?_eq_getElem (by omega)] at this
  simpa using this
 simp [findI, this]
theorem findI_none {l : List Int} {v : Int} {k : Nat} (hk : ¬ k < l.length) (hne : ∀ j, j < k → l.getD j 0 ≠ v) : findI l v = -1 := by
 have : l.findIdx? (· == v) = none := by
  rw [List.findIdx?_eq_none_iff]
  intro x hx
  obtain ⟨j, hj, rfl⟩ := List.getElem_of_mem hx
  have := hne j (by omega)
  rw [List.getD_eq_getElem?_getD, List.getElem?_eq_getElem (by omega)] at this
  simpa using this
 simp [findI, this]
theorem ne_snoc {l : List Int} {v : Int} {k : Nat} (hne : ∀ j, j < k → l.getD j 0 ≠ v) (h : (v == l[k]?.getD 0) = false) : ∀ j, j < k + 1 → l.getD j 0 ≠ v := by
 intro j hj
 rcases Nat.lt_succ_iff_lt_or_eq.1 hj with h1 | rfl
 ·exact hne j h1
 ·simp at h; simpa using fun e => h e.symm
theorem findI_ge {l : List Int} {v : Int} : decide (0 ≤ findI l v) = l.contains v := by
 unfold findI
 cases h : l.findIdx? (· == v) with
 | none => rw [List.findIdx?_eq_none_iff] at h; simp; intro hm; simpa using h v hm
 | some i => rw [List.findIdx?_eq_some_iff_getElem] at h; obtain ⟨h1, h2, _⟩ := h; simp at h2 ⊢; rw [← h2]; exact List.getElem_mem _
set_option maxHeartbeats 400000 in
theorem index_int (v : Value) (l : List Int) (x : Int) (w : World) (hs : Sl w v l) :
    Calls Tryz.prog 151 #[v, .int .i64 x] w fun e w' => e = .returned (.int .i64 (findI l x)) ∧ w = w' := by
  obtain ⟨A, c, rfl, hlc, hc, hl⟩ := hs.form
  generalize hL : l.length = L at *
  have HL := Lib.hid hL; clear hL
  go_enter Tryz.func151, Tryz.ntmps151
  go_wp2
  go_loop [5, 8] (fun _ t => ∃ k : Nat, k ≤ L ∧ t = .int .i64 k ∧ ∀ j, j < k → l.getD j 0 ≠ x) (fun _ t => L - (intOf t).toNat)
  case atStart => exact ⟨0, by omega, rfl, by omega⟩
  case round =>
    obtain ⟨k, hk, rfl, hne⟩ := hrel
    have Hne := Lib.hid hne; clear hne
    by_cases hlt : k < L
    · obtain ⟨b, off, rfl, hb, hcell, hi⟩ := hs.int_at hlt
      go_wp2
      · go_ret
        exact ⟨ret_int (findI_at (by rw [HL.out]; exact hlt) (by assumption) Hne.out).symm, rfl⟩
      · go_round
        case rel => exact ⟨k + 1, by omega, by go_num, ne_snoc Hne.out (by assumption)⟩
        case measure => simp [intOf]; omega
    · go_wp2
      go_ret
      exact ⟨ret_int (findI_none (by rw [HL.out]; exact hlt) Hne.out).symm, rfl⟩

theorem contains_int (v : Value) (l : List Int) (x : Int) (w : World) (hs : Sl w v l) :
    Calls Tryz.prog 180 #[v, .int .i64 x] w fun e w' => e = .returned (.bool (l.contains x)) ∧ w = w' := by
  go_enter Tryz.func180, Tryz.ntmps180
  go_wp2_with (go_at_call 151; refine (index_int _ _ _ _ hs).mono ?_; rintro e w' ⟨rfl, rfl⟩)
  go_ret
  exact ⟨ret_bool findI_ge, rfl⟩

theorem names_any (a : Int) (w : World) : Calls Tryz.prog 141 #[.int .i64 a] w fun e w' => e = .returned (.bool (names a)) ∧ Below w.heap.size w w' := by
  have hs := fun T => Sl.lit_int w T [1, 8, 9, 10, 11, 12] (by simp [I64]) (by simp)
  go_enter Tryz.func141, Tryz.ntmps141
  go_wp2_with (go_at_call 180; refine (contains_int _ _ _ _ (hs _)).mono ?_; rintro e w' ⟨rfl, rfl⟩)
  go_ret
  exact ⟨ret_bool (by simp [names]), (by repeat (first | exact Below.refl _ _ | assumption | refine Below.drew ?_ | refine Below.drewN_ ?_ _ | refine below_alloc ?_ _ | refine below_via (by assumption) ?_ | refine below_set ?_ (by simp <;> omega) _))⟩

theorem check_any (o : MOp) (w : World) : Calls Tryz.prog 101 #[.agg #[.int .i64 o.c, .int .i64 o.a]] w fun e w' => e = .returned (.int .i64 (checkOp o)) ∧ Below w.heap.size w w' := by
  go_enter Tryz.func101, Tryz.ntmps101
  go_wp2_with (first
    | (go_at_call 140; refine (is_any _ _).mono ?_; rintro e w' ⟨rfl, rfl⟩)
    | (go_at_call 113; refine (int_any _ _).mono ?_; rintro e w' ⟨rfl, rfl⟩)
    | (go_at_call 141; refine (names_any _ _).mono ?_; rintro e w' ⟨rfl, hb⟩; obtain ⟨hc, hf⟩ := bcell hb))
  all_goals (go_ret; exact ⟨ret_int (by simp_all [checkOp]), (by repeat (first | exact Below.refl _ _ | assumption | refine Below.drew ?_ | refine Below.drewN_ ?_ _ | refine below_alloc ?_ _ | refine below_via (by assumption) ?_ | refine below_set ?_ (by simp <;> omega) _))⟩)

theorem wrap_eq (a : Int) : wrap64 (wrap32 a) = wrapI a := by unfold wrap64 wrap32 wrapI; omega
theorem wrap_any (a : Int) (w : World) : Calls Tryz.prog 48 #[.int .i64 a] w fun e w' => e = .returned (.int .i64 (wrapI a)) ∧ w = w' := by
  go_enter Tryz.func48, Tryz.ntmps48
  go_wp2
  go_ret
  exact ⟨ret_int (by simp [wrap_eq]), rfl⟩

theorem wrap32_mod (a : Int) : wrap32 a % 4294967296 = a % 4294967296 := by unfold wrap32; omega
theorem wrap32_mod256 (a : Int) : wrap32 a % 256 = a % 256 := by unfold wrap32; omega
theorem four_any (a : Int) (w : World) : Calls Tryz.prog 152 #[.int .i64 a] w fun e w' => e = .returned (.string ⟨(fourOf a).toArray⟩) ∧ Below w.heap.size w w' := by
  have hcv := fun (x0 x1 x2 x3 : Int) => run_convert_bytes_arg (P := Tryz.prog) (w.alloc (.cells #[.int .u8 x0, .int .u8 x1, .int .u8 x2, .int .u8 x3] 5)) 144 5 Tryz.underlying144 Tryz.underlying5 w.heap.size 0 4 4 [x0, x1, x2, x3] rfl
    (by intro i hi; match i, hi with | 0, _ => simp | 1, _ => simp | 2, _ => simp | 3, _ => simp) 9 Tryz.underlying9
  go_enter Tryz.func152, Tryz.ntmps152
  go_wp2
  go_ret
  exact ⟨ret_str (by simp [fourOf, wrap32_mod, wrap32_mod256]), (by repeat (first | exact Below.refl _ _ | assumption | refine Below.drew ?_ | refine Below.drewN_ ?_ _ | refine below_alloc ?_ _ | refine below_via (by assumption) ?_ | refine below_set ?_ (by simp <;> omega) _))⟩
end Go.Proofs.YtmnkaalchcomlaaGreat
-- Op2
namespace Go.Proofs.YtmnkaalchcomlaaGreat
open Go.RowKit
theorem numU_snoc (l : List UInt8) (k : Nat) (h : k < l.length) : numU (l.take (k + 1)) = (numU (l.take k) * 256 + (l.getD k 0).toNat) % 4294967296 := by
 rw [List.take_succ_eq_append_getElem h, numU, List.foldl_append]
 simp [numU, List.getD, h]
theorem numU_bd (l : List UInt8) : 0 ≤ numU l ∧ numU l < 4294967296 := by
 unfold numU
 rcases List.eq_nil_or_concat l with rfl | ⟨l', c, rfl⟩
 ·simp
 ·rw [List.concat_eq_append, List.foldl_append]; simp; omega
theorem or_u32 (a x : Nat) (_ : a < 4294967296) (hx : x < 256) : bits .or .u32 ((a : Int) * 256 % 4294967296) (x : Int) = ((a : Int) * 256 + x) % 4294967296 := by
 have h1 : ((a : Int) * 256 % 4294967296) = ((a * 256 % 4294967296 : Nat) : Int) := by omega
 have h2 : a * 256 % 4294967296 ||| x = a * 256 % 4294967296 + x := by
  have : a * 256 % 4294967296 = 2 ^ 8 * (a % 16777216) := by omega
  rw [this, ← Nat.two_pow_add_eq_or_of_lt (by omega)]
 have h3 : (BitVec.ofInt 32 ((a * 256 % 4294967296 : Nat) : Int) ||| BitVec.ofInt 32 (x : Int)).toNat = a * 256 % 4294967296 + x := by
  rw [BitVec.toNat_or, BitVec.ofInt_natCast, BitVec.ofInt_natCast, BitVec.toNat_ofNat, BitVec.toNat_ofNat, show a * 256 % 4294967296 % 2 ^ 32 = a * 256 % 4294967296 from by omega, show x % 2 ^ 32 = x from Nat.mod_eq_of_lt (by omega), h2]
 rw [h1]
 show IntKind.wrap .u32 ((BitVec.ofInt 32 ((a * 256 % 4294967296 : Nat) : Int) ||| BitVec.ofInt 32 (x : Int)).toNat : Nat) = _
 rw [h3]
 simp [IntKind.wrap, IntKind.bits, IntKind.signed]
theorem or_u32' {a : Int} {x : Nat} (ha : 0 ≤ a ∧ a < 4294967296) (hx : x < 2 ^ 8) : bits .or .u32 (a * 256 % 4294967296) (x : Int) = (a * 256 + x) % 4294967296 := by
 obtain ⟨n, rfl⟩ := Int.eq_ofNat_of_zero_le ha.1
 exact or_u32 n x (by omega) hx
theorem number_any (l : List UInt8) (w : World) (hl : l.length ≤ 140737488355328) : Calls Tryz.prog 196 #[.string ⟨l.toArray⟩] w fun e w' => e = .returned (.int .i64 (numberOf l)) ∧ Below w.heap.size w w' := by
  have hcv := Lib.run_convert_string_bytes (P := Tryz.prog) w 9 144 5 ⟨l.toArray⟩ Tryz.underlying9 Tryz.underlying144 Tryz.underlying5
  have hbw : Below w.heap.size w (Lib.bytesWorld w 5 ⟨l.toArray⟩) := bytesWorld_below _ _ _
  have Hc := Lib.hid (Lib.bytesWorld_cell w 5 ⟨l.toArray⟩)
  generalize Lib.bytesWorld w 5 ⟨l.toArray⟩ = w1 at *
  go_enter Tryz.func196, Tryz.ntmps196
  go_wp2
  go_loop [3, 5, 9] (fun u _ t => ∃ k : Nat, k ≤ l.length ∧ t = .int .i64 k ∧ u = .int .u32 (numU (l.take k))) (fun _ _ t => l.length - (intOf t).toNat)
  case atStart => exact ⟨0, by omega, rfl, rfl⟩
  case round =>
    obtain ⟨k, hk, rfl, rfl⟩ := hrel
    have hbd := numU_bd (l.take k)
    by_cases hlt : k < l.length
    · have hcell : w1.cell? ⟨w.heap.size, k, none⟩ = some (.int .u8 (l.getD k 0).toNat) := Hc.out k hlt
      have hsn := Lib.hid (numU_snoc l k hlt)
      have hb2 := (l.getD k 0).toNat_lt
      generalize (l.getD k 0).toNat = x at *
      go_wp2
      go_roundw
      case rel => exact ⟨k + 1, by omega, by go_num, by rw [hsn.out, or_u32' hbd hb2]⟩
      case measure => simp [intOf]; omega
    · go_wp2
      go_ret
      rw [List.take_of_length_le (by omega)]
      exact ⟨ret_int (by simp [numberOf, wrap_eq]), (by repeat (first | exact Below.refl _ _ | assumption | refine Below.drew ?_ | refine Below.drewN_ ?_ _ | refine below_alloc ?_ _ | refine below_via (by assumption) ?_ | refine below_set ?_ (by simp <;> omega) _))⟩
end Go.Proofs.YtmnkaalchcomlaaGreat
-- Op3
namespace Go.Proofs.YtmnkaalchcomlaaGreat
open Go.RowKit
instance : Rep MOp where
 k := 2
 rep _ _ cs o := cs = [.int .i64 o.c, .int .i64 o.a] ∧ I64 o.c ∧ I64 o.a
 len h := by rw [h.1]; rfl
 keep h _ := h
 more h _ := h
 one h := by rw [h.1]; simp [Value.oneCell']
theorem Sl.op_at {w : World} {A : Option Addr} {n c k : Nat} {xs : List MOp} (h : Sl w (.slice A n c) xs) (hk : k < n) :
  ∃ b off o, A = some ⟨b, off, none⟩ ∧ b < w.heap.size ∧ xs[k]? = some o ∧ w.cell? ⟨b, off + k * 2, none⟩ = some (.int .i64 o.c) ∧ w.cell? ⟨b, off + k * 2 + 1, none⟩ = some (.int .i64 o.a) ∧ I64 o.c ∧ I64 o.a := by
 have hl := SlB.len_eq h
 have hx : xs[k]? = some (xs[k]'(by omega)) := List.getElem?_eq_getElem (by omega)
 obtain ⟨b, off, cs, hA, hb, ⟨hcs, hi⟩, hj⟩ := SlB.at_ h hk _ hx
 subst hcs
 exact ⟨b, off, _, hA, hb, hx, hj 0 _ rfl, hj 1 _ rfl, hi⟩
theorem checkOps_snoc {l : List MOp} {k : Nat} {o : MOp} (hk : l[k]? = some o) (h : checkOps (l.take k) = 0) : checkOps (l.take (k + 1)) = checkOp o := by
 induction l generalizing k with
 | nil => simp at hk
 | cons a l ih =>
  cases k with
  | zero => simp at hk; subst hk; simp [checkOps]; omega
  | succ k =>
   simp only [List.take_succ_cons, checkOps] at h ⊢
   have ha : checkOp a = 0 := by
    by_cases e : checkOp a = 0
    ·exact e
    ·rw [if_pos (by simpa using e)] at h; exact absurd h e
   rw [if_neg (by simp [ha])] at h ⊢
   exact ih (by simpa using hk) h
theorem checkOps_of {l : List MOp} {k : Nat} (h : checkOps (l.take k) ≠ 0) : checkOps l = checkOps (l.take k) := by
 induction l generalizing k with
 | nil => simp
 | cons a l ih =>
  cases k with
  | zero => simp [checkOps] at h
  | succ k =>
   simp only [List.take_succ_cons, checkOps] at h ⊢
   split
   ·rfl
   ·rename_i e; rw [if_neg e] at h; exact ih h
theorem codeErr_of {l : List MOp} {k : Nat} {o : MOp} (hl : l.length ≤ 40) (hk : l[k]? = some o) (h : checkOps (l.take k) = 0) (hne : (checkOp o != 0) = true) : checkOp o = codeErr l := by
 have h1 := checkOps_snoc hk h
 have h2 := checkOps_of (l := l) (k := k + 1) (by rw [h1]; simpa using hne)
 rw [codeErr, if_neg (by omega), h2, h1]
theorem codeErr_ok {l : List MOp} (hl : l.length ≤ 40) (h : checkOps l = 0) : (0 : Int) = codeErr l := by rw [codeErr, if_neg (by omega), h]
set_option maxHeartbeats 400000 in
theorem code_any (v : Value) (l : List MOp) (w : World) (hs : Sl w v l) :
    Calls Tryz.prog 142 #[v] w fun e w' => e = .returned (.int .i64 (codeErr l)) ∧ Below w.heap.size w w' := by
  obtain ⟨A, c, rfl, hlc, hc, hl⟩ := hs.form
  go_enter Tryz.func142, Tryz.ntmps142
  go_wp2
  · go_ret
    exact ⟨ret_int (by simp [codeErr]; omega), (by repeat (first | exact Below.refl _ _ | assumption | refine Below.drew ?_ | refine Below.drewN_ ?_ _ | refine below_alloc ?_ _ | refine below_via (by assumption) ?_ | refine below_set ?_ (by simp <;> omega) _))⟩
  go_loopw [11] (fun t wr => ∃ k : Nat, k ≤ l.length ∧ t = .int .i64 k ∧ Below w.heap.size w wr ∧ checkOps (l.take k) = 0) (fun t _ => l.length - (intOf t).toNat)
  case atStart => exact ⟨0, by omega, rfl, (by repeat (first | exact Below.refl _ _ | assumption | refine Below.drew ?_ | refine Below.drewN_ ?_ _ | refine below_alloc ?_ _ | refine below_via (by assumption) ?_ | refine below_set ?_ (by simp <;> omega) _)), by simp [checkOps]⟩
  case round =>
    obtain ⟨k, hk, rfl, hbl, hck⟩ := hrel
    have Hck := Lib.hid hck; clear hck
    have hs' := hs.via hbl
    by_cases hlt : k < l.length
    · obtain ⟨b, off, o, rfl, hb, ho, hc0, hc1, hi0, hi1⟩ := hs'.op_at hlt
      have Ho := Lib.hid ho; clear ho
      have hsz := hbl.size
      go_wp2_with (go_at_call 101; refine (check_any o _).mono ?_; rintro e w' ⟨rfl, hb⟩)
      · go_ret
        exact ⟨ret_int (codeErr_of (by omega) Ho.out Hck.out (by assumption)), (by repeat (first | exact Below.refl _ _ | assumption | refine Below.drew ?_ | refine Below.drewN_ ?_ _ | refine below_alloc ?_ _ | refine below_via (by assumption) ?_ | refine below_set ?_ (by simp <;> omega) _))⟩
      · go_roundw
        case rel => exact ⟨k + 1, by omega, by go_num, (by repeat (first | exact Below.refl _ _ | assumption | refine Below.drew ?_ | refine Below.drewN_ ?_ _ | refine below_alloc ?_ _ | refine below_via (by assumption) ?_ | refine below_set ?_ (by simp <;> omega) _)), by rw [checkOps_snoc Ho.out Hck.out]; simp_all⟩
        case measure => simp [intOf]; omega
    · go_wp2
      go_ret
      exact ⟨ret_int (codeErr_ok (by omega) (by rw [← Hck.out, List.take_of_length_le (by omega)])), (by repeat (first | exact Below.refl _ _ | assumption | refine Below.drew ?_ | refine Below.drewN_ ?_ _ | refine below_alloc ?_ _ | refine below_via (by assumption) ?_ | refine below_set ?_ (by simp <;> omega) _))⟩
end Go.Proofs.YtmnkaalchcomlaaGreat
-- Op5
namespace Go.Proofs.YtmnkaalchcomlaaGreat
open Go.RowKit
theorem cut_any (l : List UInt8) (n : Int) (w : World) (h0 : 0 ≤ n) (_ : l.length ≤ 140737488355328) :
    Calls Tryz.prog 217 #[.string ⟨l.toArray⟩, .int .i64 n] w fun e w' => e = .returned (.tuple #[.string ⟨(cutB l n).1.toArray⟩, .string ⟨(cutB l n).2.1.toArray⟩, .bool (cutB l n).2.2]) ∧ Below w.heap.size w w' := by
  by_cases h : (l.length : Int) < n
  · go_enter Tryz.func217, Tryz.ntmps217
    go_wp2
    go_ret3
    exact ⟨by simp [cutB, h], (by repeat (first | exact Below.refl _ _ | assumption | refine Below.drew ?_ | refine Below.drewN_ ?_ _ | refine below_alloc ?_ _ | refine below_via (by assumption) ?_ | refine below_set ?_ (by simp <;> omega) _))⟩
  · go_enter Tryz.func217, Tryz.ntmps217
    go_wp2
    go_quiet (fail)
    go_wp2
    go_ret3
    exact ⟨by rw [cutB, if_neg (by omega)]; simp [List.take_of_length_le], (by repeat (first | exact Below.refl _ _ | assumption | refine Below.drew ?_ | refine Below.drewN_ ?_ _ | refine below_alloc ?_ _ | refine below_via (by assumption) ?_ | refine below_set ?_ (by simp <;> omega) _))⟩

theorem cutB_len (l : List UInt8) (n : Int) : (cutB l n).1.length ≤ l.length := by unfold cutB; split <;> simp; omega
theorem first_any (b : UInt8) (l : List UInt8) (w : World) (hl : l.length ≤ 140737488355320) :
    Calls Tryz.prog 182 #[.string ⟨(b :: l).toArray⟩] w fun e w' => e = .returned (.tuple #[.agg #[.int .i64 (firstOp b l).1.c, .int .i64 (firstOp b l).1.a], .string ⟨(firstOp b l).2.1.toArray⟩, .bool (firstOp b l).2.2]) ∧ Below w.heap.size w w' := by
  go_enter Tryz.func182, Tryz.ntmps182
  go_wp2_with (first
       | (go_at_call 140; refine (is_any _ _).mono ?_; rintro e w' ⟨rfl, rfl⟩)
       | (go_at_call 141; refine (names_any _ _).mono ?_; rintro e w' ⟨rfl, hb⟩; obtain ⟨hc, hf⟩ := bcell hb; have hz0 : w.heap.size < w'.heap.size := (by have := hb.size; (try simp at this); omega); have hz1 : w.heap.size + 1 < w'.heap.size := (by have := hb.size; (try simp at this); omega))
       | (go_at_call 217; refine (cut_any _ _ _ (by omega) (by omega)).mono ?_; rintro e w' ⟨rfl, hb⟩; obtain ⟨hc, hf⟩ := bcell hb; have hz0 : w.heap.size < w'.heap.size := (by have := hb.size; (try simp at this); omega); have hz1 : w.heap.size + 1 < w'.heap.size := (by have := hb.size; (try simp at this); omega))
       | (go_at_call 196; refine (number_any _ _ (by have := cutB_len l 4; omega)).mono ?_; rintro e w' ⟨rfl, hb⟩; obtain ⟨hc, hf⟩ := bcell hb; have hz0 : w.heap.size < w'.heap.size := (by have := hb.size; (try simp at this); omega); have hz1 : w.heap.size + 1 < w'.heap.size := (by have := hb.size; (try simp at this); omega)))
  all_goals
    exact bodyPost_ret (v := .tuple #[.agg #[.int .i64 (firstOp b l).1.c, .int .i64 (firstOp b l).1.a], .string ⟨(firstOp b l).2.1.toArray⟩, .bool (firstOp b l).2.2])
      (by unfold results; rw [Tryz.results182]; go_simp; simp_all [firstOp]) rfl ⟨rfl, (by repeat (first | exact Below.refl _ _ | assumption | refine Below.drew ?_ | refine Below.drewN_ ?_ _ | refine below_alloc ?_ _ | refine below_via (by assumption) ?_ | refine below_set ?_ (by simp <;> omega) _))⟩
end Go.Proofs.YtmnkaalchcomlaaGreat
