import Derived.Test.YtjjepfkigmdjoaaRop4
namespace Go.Proofs.Ytjjepfkigmdjoaa
open Go.RowKit

theorem dec_at {l : List UInt8} {k : Nat} {out : List MOp} (hlt : k < l.length) (hd : decodeGo (l.drop k).length (l.drop k) out = decodeOps l) : decodeOps l = decodeGo (l[k] :: l.drop (k + 1)).length (l[k] :: l.drop (k + 1)) out := by
  rw [← hd, List.drop_eq_getElem_cons hlt]
theorem is_of {b : UInt8} (h : (!decide ((1 : Int) ≤ b.toNat)) = false ∧ (!decide ((b.toNat : Int) ≤ 21)) = false) : isCode b.toNat = true := by
  simp only [isCode]; simp_all
theorem dec_bad {l : List UInt8} {k : Nat} {out : List MOp} (hlt : k < l.length) (hd : decodeGo (l.drop k).length (l.drop k) out = decodeOps l) (h : (!decide ((1 : Int) ≤ l[k].toNat)) = true ∨ (!decide ((l[k].toNat : Int) ≤ 21)) = true) : decodeOps l = ([], 1) := by
  rw [dec_at hlt hd]
  generalize l[k] = b at *
  generalize l.drop (k + 1) = r at *
  have h1 : isCode b.toNat = false := by simp only [isCode]; rcases h with h | h <;> simp at h ⊢ <;> omega
  simp [decodeGo, firstOp, h1]
theorem dec_short {l : List UInt8} {k : Nat} {out : List MOp} (hlt : k < l.length) (hd : decodeGo (l.drop k).length (l.drop k) out = decodeOps l) (h : (!decide ((1 : Int) ≤ l[k].toNat)) = false ∧ (!decide ((l[k].toNat : Int) ≤ 21)) = false) (hn : names l[k].toNat = true) (h4 : (l.length : Int) < k + 1 + 4) : decodeOps l = ([], 1) := by
  rw [dec_at hlt hd]
  have hc := is_of h
  have hr : ((l.drop (k + 1)).length : Int) < 4 := by simp; omega
  generalize l[k] = b at *
  generalize l.drop (k + 1) = r at *
  simp [decodeGo, firstOp, hc, hn, cutB, hr]
theorem dec_many {l : List UInt8} {k : Nat} {out : List MOp} (hlt : k < l.length) (hd : decodeGo (l.drop k).length (l.drop k) out = decodeOps l) (h : (!decide ((1 : Int) ≤ l[k].toNat)) = false ∧ (!decide ((l[k].toNat : Int) ≤ 21)) = false) (hn : names l[k].toNat = true ∧ (k : Int) + 1 + 4 ≤ l.length ∨ names l[k].toNat = false) (h40 : ((out.length : Int) == 40) = true) : decodeOps l = ([], 2) := by
  have h41 : (out.length == 40) = true := by simp at h40 ⊢; omega
  rw [dec_at hlt hd]
  have hc := is_of h
  rcases hn with ⟨hn, h4⟩ | hn
  · have hr : ¬ ((l.drop (k + 1)).length : Int) < 4 := by simp; omega
    generalize l[k] = b at *
    generalize l.drop (k + 1) = r at *
    have hcut : cutB r 4 = (r.take 4, r.drop 4, true) := by unfold cutB; rw [if_neg hr]; rfl
    simp [decodeGo, firstOp, hc, hn, hcut, h41]
  · generalize l[k] = b at *
    generalize l.drop (k + 1) = r at *
    simp [decodeGo, firstOp, hc, hn, h41]
theorem dec_long {l : List UInt8} {k : Nat} {out : List MOp} (hlt : k < l.length) (hd : decodeGo (l.drop k).length (l.drop k) out = decodeOps l) (h : (!decide ((1 : Int) ≤ l[k].toNat)) = false ∧ (!decide ((l[k].toNat : Int) ≤ 21)) = false) (hn : names l[k].toNat = true) (h4 : (k : Int) + 1 + 4 ≤ l.length) (h40 : ((out.length : Int) == 40) = false) :
    decodeGo (l.drop (k + 5)).length (l.drop (k + 5)) (out ++ [⟨l[k].toNat, numberOf ((l.drop (k + 1)).take 4)⟩]) = decodeOps l := by
  have h41 : (out.length == 40) = false := by simp at h40 ⊢; omega
  have hr : ¬ ((l.drop (k + 1)).length : Int) < 4 := by simp; omega
  have hf : firstOp l[k] (l.drop (k + 1)) = (⟨l[k].toNat, numberOf ((l.drop (k + 1)).take 4)⟩, (l.drop (k + 1)).drop 4, true) := by
    have hc := is_of h
    generalize l[k] = b at *
    generalize l.drop (k + 1) = r at *
    have hcut : cutB r 4 = (r.take 4, r.drop 4, true) := by unfold cutB; rw [if_neg hr]; rfl
    simp [firstOp, hc, hn, hcut]
  rw [dec_at hlt hd, decodeGo_step (by rw [hf]) h41, hf, List.drop_drop]
theorem dec_plain {l : List UInt8} {k : Nat} {out : List MOp} (hlt : k < l.length) (hd : decodeGo (l.drop k).length (l.drop k) out = decodeOps l) (h : (!decide ((1 : Int) ≤ l[k].toNat)) = false ∧ (!decide ((l[k].toNat : Int) ≤ 21)) = false) (hn : names l[k].toNat = false) (h40 : ((out.length : Int) == 40) = false) :
    decodeGo (l.drop (k + 1)).length (l.drop (k + 1)) (out ++ [⟨l[k].toNat, 0⟩]) = decodeOps l := by
  have h41 : (out.length == 40) = false := by simp at h40 ⊢; omega
  have hf : firstOp l[k] (l.drop (k + 1)) = (⟨l[k].toNat, 0⟩, l.drop (k + 1), true) := by
    simp [firstOp, is_of h, hn]
  rw [dec_at hlt hd, decodeGo_step (by rw [hf]) h41, hf]
theorem below_app {a W w2 : World} {e : TypeId} {size n : Nat} {v : Value} {xs : List Value} (h : Below a.heap.size a W) (ho : W.ownsRow a.heap.size e size v n xs) (hg : W.grownBy w2 v.ownBlock) : Below a.heap.size a w2 :=
  h.grown hg h.size (fun k hk => (ho.lt k hk).1)
theorem len40 {out : List MOp} {x : MOp} (h : ((out.length : Int) == 40) = false) (h40 : out.length ≤ 40) : (out ++ [x]).length ≤ 40 := by
  simp at h ⊢; omega
theorem ret_dec {l : List UInt8} {out : List MOp} {e : Int} {v : Value} (h : decodeOps l = (out, e)) : Ending.returned (.tuple #[v, .int .i64 e]) = .returned (.tuple #[v, .int .i64 (decodeOps l).2]) := by rw [h]
theorem own_dec {W : World} {base : Nat} {l : List UInt8} {e : Int} (h : decodeOps l = ([], e)) : W.ownsRow base 23 2 (.slice none 0 0) (decodeOps l).1.length ((decodeOps l).1.flatMap opCells) := by rw [h]; exact World.ownsRow_nil _ _ _ _

set_option maxHeartbeats 1000000 in
theorem rcodeOf_any (l : List UInt8) (w : World) (hl : l.length ≤ 140737488355320) :
    Calls Try.prog 10 #[.string ⟨l.toArray⟩] w fun e w' => ∃ v, e = .returned (.tuple #[v, .int .i64 (decodeOps l).2]) ∧ Below w.heap.size w w' ∧ w'.ownsRow w.heap.size 23 2 v (decodeOps l).1.length ((decodeOps l).1.flatMap opCells) := by
  go_enter Try.func10, Try.ntmps10
  go_wp2
  go_loopw [4, 5] (fun v t wr => ∃ (k : Nat) (out : List MOp), k ≤ l.length ∧ t = .int .i64 k ∧ Below w.heap.size w wr ∧ wr.ownsRow w.heap.size 23 2 v out.length (out.flatMap opCells) ∧ decodeGo (l.drop k).length (l.drop k) out = decodeOps l ∧ out.length ≤ 40) (fun _ t _ => l.length - (intOf t).toNat)
  case atStart => exact ⟨0, [], by omega, rfl, (by repeat (first | exact Below.refl _ _ | assumption | refine Below.drew ?_ | refine Below.drewN_ ?_ _ | refine below_alloc ?_ _ | refine below_via (by assumption) ?_ | refine below_set ?_ (by simp <;> omega) _)), by simpa using World.ownsRow_nil _ _ _ _, rfl, by simp⟩
  case round =>
    obtain ⟨k, out, hk, rfl, hbl, hown, hd, h40⟩ := hrel
    obtain ⟨A, cap, rfl⟩ := own_form hown
    have Hd := Lib.hid hd; clear hd
    by_cases hlt : k < l.length
    · have hdr : l.drop k = l[k] :: l.drop (k + 1) := List.drop_eq_getElem_cons hlt
      have Hdr := Lib.hid hdr; clear hdr
      have hb8 := (l[k]'hlt).toNat_lt
      have hlr : (l.drop (k + 1)).length = l.length - (k + 1) := by simp
      have Hlr := Lib.hid hlr; clear hlr
      have hsz := hbl.size
      obtain ⟨i0, hi, hz0, hz1, hz2⟩ := info_parts Try.infoOp
      go_wp2_with (first
        | (go_at_call 22; refine (rbetween_any _ _ _ _).mono ?_; rintro e w' ⟨rfl, rfl⟩)
        | (go_at_call 20; refine (rhasA_any _ _).mono ?_; rintro e w' ⟨rfl, rfl⟩)
        | (go_at_call 23; refine (rnumberAt_any l _ _ (by omega) (by omega) hl).mono ?_; rintro e w' ⟨rfl, rfl⟩)
        | (at_builtin; refine mk_in ?_))
      · go_ret2
        exact ⟨_, ret_dec (dec_bad hlt Hd.out (by assumption)), (by repeat (first | exact Below.refl _ _ | assumption | refine Below.drew ?_ | refine Below.drewN_ ?_ _ | refine below_alloc ?_ _ | refine below_via (by assumption) ?_ | refine below_set ?_ (by simp <;> omega) _)), own_dec (dec_bad hlt Hd.out (by assumption))⟩
      · go_ret2
        exact ⟨_, ret_dec (dec_short hlt Hd.out (by assumption) (by assumption) (by assumption)), (by repeat (first | exact Below.refl _ _ | assumption | refine Below.drew ?_ | refine Below.drewN_ ?_ _ | refine below_alloc ?_ _ | refine below_via (by assumption) ?_ | refine below_set ?_ (by simp <;> omega) _)), own_dec (dec_short hlt Hd.out (by assumption) (by assumption) (by assumption))⟩
      · go_ret2
        exact ⟨_, ret_dec (dec_many hlt Hd.out (by assumption) (.inl ⟨by assumption, by assumption⟩) (by assumption)), (by repeat (first | exact Below.refl _ _ | assumption | refine Below.drew ?_ | refine Below.drewN_ ?_ _ | refine below_alloc ?_ _ | refine below_via (by assumption) ?_ | refine below_set ?_ (by simp <;> omega) _)), own_dec (dec_many hlt Hd.out (by assumption) (.inl ⟨by assumption, by assumption⟩) (by assumption))⟩
      · unfold MkD
        have Hn := Lib.hid (dec_long hlt Hd.out (by assumption) (by assumption) (by assumption) (by assumption))
        have Hk5 := Lib.hid (show (k : Int) + 1 + 4 ≤ l.length by assumption)
        refine wpList_append_own _ rfl _ _ 24 rfl w.heap.size 23 i0 (.agg #[.int .i64 0, .int .i64 0]) 2 16 Try.underlying24 hi hz0 hz1 hz2 rfl (by decide) _ _ _ rfl ((hown.alloc _).alloc _) ⟨wr.heap.size + 1, 0, none⟩ 1 1 (opCells ⟨l[k].toNat, numberOf ((l.drop (k + 1)).take 4)⟩) rfl rfl (by have := cell_two_new (wr.alloc (.cells #[.int .i64 l[k].toNat, .int .i64 (numberOf ((l.drop (k + 1)).take 4))] 23)) (.int .i64 l[k].toNat) (.int .i64 (numberOf ((l.drop (k + 1)).take 4))) 23; rwa [World.size_alloc] at this)
          (by simp [opCells, Value.oneCell']) (by unfold maxLen; omega) (by omega) (by simp; omega) ?_
        intro v' w2 hown' hgrow _
        go_wp2
        go_roundw
        case rel => exact ⟨k + 5, out ++ [⟨l[k].toNat, numberOf ((l.drop (k + 1)).take 4)⟩], by have := Hk5.out; omega, by go_num, below_app (below_alloc (below_alloc hbl _) _) ((hown.alloc _).alloc _) hgrow, by rw [List.length_append, List.flatMap_append]; simpa using hown', Hn.out, len40 (by assumption) h40⟩
        case measure => simp [intOf]; omega
      · go_ret2
        exact ⟨_, ret_dec (dec_many hlt Hd.out (by assumption) (.inr (by assumption)) (by assumption)), (by repeat (first | exact Below.refl _ _ | assumption | refine Below.drew ?_ | refine Below.drewN_ ?_ _ | refine below_alloc ?_ _ | refine below_via (by assumption) ?_ | refine below_set ?_ (by simp <;> omega) _)), own_dec (dec_many hlt Hd.out (by assumption) (.inr (by assumption)) (by assumption))⟩
      · unfold MkD
        have Hn := Lib.hid (dec_plain hlt Hd.out (by assumption) (by assumption) (by assumption))
        refine wpList_append_own _ rfl _ _ 24 rfl w.heap.size 23 i0 (.agg #[.int .i64 0, .int .i64 0]) 2 16 Try.underlying24 hi hz0 hz1 hz2 rfl (by decide) _ _ _ rfl ((hown.alloc _).alloc _) ⟨wr.heap.size + 1, 0, none⟩ 1 1 (opCells ⟨l[k].toNat, 0⟩) rfl rfl (by have := cell_two_new (wr.alloc (.cells #[.int .i64 l[k].toNat, .int .i64 0] 23)) (.int .i64 l[k].toNat) (.int .i64 0) 23; rwa [World.size_alloc] at this)
          (by simp [opCells, Value.oneCell']) (by unfold maxLen; omega) (by omega) (by simp; omega) ?_
        intro v' w2 hown' hgrow _
        go_wp2
        go_roundw
        case rel => exact ⟨k + 1, out ++ [⟨l[k].toNat, 0⟩], by omega, by go_num, below_app (below_alloc (below_alloc hbl _) _) ((hown.alloc _).alloc _) hgrow, by rw [List.length_append, List.flatMap_append]; simpa using hown', Hn.out, len40 (by assumption) h40⟩
        case measure => simp [intOf]; omega
    · go_wp2
      go_ret2
      have e0 : decodeOps l = (out, 0) := by rw [← Hd.out, List.drop_of_length_le (by omega)]; rfl
      exact ⟨_, ret_dec e0, (by repeat (first | exact Below.refl _ _ | assumption | refine Below.drew ?_ | refine Below.drewN_ ?_ _ | refine below_alloc ?_ _ | refine below_via (by assumption) ?_ | refine below_set ?_ (by simp <;> omega) _)), by rw [e0]; exact hown⟩
end Go.Proofs.Ytjjepfkigmdjoaa
