import Derived.Test.YtjojipeodionmaaBl5
import Derived.Test.YtjojipeodionmaaOw3
namespace Go.Proofs.Ytjojipeodionmaa
open Go.RowKit

theorem newB_any (v : Value) (l : List (List Int)) (size : Int) (w : World) (hs : Sl w v l) :
    Calls Try.prog 33 #[v, .int .i64 size] w fun e w' => ∃ u, e = .returned (.tuple #[u, .int .i64 (newR l size), .int .i64 (newE l size)]) ∧ Below w.heap.size w w' ∧ OwN w' w.heap.size u (newL l size) := by
  have hc := Lib.hid (checkB_any v l w hs)
  by_cases hf : checkB l = 0
  · have hm := fun w1 (h : Below w.heap.size w w1) => Lib.hid (more_any v l size w1 (hs.via h) hf)
    rw [hf] at hc
    obtain ⟨A, c, rfl, _, _, _⟩ := hs.form
    generalize newR l size = r at *
    generalize newE l size = e at *
    have Hf := Lib.hid hf; clear hf
    go_enter Try.func33, Try.ntmps33
    go_wp2_with (first
      | (go_at_call 32; refine (hc.out).mono ?_; rintro e w' ⟨rfl, hb⟩; have hM := hm w' hb)
      | (go_at_call 92; refine (hM.out).mono ?_; rintro e w'' ⟨u, rfl, hb', hu⟩))
    go_ret3
    exact ⟨_, rfl, below_via hb' hb, hu.mono hb.size⟩
  · have e1 : newE l size = checkB l := by unfold newE; rw [if_neg hf]
    have e2 : newR l size = 0 := by unfold newR; rw [e1, if_neg hf]
    have e3 : newL l size = [] := by unfold newL; rw [e1, if_neg hf]
    rw [e1, e2, e3]
    clear e1 e2 e3
    have hd : ((checkB l) == 0) = false := by simpa using hf
    generalize checkB l = x at *
    obtain ⟨A, c, rfl, _, _, _⟩ := hs.form
    go_enter Try.func33, Try.ntmps33
    go_wp2_with (first
      | (go_at_call 32; refine (hc.out).mono ?_; rintro e w' ⟨rfl, hb⟩))
    go_ret3
    exact ⟨_, rfl, hb, OwN.nil_ _ _⟩

theorem placeE_none (l : List (List Int)) (at_ : Int) : placeE l 0 at_ = 5 := rfl
theorem placeE_out {l : List (List Int)} {ref at_ : Int} (h0 : ref ≠ 0) (h : ref < 0 ∨ (l.length : Int) < ref ∨ at_ < 0 ∨ ((blk l ref).length : Int) ≤ at_) : placeE l ref at_ = 3 := by unfold placeE; rw [if_neg h0, if_pos h]
theorem placeE_in {l : List (List Int)} {ref at_ : Int} (h1 : 1 ≤ ref) (h2 : ref ≤ l.length) (h3 : 0 ≤ at_) (h4 : at_ < (blk l ref).length) : placeE l ref at_ = 0 := by unfold placeE; rw [if_neg (by omega), if_neg (by omega)]
theorem placeE_zero {l : List (List Int)} {ref at_ : Int} (h : placeE l ref at_ = 0) : 1 ≤ ref ∧ ref ≤ l.length ∧ 0 ≤ at_ ∧ at_ < (blk l ref).length := by
  unfold placeE at h
  split at h
  · cases h
  · split at h
    · cases h
    · omega

set_option maxHeartbeats 400000 in
set_option maxRecDepth 8000 in
theorem place_any (v : Value) (l : List (List Int)) (ref at_ : Int) (w : World) (hs : Sl w v l) (hr : I64 ref) (ha : I64 at_) :
    Calls Try.prog 95 #[v, .int .i64 ref, .int .i64 at_] w fun e w' => w = w' ∧
      ((placeE l ref at_ ≠ 0 ∧ e = .returned (.tuple #[.pointer none, .int .i64 (placeE l ref at_)])) ∨
       (placeE l ref at_ = 0 ∧ ∃ b o n c, cellAt w v (ref - 1).toNat = some (.slice (some ⟨b, o, none⟩) n c) ∧ b < w.heap.size ∧ w.cell? ⟨b, o + at_.toNat, none⟩ = some (.int .i64 ((blk l ref).getD at_.toNat 0)) ∧
          e = .returned (.tuple #[.pointer (some ⟨b, o + at_.toNat, none⟩), .int .i64 0]))) := by
  obtain ⟨L, hL⟩ : ∃ n, l.length = n := ⟨_, rfl⟩
  obtain ⟨A, c, rfl, hlc, hc, _⟩ := hs.form_n hL
  have HL := Lib.hid hL; clear hL
  obtain ⟨hr1, hr2⟩ := hr
  by_cases h0 : ref = 0
  · subst h0
    go_enter Try.func95, Try.ntmps95
    go_wp2
    go_ret2
    exact ⟨rfl, .inl ⟨by rw [placeE_none]; decide, rfl⟩⟩
  · have hd0 : (ref == 0) = false := by simpa using h0
    by_cases hin : ref < 0 ∨ (L : Int) < ref
    · have hp : placeE l ref at_ = 3 := placeE_out h0 (by rw [HL.out]; omega)
      rw [hp]; clear hp
      rcases hin with hin | hin
      · go_enter Try.func95, Try.ntmps95
        go_wp2
        go_ret2
        exact ⟨rfl, .inl ⟨by decide, rfl⟩⟩
      · go_enter Try.func95, Try.ntmps95
        go_wp2
        all_goals go_ret2
        all_goals exact ⟨rfl, .inl ⟨by decide, rfl⟩⟩
    · obtain ⟨k, rfl⟩ : ∃ k : Nat, ref = k + 1 := ⟨(ref - 1).toNat, by omega⟩
      have hk : k < L := by omega
      clear hd0 hin hr1 hr2
      have H0 := Lib.hid h0; clear h0
      obtain ⟨b, off, u, rfl, hb, hcell, hu⟩ := hs.sl_at hk
      have hblk : blk l (k + 1) = l.getD k [] := by unfold blk; congr 1; omega
      obtain ⟨M, hM⟩ : ∃ n, (l.getD k []).length = n := ⟨_, rfl⟩
      obtain ⟨A', c', rfl, hlc', hc', _⟩ := hu.form_n hM
      have HM := Lib.hid hM; clear hM
      by_cases ho : at_ < 0 ∨ (M : Int) ≤ at_
      · have hp : placeE l (k + 1) at_ = 3 := placeE_out H0.out (by rw [hblk, HM.out]; omega)
        rw [hp]; clear hp hblk
        rcases ho with ho | ho
        · go_enter Try.func95, Try.ntmps95
          go_wp2
          go_ret2
          exact ⟨rfl, .inl ⟨by decide, rfl⟩⟩
        · go_enter Try.func95, Try.ntmps95
          go_wp2
          all_goals go_ret2
          all_goals exact ⟨rfl, .inl ⟨by decide, rfl⟩⟩
      · obtain ⟨m, rfl⟩ : ∃ m : Nat, at_ = m := ⟨at_.toNat, by omega⟩
        have hm : m < M := by omega
        have hp : placeE l (k + 1) m = 0 := placeE_in (by omega) (by rw [HL.out]; omega) (by omega) (by rw [hblk, HM.out]; omega)
        obtain ⟨b', off', rfl, hb', hcell', hi⟩ := hu.int_at hm
        have Hp := Lib.hid hp; clear hp
        have Hblk := Lib.hid hblk; clear hblk
        have hi1 : ((k : Int) + 1 - 1).toNat = k := by omega
        have Hi1 := Lib.hid hi1; clear hi1
        clear ho
        go_enter Try.func95, Try.ntmps95
        go_wp2
        go_ret2
        refine ⟨rfl, .inr ⟨Hp.out, b', off', M, c', ?_, hb', ?_, ?_⟩⟩
        · rw [Hi1.out]; exact hcell
        · rw [Hblk.out, Int.toNat_natCast]; exact hcell'
        · rw [Int.toNat_natCast]; rfl
end Go.Proofs.Ytjojipeodionmaa
