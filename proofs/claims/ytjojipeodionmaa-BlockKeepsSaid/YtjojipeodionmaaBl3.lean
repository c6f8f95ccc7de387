import Derived.Test.YtjojipeodionmaaBl2
namespace Go.Proofs.Ytjojipeodionmaa
open Go.RowKit

theorem Try.infoInt : (Try.prog.info? 3).map (fun i => (i.zero, i.size, i.bytes)) = some (some (.int .i64 0), 1, 8) := by kernel_rfl
theorem Try.infoInts : (Try.prog.info? 41).map (fun i => (i.zero, i.size, i.bytes)) = some (some (.slice none 0 0), 1, 24) := by kernel_rfl
theorem own_made (w : World) (base : Nat) (e : TypeId) (size : Nat) (hb : base ≤ w.heap.size) : (w.alloc (.cells #[] e)).ownsRow base e size (.slice (some ⟨w.heap.size, 0, none⟩) 0 0) 0 [] := by
  have := World.ownsRow_made (base := base) (e := e) (size := size) w #[] 0 hb (by unfold maxLen; omega) (by simp)
  exact this
theorem below_row {a W w2 : World} {B : Nat} {e : TypeId} {size n : Nat} {v : Value} {xs : List Value} (h : Below B a W) (ho : W.ownsRow B e size v n xs) (hg : W.grownBy w2 v.ownBlock) (hB : B ≤ W.heap.size) : Below B a w2 :=
  h.grown hg hB (fun k hk => (ho.lt k hk).1)

theorem clone_any (v : Value) (l : List Int) (w : World) (hs : Sl w v l) (hl : l.length ≤ 1000000) :
    Calls Try.prog 121 #[v] w fun e w' => ∃ u, e = .returned u ∧ Below w.heap.size w w' ∧ OwN w' w.heap.size u l := by
  obtain ⟨A, c, rfl, hlc, hc, _⟩ := hs.form
  have hq := fun (w : World) (A : Option Addr) (n c : Nat) => Lib.run_eql_slice_nil (P := Try.prog) w 41 3 A n c 0 0 Try.underlying41
  obtain ⟨i0, hi, hz0, hz1, hz2⟩ := info_parts Try.infoInt
  generalize hL : l.length = L at *
  have HL := Lib.hid hL; clear hL
  rcases A with _ | ad
  · go_enter Try.func121, Try.ntmps121
    go_wp2
    go_ret
    have h0 : l = [] := by
      apply List.eq_nil_of_length_eq_zero
      rw [HL.out]
      rcases Nat.eq_zero_or_pos L with h | h
      · exact h
      · obtain ⟨_, _, h', _⟩ := hs.int_at h; cases h'
    exact ⟨_, rfl, (by repeat (first | exact Below.refl _ _ | assumption | refine Below.drew ?_ | refine Below.drewN_ ?_ _ | refine below_alloc ?_ _ | refine below_via (by assumption) ?_ | refine below_set ?_ (by simp <;> omega) _)), by rw [h0]; exact OwN.nil_ _ _⟩
  · go_enter Try.func121, Try.ntmps121
    go_wp2_with (at_builtin; refine mk_in ?_)
    unfold MkD
    refine wpList_append_sl _ rfl _ _ 41 rfl w.heap.size 3 i0 (.int .i64 0) 8 Try.underlying41 hi hz0 hz1 hz2 rfl (by decide) _ _ _ rfl (own_made w w.heap.size 3 1 (Nat.le_refl _)) _ l rfl (hs.alloc _) (by rw [HL.out]; unfold maxLen; omega) (by rw [HL.out]; omega) (by simp) ?_
    intro v1 w1 zs hzl hzr hown hg _
    have hb : Below w.heap.size w w1 := below_row (below_alloc (Below.refl _ _) _) (own_made w w.heap.size 3 1 (Nat.le_refl _)) hg (by simp)
    simp only [Nat.zero_add, List.nil_append] at hown
    have ho : OwN w1 w.heap.size v1 l := OwN.of_zs hown hzl (fun i x hx => flat_int (hzr i x hx)) (by rw [HL.out]; omega)
    clear hown hzr hzl hg
    go_wp2
    go_ret
    exact ⟨_, rfl, hb, ho⟩
end Go.Proofs.Ytjojipeodionmaa
