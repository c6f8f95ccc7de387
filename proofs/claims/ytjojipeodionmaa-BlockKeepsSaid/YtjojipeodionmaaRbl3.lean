import Derived.Test.YtjojipeodionmaaRbl2
namespace Go.Proofs.Ytjojipeodionmaa
open Go.RowKit

theorem rcopy_any (v : Value) (l : List (List Int)) (w : World) (hs : Sl w v l) (hfit : Fit l) :
    Calls Try.prog 42 #[v] w fun e w' => ∃ u, e = .returned u ∧ Below w.heap.size w w' ∧ OwN w' w.heap.size u l := by
  obtain ⟨A, c, rfl, hlc, hc, _⟩ := hs.form
  obtain ⟨i0, hi, hz0, hz1, hz2⟩ := info_parts Try.infoInts
  obtain ⟨i1, hi1, hy0, hy1, hy2⟩ := info_parts Try.infoInt
  have hL1 := hfit.1
  have Hfit := Lib.hid hfit; clear hfit
  generalize hL : l.length = L at *
  have HL := Lib.hid hL; clear hL
  go_enter Try.func42, Try.ntmps42
  go_wp2
  go_loopw [3, 4] (fun s t wr => ∃ k : Nat, k ≤ L ∧ t = .int .i64 k ∧ OwN wr w.heap.size s (l.take k) ∧ Below w.heap.size w wr) (fun _ t _ => L - (intOf t).toNat)
  case atStart => exact ⟨0, by omega, rfl, OwN.nil_ _ _, (by repeat (first | exact Below.refl _ _ | assumption | refine Below.drew ?_ | refine Below.drewN_ ?_ _ | refine below_alloc ?_ _ | refine below_via (by assumption) ?_ | refine below_set ?_ (by simp <;> omega) _))⟩
  case round =>
    obtain ⟨k, hk, rfl, hown, hbl⟩ := hrel
    have htl : (l.take k).length = k := by rw [List.length_take, HL.out]; omega
    obtain ⟨A1, c1, rfl, _, _, _⟩ := hown.form_n htl
    have Htl := Lib.hid htl; clear htl
    have hsz := hbl.size
    by_cases hlt : k < L
    · obtain ⟨b, off, u, rfl, hb, hcell, hu⟩ := (hs.via hbl).sl_at hlt
      have hfk := Hfit.out.at_ k
      obtain ⟨m, hm⟩ : ∃ m, (l.getD k []).length = m := ⟨_, rfl⟩
      obtain ⟨A', c', rfl, _, _, _⟩ := hu.form_n hm
      rw [hm] at hfk
      have Hm := Lib.hid hm; clear hm
      go_wp2_with (at_builtin; refine mk_in ?_)
      unfold MkD
      refine wpList_append_sl _ rfl _ _ 41 rfl wr.heap.size 3 i1 (.int .i64 0) 8 Try.underlying41 hi1 hy0 hy1 hy2 rfl (by decide) _ _ _ rfl (own_made wr wr.heap.size 3 1 (Nat.le_refl _)) _ (l.getD k []) rfl (hu.alloc _) (by rw [Hm.out]; unfold maxLen; omega) (by rw [Hm.out]; omega) (by simp) ?_
      intro v1 w1 zs hzl hzr hown1 hg _
      have hbx : Below wr.heap.size wr w1 := below_row (below_alloc (Below.refl _ _) _) (own_made wr wr.heap.size 3 1 (Nat.le_refl _)) hg (by simp)
      simp only [Nat.zero_add, List.nil_append] at hown1
      have hux : OwN w1 wr.heap.size v1 (l.getD k []) := OwN.of_zs hown1 hzl (fun i x hx => flat_int (hzr i x hx)) (by rw [Hm.out]; omega)
      clear hown1 hzr hzl hg
      obtain ⟨A2, c2, rfl, _, _, _⟩ := hux.form_n Hm.out
      go_wp2_with (at_builtin; refine mk_in ?_)
      unfold MkD
      refine wpList_append_new (α := List Int) _ rfl _ _ 39 rfl i0 (.slice none 0 0) 24 Try.underlying39 hi hz0 hz1 hz2 rfl rfl ⟨w1.heap.size, 0, none⟩ 1 rfl _ (l.getD k []) (OwD.newer hown (below_alloc hbx _) (by omega) (own_one (hux.alloc _))) (one_at (by simp)) (by have := hbx.size; simp; omega) (by rw [Htl.out]; omega) (by rw [Htl.out]; omega) ?_
      intro v2 w2 hown2 hbel2
      have hB2 := hbel2 w (below_alloc (below_via hbx hbl) _)
      have Hown2 : OwN w2 w.heap.size v2 (l.take (k + 1)) := by rw [take_snoc l k [] (by rw [HL.out]; exact hlt)]; exact hown2
      clear hown2 hbel2
      go_wp2
      go_roundw
      case rel => exact ⟨k + 1, by omega, by go_num, Hown2, hB2⟩
      case measure => simp [intOf]; omega
    · go_wp2
      go_ret
      have : k = L := by omega
      subst this
      rw [← HL.out, List.take_length, HL.out] at hown
      exact ⟨_, rfl, hbl, hown⟩

/-- What a ref is behind, once i blocks are looked at. -/
def thenF (l : List (List Int)) (refs : List Int) (i : Nat) (r : Int) : Int := if 1 ≤ r ∧ r ≤ i then (keptTo l refs r.toNat).length else 0
def thenMix (l : List (List Int)) (refs : List Int) (i k : Nat) : List Int := (refs.take k).map (thenF l refs (i + 1)) ++ (refs.drop k).map (thenF l refs i)
theorem thenMix_len (l : List (List Int)) (refs : List Int) (i k : Nat) : (thenMix l refs i k).length = refs.length := by simp [thenMix]; omega
theorem thenMix_zero (l : List (List Int)) (refs : List Int) (i : Nat) : thenMix l refs i 0 = refs.map (thenF l refs i) := by simp [thenMix]
theorem thenMix_end (l : List (List Int)) (refs : List Int) (i : Nat) : thenMix l refs i refs.length = refs.map (thenF l refs (i + 1)) := by simp [thenMix]
theorem thenMix_start (l : List (List Int)) (refs : List Int) : refs.map (thenF l refs 0) = List.replicate refs.length 0 := by
  rw [List.eq_replicate_iff]
  refine ⟨by simp, fun x hx => ?_⟩
  obtain ⟨r, _, rfl⟩ := List.mem_map.1 hx
  unfold thenF
  rw [if_neg (by omega)]
theorem thenF_same {l : List (List Int)} {refs : List Int} {i : Nat} {r : Int} (h : r ≠ i + 1) : thenF l refs (i + 1) r = thenF l refs i r := by
  unfold thenF
  by_cases h1 : 1 ≤ r ∧ r ≤ i
  · rw [if_pos h1, if_pos (by omega)]
  · rw [if_neg h1, if_neg (by omega)]
theorem thenF_hit {l : List (List Int)} {refs : List Int} {i : Nat} (hc : refs.contains ((i : Int) + 1) = true) : thenF l refs (i + 1) ((i : Int) + 1) = (keptTo l refs i).length + 1 := by
  unfold thenF
  rw [if_pos (by omega), show ((i : Int) + 1).toNat = i + 1 by omega, keptTo_yes hc]
  simp
theorem thenMix_step {l : List (List Int)} {refs : List Int} {i k : Nat} (hk : k < refs.length) : thenMix l refs i (k + 1) = (thenMix l refs i k).set k (thenF l refs (i + 1) (refs.getD k 0)) := by
  have hd : refs.drop k = refs.getD k 0 :: refs.drop (k + 1) := by
    rw [List.drop_eq_getElem_cons hk, List.getD_eq_getElem?_getD, List.getElem?_eq_getElem hk]; rfl
  unfold thenMix
  rw [List.set_append_right _ _ (by rw [List.length_map, List.length_take]; omega), List.length_map, List.length_take, Nat.min_eq_left (by omega), Nat.sub_self, hd, List.map_cons, List.set_cons_zero, take_snoc refs k 0 hk, List.map_append, List.append_assoc]
  rfl
theorem thenMix_skip {l : List (List Int)} {refs : List Int} {i k : Nat} (hk : k < refs.length) (h : refs.getD k 0 ≠ i + 1) : thenMix l refs i (k + 1) = thenMix l refs i k := by
  have hd : refs.drop k = refs.getD k 0 :: refs.drop (k + 1) := by
    rw [List.drop_eq_getElem_cons hk, List.getD_eq_getElem?_getD, List.getElem?_eq_getElem hk]; rfl
  unfold thenMix
  rw [take_snoc refs k 0 hk, hd, List.map_append, List.map_cons, List.append_assoc]
  congr 1
  rw [List.map_cons, List.map_nil, thenF_same h]
  rfl
theorem thenF_all {l : List (List Int)} {refs : List Int} (hin : ∀ r ∈ refs, 0 ≤ r ∧ r ≤ l.length) : refs.map (thenF l refs l.length) = refs.map (keptN l refs) := by
  apply List.map_congr_left
  intro r hr
  have := hin r hr
  unfold thenF keptN
  by_cases hz : r = 0
  · rw [if_neg (by omega), if_pos hz]
  · rw [if_pos (by omega), if_neg hz]
theorem thenF_i64 (l : List (List Int)) (refs : List Int) (i : Nat) (r : Int) (hi : i ≤ 140737488355328) : I64 (thenF l refs i r) := by
  unfold thenF I64
  split
  · have := keptTo_len l refs r.toNat
    omega
  · omega
theorem contains_snoc {refs : List Int} {k : Nat} {x : Int} (hk : k < refs.length) : (refs.take (k + 1)).contains x = ((refs.take k).contains x || refs.getD k 0 == x) := by
  rw [take_snoc refs k 0 hk]
  generalize refs.take k = a
  generalize refs.getD k 0 = y
  rw [Bool.eq_iff_iff]
  simp only [List.contains_iff_mem, List.mem_append, List.mem_singleton, Bool.or_eq_true, beq_iff_eq]
  exact or_congr_right eq_comm
theorem contains_mem {refs : List Int} {k : Nat} {x : Int} (hk : k < refs.length) (h : refs.getD k 0 = x) : refs.contains x = true := by
  have := mem_getD (d := (0 : Int)) hk
  rw [h] at this
  simpa using this
end Go.Proofs.Ytjojipeodionmaa
