/- Texts of one proof, one behind the other: lemmas alone. -/
import Derived.Test.YtpacloheigifkaaGreatM0D
import Derived.Deep.QuietTactic
import Derived.BigQuiet
import Derived.Test.YtpacloheigifkaaGreatM16D
import Derived.Test.YtpacloheigifkaaGreatM23D

namespace Go.Proofs.YtpacloheigifkaaGreat
open Go.RowKit
section
theorem qs (v : Value) (l : List (List Int)) (w : World) (hs : Sl w v l) (h8 : l.length ≤ 8) :
    Calls Tryz.prog 81 #[v] w fun e w' => e = .returned (.int .i64 (du l)) ∧ w = w' := by
  obtain ⟨A, c, rfl, hlc, hc, hl⟩ := hs.form
  generalize hL : l.length = L at *
  have HL := Lib.hid hL; clear hL
  go_enter Tryz.func81, Tryz.ntmps81
  go_wp2
  go_loop [3, 4] (fun s t => ∃ k : Nat, k ≤ L ∧ t = .int .i64 k ∧ s = .int .i64 (du (l.take k)) ∧ du (l.take k) ≤ k * 140737488355328) (fun _ t => L - (intOf t).toNat)
  case atStart => exact ⟨0, by omega, rfl, rfl, by simp [du]⟩
  case round =>
    obtain ⟨k, hk, rfl, rfl, hsum⟩ := hrel
    by_cases hlt : k < L
    · obtain ⟨b, off, u, rfl, hb, hcell, hu⟩ := hs.sl_at hlt
      obtain ⟨A', c', rfl, hlc', hc', hl'⟩ := hu.form
      have hst := Lib.hid (px (l := l) (k := k) (m := (l.getD k []).length) (by rw [HL.out]; exact hlt) rfl)
      generalize hm : (l.getD k []).length = m at *
      have Hm := Lib.hid hm; clear hm
      generalize hn : du (l.take k) = n at *
      have Hn := Lib.hid hn; clear hn
      go_wp2
      go_round
      case rel => exact ⟨k + 1, by omega, by go_num, by rw [hst.out], by have := hst.out; omega⟩
      case measure => simp [intOf]; omega
    · go_wp2
      go_ret
      have : k = l.length := by rw [HL.out]; omega
      exact ⟨dX (by rw [this, List.take_length]), rfl⟩

theorem DR {l:List (List Int)} {k j:Nat} (hk:k<l.length) (hj:j<(l.getD k []).length) (h:cu ((l.getD k []).getD j 0)=false):l.any dz=true:=
 List.any_eq_true.2 ⟨l.getD k [],lR hk,List.any_eq_true.2 ⟨(l.getD k []).getD j 0,lR hj,by rw[h];rfl⟩⟩
theorem Bn {l:List (List Int)} (h:∀i,i<l.length→dz (l.getD i [])=false):l.any dz=false:=by
 rw[List.any_eq_false]
 intro x hx
 obtain⟨i,hi,rfl⟩:=List.getElem_of_mem hx
 have:=h i hi
 rw[List.getD_eq_getElem?_getD,List.getElem?_eq_getElem hi] at this
 simpa using this
theorem Bl {b:List Int} (h:∀i,i<b.length→cu (b.getD i 0)=true):dz b=false:=by
 unfold dz
 rw[List.any_eq_false]
 intro x hx
 obtain⟨i,hi,rfl⟩:=List.getElem_of_mem hx
 have:=h i hi
 rw[List.getD_eq_getElem?_getD,List.getElem?_eq_getElem hi] at this
 simpa using this
theorem uq {p:Nat→Prop} {k:Nat} (h:∀i,i<k→p i) (hk:p k):∀i,i<k+1→p i:=by
 intro i hi
 rcases Nat.lt_succ_iff_lt_or_eq.1 hi with h1 | rfl
 ·exact h i h1
 exact hk
theorem pP (v : Value) (l : List (List Int)) (w : World) (hs : Sl w v l) : Calls Tryz.prog 69 #[v] w fun e w' => e = .returned (.int .i64 (cK l)) ∧ w = w' := by
  have hcs := fun h => Lib.hid (qs v l w hs h)
  obtain ⟨L, hL⟩ : ∃ n, l.length = n := ⟨_, rfl⟩
  obtain ⟨A, c, rfl, hlc, hc, hL47⟩ := hs.form_n hL
  rw [hL] at hcs
  have HL := Lib.hid hL; clear hL
  by_cases h8 : L ≤ 8
  · have hd : decide ((8 : Int) < (L : Int)) = false := by simp; omega
    have hcs := hcs h8
    obtain ⟨n, hn⟩ : ∃ n, du l = n := ⟨_, rfl⟩
    rw [hn] at hcs
    have Hn := Lib.hid hn; clear hn
    by_cases hn40 : 40 < n
    · have hd2 : decide ((40 : Int) < (n : Int)) = true := by simp; omega
      go_enter Tryz.func69, Tryz.ntmps69
      go_wp2_with (first
        | (go_at_call 81; refine (hcs.out).mono ?_; rintro e w' ⟨rfl, rfl⟩))
      go_ret
      exact ⟨dX (by unfold cK; rw [HL.out, Hn.out, if_pos (.inr hn40)]), rfl⟩
    · have hd2 : decide ((40 : Int) < (n : Int)) = false := by simp; omega
      have hck : cK l = if l.any dz then 3 else 0 := by unfold cK; rw [HL.out, Hn.out, if_neg (by omega)]
      obtain ⟨z, hz⟩ : ∃ z, cK l = z := ⟨_, rfl⟩
      rw [hz] at hck ⊢
      clear hz
      have Hck := Lib.hid hck; clear hck
      go_enter Tryz.func69, Tryz.ntmps69
      go_wp2_with (first
        | (go_at_call 81; refine (hcs.out).mono ?_; rintro e w' ⟨rfl, rfl⟩))
      go_loop [3] (fun t => ∃ k : Nat, k ≤ L ∧ t = .int .i64 k ∧ ∀ i, i < k → dz (l.getD i []) = false) (fun t => L - (intOf t).toNat)
      case atStart => exact ⟨0, by omega, rfl, by omega⟩
      case round =>
        obtain ⟨k, hk, rfl, hno⟩ := hrel
        have Hno := Lib.hid hno; clear hno
        by_cases hlt : k < L
        · obtain ⟨b, off, u, rfl, hb, hcell, hu⟩ := hs.sl_at hlt
          obtain ⟨M, hM⟩ : ∃ n, (l.getD k []).length = n := ⟨_, rfl⟩
          obtain ⟨A', c', rfl, hlc', hc', hM47⟩ := hu.form_n hM
          have HM := Lib.hid hM; clear hM
          go_wp2
          go_loop [4] (fun t => ∃ j : Nat, j ≤ M ∧ t = .int .i64 j ∧ ∀ i, i < j → cu ((l.getD k []).getD i 0) = true) (fun t => M - (intOf t).toNat)
          case atStart => exact ⟨0, by omega, rfl, by omega⟩
          case round =>
            obtain ⟨j, hj, rfl, hyes⟩ := hrel
            have Hyes := Lib.hid hyes; clear hyes
            by_cases hlj : j < M
            · obtain ⟨b', off', rfl, hb', hcell', hi'⟩ := hu.int_at hlj
              obtain ⟨x, hxx⟩ : ∃ x, (l.getD k []).getD j 0 = x := ⟨_, rfl⟩
              rw [hxx] at hcell' hi'
              have Hxx := Lib.hid hxx; clear hxx
              cases hx : cu x
              · have Hx := Lib.hid hx; clear hx
                go_wp2_with (first
                  | (go_at_call 44; refine (jc _ _).mono ?_; rintro e w' ⟨rfl, rfl⟩; rw [Hx.out]))
                go_ret
                exact ⟨dX (by rw [Hck.out, DR (j := j) (by rw [HL.out]; exact hlt) (by rw [HM.out]; exact hlj) (by rw [Hxx.out]; exact Hx.out)]; rfl), rfl⟩
              · have Hx := Lib.hid hx; clear hx
                go_wp2_with (first
                  | (go_at_call 44; refine (jc _ _).mono ?_; rintro e w' ⟨rfl, rfl⟩; rw [Hx.out]))
                go_round
                case rel => exact ⟨j + 1, by omega, by go_num, uq Hyes.out (by rw [Hxx.out]; exact Hx.out)⟩
                case measure => simp [intOf]; omega
            · go_wp2
              go_round
              case rel => exact ⟨k + 1, by omega, by go_num, uq Hno.out (Bl (fun i hi => Hyes.out i (by rw [HM.out] at hi; omega)))⟩
              case measure => simp [intOf]; omega
        · go_wp2
          go_ret
          exact ⟨dX (by rw [Hck.out, Bn (fun i hi => Hno.out i (by rw [HL.out] at hi; omega))]; rfl), rfl⟩
  · have hd : decide ((8 : Int) < (L : Int)) = true := by simp; omega
    clear hcs
    go_enter Tryz.func69, Tryz.ntmps69
    go_wp2
    go_ret
    exact ⟨dX (by unfold cK; rw [HL.out, if_pos (.inl (by omega))]), rfl⟩
end
section
theorem kX (v : Value) (l : List (List Int)) (w : World) (hs : Sl w v l) (hfit : qZ l) :
    Calls Tryz.prog 117 #[v] w fun e w' => ∃ u, e = .returned u ∧ Below w.heap.size w w' ∧ dT w' w.heap.size u l := by
  obtain ⟨A, c, rfl, hlc, hc, _⟩ := hs.form
  obtain ⟨i0, hi, hz0, hz1, hz2⟩ := info_parts lg
  obtain ⟨i1, hi1, hy0, hy1, hy2⟩ := info_parts j6
  have hL1 := hfit.1
  have Hfit := Lib.hid hfit; clear hfit
  generalize hL : l.length = L at *
  have HL := Lib.hid hL; clear hL
  go_enter Tryz.func117, Tryz.ntmps117
  go_wp2
  go_loopw [3, 4] (fun s t wr => ∃ k : Nat, k ≤ L ∧ t = .int .i64 k ∧ dT wr w.heap.size s (l.take k) ∧ Below w.heap.size w wr) (fun _ t _ => L - (intOf t).toNat)
  case atStart => exact ⟨0, by omega, rfl, dT.nil_ _ _, (by repeat (first | exact Below.refl _ _ | assumption | refine Below.drew ?_ | refine Below.drewN_ ?_ _ | refine bZ ?_ _ | refine cL (by assumption) ?_ | refine dc ?_ (by simp <;> omega) _))⟩
  case round =>
    obtain ⟨k, hk, rfl, hown, hbl⟩ := hrel
    have htl : (l.take k).length = k := by rw [List.length_take, HL.out]; omega
    obtain ⟨A1, c1, rfl, _, _, _⟩ := hown.form_n htl
    have Htl := Lib.hid htl; clear htl
    have hsz := hbl.size
    by_cases hlt : k < L
    · obtain ⟨b, off, u, rfl, hb, hcell, hu⟩ := (hs.via hbl).sl_at hlt
      have hfk := Hfit.out.at_ k
      obtain ⟨m, hm⟩ : ∃ m, (l.getD k []).length = m := ⟨_, rfl⟩
      obtain ⟨A', c', rfl, _, _, _⟩ := hu.form_n hm
      rw [hm] at hfk
      have Hm := Lib.hid hm; clear hm
      go_wp2_with (at_builtin; refine qx ?_)
      unfold wk
      refine lK _ rfl _ _ 27 rfl wr.heap.size 3 i1 (.int .i64 0) 8 ah hi1 hy0 hy1 hy2 rfl (by decide) _ _ _ rfl (nB wr wr.heap.size 3 1 (Nat.le_refl _)) _ (l.getD k []) rfl (hu.alloc _) (by rw [Hm.out]; unfold maxLen; omega) (by rw [Hm.out]; omega) (by simp) ?_
      intro v1 w1 zs hzl hzr hown1 hg _
      have hbx : Below wr.heap.size wr w1 := sg (bZ (Below.refl _ _) _) (nB wr wr.heap.size 3 1 (Nat.le_refl _)) hg (by simp)
      simp only [Nat.zero_add, List.nil_append] at hown1
      have hux : dT w1 wr.heap.size v1 (l.getD k []) := dT.of_zs hown1 hzl (fun i x hx => tT (hzr i x hx)) (by rw [Hm.out]; omega)
      clear hown1 hzr hzl hg
      obtain ⟨A2, c2, rfl, _, _, _⟩ := hux.form_n Hm.out
      go_wp2_with (at_builtin; refine qx ?_)
      unfold wk
      refine lh (α := List Int) _ rfl _ _ 26 rfl i0 (.slice none 0 0) 24 cy hi hz0 hz1 hz2 rfl rfl ⟨w1.heap.size, 0, none⟩ 1 rfl _ (l.getD k []) (nh.newer hown (bZ hbx _) (by omega) (mW (hux.alloc _))) (qv (by simp)) (by have := hbx.size; simp; omega) (by rw [Htl.out]; omega) (by rw [Htl.out]; omega) ?_
      intro v2 w2 hown2 hbel2
      have hB2 := hbel2 w (bZ (cL hbx hbl) _)
      have Hown2 : dT w2 w.heap.size v2 (l.take (k + 1)) := by rw [e9 l k [] (by rw [HL.out]; exact hlt)]; exact hown2
      clear hown2 hbel2
      go_wp2
      go_roundw
      case rel => exact ⟨k + 1, by omega, by go_num, Hown2, hB2⟩
      case measure => simp [intOf]; omega
    · go_wp2
      go_ret
      have : k = L := by omega
      subst this
      rw [← HL.out, List.take_length, HL.out] at hown
      exact ⟨_, rfl, hbl, hown⟩

def Br (l:List (List Int)) (refs:List Int) (i:Nat) (r:Int):Int:=if 1≤r∧r≤i then (jt l refs r.toNat).length else 0
def Ff (l:List (List Int)) (refs:List Int) (i k:Nat):List Int:=(refs.take k).map (Br l refs (i+1))++(refs.drop k).map (Br l refs i)
end
end Go.Proofs.YtpacloheigifkaaGreat
