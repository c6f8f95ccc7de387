import Derived.Test.YtjojipeodionmaaBl6
namespace Go.Proofs.Ytjojipeodionmaa
open Go.RowKit

theorem get_any (v : Value) (l : List (List Int)) (ref at_ : Int) (w : World) (hs : Sl w v l) (hr : I64 ref) (ha : I64 at_) :
    Calls Try.prog 37 #[v, .int .i64 ref, .int .i64 at_] w fun e w' => e = .returned (.tuple #[.int .i64 (getN l ref at_), .int .i64 (getE l ref at_)]) ∧ Below w.heap.size w w' := by
  have hc := Lib.hid (checkB_any v l w hs)
  by_cases hf : checkB l = 0
  · have hm := fun w1 (h : Below w.heap.size w w1) => Lib.hid (place_any v l ref at_ w1 (hs.via h) hr ha)
    rw [hf] at hc
    have hE : getE l ref at_ = placeE l ref at_ := by unfold getE; rw [if_pos hf]
    have HE := Lib.hid hE; clear hE
    have hN : getN l ref at_ = if getE l ref at_ = 0 then (blk l ref).getD at_.toNat 0 else 0 := rfl
    have HN := Lib.hid hN; clear hN
    obtain ⟨A, c, rfl, _, _, _⟩ := hs.form
    have Hf := Lib.hid hf; clear hf
    by_cases hp : placeE l ref at_ = 0
    · have Hp := Lib.hid hp; clear hp
      rw [HN.out, HE.out, Hp.out, if_pos rfl]
      go_enter Try.func37, Try.ntmps37
      go_wp2_with (first
        | (go_at_call 32; refine (hc.out).mono ?_; rintro e w' ⟨rfl, hb⟩; have hM := hm w' hb)
        | (go_at_call 95; refine (hM.out).mono ?_; rintro e w'' ⟨rfl, ⟨hne, _⟩ | ⟨_, b, o, m, c', _, hbb, hcell, rfl⟩⟩; exact absurd Hp.out hne))
      go_ret2
      exact ⟨rfl, hb⟩
    · have hd : ((placeE l ref at_) == 0) = false := by simpa using hp
      rw [HN.out, HE.out, if_neg hp]
      have Hp := Lib.hid hp; clear hp
      go_enter Try.func37, Try.ntmps37
      go_wp2_with (first
        | (go_at_call 32; refine (hc.out).mono ?_; rintro e w' ⟨rfl, hb⟩; have hM := hm w' hb)
        | (go_at_call 95; refine (hM.out).mono ?_; rintro e w'' ⟨rfl, ⟨_, rfl⟩ | ⟨he, _⟩⟩; rotate_left; exact absurd he Hp.out))
      go_ret2
      exact ⟨rfl, hb⟩
  · have e1 : getE l ref at_ = checkB l := by unfold getE; rw [if_neg hf]
    have e2 : getN l ref at_ = 0 := by unfold getN; rw [e1, if_neg hf]
    rw [e1, e2]
    clear e1 e2
    have hd : ((checkB l) == 0) = false := by simpa using hf
    generalize checkB l = x at *
    obtain ⟨A, c, rfl, _, _, _⟩ := hs.form
    go_enter Try.func37, Try.ntmps37
    go_wp2_with (first
      | (go_at_call 32; refine (hc.out).mono ?_; rintro e w' ⟨rfl, hb⟩))
    go_ret2
    exact ⟨rfl, hb⟩

/-- What Put answers, if all is right. -/
def putL (l : List (List Int)) (ref at_ n : Int) : List (List Int) := if putE l ref at_ n = 0 then put l ref at_ n else []
set_option maxHeartbeats 400000 in
theorem put_any (v : Value) (l : List (List Int)) (ref at_ n : Int) (w : World) (hs : Sl w v l) (hfit : Fit l) (hr : I64 ref) (ha : I64 at_) (hn : I64 n) :
    Calls Try.prog 96 #[v, .int .i64 ref, .int .i64 at_, .int .i64 n] w fun e w' => ∃ u, e = .returned (.tuple #[u, .int .i64 (putE l ref at_ n)]) ∧ Below w.heap.size w w' ∧ OwN w' w.heap.size u (putL l ref at_ n) := by
  have ho := Lib.hid (own_any v l w hs hfit)
  have hm := fun w1 u (h : OwN w1 w.heap.size u l) => Lib.hid (place_any u l ref at_ w1 h.sl hr ha)
  have hL : putL l ref at_ n = if putE l ref at_ n = 0 then put l ref at_ n else [] := rfl
  have HL := Lib.hid hL; clear hL
  obtain ⟨A, c, rfl, _, _, _⟩ := hs.form
  by_cases hp : placeE l ref at_ = 0
  · have hz := Lib.hid (placeE_zero hp)
    have hE : putE l ref at_ n = if isInt n then 0 else 3 := by unfold putE; rw [if_pos hp]
    have Hp := Lib.hid hp; clear hp
    cases hi : isInt n
    · rw [HL.out, hE, hi]; clear hE
      have Hi := Lib.hid hi; clear hi
      simp only [Bool.false_eq_true, if_false, show ¬ (3 : Int) = 0 by decide]
      go_enter Try.func96, Try.ntmps96
      go_wp2_with (first
        | (go_at_call 120; refine (ho.out).mono ?_; rintro e w' ⟨u, rfl, hb, hu⟩; have hM := hm w' u hu; obtain ⟨A2, c2, rfl, _, _, _⟩ := hu.form)
        | (go_at_call 86; refine (int_any _ _).mono ?_; rintro e w' ⟨rfl, rfl⟩; rw [Hi.out])
        | (go_at_call 95; refine (hM.out).mono ?_; rintro e w'' ⟨rfl, ⟨hne, _⟩ | ⟨_, b, o, m, c', _, hbb, hcell, rfl⟩⟩; exact absurd Hp.out hne))
      go_ret2
      exact ⟨_, rfl, hb, OwN.nil_ _ _⟩
    · rw [HL.out, hE, hi]; clear hE
      have Hi := Lib.hid hi; clear hi
      simp only [if_true]
      go_enter Try.func96, Try.ntmps96
      go_wp2_with (first
        | (go_at_call 120; refine (ho.out).mono ?_; rintro e w' ⟨u, rfl, hb, hu⟩; have hM := hm w' u hu; obtain ⟨A2, c2, rfl, _, _, _⟩ := hu.form)
        | (go_at_call 86; refine (int_any _ _).mono ?_; rintro e w' ⟨rfl, rfl⟩; rw [Hi.out])
        | (go_at_call 95; refine (hM.out).mono ?_; rintro e w'' ⟨rfl, ⟨hne, _⟩ | ⟨_, b, o, m, c', hat, hbb, hcell, rfl⟩⟩; exact absurd Hp.out hne; obtain ⟨hBb, hfz, hput⟩ := hu.put_in (by have := hz.out; omega) hat (j := at_.toNat) (x := n) (by have := hz.out; unfold blk at this; omega) hn))
      go_ret2
      exact ⟨_, rfl, hb.setCell hBb _, hput⟩
  · have hd : ((placeE l ref at_) == 0) = false := by simpa using hp
    have hE : putE l ref at_ n = placeE l ref at_ := by unfold putE; rw [if_neg hp]
    rw [HL.out, hE, if_neg hp]; clear hE
    have Hp := Lib.hid hp; clear hp
    go_enter Try.func96, Try.ntmps96
    go_wp2_with (first
      | (go_at_call 120; refine (ho.out).mono ?_; rintro e w' ⟨u, rfl, hb, hu⟩; have hM := hm w' u hu; obtain ⟨A2, c2, rfl, _, _, _⟩ := hu.form)
      | (go_at_call 95; refine (hM.out).mono ?_; rintro e w'' ⟨rfl, ⟨_, rfl⟩ | ⟨he, _⟩⟩; rotate_left; exact absurd he Hp.out))
    go_ret2
    exact ⟨_, rfl, hb, OwN.nil_ _ _⟩
theorem setB_any (v : Value) (l : List (List Int)) (ref at_ n : Int) (w : World) (hs : Sl w v l) (hr : I64 ref) (ha : I64 at_) (hn : I64 n) :
    Calls Try.prog 38 #[v, .int .i64 ref, .int .i64 at_, .int .i64 n] w fun e w' => ∃ u, e = .returned (.tuple #[u, .int .i64 (setE l ref at_ n)]) ∧ Below w.heap.size w w' ∧ OwN w' w.heap.size u (setL l ref at_ n) := by
  have hc := Lib.hid (checkB_any v l w hs)
  by_cases hf : checkB l = 0
  · have hm := fun w1 (h : Below w.heap.size w w1) => Lib.hid (put_any v l ref at_ n w1 (hs.via h) (Fit.of_check hf) hr ha hn)
    rw [hf] at hc
    have e1 : setE l ref at_ n = putE l ref at_ n := by unfold setE; rw [if_pos hf]
    have e2 : setL l ref at_ n = putL l ref at_ n := by unfold setL putL; rw [e1]
    rw [e1, e2]; clear e1 e2
    obtain ⟨A, c, rfl, _, _, _⟩ := hs.form
    have Hf := Lib.hid hf; clear hf
    go_enter Try.func38, Try.ntmps38
    go_wp2_with (first
      | (go_at_call 32; refine (hc.out).mono ?_; rintro e w' ⟨rfl, hb⟩; have hM := hm w' hb)
      | (go_at_call 96; refine (hM.out).mono ?_; rintro e w'' ⟨u, rfl, hb', hu⟩))
    go_ret2
    exact ⟨_, rfl, below_via hb' hb, hu.mono hb.size⟩
  · have e1 : setE l ref at_ n = checkB l := by unfold setE; rw [if_neg hf]
    have e2 : setL l ref at_ n = [] := by unfold setL; rw [e1, if_neg hf]
    rw [e1, e2]
    clear e1 e2
    have hd : ((checkB l) == 0) = false := by simpa using hf
    generalize checkB l = x at *
    obtain ⟨A, c, rfl, _, _, _⟩ := hs.form
    go_enter Try.func38, Try.ntmps38
    go_wp2_with (first
      | (go_at_call 32; refine (hc.out).mono ?_; rintro e w' ⟨rfl, hb⟩))
    go_ret2
    exact ⟨_, rfl, hb, OwN.nil_ _ _⟩
end Go.Proofs.Ytjojipeodionmaa
