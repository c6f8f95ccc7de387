import Derived.Test.YtjjepfkigmdjoaaLop4
import Derived.Test.YtjjepfkigmdjoaaApp
import Derived.Test.YtjjepfkigmdjoaaOpPure
namespace Go.Proofs.Ytjjepfkigmdjoaa
open Go.RowKit

theorem own_made (w : World) (base : Nat) (e : TypeId) (size : Nat) (hb : base ≤ w.heap.size) : (w.alloc (.cells #[] e)).ownsRow base e size (.slice (some ⟨w.heap.size, 0, none⟩) 0 0) 0 [] := by
  have := World.ownsRow_made (base := base) (e := e) (size := size) w #[] 0 hb (by unfold maxLen; omega) (by simp)
  exact this
theorem flat_len {α : Type} (f : α → List Value) (k : Nat) : ∀ (xs : List α), (∀ x ∈ xs, (f x).length = k) → (xs.flatMap f).length = xs.length * k
  | [], _ => by simp
  | x :: xs, h => by
    rw [List.flatMap_cons, List.length_append, h x (by simp), flat_len f k xs (fun y hy => h y (by simp [hy])), List.length_cons, Nat.succ_mul]
    omega
/-- Code that stands in a row of the call's own, out of what was appended. -/
theorem own_ops2 {W w1 : World} {base : Nat} {v : Value} {xs : List MOp} {zs : List Value} (h : W.ownsRow base 23 2 v xs.length zs) (hr : ∀ i x, xs[i]? = some x → Rep.rep w1 w1.heap.size ((zs.drop (i * 2)).take 2) x) (hl : xs.length ≤ 140737488355328) : Sl W v xs := by
  have hzs : zs = xs.flatMap opCells := by
    apply List.ext_getElem?
    intro j
    by_cases hj : j < xs.length * 2
    · have hx : xs[j / 2]? = some (xs[j / 2]'(by omega)) := List.getElem?_eq_getElem (by omega)
      obtain ⟨hc, _⟩ := hr (j / 2) _ hx
      have h1 := flat_get opCells 2 xs (fun _ _ => rfl) (j / 2) _ (j % 2) ((opCells (xs[j / 2]'(by omega)))[j % 2]'(by simp [opCells]; omega)) hx (List.getElem?_eq_getElem _)
      have h2 : ((zs.drop (j / 2 * 2)).take 2)[j % 2]? = some ((opCells (xs[j / 2]'(by omega)))[j % 2]'(by simp [opCells]; omega)) := by
        rw [hc]; exact List.getElem?_eq_getElem _
      rw [List.getElem?_take, if_pos (by omega), List.getElem?_drop] at h2
      rw [show j / 2 * 2 + j % 2 = j from by omega] at h1 h2
      rw [h1, h2]
    · have hz : zs.length = xs.length * 2 := h.1
      rw [List.getElem?_eq_none (by omega), List.getElem?_eq_none]
      rw [flat_len opCells 2 xs (fun _ _ => rfl)]
      omega
  rw [hzs] at h
  refine own_sl opCells h (fun o ho => ?_) hl
  obtain ⟨i, hi, rfl⟩ := List.getElem_of_mem ho
  exact ⟨rfl, (hr i _ (List.getElem?_eq_getElem hi)).2⟩

theorem own_ops3 {W w1 w2 : World} {base : Nat} {v : Value} {l m : List MOp} {zs ys : List Value} (h : W.ownsRow base 23 2 v (l ++ m).length (zs ++ ys)) (hzl : zs.length = l.length * Rep.k MOp) (hr1 : ∀ i x, l[i]? = some x → Rep.rep w1 w1.heap.size ((zs.drop (i * Rep.k MOp)).take (Rep.k MOp)) x)
    (hr2 : ∀ i x, m[i]? = some x → Rep.rep w2 w2.heap.size ((ys.drop (i * Rep.k MOp)).take (Rep.k MOp)) x) (hl : l.length ≤ 40) (hm : m.length ≤ 8796093021952) : Sl W v (l ++ m) := by
  refine own_ops2 (w1 := w1) h (fun i x hx => ?_) (by simp; omega)
  change zs.length = l.length * 2 at hzl
  by_cases hi : i < l.length
  · rw [List.getElem?_append_left hi] at hx
    rw [List.drop_append_of_le_length (by omega), List.take_append_of_le_length (by rw [List.length_drop]; omega)]
    exact hr1 i x hx
  · rw [List.getElem?_append_right (by omega)] at hx
    have h2 := hr2 (i - l.length) x hx
    change Rep.rep w2 w2.heap.size ((ys.drop ((i - l.length) * 2)).take 2) x at h2
    have : (zs ++ ys).drop (i * 2) = ys.drop ((i - l.length) * 2) := by
      rw [List.drop_append, hzl, List.drop_of_length_le (by omega), List.nil_append]
      congr 1
      omega
    rw [this]
    exact h2
/-- Part two: what is decoded is encoded as it was. -/
def opBackPost (w : World) (e : Ending) (w' : World) : Prop := e = .returned (.bool true) ∧ Below w.heap.size w w'

set_option maxHeartbeats 2000000 in
theorem opBack_any (v : Value) (l : List MOp) (vm : Value) (more : List MOp) (s : List UInt8) (w : World) (hs : Sl w v l) (hm : Sl w vm more) (hl : s.length ≤ 140737488351232) (hml : more.length * 16 ≤ 140737488351232) :
    Calls Try.prog 4 #[v, vm, .string ⟨s.toArray⟩] w (opBackPost w) := by
  obtain ⟨e1, e2, e3⟩ := @codeErr_enc l
  go_enter Try.func4, Try.ntmps4
  go_wp2_with (go_at_call 11; refine (opBegun_any _).mono ?_; rintro e W1 ⟨rfl, hb1⟩; refine mk_in ?_)
  unfold MkD
  have hs1 := hs.via hb1
  have hm1 := hm.via hb1
  have hB1 : Below w.heap.size w W1 := hb1
  clear hb1
  go_wp2_with fail
  refine (encode_any _ l _ hs1).mono ?_
  rintro e W2 ⟨rfl, hb2⟩
  have hs2 := hs1.via hb2
  have hm2 := hm1.via hb2
  have hB2 : Below w.heap.size w W2 := below_via hb2 hB1
  clear hb2 hB1 hs1 hm1 hs hm
  by_cases hz : codeErr l = 0
  · have e1' : (encodeOps l).2 = 0 := by rw [e1, hz]
    have e2' := e2 hz
    have Hz := Lib.hid hz
    clear e1 e2 e3 hz
    obtain ⟨hl40, hck⟩ := codeErr_zero Hz.out
    have hdec : decodeOps (codeBytes l) = (l, 0) := by
      have := decodeGo_codeBytes l [] (codeBytes l).length (fun o ho => checkOp_zero (hck o ho)) (by simpa using hl40) (Nat.le_refl _)
      rw [decodeOps, this, List.nil_append]
    have hcb := codeBytes_len l
    clear hck
    have Hdec := Lib.hid hdec; clear hdec
    go_wp2_with fail
    refine (decode_any (codeBytes l) _ (by omega)).mono ?_
    rintro e W3 ⟨vd, rfl, hb3, hsd, hjunk⟩
    clear hjunk
    rw [Hdec.out] at hsd ⊢
    have hs3 := hs2.via hb3
    have hm3 := hm2.via hb3
    have hB3 : Below w.heap.size w W3 := below_via hb3 hB2
    clear hb3 hB2 hs2 hm2
    go_wp2_with fail
    refine (rsameOps_any _ _ _ _ _ hsd hs3).mono ?_
    rintro e W4 ⟨rfl, hb4⟩
    rw [decide_eq_true (rfl : l = l)]
    have hs4 := hs3.via hb4
    have hm4 := hm3.via hb4
    have hB4 : Below w.heap.size w W4 := below_via hb4 hB3
    clear hb4 hB3 hs3 hm3 hsd
    go_wp2_with fail
    refine (encode_any _ more _ hm4).mono ?_
    rintro e W5 ⟨rfl, hb5⟩
    have hs5 := hs4.via hb5
    have hm5 := hm4.via hb5
    have hB5 : Below w.heap.size w W5 := below_via hb5 hB4
    clear hb5 hB4 hs4 hm4
    go_wp2_with (at_builtin; refine mk_in ?_)
    unfold MkD
    obtain ⟨i0, hi, hz0, hz1, hz2⟩ := info_parts Try.infoOp
    refine wpList_append_sl _ rfl _ _ 24 rfl W5.heap.size 23 i0 (.agg #[.int .i64 0, .int .i64 0]) 16 Try.underlying24 hi hz0 hz1 hz2 rfl (by decide) _ _ _ rfl (own_made W5 W5.heap.size 23 2 (Nat.le_refl _)) v l rfl (hs5.alloc _) (by unfold maxLen; omega) (by omega) (by simp) ?_
    intro v6 W6 zs6 hzl6 hzr6 hown6 hgrow6 _
    have hb6 : Below W5.heap.size W5 W6 := below_app (below_alloc (Below.refl _ _) _) (own_made W5 W5.heap.size 23 2 (Nat.le_refl _)) hgrow6
    have hm6 := hm5.via hb6
    clear hm5 hs5 hgrow6
    simp only [Nat.zero_add, List.nil_append] at hown6
    obtain ⟨A6, c6, rfl⟩ := own_form hown6
    go_wp2_with (at_builtin; refine mk_in ?_)
    unfold MkD
    refine wpList_append_sl _ rfl _ _ 24 rfl W5.heap.size 23 i0 (.agg #[.int .i64 0, .int .i64 0]) 16 Try.underlying24 hi hz0 hz1 hz2 rfl (by decide) _ _ _ rfl hown6 vm more rfl hm6 (by unfold maxLen; omega) (by omega) hb6.size ?_
    intro v7 W7 zs7 hzl7 hzr7 hown7 hgrow7 _
    have hb7 : Below W5.heap.size W5 W7 := below_app hb6 hown6 hgrow7
    have hB7 : Below w.heap.size w W7 := below_via hb7 hB5
    have hall : Sl W7 v7 (l ++ more) := own_ops3 (base := W5.heap.size) (by rw [List.length_append]; exact hown7) hzl6 hzr6 hzr7 (by omega) (by omega)
    clear hb6 hb7 hm6 hown6 hown7 hgrow7 hB5 hzl6 hzr6 hzl7 hzr7
    go_wp2_with fail
    refine (encode_any _ (l ++ more) _ hall).mono ?_
    rintro e W7b ⟨rfl, hb7⟩
    have HB : Below w.heap.size w W7b := below_via hb7 hB7
    clear hb7 hB7 hall
    by_cases hf : (encodeOps more).2 = 0
    · by_cases hg : (encodeOps (l ++ more)).2 = 0
      · have em : (encodeOps more).1 = codeBytes more := (@codeErr_enc more).2.1 (by rw [← (@codeErr_enc more).1]; exact hf)
        have ea : (encodeOps (l ++ more)).1 = codeBytes l ++ codeBytes more := by
          rw [(@codeErr_enc (l ++ more)).2.1 (by rw [← (@codeErr_enc (l ++ more)).1]; exact hg), codeBytes_append]
        have hmb := codeBytes_len more
        have hmb2 : more.length ≤ 40 := (codeErr_zero (by rw [← (@codeErr_enc more).1]; exact hf)).1
        go_wp2_with fail
        refine (decode_any s _ (by omega)).mono ?_
        rintro e W8 ⟨vd8, rfl, hb8, hsd8, _⟩
        have hB8 : Below w.heap.size w W8 := below_via hb8 HB
        clear hb8
        by_cases hd : (decodeOps s).2 = 0
        · have hen := decode_encode s hd
          have Hd := Lib.hid hd
          rw [hd]
          clear hd
          go_wp2_with (go_at_call 6; refine (encode_any _ _ _ hsd8).mono ?_; rintro e W9 ⟨rfl, hb9⟩; rw [hen])
          go_ret
          exact ⟨rfl, below_via hb9 hB8⟩
        · rw [decode_err s hd] at hsd8
          obtain ⟨A8, c8, rfl, _, _, _⟩ := hsd8.form
          have hne : ((decodeOps s).2 != 0) = true := by simpa using hd
          clear hd
          go_wp2_with fail
          go_ret
          exact ⟨rfl, hB8⟩
      · have hgb : ((encodeOps (l ++ more)).2 == 0) = false := by simpa using hg
        clear hg
        go_wp2_with fail
        refine (decode_any s _ (by omega)).mono ?_
        rintro e W8 ⟨vd8, rfl, hb8, hsd8, _⟩
        have hB8 : Below w.heap.size w W8 := below_via hb8 HB
        clear hb8
        by_cases hd : (decodeOps s).2 = 0
        · have hen := decode_encode s hd
          have Hd := Lib.hid hd
          rw [hd]
          clear hd
          go_wp2_with (go_at_call 6; refine (encode_any _ _ _ hsd8).mono ?_; rintro e W9 ⟨rfl, hb9⟩; rw [hen])
          go_ret
          exact ⟨rfl, below_via hb9 hB8⟩
        · rw [decode_err s hd] at hsd8
          obtain ⟨A8, c8, rfl, _, _, _⟩ := hsd8.form
          have hne : ((decodeOps s).2 != 0) = true := by simpa using hd
          clear hd
          go_wp2_with fail
          go_ret
          exact ⟨rfl, hB8⟩
    · have hfb : ((encodeOps more).2 == 0) = false := by simpa using hf
      clear hf
      go_wp2_with fail
      refine (decode_any s _ (by omega)).mono ?_
      rintro e W8 ⟨vd8, rfl, hb8, hsd8, _⟩
      have hB8 : Below w.heap.size w W8 := below_via hb8 HB
      clear hb8
      by_cases hd : (decodeOps s).2 = 0
      · have hen := decode_encode s hd
        have Hd := Lib.hid hd
        rw [hd]
        clear hd
        go_wp2_with (go_at_call 6; refine (encode_any _ _ _ hsd8).mono ?_; rintro e W9 ⟨rfl, hb9⟩; rw [hen])
        go_ret
        exact ⟨rfl, below_via hb9 hB8⟩
      · rw [decode_err s hd] at hsd8
        obtain ⟨A8, c8, rfl, _, _, _⟩ := hsd8.form
        have hne : ((decodeOps s).2 != 0) = true := by simpa using hd
        clear hd
        go_wp2_with fail
        go_ret
        exact ⟨rfl, hB8⟩
  · have hgb : ((encodeOps l).2 == 0) = false := by rw [e1]; simpa using hz
    clear e1 e2 e3 hz
    go_wp2_with fail
    refine (decode_any s _ (by omega)).mono ?_
    rintro e W8 ⟨vd8, rfl, hb8, hsd8, _⟩
    have hB8 : Below w.heap.size w W8 := below_via hb8 hB2
    clear hb8
    by_cases hd : (decodeOps s).2 = 0
    · have hen := decode_encode s hd
      have Hd := Lib.hid hd
      rw [hd]
      clear hd
      go_wp2_with (go_at_call 6; refine (encode_any _ _ _ hsd8).mono ?_; rintro e W9 ⟨rfl, hb9⟩; rw [hen])
      go_ret
      exact ⟨rfl, below_via hb9 hB8⟩
    · rw [decode_err s hd] at hsd8
      obtain ⟨A8, c8, rfl, _, _, _⟩ := hsd8.form
      have hne : ((decodeOps s).2 != 0) = true := by simpa using hd
      clear hd
      go_wp2_with fail
      go_ret
      exact ⟨rfl, hB8⟩
end Go.Proofs.Ytjjepfkigmdjoaa
