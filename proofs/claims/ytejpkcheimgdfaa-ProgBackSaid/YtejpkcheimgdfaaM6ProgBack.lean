/- Texts of one proof, one behind the other: lemmas alone. -/
import Derived.Test.YtejpkcheimgdfaaM5ProgBack
import Derived.Test.YtejpkcheimgdfaaM1ProgBack
import Derived.Test.YtejpkcheimgdfaaRows
import Derived.ProofKit
import Derived.Deep.Slices
import Derived.SizedLaws
import Derived.OpenShut
import Derived.ShutString
import Derived.ChangeOld
import Derived.Test.YtejpkcheimgdfaaM2ProgBack
import Derived.Test.YtejpkcheimgdfaaM3ProgBack

-- PrPure
/- Programs: what is encoded is decoded as it was, and the other way round; plain facts, no program in sight. -/
namespace Go.Proofs.Ytejpkcheimgdfaa

theorem byteOf_b (b : UInt8) : byteOf (b.toNat : Int) = b := by
  have := b.toNat_lt
  unfold byteOf
  rw [show ((b.toNat : Int) % 256).toNat = b.toNat from by omega]
  exact UInt8.ofNat_toNat
theorem byteOf_n {n : Int} (h : 0 ≤ n ∧ n ≤ 255) : ((byteOf n).toNat : Int) = n := by rw [byteOf_nat]; omega
theorem decodeP_err (s : List UInt8) (h : (decodeP s).2 ≠ 0) : (decodeP s).1 = [] := by
  unfold decodeP at h ⊢
  split
  · rfl
  · split
    · rfl
    · split
      · rfl
      · rename_i h1 h2 h3
        rw [if_neg h1, if_neg h2, if_neg h3] at h
        exact absurd rfl h
theorem oneR_b (b : UInt8) (l : List UInt8) (sh : Bool) : oneR (b :: l, sh) = ((b.toNat : Int), l, sh) := by
  unfold oneR takeR cutB
  rw [if_neg (by simp only [List.length_cons]; omega)]
  simp
theorem oneR_of {n : Int} (h : 0 ≤ n ∧ n ≤ 255) (l : List UInt8) : oneR (byteOf n :: l, false) = (n, l, false) := by rw [oneR_b, byteOf_n h]
theorem localsR_of : ∀ (L : List Int) (r : List UInt8) (acc : List Int), (∀ t ∈ L, 0 ≤ t ∧ t ≤ 255) → localsR L.length (L.map byteOf ++ r, false) acc = (acc ++ L, r, false)
  | [], r, acc, _ => by simp [localsR]
  | t :: L, r, acc, h => by
    simp only [List.length_cons, localsR, List.map_cons, List.cons_append, Bool.false_eq_true, if_false]
    rw [oneR_of (h t (by simp)), localsR_of L r _ (fun x hx => h x (by simp [hx]))]
    simp
theorem within_iff {n a b : Int} : within n a b = true ↔ a ≤ n ∧ n ≤ b := by unfold within; simp
theorem oneE_all {n : Nat} {f : MFunc} (h : oneE n f = 0) : f.locals.length ≤ 6 ∧ (0 ≤ f.params ∧ f.params ≤ f.locals.length) ∧ (0 ≤ f.result ∧ f.result ≤ 2) ∧ (∀ t ∈ f.locals, 1 ≤ t ∧ t ≤ 2) ∧ f.code.length ≠ 0 ∧ codeErr f.code = 0 ∧ ∀ o ∈ f.code, fitsO n f.locals.length f.code.length o = true := by
  unfold oneE at h
  split at h
  · cases h
  rename_i h1
  split at h
  · cases h
  rename_i h2
  split at h
  · cases h
  rename_i h3
  split at h
  · cases h
  rename_i h4
  split at h
  · rename_i h5; exact absurd h h5
  rename_i h5
  split at h
  · cases h
  rename_i h6
  have h3 : ¬ (within f.result 0 2 = false) ∧ ¬ (f.locals.any badKind = true) := ⟨fun e => h3 (.inl e), fun e => h3 (.inr e)⟩
  refine ⟨by omega, within_iff.1 (by simpa using h2), within_iff.1 (by simpa using h3.1), fun t ht => ?_, h4, by simpa using h5, fun o ho => ?_⟩
  · have := h3.2
    simp only [Bool.not_eq_true, List.any_eq_false] at this
    have := this t ht
    unfold badKind at this
    exact within_iff.1 (by simpa using this)
  · simp only [Bool.not_eq_true, List.any_eq_false] at h6
    simpa using h6 o ho
theorem codeErr_ops {l : List MOp} (h : codeErr l = 0) : l.length ≤ 40 ∧ ∀ o ∈ l, checkOp o = 0 := by
  unfold codeErr at h
  split at h
  · cases h
  · rename_i h1
    refine ⟨by omega, ?_⟩
    clear h1
    induction l with
    | nil => simp
    | cons o l ih =>
      simp only [checkOps] at h
      split at h
      · rename_i h2; simp at h2; exact absurd h h2
      · rename_i h2
        intro x hx
        rcases List.mem_cons.1 hx with rfl | hx
        · simpa using h2
        · exact ih h x hx
theorem checkOp_parts {o : MOp} (h : checkOp o = 0) : isCode o.c = true ∧ (names o.c = true ∨ o.a = 0) ∧ isInt o.a = true := by
  unfold checkOp at h
  split at h
  · cases h
  rename_i h1
  split at h
  · cases h
  rename_i h2
  split at h
  · cases h
  rename_i h3
  refine ⟨by simpa using h1, ?_, by simpa using h3⟩
  cases hn : names o.c
  · right
    simpa [hn] using h2
  · left; rfl
theorem decode_bytes {l : List MOp} (h : codeErr l = 0) : decodeOps (codeBytes l) = (l, 0) := by
  obtain ⟨h1, h2⟩ := codeErr_ops h
  have := decodeGo_codeBytes l [] (codeBytes l).length (fun o ho => checkOp_parts (h2 o ho)) (by simpa using h1) (Nat.le_refl _)
  simpa [decodeOps] using this
theorem takeR_app (a r : List UInt8) : takeR (a ++ r, false) (a.length : Int) = (a, r, false) := by
  unfold takeR cutB
  rw [if_neg (by rw [List.length_append]; omega)]
  simp
theorem funcR_of {n : Nat} {f : MFunc} (h : oneE n f = 0) (r : List UInt8) : funcR (funcBytes f ++ r, false) = (f, r, false) := by
  obtain ⟨h1, h2, h3, h4, h5, h6, _⟩ := oneE_all h
  obtain ⟨hc40, _⟩ := codeErr_ops h6
  have hcl := codeBytes_le f.code
  obtain ⟨C, hC⟩ : ∃ C, codeBytes f.code = C := ⟨_, rfl⟩
  have e : funcBytes f ++ r = byteOf f.params :: byteOf f.locals.length :: (f.locals.map byteOf ++ (byteOf f.result :: byteOf (C.length / 256) :: byteOf C.length :: (C ++ r))) := by
    simp [funcBytes, hC]
  rw [hC] at hcl
  rw [e]
  unfold funcR
  simp only [oneR_of (n := f.params) (by omega), oneR_of (n := (f.locals.length : Int)) (by omega), Int.toNat_natCast, localsR_of f.locals _ [] (fun t ht => by have := h4 t ht; omega), oneR_of (n := f.result) (by omega), oneR_of (n := (C.length : Int) / 256) (by omega)]
  have hb : oneR (byteOf (C.length : Int) :: (C ++ r), false) = ((C.length : Int), C ++ r, false) := oneR_of (by omega) _
  simp only [hb]
  have hz : (C.length : Int) / 256 * 256 + (C.length : Int) = (C.length : Int) := by omega
  simp only [hz, takeR_app]
  rw [← hC, decode_bytes h6]
  simp
theorem funcsR_of {n : Nat} : ∀ (fs : List MFunc) (r : List UInt8) (acc : List MFunc), (∀ f ∈ fs, oneE n f = 0) → funcsR fs.length (fs.flatMap funcBytes ++ r, false) acc = (acc ++ fs, r, false)
  | [], r, acc, _ => by simp [funcsR]
  | f :: fs, r, acc, h => by
    simp only [List.length_cons, funcsR, List.flatMap_cons, Bool.false_eq_true, if_false]
    rw [List.append_assoc, funcR_of (h f (by simp)), funcsR_of fs r _ (fun x hx => h x (by simp [hx]))]
    simp
theorem decode_progBytes {fs : List MFunc} (h : checkP fs = 0) (hl : (progBytes fs).length ≤ 2000) : decodeP (progBytes fs) = (fs, 0) := by
  obtain ⟨h1, h2, h3⟩ := checkP_zero h
  have hp : parseP (progBytes fs) = (fs, [], false) := by
    have := funcsR_of fs [] [] h3
    simp only [List.append_nil, List.nil_append] at this
    unfold parseP progBytes
    rw [oneR_of (by omega)]
    simpa using this
  unfold decodeP
  rw [if_neg (by omega), hp]
  simp [h]
/-! The other way round -/
theorem oneR_back {s s' : List UInt8} {sh : Bool} {p : Int} (e : oneR (s, sh) = (p, s', false)) : sh = false ∧ s = byteOf p :: s' := by
  cases s with
  | nil =>
    have : oneR ([], sh) = (0, [], true) := by cases sh <;> rfl
    rw [this] at e
    simp at e
  | cons b l =>
    rw [oneR_b] at e
    simp only [Prod.mk.injEq] at e
    obtain ⟨rfl, rfl, rfl⟩ := e
    exact ⟨rfl, by rw [byteOf_b]⟩
theorem takeR_back {s s' c : List UInt8} {sh : Bool} {n : Int} (h0 : 0 ≤ n) (e : takeR (s, sh) n = (c, s', false)) : sh = false ∧ s = c ++ s' ∧ (c.length : Int) = n := by
  unfold takeR cutB at e
  split at e
  · simp at e
  · rename_i h
    simp only [Prod.mk.injEq, Bool.not_true, Bool.or_false] at e
    obtain ⟨rfl, rfl, rfl⟩ := e
    refine ⟨rfl, (List.take_append_drop _ _).symm, ?_⟩
    rw [List.length_take]
    have h : ¬ ((s.length : Int) < n) := h
    omega
theorem localsR_back : ∀ (k : Nat) (s s' : List UInt8) (sh : Bool) (acc L : List Int), localsR k (s, sh) acc = (L, s', false) → sh = false ∧ ∃ M, L = acc ++ M ∧ M.length = k ∧ s = M.map byteOf ++ s'
  | 0, s, s', sh, acc, L, e => by
    simp only [localsR, Prod.mk.injEq] at e
    obtain ⟨rfl, rfl, rfl⟩ := e
    exact ⟨rfl, [], by simp, rfl, by simp⟩
  | k + 1, s, s', sh, acc, L, e => by
    simp only [localsR] at e
    split at e
    · rename_i h
      simp only [Prod.mk.injEq] at e
      rw [h] at e
      simp at e
    · rename_i h
      obtain ⟨p, s1, b1, e1⟩ : ∃ p s1 b1, oneR (s, sh) = (p, s1, b1) := ⟨_, _, _, rfl⟩
      rw [e1] at e
      obtain ⟨rfl, M, rfl, hM, rfl⟩ := localsR_back k _ _ _ _ _ e
      obtain ⟨rfl, rfl⟩ := oneR_back e1
      exact ⟨rfl, p :: M, by simp, by simp [hM], by simp⟩
theorem funcR_back {s s' : List UInt8} {sh : Bool} {f : MFunc} (e : funcR (s, sh) = (f, s', false)) : sh = false ∧ s = funcBytes f ++ s' := by
  obtain ⟨p, s1, b1, e1⟩ : ∃ p s1 b1, oneR (s, sh) = (p, s1, b1) := ⟨_, _, _, rfl⟩
  obtain ⟨n, s2, b2, e2⟩ : ∃ p s1' b1', oneR (s1, b1) = (p, s1', b1') := ⟨_, _, _, rfl⟩
  obtain ⟨L, s3, b3, e3⟩ : ∃ p s1' b1', localsR n.toNat (s2, b2) [] = (p, s1', b1') := ⟨_, _, _, rfl⟩
  obtain ⟨t, s4, b4, e4⟩ : ∃ p s1' b1', oneR (s3, b3) = (p, s1', b1') := ⟨_, _, _, rfl⟩
  obtain ⟨x, s5, b5, e5⟩ : ∃ p s1' b1', oneR (s4, b4) = (p, s1', b1') := ⟨_, _, _, rfl⟩
  obtain ⟨y, s6, b6, e6⟩ : ∃ p s1' b1', oneR (s5, b5) = (p, s1', b1') := ⟨_, _, _, rfl⟩
  obtain ⟨c, s7, b7, e7⟩ : ∃ p s1' b1', takeR (s6, b6) (x * 256 + y) = (p, s1', b1') := ⟨_, _, _, rfl⟩
  unfold funcR at e
  simp only [e1, e2, e3, e4, e5, e6, e7, Prod.mk.injEq, Bool.or_eq_false_iff, decide_eq_false_iff_not] at e
  obtain ⟨rfl, rfl, rfl, hd⟩ := e
  have hd := Decidable.byContradiction hd
  have d1 := (oneR_bd e1).1
  have d2 := (oneR_bd e2).1
  have d5 := (oneR_bd e5).1
  have d6 := (oneR_bd e6).1
  obtain ⟨rfl, rfl, hcl⟩ := takeR_back (by omega) e7
  obtain ⟨rfl, rfl⟩ := oneR_back e6
  obtain ⟨rfl, rfl⟩ := oneR_back e5
  obtain ⟨rfl, rfl⟩ := oneR_back e4
  obtain ⟨rfl, M, hL, hM, rfl⟩ := localsR_back _ _ _ _ _ _ e3
  obtain ⟨rfl, rfl⟩ := oneR_back e2
  obtain ⟨rfl, rfl⟩ := oneR_back e1
  refine ⟨rfl, ?_⟩
  have hL : L = M := by simpa using hL
  subst hL
  have hc : codeBytes (decodeOps c).1 = c := by
    have := decode_encode c hd
    unfold encodeOps at this
    split at this
    · rename_i h
      simp only [Prod.mk.injEq] at this
      simp [this.2] at h
    · simpa using this
  have hx : (c.length : Int) / 256 = x := by omega
  have hy : byteOf (c.length : Int) = byteOf y := by unfold byteOf; congr 2; omega
  have hn : (L.length : Int) = n := by omega
  simp [funcBytes, hc, hx, hy, hn]
theorem funcsR_back : ∀ (k : Nat) (s s' : List UInt8) (sh : Bool) (acc L : List MFunc), funcsR k (s, sh) acc = (L, s', false) → sh = false ∧ ∃ M, L = acc ++ M ∧ M.length = k ∧ s = M.flatMap funcBytes ++ s'
  | 0, s, s', sh, acc, L, e => by
    simp only [funcsR, Prod.mk.injEq] at e
    obtain ⟨rfl, rfl, rfl⟩ := e
    exact ⟨rfl, [], by simp, rfl, by simp⟩
  | k + 1, s, s', sh, acc, L, e => by
    simp only [funcsR] at e
    split at e
    · rename_i h
      simp only [Prod.mk.injEq] at e
      rw [h] at e
      simp at e
    · obtain ⟨p, s1, b1, e1⟩ : ∃ p s1 b1, funcR (s, sh) = (p, s1, b1) := ⟨_, _, _, rfl⟩
      rw [e1] at e
      obtain ⟨rfl, M, rfl, hM, rfl⟩ := funcsR_back k _ _ _ _ _ e
      obtain ⟨rfl, rfl⟩ := funcR_back e1
      exact ⟨rfl, p :: M, by simp, by simp [hM], by simp⟩
theorem encode_decodeP (s : List UInt8) (h : (decodeP s).2 = 0) : encodeP (decodeP s).1 = (s, 0) := by
  obtain ⟨n, s1, b1, e1⟩ : ∃ p s1 b1, oneR (s, false) = (p, s1, b1) := ⟨_, _, _, rfl⟩
  obtain ⟨F, s2, b2, e2⟩ : ∃ p s1' b1', funcsR n.toNat (s1, b1) [] = (p, s1', b1') := ⟨_, _, _, rfl⟩
  have hp : parseP s = (F, s2, b2) := by unfold parseP; rw [e1]; exact e2
  have d1 := (oneR_bd e1).1
  unfold decodeP at h ⊢
  rw [hp] at h ⊢
  split at h
  · cases h
  rename_i h1
  split at h
  · cases h
  rename_i h2
  split at h
  · rename_i h3; exact absurd h h3
  rename_i h3
  rw [if_neg h1, if_neg h2, if_neg h3]
  have hb : b2 = false := by cases b2; rfl; exact absurd (.inl rfl) h2
  have hs : s2 = [] := Decidable.byContradiction fun e => h2 (.inr e)
  subst hb hs
  obtain ⟨rfl, M, hF, hM, rfl⟩ := funcsR_back _ _ _ _ _ _ e2
  obtain ⟨_, rfl⟩ := oneR_back e1
  have hF : F = M := by simpa using hF
  subst hF
  have h3 : checkP F = 0 := by simpa using h3
  rw [encodeP_of h3]
  simp only [progBytes, List.append_nil]
  rw [show (F.length : Int) = n from by omega]
end Go.Proofs.Ytejpkcheimgdfaa

-- Pr15
/- Programs: there and back. -/
namespace Go.Proofs.Ytejpkcheimgdfaa
open Go.RowKit

set_option maxRecDepth 100000 in
set_option maxHeartbeats 2000000 in
theorem progBack_any (A : Option Addr) (c : Nat) (fs : List MFunc) (s : List UInt8) (w : World) (hs : Sl w (.slice A fs.length c) fs) (hl : s.length ≤ 140737488355320) :
    Calls Try.prog 4 #[.agg #[.slice A fs.length c], .string ⟨s.toArray⟩] w fun e w' => e = .returned (.bool true) ∧ Below w.heap.size w w' := by
  refine enter Try.func4 rfl Try.ntmps4 rfl ?_
  refine cw_seq ?_
  refine cw_region ?_
  refine rw_op (ot_box rfl rfl rfl) rfl rfl (fun g1 _ => ?_)
  refine rw_run tab_ok 1 [(1, _), (2, _)] rfl ⟨rfl, rfl, trivial⟩ ?_
  refine rw_end ?_
  refine cw_seq ?_
  refine cw_seq ?_
  refine cw_region ?_
  refine rw_op (ot_c0 rfl rfl rfl Try.call15 (fun w hw => progBegun_any w)) rfl rfl (fun _ _ => ?_)
  refine rw_run tab_ok 1 [(1, _), (2, _), (11, _)] rfl ⟨rfl, rfl, rfl, trivial⟩ ?_
  refine rw_end ?_
  refine cw_cond_f rfl ?_
  refine cw_skip (xw_then ?_)
  refine cw_seq ?_
  refine cw_region ?_
  refine rw_s (qs_ldbA (vs := [_]) (by first | (repeat (first | with_reducible exact .a | with_reducible apply Foc.s)); done | (repeat (first | exact .a | apply Foc.s))) Try.isAgg24 Try.sizeOf24 rfl rfl (by rfl) rfl) rfl rfl ?_
  refine rw_op (ot_c0 rfl rfl rfl Try.call10 (fun w hw => pencode_any A c fs w (hw.ro hs))) rfl rfl (fun _ _ => ?_)
  refine rw_run tab_ok 5 [(1, _), (2, _), (5, _), (6, _)] rfl ⟨rfl, rfl, rfl, rfl, trivial⟩ ?_
  refine rw_end ?_
  refine cw_cut (fun _ : Unit => True) (fun _ => [(1, .string ⟨s.toArray⟩)]) (fun _ => []) ?_ ?_
  · refine cw_seq ?_
    refine cw_region ?_
    refine rw_run tab_ok 3 [(1, _), (2, _), (5, _), (19, _)] rfl ⟨rfl, rfl, rfl, rfl, trivial⟩ ?_
    refine rw_split (t := 19) rfl (fun h1 => ?_) (fun h1 => ?_)
    · have h1 := of_decide_eq_true h1
      have hz : checkP fs = 0 := by
        by_cases h : checkP fs = 0
        · exact h
        · rw [encodeP_no h] at h1; exact absurd h1 h
      have he := encodeP_of hz
      refine rw_run tab_ok 1 [(1, _), (2, _), (5, _), (19, _), (20, _)] rfl ⟨rfl, rfl, rfl, rfl, rfl, trivial⟩ ?_
      refine rw_s (qs_lenS Try.underlying9 rfl rfl) rfl rfl ?_
      refine rw_run tab_ok 2 [(1, _), (2, _), (5, _), (23, _)] rfl ⟨rfl, rfl, rfl, rfl, trivial⟩ ?_
      refine rw_end ?_
      refine cw_condD rfl (fun h2 => ?_) (fun h2 => ?_)
      · have hd : decodeP (encodeP fs).1 = (fs, 0) := by
          rw [he] at h2 ⊢
          have h2 : ((progBytes fs).length : Int) ≤ 2000 := h2
          exact decode_progBytes hz (by omega)
        have hdec : ∀ w1, Calls Try.prog 11 #[.string ⟨(encodeP fs).1.toArray⟩] w1 fun e w' => ∃ u, e = .returned (.tuple #[.agg #[u], .int .i64 0]) ∧ Below w1.heap.size w1 w' ∧ OwN w' w1.heap.size u fs := fun w1 => by
          have := pdecode_any (encodeP fs).1 w1 (by omega)
          rw [hd] at this
          exact this
        refine cw_seq ?_
        refine cw_region ?_
        refine rw_run tab_ok 1 [(1, _), (2, _), (25, _)] rfl ⟨rfl, rfl, rfl, trivial⟩ ?_
        refine rw_op (ot_cO rfl rfl rfl Try.call11 (fun w hw => hdec w)) rfl rfl (fun ⟨A1, c1⟩ _ => ?_)
        try dsimp only
        refine rw_run tab_ok 3 [(1, _), (2, _), (27, _), (28, _)] rfl ⟨rfl, rfl, rfl, rfl, trivial⟩ ?_
        refine rw_op (ot_alloc Try.zeroValue24 rfl rfl) rfl rfl (fun g2 _ => ?_)
        refine rw_op (ot_stb _ (by first | (repeat (first | with_reducible exact .a | with_reducible apply Foc.s)); done | (repeat (first | exact .a | apply Foc.s))) Try.sizeOf24 rfl rfl rfl rfl rfl (by rfl) rfl (by rfl)) rfl rfl (fun _ _ => ?_)
        refine rw_run tab_ok 1 [(1, _), (2, _), (7, _), (8, _)] rfl ⟨rfl, rfl, rfl, rfl, trivial⟩ ?_
        refine rw_end ?_
        refine cw_seq ?_
        refine cw_region ?_
        refine rw_run tab_ok 3 [(1, _), (2, _), (7, _), (31, _)] rfl ⟨rfl, rfl, rfl, rfl, trivial⟩ ?_
        refine rw_as (t := 31) (v' := .bool false) rfl (rfl) ?_
        refine rw_s (qs_ldbA (vs := [_]) (by first | (repeat (first | with_reducible exact .a | with_reducible apply Foc.s)); done | (repeat (first | exact .a | apply Foc.s))) Try.isAgg24 Try.sizeOf24 rfl rfl (by rfl) rfl) rfl rfl ?_
        refine rw_s (qs_ldbA (vs := [_]) (by first | (repeat (first | with_reducible exact .a | with_reducible apply Foc.s)); done | (repeat (first | exact .a | apply Foc.s))) Try.isAgg24 Try.sizeOf24 rfl rfl (by rfl) rfl) rfl rfl ?_
        refine rw_op (ot_c0 rfl rfl rfl Try.call17 (fun w hw => rsameP_any _ _ _ _ fs fs w (hw.ro hs) (SF.at_ (SF.own rfl (by first | (repeat (first | with_reducible exact .a | with_reducible apply Foc.s)); done | (repeat (first | exact .a | apply Foc.s)))) hw))) rfl rfl (fun _ _ => ?_)
        refine rw_run tab_ok 2 [(1, _), (36, _)] rfl ⟨rfl, rfl, trivial⟩ ?_
        refine rw_end ?_
        refine cw_as (t := 36) (v' := .bool false) rfl (by rw [decide_eq_true rfl]; rfl) ?_
        refine cw_cond_f rfl ?_
        refine cw_skip ?_
        refine xw_join () (trivial) ⟨rfl, trivial⟩ (by first | exact fun _ h => h | exact fun _ h => h.msub (by repeat (first | exact .z | refine .s (by first | (repeat (first | with_reducible exact .a | with_reducible apply Foc.s)); done | (repeat (first | exact .a | apply Foc.s))) ?_)))
      · refine cw_skip ?_
        refine xw_join () (trivial) ⟨rfl, trivial⟩ (by first | exact fun _ h => h | exact fun _ h => h.msub (by repeat (first | exact .z | refine .s (by first | (repeat (first | with_reducible exact .a | with_reducible apply Foc.s)); done | (repeat (first | exact .a | apply Foc.s))) ?_)))
    · refine rw_run tab_ok 4 [(1, _), (2, _), (5, _), (23, _)] rfl ⟨rfl, rfl, rfl, rfl, trivial⟩ ?_
      refine rw_end ?_
      refine cw_cond_f rfl ?_
      refine cw_skip ?_
      refine xw_join () (trivial) ⟨rfl, trivial⟩ (by first | exact fun _ h => h | exact fun _ h => h.msub (by repeat (first | exact .z | refine .s (by first | (repeat (first | with_reducible exact .a | with_reducible apply Foc.s)); done | (repeat (first | exact .a | apply Foc.s))) ?_)))
  · rintro _ _
    refine cw_seq ?_
    refine cw_region ?_
    refine rw_run tab_ok 1 [(1, _), (38, _)] rfl ⟨rfl, rfl, trivial⟩ ?_
    refine rw_op (ot_cO rfl rfl rfl Try.call11 (fun w hw => pdecode_any s w hl)) rfl rfl (fun ⟨A2, c2⟩ _ => ?_)
    try dsimp only
    refine rw_run tab_ok 3 [(1, _), (40, _), (41, _)] rfl ⟨rfl, rfl, rfl, trivial⟩ ?_
    refine rw_op (ot_alloc Try.zeroValue24 rfl rfl) rfl rfl (fun g3 _ => ?_)
    refine rw_op (ot_stb _ (by first | (repeat (first | with_reducible exact .a | with_reducible apply Foc.s)); done | (repeat (first | exact .a | apply Foc.s))) Try.sizeOf24 rfl rfl rfl rfl rfl (by rfl) rfl (by rfl)) rfl rfl (fun _ _ => ?_)
    refine rw_run tab_ok 1 [(1, _), (6, _), (9, _)] rfl ⟨rfl, rfl, rfl, trivial⟩ ?_
    refine rw_end ?_
    refine cw_seq ?_
    refine cw_seq ?_
    refine cw_region ?_
    refine rw_run tab_ok 2 [(1, _), (9, _), (43, _)] rfl ⟨rfl, rfl, rfl, trivial⟩ ?_
    refine rw_end ?_
    refine cw_condN rfl (fun h2 => ?_) (fun h2 => ?_)
    · have hn := decodeP_err s h2
      refine cw_seq ?_
      refine cw_region ?_
      refine rw_run tab_ok 1 [(44, _)] rfl ⟨rfl, trivial⟩ ?_
      refine rw_s (qs_ldb (by first | (repeat (first | with_reducible exact .a | with_reducible apply Foc.s)); done | (repeat (first | exact .a | apply Foc.s))) Try.isAgg22 rfl rfl (by rfl)) rfl rfl ?_
      refine rw_s (qs_len Try.underlying22 rfl rfl) rfl rfl ?_
      refine rw_run tab_ok 2 [(4, _)] rfl ⟨rfl, trivial⟩ ?_
      refine rw_end ?_
      refine cw_ret (xw_thenr ?_)
      refine xw_ret1 Try.results4 (rv_tmp rfl) ?_
      intro w hw
      exact ⟨ret_bool (by rw [hn]; rfl), hw.below⟩
    · have hb := encode_decodeP s h2
      refine cw_skip (xw_then ?_)
      refine cw_seq ?_
      refine cw_region ?_
      refine rw_s (qs_ldbA (vs := [_]) (by first | (repeat (first | with_reducible exact .a | with_reducible apply Foc.s)); done | (repeat (first | exact .a | apply Foc.s))) Try.isAgg24 Try.sizeOf24 rfl rfl (by rfl) rfl) rfl rfl ?_
      refine rw_op (ot_c0 rfl rfl rfl Try.call10 (fun w hw => pencode_any _ _ (decodeP s).1 w (SF.at_ (SF.own rfl (by first | (repeat (first | with_reducible exact .a | with_reducible apply Foc.s)); done | (repeat (first | exact .a | apply Foc.s)))) hw))) rfl rfl (fun _ _ => ?_)
      refine rw_run tab_ok 5 [(1, _), (5, _), (6, _)] rfl ⟨rfl, rfl, rfl, trivial⟩ ?_
      refine rw_end ?_
      refine cw_seq ?_
      refine cw_region ?_
      refine rw_run tab_ok 3 [(1, _), (5, _), (55, _)] rfl ⟨rfl, rfl, rfl, trivial⟩ ?_
      refine rw_as (t := 55) (v' := .bool true) rfl (by rw [hb]; rfl) ?_
      refine rw_run tab_ok 2 [(55, _), (56, _), (57, _)] rfl ⟨rfl, rfl, rfl, trivial⟩ ?_
      refine rw_s (qs_eqS rfl rfl rfl) rfl rfl ?_
      refine rw_run tab_ok 2 [(4, _)] rfl ⟨rfl, trivial⟩ ?_
      refine rw_end ?_
      refine cw_ret ?_
      refine xw_ret1 Try.results4 (rv_tmp rfl) ?_
      intro w hw
      exact ⟨ret_bool (by rw [hb]; exact decide_eq_true rfl), hw.below⟩
theorem progBack_law (v : Value) (fs : List MFunc) (s : List UInt8) (w : World) (hs : Sl w v fs) (hl : s.length ≤ 140737488351232) : Calls Try.prog 4 #[.agg #[v], .string ⟨s.toArray⟩] w fun e w' => e = .returned (.bool true) ∧ Below w.heap.size w w' := by
  obtain ⟨A, c, rfl, _⟩ := hs.form
  exact progBack_any A c fs s w hs (by omega)
end Go.Proofs.Ytejpkcheimgdfaa

-- Read
/- How what came in reads as data of the proofs' own types: numbers, texts, slices of whatever reads. -/
namespace Go.Proofs.Ytejpkcheimgdfaa
open Go.ChangeShapes Go.WideShapes Go.ChangeAt Go.RowKit Go.Deep

/-- Whatever reads at type t is a datum of α. -/
def Rd (t : TypeId) (α : Type) [Rep α] : Prop :=
  ∀ (H : Type) (enc : TypeId × Value → H) (W : World) (fuel : Nat) (cs : List Value) (x : DataW H × List MemPlace),
    DataW.trod enc Try.prog W 0 (fun _ => true) true fuel t cs = some x → (∀ n ∈ x.1.weights Try.prog t, n ≤ reachBytes) → ∃ y : α, Rep.rep W W.heap.size cs y

theorem i64_of_wf {n : Int} (hw : (Lit.int .i64 n).wf = true) : I64 n := by
  simp [Lit.wf, IntKind.min, IntKind.max, IntKind.signed, IntKind.bits] at hw
  exact ⟨by omega, by omega⟩
theorem rd_int {t : TypeId} (ht : Try.prog.underlying t = some (.int .i64)) : Rd t Int := by
  intro H enc W fuel cs x h _
  obtain ⟨n, rfl, _, hw⟩ := DataW.trod_int ht h
  refine ⟨n, rfl, ?_⟩
  simp [Lit.wf, IntKind.min, IntKind.max, IntKind.signed, IntKind.bits] at hw
  exact ⟨by omega, by omega⟩

theorem exists_list {α : Type} {R : Nat → α → Prop} (n : Nat) (h : ∀ i, i < n → ∃ y, R i y) : ∃ ys : List α, ys.length = n ∧ ∀ i y, ys[i]? = some y → R i y := by
  induction n with
  | zero => exact ⟨[], rfl, fun i y h => by simp at h⟩
  | succ n ih =>
    obtain ⟨ys, hl, hy⟩ := ih (fun i hi => h i (by omega))
    obtain ⟨y, hR⟩ := h n (by omega)
    refine ⟨ys ++ [y], by simp [hl], fun i z hz => ?_⟩
    by_cases hi : i < ys.length
    · rw [List.getElem?_append_left hi] at hz; exact hy i z hz
    · rw [List.getElem?_append_right (by omega)] at hz
      have : i - ys.length = 0 := by
        rcases Nat.eq_zero_or_pos (i - ys.length) with h | h
        · exact h
        · rw [List.getElem?_eq_none (by simp; omega)] at hz; cases hz
      rw [this] at hz
      simp at hz
      subst hz
      have : i = n := by omega
      rw [this]; exact hR

theorem rd_slice {t e : TypeId} {α : Type} [Rep α] (hr : Rd e α) (ht : Try.prog.underlying t = some (.slice e)) (hc : Try.prog.cellsOf e = Rep.k α) (hk : 0 < Rep.k α) (hb : 0 < Try.prog.bytesOf e) :
    Rd t (List α) := by
  intro H enc W fuel cs x h hw
  rcases open_slice ht h with ⟨rfl, rfl⟩ | ⟨a, len, cap, m, n, D, Pl, rfl, _, hl, hm, hmm, rfl, hi⟩
  · exact ⟨[], _, rfl, SlB.nil_⟩
  · have hmc : cap = m := by simpa using hmm.symm
    clear hmm
    rw [hmc] at hl hm ⊢
    clear hmc
    have hel : ∀ i, i < len → ∃ y : α, ∃ cs', W.cells? 0 (a.add (i * Rep.k α)) (Rep.k α) = some cs' ∧ Rep.rep W W.heap.size cs' y := by
      intro i hil
      obtain ⟨cs', hcs, htr⟩ := hi i (by omega)
      rw [hc] at hcs
      obtain ⟨y, hy⟩ := hr H enc W n cs' _ htr (fun u hu => hw u (by
        simp only [DataW.weights, ht]
        refine List.mem_cons_of_mem _ (List.mem_append_left _ ?_)
        have : ∀ (l : List Nat), i ∈ l → u ∈ DataW.weightsAll Try.prog e (l.map D) := by
          intro l
          induction l with
          | nil => simp
          | cons z l ih =>
            intro hz
            simp only [List.map_cons, DataW.weightsAll, List.mem_append]
            rcases List.mem_cons.1 hz with rfl | hz
            · exact .inl hu
            · exact .inr (ih hz)
        exact this _ (List.mem_range.2 hil)))
      exact ⟨y, cs', hcs, hy⟩
    obtain ⟨ys, hyl, hy⟩ := exists_list len hel
    have hbytes : (len + (m - len)) * Try.prog.bytesOf e ≤ reachBytes := by
      have := hw ((((List.range len).map D).length + ((List.range (m - len)).map fun j => D (len + j)).length) * Try.prog.bytesOf e) (by simp only [DataW.weights, ht]; exact List.mem_cons_self)
      simpa using this
    have hlen : len ≤ 140737488355328 := by
      have h1 : len + (m - len) ≤ (len + (m - len)) * Try.prog.bytesOf e := Nat.le_mul_of_pos_right _ hb
      have h2 := reachBytes_lt
      omega
    refine ⟨ys, _, rfl, some a, m, by rw [hyl], by omega, hm, by omega, fun h0 => ?_⟩
    have hsome : ∀ i, i < len → ∀ j, j < Rep.k α → ∃ v, W.cell? ((a.add (i * Rep.k α)).add j) = some v := by
      intro i hil j hj
      obtain ⟨y, cs', hcs, _⟩ := hel i hil
      obtain ⟨_, hcl, hat⟩ := World.cells?_some hcs
      exact ⟨cs'[j]'(by omega), by rw [hat j hj]; exact List.getElem?_eq_getElem (by omega)⟩
    obtain ⟨b, off, spot⟩ := a
    obtain ⟨v0, hv0⟩ := hsome 0 (by omega) 0 hk
    have hspot : spot = none := by simpa [Addr.add] using World.cell?_spot hv0
    subst hspot
    have hadd : ∀ i j : Nat, ((⟨b, off, none⟩ : Addr).add i).add j = ⟨b, off + i + j, none⟩ := by
      intro i j; unfold Addr.add; by_cases hi : i = 0 <;> by_cases hj : j = 0 <;> simp [hi, hj, Nat.add_assoc]
    have hblt : b < W.heap.size := by
      rw [hadd] at hv0
      rcases Nat.lt_or_ge b W.heap.size with h | h
      · exact h
      · simp [World.cell?, Array.getElem?_eq_none h] at hv0
    refine ⟨b, off, rfl, hblt, fun i y hyi => ?_⟩
    obtain ⟨cs', hcs, hrep⟩ := hy i y hyi
    obtain ⟨_, hcl, hat⟩ := World.cells?_some hcs
    refine ⟨cs', hrep, fun j u hu => ?_⟩
    have hj : j < Rep.k α := by have := (List.getElem?_eq_some_iff.1 hu).1; omega
    have := hat j hj
    rw [hadd] at this
    rw [this, hu]

/-! Arguments. -/
section
variable {H : Type} {enc : TypeId × Value → H} {W : World} {t e : TypeId} {v : Value} {d : DataW H} {p : List MemPlace} {base : Nat}
set_option maxRecDepth 100000 in
theorem arg_int (ht : Try.prog.underlying t = some (.int .i64)) (hv : Value.okWide Try.prog W .any base t v) (h : DataW.Trod enc Try.prog W 0 (fun _ => true) true t v d p) : ∃ n, v = .int .i64 n ∧ I64 n := by
  obtain ⟨n, rfl, _, _, hw⟩ := open_int ht hv h
  refine ⟨n, rfl, ?_⟩
  simp [Lit.wf, IntKind.min, IntKind.max, IntKind.signed, IntKind.bits] at hw
  exact ⟨by omega, by omega⟩
set_option maxRecDepth 100000 in
theorem arg_string (ht : Try.prog.underlying t = some .string) (hv : Value.okWide Try.prog W .any base t v) (h : DataW.Trod enc Try.prog W 0 (fun _ => true) true t v d p) (hw : ∀ n ∈ d.weights Try.prog t, n ≤ reachBytes) : ∃ l : List UInt8, v = .string ⟨l.toArray⟩ ∧ l.length ≤ 140737488351232 := by
  obtain ⟨⟨⟨l⟩⟩, rfl, rfl, _, _⟩ := Go.ChangeMaps.open_string ht hv h
  refine ⟨l, rfl, ?_⟩
  have := hw l.length (by simp [DataW.weights])
  unfold reachBytes at this
  omega
set_option maxRecDepth 100000 in
theorem arg_slice {α : Type} [Rep α] (hr : Rd t (List α)) (ht : Try.prog.underlying t = some (.slice e)) (hv : Value.okWide Try.prog W .any base t v) (h : DataW.Trod enc Try.prog W 0 (fun _ => true) true t v d p) (hw : ∀ n ∈ d.weights Try.prog t, n ≤ reachBytes) : ∃ xs : List α, Sl W v xs := by
  obtain ⟨a, len, cap, rfl⟩ := okWide_slice ht hv
  obtain ⟨fuel, hf⟩ := h
  obtain ⟨xs, v', hv', hs⟩ := hr _ _ _ _ _ _ hf hw
  simp [Value.cells] at hv'
  subst hv'
  exact ⟨xs, hs⟩
set_option maxRecDepth 100000 in
theorem arg_slice_b {α : Type} [Rep α] (hr : Rd t (List α)) (ht : Try.prog.underlying t = some (.slice e)) (hv : Value.okWide Try.prog W .any base t v) (h : DataW.Trod enc Try.prog W 0 (fun _ => true) true t v d p) (hw : ∀ n ∈ d.weights Try.prog t, n ≤ reachBytes) : ∃ xs : List α, Sl W v xs ∧ xs.length * Try.prog.bytesOf e ≤ reachBytes := by
  obtain ⟨xs, hs⟩ := arg_slice hr ht hv h hw
  obtain ⟨a, len, cap, rfl⟩ := okWide_slice ht hv
  have hl := SlB.len_eq hs
  refine ⟨xs, hs, ?_⟩
  obtain ⟨fuel, hf⟩ := h
  rcases open_slice ht hf with ⟨hcs, hx⟩ | ⟨a', len', cap', m, n, D, Pl, hcs, _, hl', hm, hmm, hx, hi⟩
  · simp [Value.cells] at hcs
    rw [hl, hcs.2.1]; simp
  · simp [Value.cells] at hcs
    obtain ⟨_, rfl, _⟩ := hcs
    simp only [Prod.mk.injEq] at hx
    have := hw ((((List.range len).map D).length + ((List.range (m - len)).map fun j => D (len + j)).length) * Try.prog.bytesOf e) (by rw [hx.1]; simp only [DataW.weights, ht]; exact List.mem_cons_self)
    refine Nat.le_trans ?_ this
    rw [hl]
    exact Nat.mul_le_mul_right _ (by simp)
set_option maxRecDepth 100000 in
theorem arg_agg {α : Type} [Rep α] {fs : Array Field} (hr : Rd t α) (ht : Try.prog.underlying t = some (.struct fs)) (hv : Value.okWide Try.prog W .any base t v) (h : DataW.Trod enc Try.prog W 0 (fun _ => true) true t v d p) (hw : ∀ n ∈ d.weights Try.prog t, n ≤ reachBytes) : ∃ (x : α) (cs : List Value), v = .agg cs.toArray ∧ Rep.rep W W.heap.size cs x := by
  obtain ⟨cs, rfl, _⟩ := okWide_struct ht hv
  obtain ⟨fuel, hf⟩ := h
  obtain ⟨x, hx⟩ := hr _ _ _ _ _ _ hf hw
  exact ⟨x, _, rfl, hx⟩
end
end Go.Proofs.Ytejpkcheimgdfaa

-- ReadOp
namespace Go.Proofs.Ytejpkcheimgdfaa
open Go.ChangeShapes Go.WideShapes Go.ChangeAt Go.RowKit Go.Deep

theorem Try.cOp : Try.prog.cellsOf 61 = 2 := by kernel_rfl
theorem Try.bOp : Try.prog.bytesOf 61 = 16 := by kernel_rfl
theorem Try.cInt : Try.prog.cellsOf 3 = 1 := by kernel_rfl
set_option maxRecDepth 100000 in
theorem rd_op : Rd 61 MOp := by
  intro H enc W fuel cs x h hw
  obtain ⟨xs, n, _, rfl, hcl, hxl, hf⟩ := DataW.trod_struct Try.underlying61 h
  rw [Try.cOp] at hcl
  obtain ⟨c0, c1, rfl⟩ : ∃ c0 c1, cs = [c0, c1] := by
    match cs, hcl with
    | [c0, c1], _ => exact ⟨c0, c1, rfl⟩
  match xs, hxl with
  | [y0, y1], _ =>
    have h0 := hf 0 _ rfl
    have h1 := hf 1 _ rfl
    simp [Try.cInt] at h0 h1
    obtain ⟨n0, e0, he0, hi0⟩ := DataW.trod_int Try.underlying3 h0
    obtain ⟨n1, e1, he1, hi1⟩ := DataW.trod_int Try.underlying3 h1
    simp at e0 e1
    subst e0 e1
    exact ⟨⟨n0, n1⟩, rfl, i64_of_wf hi0, i64_of_wf hi1⟩
theorem rd_ops : Rd 52 (List MOp) := rd_slice rd_op Try.underlying52 Try.cOp (by decide) (by rw [Try.bOp]; decide)
theorem rd_i : Rd 3 Int := rd_int Try.underlying3
end Go.Proofs.Ytejpkcheimgdfaa

-- ReadP
/- Arguments that are programs, read as data. -/
namespace Go.Proofs.Ytejpkcheimgdfaa
open Go.ChangeShapes Go.WideShapes Go.ChangeAt Go.RowKit Go.Deep

/-- The parts of a struct that reads. -/
theorem rd_parts {t : TypeId} {fs : Array Field} (ht : Try.prog.underlying t = some (.struct fs)) {H : Type} {enc : TypeId × Value → H} {W : World} {fuel : Nat} {cs : List Value} {x : DataW H × List MemPlace}
    (h : DataW.trod enc Try.prog W 0 (fun _ => true) true fuel t cs = some x) (hw : ∀ n ∈ x.1.weights Try.prog t, n ≤ reachBytes) :
    cs.length = Try.prog.cellsOf t ∧ ∀ (i : Nat) (f : Field), fs[i]? = some f → ∀ (α : Type) [Rep α], Rd f.type α → ∃ y : α, Rep.rep W W.heap.size ((cs.drop f.offset).take (Try.prog.cellsOf f.type)) y := by
  obtain ⟨xs, n, _, rfl, hcl, hxl, hf⟩ := DataW.trod_struct ht h
  refine ⟨hcl, fun i f hfi α _ hr => ?_⟩
  have h1 := hf i f hfi
  have hi : i < xs.length := by rw [hxl]; exact (Array.getElem?_eq_some_iff.1 hfi).1
  rw [List.getElem?_eq_getElem hi] at h1
  refine hr _ _ _ _ _ _ h1 fun u hu => hw u ?_
  simp only [DataW.weights, ht]
  exact DataW.weights_mem_each (j := i) (by rw [List.getElem?_map, Array.getElem?_toList, hfi]; rfl) (by rw [List.getElem?_map, List.getElem?_eq_getElem hi]; rfl) u hu
theorem Try.cIntP : Try.prog.cellsOf 3 = 1 := by kernel_rfl
theorem Try.bIntP : Try.prog.bytesOf 3 = 8 := by kernel_rfl
theorem Try.cIntsP : Try.prog.cellsOf 35 = 1 := by kernel_rfl
theorem Try.cOpsP : Try.prog.cellsOf 52 = 1 := by kernel_rfl
theorem Try.cFuncP : Try.prog.cellsOf 54 = 4 := by kernel_rfl
theorem Try.bFuncP : Try.prog.bytesOf 54 = 64 := by kernel_rfl
theorem Try.cFuncsP : Try.prog.cellsOf 22 = 1 := by kernel_rfl
theorem rd_ints : Rd 35 (List Int) := rd_slice rd_i Try.underlying35 Try.cIntP (by decide) (by rw [Try.bIntP]; decide)
set_option maxRecDepth 100000 in
theorem rd_func : Rd 54 MFunc := by
  intro H enc W fuel cs x h hw
  obtain ⟨hl, hp⟩ := rd_parts Try.underlying54 h hw
  rw [Try.cFuncP] at hl
  obtain ⟨c0, c1, c2, c3, rfl⟩ : ∃ c0 c1 c2 c3, cs = [c0, c1, c2, c3] := by
    match cs, hl with
    | [c0, c1, c2, c3], _ => exact ⟨c0, c1, c2, c3, rfl⟩
  obtain ⟨y0, h0, i0⟩ := hp 0 _ rfl Int rd_i
  obtain ⟨y1, v1, h1, i1⟩ := hp 1 _ rfl (List Int) rd_ints
  obtain ⟨y2, h2, i2⟩ := hp 2 _ rfl Int rd_i
  obtain ⟨y3, v3, h3, i3⟩ := hp 3 _ rfl (List MOp) rd_ops
  simp [Try.cIntP, Try.cIntsP, Try.cOpsP] at h0 h1 h2 h3
  subst h0 h1 h2 h3
  exact ⟨⟨y0, y1, y2, y3⟩, _, _, rfl, ⟨i0, i2⟩, i1, i3⟩
theorem rd_funcs : Rd 22 (List MFunc) := rd_slice rd_func Try.underlying22 Try.cFuncP (by decide) (by rw [Try.bFuncP]; decide)
/-- A program. -/
structure MProg where
  funcs : List MFunc
instance : Rep MProg where
  k := 1
  rep w B cs p := ∃ v, cs = [v] ∧ SlB w B v p.funcs
  len h := by obtain ⟨v, h, _⟩ := h; rw [h]; rfl
  keep h hc := by obtain ⟨v, h, hs⟩ := h; exact ⟨v, h, hs.keep hc⟩
  more h hb := by obtain ⟨v, h, hs⟩ := h; exact ⟨v, h, hs.more hb⟩
  one h := by obtain ⟨v, h, hs⟩ := h; obtain ⟨A, c, rfl, _⟩ := hs.form; rw [h]; simp [Value.oneCell']
set_option maxRecDepth 100000 in
theorem rd_prog : Rd 24 MProg := by
  intro H enc W fuel cs x h hw
  obtain ⟨hl, hp⟩ := rd_parts Try.underlying24 h hw
  rw [show Try.prog.cellsOf 24 = 1 from by kernel_rfl] at hl
  obtain ⟨c0, rfl⟩ : ∃ c0, cs = [c0] := by
    match cs, hl with
    | [c0], _ => exact ⟨c0, rfl⟩
  obtain ⟨y0, v, h0, i0⟩ := hp 0 _ rfl (List MFunc) rd_funcs
  simp [Try.cFuncsP] at h0
  subst h0
  exact ⟨⟨y0⟩, _, rfl, i0⟩
/-- A law over a program, from one over its functions. -/
theorem prog_law {f : FuncId} {W : World} {v : Value} {fs : List MFunc} {rest : List Value} {R : Ending → World → Prop} (hs : Sl W v fs) (h : ∀ A c, Sl W (.slice A fs.length c) fs → Calls Try.prog f (Value.agg #[.slice A fs.length c] :: rest).toArray W R) : Calls Try.prog f (Value.agg #[v] :: rest).toArray W R := by
  obtain ⟨A, c, rfl, _⟩ := hs.form
  exact h A c hs
end Go.Proofs.Ytejpkcheimgdfaa

