/- What is encoded is decoded as it was, and what is decoded is encoded as it was: plain lists of bytes. -/
import Derived.Test.YtjjepfkigmdjoaaSpec
namespace Go.Proofs.Ytjjepfkigmdjoaa

theorem u8_ofNat_toNat (n : Nat) (h : n < 256) : (UInt8.ofNat n).toNat = n := by simp [UInt8.toNat_ofNat']; omega
theorem numberOf_four (a : Int) (h : isInt a = true) : numberOf (fourOf a) = a := by
  simp [isInt] at h
  have e0 := u8_ofNat_toNat (a % 4294967296 / 16777216).toNat (by omega)
  have e1 := u8_ofNat_toNat (a % 4294967296 / 65536 % 256).toNat (by omega)
  have e2 := u8_ofNat_toNat (a % 4294967296 / 256 % 256).toNat (by omega)
  have e3 := u8_ofNat_toNat (a % 256).toNat (by omega)
  simp only [numberOf, fourOf, numU, List.foldl_cons, List.foldl_nil, e0, e1, e2, e3, wrapI]
  omega
theorem four_numberOf (b0 b1 b2 b3 : UInt8) : fourOf (numberOf [b0, b1, b2, b3]) = [b0, b1, b2, b3] := by
  have h0 := b0.toNat_lt
  have h1 := b1.toNat_lt
  have h2 := b2.toNat_lt
  have h3 := b3.toNat_lt
  have key : ∀ (b : UInt8) (n : Int), n = b.toNat → UInt8.ofNat n.toNat = b := by
    intro b n h; subst h; simp
  have hn : numberOf [b0, b1, b2, b3] % 4294967296 = ((((b0.toNat : Int) * 256 + b1.toNat) * 256 + b2.toNat) * 256 + b3.toNat) := by
    simp only [numberOf, numU, List.foldl_cons, List.foldl_nil, wrapI]; omega
  generalize numberOf [b0, b1, b2, b3] = n at *
  rw [fourOf, key b0 (n % 4294967296 / 16777216) (by omega), key b1 (n % 4294967296 / 65536 % 256) (by omega), key b2 (n % 4294967296 / 256 % 256) (by omega), key b3 (n % 256) (by omega)]
theorem isInt_numberOf (l : List UInt8) : isInt (numberOf l) = true := by
  have h : -2147483648 ≤ numberOf l ∧ numberOf l ≤ 2147483647 := by unfold numberOf wrapI; omega
  simp [isInt, h.1, h.2]
theorem firstOp_bytes (o : MOp) (h : isCode o.c = true ∧ (names o.c = true ∨ o.a = 0) ∧ isInt o.a = true) (r : List UInt8) :
    ∃ b t, opBytes o = b :: t ∧ firstOp b (t ++ r) = (o, r, true) := by
  obtain ⟨hc, hn, hi⟩ := h
  have hcc := hc
  simp [isCode] at hcc
  have hb : ((UInt8.ofNat (o.c % 256).toNat).toNat : Int) = o.c := by rw [u8_ofNat_toNat _ (by omega)]; omega
  refine ⟨_, _, rfl, ?_⟩
  obtain ⟨c, a⟩ := o
  simp only at hc hn hi hb ⊢
  unfold firstOp
  rw [hb, hc]
  cases hnn : names c with
  | false =>
    have : a = 0 := by rcases hn with h | h; · rw [h] at hnn; cases hnn
                       · exact h
    subst this
    simp
  | true =>
    have h4 : ¬ ((fourOf a ++ r).length : Int) < 4 := by simp [fourOf]; omega
    have ht : (fourOf a ++ r).take 4 = fourOf a := by simp [fourOf]
    have hd : (fourOf a ++ r).drop 4 = r := by simp [fourOf]
    have hcut : cutB (fourOf a ++ r) 4 = (fourOf a, r, true) := by
      unfold cutB; rw [if_neg h4]
      show ((fourOf a ++ r).take 4, (fourOf a ++ r).drop 4, true) = _
      rw [ht, hd]
    simp [hcut, numberOf_four a hi]
theorem bytes_firstOp (b : UInt8) (l : List UInt8) (h : (firstOp b l).2.2 = true) : checkOp (firstOp b l).1 = 0 ∧ b :: l = opBytes (firstOp b l).1 ++ (firstOp b l).2.1 := by
  have hb8 := b.toNat_lt
  have hbb : UInt8.ofNat ((b.toNat : Int) % 256).toNat = b := by
    rw [show ((b.toNat : Int) % 256).toNat = b.toNat from by omega]; simp
  unfold firstOp at h ⊢
  cases hc : isCode b.toNat with
  | false => rw [hc] at h; simp at h
  | true =>
    rw [hc] at h
    cases hn : names b.toNat with
    | false =>
      simp only [Bool.not_true, Bool.not_false, if_true]
      refine ⟨?_, ?_⟩
      · simp [checkOp, hc, hn, isInt]
      · simp [opBytes, hn, hbb]
    | true =>
      rw [hn] at h
      simp only [Bool.not_true] at h ⊢
      by_cases h4 : (l.length : Int) < 4
      · have hcut : cutB l 4 = ([], [], false) := by unfold cutB; rw [if_pos h4]
        rw [hcut] at h; simp at h
      · have hcut : cutB l 4 = (l.take 4, l.drop 4, true) := by unfold cutB; rw [if_neg h4]; rfl
        rw [hcut]
        have hl4 : ∃ b0 b1 b2 b3 r, l = b0 :: b1 :: b2 :: b3 :: r := by
          match l, h4 with
          | b0 :: b1 :: b2 :: b3 :: r, _ => exact ⟨_, _, _, _, _, rfl⟩
          | [], h => simp at h
          | [_], h => simp at h
          | [_, _], h => simp at h
          | [_, _, _], h => simp at h
        obtain ⟨b0, b1, b2, b3, r, rfl⟩ := hl4
        refine ⟨?_, ?_⟩
        · simp [checkOp, hc, hn, isInt_numberOf]
        · simp [opBytes, hn, hbb, four_numberOf]
theorem decodeGo_back (k : Nat) : ∀ (r : List UInt8) (out res : List MOp), decodeGo k r out = (res, 0) → out.length ≤ 40 → ∃ new, res = out ++ new ∧ codeBytes new = r ∧ (∀ o ∈ new, checkOp o = 0) ∧ res.length ≤ 40 := by
  induction k with
  | zero =>
    intro r out res h h40
    cases r with
    | nil => simp [decodeGo] at h; subst h; exact ⟨[], by simp [codeBytes], by simp [codeBytes], by simp, h40⟩
    | cons b r => simp [decodeGo] at h
  | succ k ih =>
    intro r out res h h40
    cases r with
    | nil => simp [decodeGo] at h; subst h; exact ⟨[], by simp [codeBytes], by simp [codeBytes], by simp, h40⟩
    | cons b r =>
      simp only [decodeGo] at h
      split at h
      · simp at h
      rename_i hok
      split at h
      · simp at h
      rename_i h41
      obtain ⟨h1, h2⟩ := bytes_firstOp b r (by simpa using hok)
      obtain ⟨new, e1, e2, e3, e4⟩ := ih _ _ _ h (by simp at h41 ⊢; omega)
      refine ⟨(firstOp b r).1 :: new, by rw [e1]; simp, ?_, ?_, e4⟩
      · rw [h2, ← e2]; simp [codeBytes]
      · intro o ho
        rcases List.mem_cons.1 ho with rfl | ho
        · exact h1
        · exact e3 o ho
theorem checkOps_all {l : List MOp} (h : ∀ o ∈ l, checkOp o = 0) : checkOps l = 0 := by
  induction l with
  | nil => rfl
  | cons a l ih => simp [checkOps, h a (by simp)]; exact ih (fun o ho => h o (by simp [ho]))
/-- What is decoded is encoded as it was. -/
theorem decode_encode (s : List UInt8) (h : (decodeOps s).2 = 0) : encodeOps (decodeOps s).1 = (s, 0) := by
  obtain ⟨new, e1, e2, e3, e4⟩ := decodeGo_back s.length s [] (decodeOps s).1 (by rw [← h]; rfl) (by simp)
  simp at e1
  subst e1
  have hc : codeErr (decodeOps s).1 = 0 := by unfold codeErr; rw [if_neg (by omega), checkOps_all e3]
  simp [encodeOps, hc, e2]
theorem decode_err (s : List UInt8) (h : (decodeOps s).2 ≠ 0) : (decodeOps s).1 = [] := by
  have : ∀ k r out, (decodeGo k r out).2 ≠ 0 → (decodeGo k r out).1 = [] := by
    intro k
    induction k with
    | zero => intro r out h; cases r <;> simp_all [decodeGo]
    | succ k ih =>
      intro r out h
      cases r with
      | nil => simp [decodeGo] at h
      | cons b r =>
        simp only [decodeGo] at h ⊢
        split
        · rfl
        split
        · rfl
        · rename_i h1 h2
          rw [if_neg h1, if_neg h2] at h
          exact ih _ _ h
  exact this _ _ _ h
theorem opBytes_pos (o : MOp) : 1 ≤ (opBytes o).length := by simp [opBytes]
theorem decodeGo_codeBytes : ∀ (l out : List MOp) (k : Nat), (∀ o ∈ l, isCode o.c = true ∧ (names o.c = true ∨ o.a = 0) ∧ isInt o.a = true) → out.length + l.length ≤ 40 → (codeBytes l).length ≤ k → decodeGo k (codeBytes l) out = (out ++ l, 0)
  | [], out, k, _, _, _ => by cases k <;> simp [codeBytes, decodeGo]
  | o :: l, out, k, h, h40, hk => by
    obtain ⟨b, t, e1, e2⟩ := firstOp_bytes o (h o (by simp)) (codeBytes l)
    have e3 : codeBytes (o :: l) = b :: (t ++ codeBytes l) := by simp [codeBytes, e1]
    rw [e3] at hk ⊢
    cases k with
    | zero => simp at hk
    | succ k =>
      have h41 : (out.length == 40) = false := by simp at h40 ⊢; omega
      simp only [decodeGo, e2, h41]
      have := decodeGo_codeBytes l (out ++ [o]) k (fun o ho => h o (by simp [ho])) (by simp at h40 ⊢; omega) (by simp at hk; omega)
      simpa using this
theorem codeBytes_append (l m : List MOp) : codeBytes (l ++ m) = codeBytes l ++ codeBytes m := by simp [codeBytes]
end Go.Proofs.Ytjjepfkigmdjoaa
