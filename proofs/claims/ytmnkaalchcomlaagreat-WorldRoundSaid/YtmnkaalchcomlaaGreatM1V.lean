/- Texts of one proof, one behind the other: lemmas alone. -/

-- Spec
/- What the functions of the seat compute, as plain functions on lists and numbers. No program in sight. -/
namespace Go.Proofs.YtmnkaalchcomlaaGreat
structure MOp where
 c : Int
 a : Int
instance : Inhabited MOp := ⟨⟨0, 0⟩⟩
instance : DecidableEq MOp := fun x y => decidable_of_iff (x.c = y.c ∧ x.a = y.a) ⟨fun ⟨h1, h2⟩ => by cases x; cases y; simp_all, fun h => by simp [h]⟩
def names (c : Int) : Bool := decide (c = 1) || (decide (c = 8) || (decide (c = 9) || (decide (c = 10) || (decide (c = 11) || decide (c = 12)))))
def isCode (c : Int) : Bool := decide (1 ≤ c) && decide (c ≤ 21)
def isInt (n : Int) : Bool := decide (-2147483648 ≤ n) && decide (n ≤ 2147483647)
def checkOp (o : MOp) : Int := if !isCode o.c then 6 else if !names o.c && o.a != 0 then 1 else if !isInt o.a then 3 else 0
def wrapI (n : Int) : Int := (n + 2147483648) % 4294967296 - 2147483648
def fourOf (n : Int) : List UInt8 :=
 [UInt8.ofNat (n % 4294967296 / 16777216).toNat, UInt8.ofNat (n % 4294967296 / 65536 % 256).toNat, UInt8.ofNat (n % 4294967296 / 256 % 256).toNat, UInt8.ofNat (n % 256).toNat]
def numU (l : List UInt8) : Int := l.foldl (fun u c => (u * 256 + c.toNat) % 4294967296) 0
def numberOf (l : List UInt8) : Int := wrapI (numU l)
def checkOps : List MOp → Int
 | [] => 0
 | o :: l => if checkOp o != 0 then checkOp o else checkOps l
def codeErr (l : List MOp) : Int := if l.length > 40 then 2 else checkOps l
def opBytes (o : MOp) : List UInt8 := UInt8.ofNat (o.c % 256).toNat :: (if names o.c then fourOf o.a else [])
def codeBytes (l : List MOp) : List UInt8 := l.flatMap opBytes
def encodeOps (l : List MOp) : List UInt8 × Int := if codeErr l != 0 then ([], codeErr l) else (codeBytes l, 0)
def cutB (l : List UInt8) (n : Int) : List UInt8 × List UInt8 × Bool := if (l.length : Int) < n then ([], [], false) else (l.take n.toNat, l.drop n.toNat, true)
def firstOp (b : UInt8) (l : List UInt8) : MOp × List UInt8 × Bool :=
 if !isCode b.toNat then (⟨b.toNat, 0⟩, l, false) else if !names b.toNat then (⟨b.toNat, 0⟩, l, true) else
 (⟨b.toNat, if (cutB l 4).2.2 then numberOf (cutB l 4).1 else 0⟩, (cutB l 4).2.1, (cutB l 4).2.2)
def decodeGo : Nat → List UInt8 → List MOp → List MOp × Int
 | _, [], out => (out, 0)
 | 0, _ :: _, _ => ([], 1)
 | k + 1, b :: l, out =>
  if !(firstOp b l).2.2 then ([], 1) else if out.length == 40 then ([], 2) else decodeGo k (firstOp b l).2.1 (out ++ [(firstOp b l).1])
def decodeOps (l : List UInt8) : List MOp × Int := decodeGo l.length l []
end Go.Proofs.YtmnkaalchcomlaaGreat
-- OpPure
/- What is encoded is decoded as it was, and what is decoded is encoded as it was: plain lists of bytes. -/
namespace Go.Proofs.YtmnkaalchcomlaaGreat
theorem u8_ofNat_toNat (n : Nat) (h : n < 256) : (UInt8.ofNat n).toNat = n := by simp [UInt8.toNat_ofNat']; omega
theorem numberOf_four (a : Int) (h : isInt a = true) : numberOf (fourOf a) = a := by
 simp [isInt] at h
 have e0 := u8_ofNat_toNat (a % 4294967296 / 16777216).toNat (by omega)
 have e1 := u8_ofNat_toNat (a % 4294967296 / 65536 % 256).toNat (by omega)
 have e2 := u8_ofNat_toNat (a % 4294967296 / 256 % 256).toNat (by omega)
 have e3 := u8_ofNat_toNat (a % 256).toNat (by omega)
 simp only [numberOf, fourOf, numU, List.foldl_cons, List.foldl_nil, e0, e1, e2, e3, wrapI]
 omega
theorem four_numberOf (b0 b1 b2 b3 : UInt8) : fourOf (numberOf [b0, b1, b2, b3]) = [b0, b1, b2, b3] := by
 have h0 := b0.toNat_lt
 have h1 := b1.toNat_lt
 have h2 := b2.toNat_lt
 have h3 := b3.toNat_lt
 have key : ∀ (b : UInt8) (n : Int), n = b.toNat → UInt8.ofNat n.toNat = b := by
  intro b n h; subst h; simp
 have hn : numberOf [b0, b1, b2, b3] % 4294967296 = ((((b0.toNat : Int) * 256 + b1.toNat) * 256 + b2.toNat) * 256 + b3.toNat) := by
  simp only [numberOf, numU, List.foldl_cons, List.foldl_nil, wrapI]; omega
 generalize numberOf [b0, b1, b2, b3] = n at *
 rw [fourOf, key b0 (n % 4294967296 / 16777216) (by omega), key b1 (n % 4294967296 / 65536 % 256) (by omega), key b2 (n % 4294967296 / 256 % 256) (by omega), key b3 (n % 256) (by omega)]
theorem isInt_numberOf (l : List UInt8) : isInt (numberOf l) = true := by
 have h : -2147483648 ≤ numberOf l ∧ numberOf l ≤ 2147483647 := by unfold numberOf wrapI; omega
 simp [isInt, h.1, h.2]
theorem firstOp_bytes (o : MOp) (h : isCode o.c = true ∧ (names o.c = true ∨ o.a = 0) ∧ isInt o.a = true) (r : List UInt8) :
    ∃ b t, opBytes o = b :: t ∧ firstOp b (t ++ r) = (o, r, true) := by
  obtain ⟨hc, hn, hi⟩ := h
  have hcc := hc
  simp [isCode] at hcc
  have hb : ((UInt8.ofNat (o.c % 256).toNat).toNat : Int) = o.c := by rw [u8_ofNat_toNat _ (by omega)]; omega
  refine ⟨_, _, rfl, ?_⟩
  obtain ⟨c, a⟩ := o
  simp only at hc hn hi hb ⊢
  unfold firstOp
  rw [hb, hc]
  cases hnn : names c with
  | false =>
    have : a = 0 := by rcases hn with h | h; · rw [h] at hnn; cases hnn
                       · exact h
    subst this
    simp
  | true =>
    have h4 : ¬ ((fourOf a ++ r).length : Int) < 4 := by simp [fourOf]; omega
    have ht : (fourOf a ++ r).take 4 = fourOf a := by simp [fourOf]
    have hd : (fourOf a ++ r).drop 4 = r := by simp [fourOf]
    have hcut : cutB (fourOf a ++ r) 4 = (fourOf a, r, true) := by
      unfold cutB; rw [if_neg h4]
      show ((fourOf a ++ r).take 4, (fourOf a ++ r).drop 4, true) = _
      rw [ht, hd]
    simp [hcut, numberOf_four a hi]
theorem bytes_firstOp (b : UInt8) (l : List UInt8) (h : (firstOp b l).2.2 = true) : checkOp (firstOp b l).1 = 0 ∧ b :: l = opBytes (firstOp b l).1 ++ (firstOp b l).2.1 := by
 have hb8 := b.toNat_lt
 have hbb : UInt8.ofNat ((b.toNat : Int) % 256).toNat = b := by
  rw [show ((b.toNat : Int) % 256).toNat = b.toNat from by omega]; simp
 unfold firstOp at h ⊢
 cases hc : isCode b.toNat with
 | false => rw [hc] at h; simp at h
 | true =>
  rw [hc] at h
  cases hn : names b.toNat with
  | false =>
   simp only [Bool.not_true, Bool.not_false, if_true]
   refine ⟨?_, ?_⟩
   ·simp [checkOp, hc, hn, isInt]
   ·simp [opBytes, hn, hbb]
  | true =>
   rw [hn] at h
   simp only [Bool.not_true] at h ⊢
   by_cases h4 : (l.length : Int) < 4
   ·have hcut : cutB l 4 = ([], [], false) := by unfold cutB; rw [if_pos h4]
    rw [hcut] at h; simp at h
   ·have hcut : cutB l 4 = (l.take 4, l.drop 4, true) := by unfold cutB; rw [if_neg h4]; rfl
    rw [hcut]
    have hl4 : ∃ b0 b1 b2 b3 r, l = b0 :: b1 :: b2 :: b3 :: r := by
     match l, h4 with
     | b0 :: b1 :: b2 :: b3 :: r, _ => exact ⟨_, _, _, _, _, rfl⟩
     | [], h => simp at h
     | [_], h => simp at h
     | [_, _], h => simp at h
     | [_, _, _], h => simp at h
    obtain ⟨b0, b1, b2, b3, r, rfl⟩ := hl4
    refine ⟨?_, ?_⟩
    ·simp [checkOp, hc, hn, isInt_numberOf]
    ·simp [opBytes, hn, hbb, four_numberOf]
theorem decodeGo_back (k : Nat) : ∀ (r : List UInt8) (out res : List MOp), decodeGo k r out = (res, 0) → out.length ≤ 40 → ∃ new, res = out ++ new ∧ codeBytes new = r ∧ (∀ o ∈ new, checkOp o = 0) ∧ res.length ≤ 40 := by
 induction k with
 | zero =>
  intro r out res h h40
  cases r with
  | nil => simp [decodeGo] at h; subst h; exact ⟨[], by simp, by simp [codeBytes], by simp, h40⟩
  | cons b r => simp [decodeGo] at h
 | succ k ih =>
  intro r out res h h40
  cases r with
  | nil => simp [decodeGo] at h; subst h; exact ⟨[], by simp, by simp [codeBytes], by simp, h40⟩
  | cons b r =>
   simp only [decodeGo] at h
   split at h
   ·simp at h
   rename_i hok
   split at h
   ·simp at h
   rename_i h41
   obtain ⟨h1, h2⟩ := bytes_firstOp b r (by simpa using hok)
   obtain ⟨new, e1, e2, e3, e4⟩ := ih _ _ _ h (by simp at h41 ⊢; omega)
   refine ⟨(firstOp b r).1 :: new, by rw [e1]; simp, ?_, ?_, e4⟩
   ·rw [h2, ← e2]; simp [codeBytes]
   ·intro o ho
    rcases List.mem_cons.1 ho with rfl | ho
    ·exact h1
    ·exact e3 o ho
theorem checkOps_all {l : List MOp} (h : ∀ o ∈ l, checkOp o = 0) : checkOps l = 0 := by
 induction l with
 | nil => rfl
 | cons a l ih => simp [checkOps, h a (by simp)]; exact ih (fun o ho => h o (by simp [ho]))
theorem decode_encode (s : List UInt8) (h : (decodeOps s).2 = 0) : encodeOps (decodeOps s).1 = (s, 0) := by
 obtain ⟨new, e1, e2, e3, e4⟩ := decodeGo_back s.length s [] (decodeOps s).1 (by rw [← h]; rfl) (by simp)
 simp at e1
 subst e1
 have hc : codeErr (decodeOps s).1 = 0 := by unfold codeErr; rw [if_neg (by omega), checkOps_all e3]
 simp [encodeOps, hc, e2]
theorem decodeGo_codeBytes : ∀ (l out : List MOp) (k : Nat), (∀ o ∈ l, isCode o.c = true ∧ (names o.c = true ∨ o.a = 0) ∧ isInt o.a = true) → out.length + l.length ≤ 40 → (codeBytes l).length ≤ k → decodeGo k (codeBytes l) out = (out ++ l, 0)
 | [], out, k, _, _, _ => by cases k <;> simp [codeBytes, decodeGo]
 | o :: l, out, k, h, h40, hk => by
  obtain ⟨b, t, e1, e2⟩ := firstOp_bytes o (h o (by simp)) (codeBytes l)
  have e3 : codeBytes (o :: l) = b :: (t ++ codeBytes l) := by simp [codeBytes, e1]
  rw [e3] at hk ⊢
  cases k with
  | zero => simp at hk
  | succ k =>
   have h41 : (out.length == 40) = false := by simp at h40 ⊢; omega
   simp only [decodeGo, e2, h41]
   have := decodeGo_codeBytes l (out ++ [o]) k (fun o ho => h o (by simp [ho])) (by simp at h40 ⊢; omega) (by simp at hk; omega)
   simpa using this
end Go.Proofs.YtmnkaalchcomlaaGreat
-- SpecB
/- Blocks: what each function answers, in plain words. -/
namespace Go.Proofs.YtmnkaalchcomlaaGreat
def cellsN (l : List (List Int)) : Nat := (l.map List.length).sum
def badInts (b : List Int) : Bool := b.any fun n => !isInt n
def checkB (l : List (List Int)) : Int := if 8 < l.length ∨ 40 < cellsN l then 2 else if l.any badInts then 3 else 0
def moreE (l : List (List Int)) (size : Int) : Int := if size < 0 then 3 else if l.length = 8 ∨ 40 - (cellsN l : Int) < size then 7 else 0
def newE (l : List (List Int)) (size : Int) : Int := if checkB l = 0 then moreE l size else checkB l
def newL (l : List (List Int)) (size : Int) : List (List Int) := if newE l size = 0 then l ++ [List.replicate size.toNat 0] else []
def newR (l : List (List Int)) (size : Int) : Int := if newE l size = 0 then l.length + 1 else 0
def blk (l : List (List Int)) (ref : Int) : List Int := l.getD (ref - 1).toNat []
def placeE (l : List (List Int)) (ref at_ : Int) : Int := if ref = 0 then 5 else if ref < 0 ∨ (l.length : Int) < ref ∨ at_ < 0 ∨ ((blk l ref).length : Int) ≤ at_ then 3 else 0
def getE (l : List (List Int)) (ref at_ : Int) : Int := if checkB l = 0 then placeE l ref at_ else checkB l
def getN (l : List (List Int)) (ref at_ : Int) : Int := if getE l ref at_ = 0 then (blk l ref).getD at_.toNat 0 else 0
def putE (l : List (List Int)) (ref at_ n : Int) : Int := if placeE l ref at_ = 0 then (if isInt n then 0 else 3) else placeE l ref at_
def setE (l : List (List Int)) (ref at_ n : Int) : Int := if checkB l = 0 then putE l ref at_ n else checkB l
def put (l : List (List Int)) (ref at_ n : Int) : List (List Int) := l.set (ref - 1).toNat ((blk l ref).set at_.toNat n)
def setL (l : List (List Int)) (ref at_ n : Int) : List (List Int) := if setE l ref at_ n = 0 then put l ref at_ n else []
def keptTo (l : List (List Int)) (refs : List Int) : Nat → List (List Int)
 | 0 => []
 | k + 1 => keptTo l refs k ++ (if refs.contains ((k : Int) + 1) then [l.getD k []] else [])
def keptN (l : List (List Int)) (refs : List Int) (r : Int) : Int := if r = 0 then 0 else (keptTo l refs r.toNat).length
def keepE (l : List (List Int)) (refs : List Int) : Int := if checkB l = 0 then (if refs.any (fun r => decide (r < 0) || decide ((l.length : Int) < r)) then 3 else 0) else checkB l
def keepL (l : List (List Int)) (refs : List Int) : List (List Int) := if keepE l refs = 0 then keptTo l refs l.length else []
def keepR (l : List (List Int)) (refs : List Int) : List Int := if keepE l refs = 0 then refs.map (keptN l refs) else []
theorem cellsN_snoc (l : List (List Int)) (b : List Int) : cellsN (l ++ [b]) = cellsN l + b.length := by simp [cellsN]
theorem take_snoc {α : Type} (l : List α) (k : Nat) (d : α) (h : k < l.length) : l.take (k + 1) = l.take k ++ [l.getD k d] := by
 rw [List.take_add_one, List.getElem?_eq_getElem h, List.getD_eq_getElem?_getD, List.getElem?_eq_getElem h]; rfl
theorem cellsN_take (l : List (List Int)) (k : Nat) (h : k < l.length) : cellsN (l.take (k + 1)) = cellsN (l.take k) + (l.getD k []).length := by rw [take_snoc l k [] h, cellsN_snoc]
theorem cellsN_mem {l : List (List Int)} {b : List Int} (h : b ∈ l) : b.length ≤ cellsN l := by
 induction l with
 | nil => cases h
 | cons c l ih =>
  simp only [cellsN, List.map_cons, List.sum_cons] at *
  rcases List.mem_cons.1 h with rfl | h
  ·omega
  ·have := ih h; omega
theorem checkB_le {l : List (List Int)} (h : checkB l = 0) : l.length ≤ 8 ∧ cellsN l ≤ 40 := by
 unfold checkB at h
 split at h
 ·cases h
 ·omega
end Go.Proofs.YtmnkaalchcomlaaGreat
