/- Blocks: what each function answers, in plain words. -/
import Derived.Test.YtjojipeodionmaaSpec
namespace Go.Proofs.Ytjojipeodionmaa

def cellsN (l : List (List Int)) : Nat := (l.map List.length).sum
def badInts (b : List Int) : Bool := b.any fun n => !isInt n
def checkB (l : List (List Int)) : Int := if 8 < l.length ∨ 40 < cellsN l then 2 else if l.any badInts then 3 else 0
def moreE (l : List (List Int)) (size : Int) : Int := if size < 0 then 3 else if l.length = 8 ∨ 40 - (cellsN l : Int) < size then 7 else 0
def newE (l : List (List Int)) (size : Int) : Int := if checkB l = 0 then moreE l size else checkB l
def newL (l : List (List Int)) (size : Int) : List (List Int) := if newE l size = 0 then l ++ [List.replicate size.toNat 0] else []
def newR (l : List (List Int)) (size : Int) : Int := if newE l size = 0 then l.length + 1 else 0
/-- Block number ref (from 1 on). -/
def blk (l : List (List Int)) (ref : Int) : List Int := l.getD (ref - 1).toNat []
def placeE (l : List (List Int)) (ref at_ : Int) : Int := if ref = 0 then 5 else if ref < 0 ∨ (l.length : Int) < ref ∨ at_ < 0 ∨ ((blk l ref).length : Int) ≤ at_ then 3 else 0
def getE (l : List (List Int)) (ref at_ : Int) : Int := if checkB l = 0 then placeE l ref at_ else checkB l
def getN (l : List (List Int)) (ref at_ : Int) : Int := if getE l ref at_ = 0 then (blk l ref).getD at_.toNat 0 else 0
def putE (l : List (List Int)) (ref at_ n : Int) : Int := if placeE l ref at_ = 0 then (if isInt n then 0 else 3) else placeE l ref at_
def setE (l : List (List Int)) (ref at_ n : Int) : Int := if checkB l = 0 then putE l ref at_ n else checkB l
def put (l : List (List Int)) (ref at_ n : Int) : List (List Int) := l.set (ref - 1).toNat ((blk l ref).set at_.toNat n)
def setL (l : List (List Int)) (ref at_ n : Int) : List (List Int) := if setE l ref at_ n = 0 then put l ref at_ n else []
/-- Those of the first k blocks that are kept. -/
def keptTo (l : List (List Int)) (refs : List Int) : Nat → List (List Int)
  | 0 => []
  | k + 1 => keptTo l refs k ++ (if refs.contains ((k : Int) + 1) then [l.getD k []] else [])
def keptN (l : List (List Int)) (refs : List Int) (r : Int) : Int := if r = 0 then 0 else (keptTo l refs r.toNat).length
def keepE (l : List (List Int)) (refs : List Int) : Int := if checkB l = 0 then (if refs.any (fun r => decide (r < 0) || decide ((l.length : Int) < r)) then 3 else 0) else checkB l
def keepL (l : List (List Int)) (refs : List Int) : List (List Int) := if keepE l refs = 0 then keptTo l refs l.length else []
def keepR (l : List (List Int)) (refs : List Int) : List Int := if keepE l refs = 0 then refs.map (keptN l refs) else []

theorem cellsN_nil : cellsN [] = 0 := rfl
theorem cellsN_snoc (l : List (List Int)) (b : List Int) : cellsN (l ++ [b]) = cellsN l + b.length := by simp [cellsN]
theorem take_snoc {α : Type} (l : List α) (k : Nat) (d : α) (h : k < l.length) : l.take (k + 1) = l.take k ++ [l.getD k d] := by
  rw [List.take_add_one, List.getElem?_eq_getElem h, List.getD_eq_getElem?_getD, List.getElem?_eq_getElem h]; rfl
theorem cellsN_take (l : List (List Int)) (k : Nat) (h : k < l.length) : cellsN (l.take (k + 1)) = cellsN (l.take k) + (l.getD k []).length := by rw [take_snoc l k [] h, cellsN_snoc]
theorem cellsN_le (l : List (List Int)) (k : Nat) : cellsN (l.take k) ≤ cellsN l := by
  have h : cellsN l = cellsN (l.take k) + cellsN (l.drop k) := by
    conv => lhs; rw [← List.take_append_drop k l]
    simp only [cellsN, List.map_append, List.sum_append]
  omega
theorem cellsN_mem {l : List (List Int)} {b : List Int} (h : b ∈ l) : b.length ≤ cellsN l := by
  induction l with
  | nil => cases h
  | cons c l ih =>
    simp only [cellsN, List.map_cons, List.sum_cons] at *
    rcases List.mem_cons.1 h with rfl | h
    · omega
    · have := ih h; omega
theorem checkB_le {l : List (List Int)} (h : checkB l = 0) : l.length ≤ 8 ∧ cellsN l ≤ 40 := by
  unfold checkB at h
  split at h
  · cases h
  · omega
end Go.Proofs.Ytjojipeodionmaa
