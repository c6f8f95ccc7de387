/- What the functions of the seat compute, as plain functions on lists and numbers. No program in sight. -/
namespace Go.Proofs.Ytjojipeodionmaa

structure MOp where
  c : Int
  a : Int

instance : Inhabited MOp := ⟨⟨0, 0⟩⟩
instance : DecidableEq MOp := fun x y => decidable_of_iff (x.c = y.c ∧ x.a = y.a) ⟨fun ⟨h1, h2⟩ => by cases x; cases y; simp_all, fun h => by simp [h]⟩

def names (c : Int) : Bool := decide (c = 1) || (decide (c = 8) || (decide (c = 9) || (decide (c = 10) || (decide (c = 11) || decide (c = 12)))))
def isCode (c : Int) : Bool := decide (1 ≤ c) && decide (c ≤ 21)
def isInt (n : Int) : Bool := decide (-2147483648 ≤ n) && decide (n ≤ 2147483647)
def checkOp (o : MOp) : Int := if !isCode o.c then 6 else if !names o.c && o.a != 0 then 1 else if !isInt o.a then 3 else 0
def wrapI (n : Int) : Int := (n + 2147483648) % 4294967296 - 2147483648
def fourOf (n : Int) : List UInt8 :=
  [UInt8.ofNat (n % 4294967296 / 16777216).toNat, UInt8.ofNat (n % 4294967296 / 65536 % 256).toNat, UInt8.ofNat (n % 4294967296 / 256 % 256).toNat, UInt8.ofNat (n % 256).toNat]
/-- The number that bytes tell. -/
def numU (l : List UInt8) : Int := l.foldl (fun u c => (u * 256 + c.toNat) % 4294967296) 0
def numberOf (l : List UInt8) : Int := wrapI (numU l)
def checkOps : List MOp → Int
  | [] => 0
  | o :: l => if checkOp o != 0 then checkOp o else checkOps l
def codeErr (l : List MOp) : Int := if l.length > 40 then 2 else checkOps l
def opBytes (o : MOp) : List UInt8 := UInt8.ofNat (o.c % 256).toNat :: (if names o.c then fourOf o.a else [])
def codeBytes (l : List MOp) : List UInt8 := l.flatMap opBytes
def encodeOps (l : List MOp) : List UInt8 × Int := if codeErr l != 0 then ([], codeErr l) else (codeBytes l, 0)
def cutB (l : List UInt8) (n : Int) : List UInt8 × List UInt8 × Bool := if (l.length : Int) < n then ([], [], false) else (l.take n.toNat, l.drop n.toNat, true)
/-- The first op of bytes (there is a byte), and the rest; false: there is none. -/
def firstOp (b : UInt8) (l : List UInt8) : MOp × List UInt8 × Bool :=
  if !isCode b.toNat then (⟨b.toNat, 0⟩, l, false) else if !names b.toNat then (⟨b.toNat, 0⟩, l, true) else
  (⟨b.toNat, if (cutB l 4).2.2 then numberOf (cutB l 4).1 else 0⟩, (cutB l 4).2.1, (cutB l 4).2.2)
/-- Ops of bytes, some of them told so far; fuel: how many bytes there are. -/
def decodeGo : Nat → List UInt8 → List MOp → List MOp × Int
  | _, [], out => (out, 0)
  | 0, _ :: _, _ => ([], 1)
  | k + 1, b :: l, out =>
    if !(firstOp b l).2.2 then ([], 1) else if out.length == 40 then ([], 2) else decodeGo k (firstOp b l).2.1 (out ++ [(firstOp b l).1])
def decodeOps (l : List UInt8) : List MOp × Int := decodeGo l.length l []
end Go.Proofs.Ytjojipeodionmaa
