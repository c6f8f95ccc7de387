/- Lemmas of one proof. -/
import Derived.Test.YthfkmcbblnbfaaaGreatDoorM90W
import Derived.Test.YthfkmcbblnbfaaaGreatDoorM0W
import Derived.Lib.ItoaNum
import Derived.Lib.Join
import Derived.Lib.SplitLaws
import Derived.Lib.AtoiAllCases
import Derived.Test.YthfkmcbblnbfaaaGreatDoorM36W

namespace Go.Proofs.YthfkmcbblnbfaaaGreatDoor
set_option maxRecDepth 100000
set_option maxHeartbeats 16000000
open Go.RowKit
section
theorem E5 (x:List UInt8) {l:List (List UInt8)} (a:l≠[]):Lib.join (x::l) [32]=x++32::Lib.join l [32]:=by
 cases l with
 | nil=>exact absurd rfl a
 | cons c b=>simp[Lib.join,List.intercalate,List.intersperse]
theorem CK (x:List UInt8):Lib.join [x] [32]=x:=by simp[Lib.join,List.intercalate,List.intersperse]
structure ir where
 S:Int
 T:Int
 depth:Int
 cells:Int
 out:List Int
 deriving DecidableEq
instance:Inhabited ir:=⟨⟨0,0,0,0,[]⟩⟩
def mV (r:ir):Int:=
 if br r.S 0 3=false then 6
 else if br r.T 0 5=false\/br r.depth 0 6=false\/br r.cells 0 40=false then 3
 else if 10<r.out.length then 2
 else if dw r.out=true then 3 else 0
def G7:List UInt8:= [115,116,97,116,117,115]
def OW:List UInt8:= [116,114,97,112]
def Ke:List UInt8:= [100,101,112,116,104]
def Kf:List UInt8:= [99,101,108,108,115]
def yC:List UInt8:= [111,117,116]
def gQ (r:ir):List (List UInt8):= [G7,Lib.itoa r.S,OW,Lib.itoa r.T,Ke,Lib.itoa r.depth,Kf,Lib.itoa r.cells,yC]++r.out.map Lib.itoa
def lz (r:ir):List UInt8:=Lib.join (gQ r) [32]
structure F8 (r:ir):Prop where
 s:bT r.S=true
 t:bT r.T=true
 d:bT r.depth=true
 c:bT r.cells=true
 o:∀n∈r.out,bT n=true
 l:r.out.length<=10
theorem uJ {r:ir} (h:mV r=0):F8 r:=by
 have c:∀{a d:Int},0<=d->d<=100->¬br a 0 d=false->bT a=true:=fun {a d} j l h=>by
  have:=dL.1 (ψ h);unfold bT;simp only[dC,decide_eq_true_eq];omega
 unfold mV at h
 split at h
 ·cases h
 rename_i e
 split at h
 ·cases h
 rename_i b
 split at h
 ·cases h
 rename_i k
 split at h
 ·cases h
 rename_i f;simp only[not_or] at b;refine⟨c κ κ e,c κ κ b.1,c κ κ b.2.1,c κ κ b.2.2,fun a g=>?_,ω⟩;refine dM fun i=>f ?_;unfold dw;exact de.2 ⟨a,g,ψ i⟩
end
