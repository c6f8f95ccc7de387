/- Lemmas of one proof. -/
import Derived.Test.YthfkmcbblnbfaaaGreatDoorM90E
import Derived.Test.YthfkmcbblnbfaaaGreatDoorM0E
import Derived.Lib.ItoaNum
import Derived.Lib.Join
import Derived.Lib.SplitLaws
import Derived.Lib.AtoiAllCases
import Derived.Test.YthfkmcbblnbfaaaGreatDoorM37E

namespace Go.Proofs.YthfkmcbblnbfaaaGreatDoor
set_option maxRecDepth 100000
set_option maxHeartbeats 16000000
open Go.RowKit
section
theorem Ey (x:List UInt8) {l:List (List UInt8)} (a:l≠[]):Lib.join (x::l) [32]=x++32::Lib.join l [32]:=by
 cases l with
 | nil=>exact absurd rfl a
 | cons c b=>simp[Lib.join,List.intercalate,List.intersperse]
theorem Cf (x:List UInt8):Lib.join [x] [32]=x:=by simp[Lib.join,List.intercalate,List.intersperse]
structure ir where
 S:Int
 T:Int
 depth:Int
 cells:Int
 out:List Int
 deriving DecidableEq
instance:Inhabited ir:=⟨⟨0,0,0,0,[]⟩⟩
def mG (r:ir):Int:=
 if be r.S 0 3=false then 6
 else if be r.T 0 5=false\/be r.depth 0 6=false\/be r.cells 0 40=false then 3
 else if 10<r.out.length then 2
 else if dp r.out=true then 3 else 0
def Gx:List UInt8:= [115,116,97,116,117,115]
def Ot:List UInt8:= [116,114,97,112]
def JG:List UInt8:= [100,101,112,116,104]
def JH:List UInt8:= [99,101,108,108,115]
def ye:List UInt8:= [111,117,116]
def gM (r:ir):List (List UInt8):= [Gx,Lib.itoa r.S,Ot,Lib.itoa r.T,JG,Lib.itoa r.depth,JH,Lib.itoa r.cells,ye]++r.out.map Lib.itoa
def lj (r:ir):List UInt8:=Lib.join (gM r) [32]
structure Fq (r:ir):Prop where
 s:bP r.S=true
 t:bP r.T=true
 d:bP r.depth=true
 c:bP r.cells=true
 o:∀n∈r.out,bP n=true
 l:r.out.length<=10
theorem un {r:ir} (h:mG r=0):Fq r:=by
 have c:∀{a d:Int},0<=d->d<=100->¬be a 0 d=false->bP a=true:=fun {a d} j l h=>by
  have:=dJ.1 (τ h);unfold bP;simp only[dv,decide_eq_true_eq];omega
 unfold mG at h
 split at h
 ·cases h
 rename_i e
 split at h
 ·cases h
 rename_i b
 split at h
 ·cases h
 rename_i k
 split at h
 ·cases h
 rename_i f;simp only[not_or] at b;refine⟨c κ κ e,c κ κ b.1,c κ κ b.2.1,c κ κ b.2.2,fun a g=>?_,ω⟩;refine dt fun i=>f ?_;unfold dp;exact cU.2 ⟨a,g,τ i⟩
end
