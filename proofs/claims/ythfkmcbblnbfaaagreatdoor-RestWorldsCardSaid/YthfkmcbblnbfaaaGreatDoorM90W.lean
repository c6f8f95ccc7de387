/- Lemmas of one proof: facts that a tactic finds. -/
import Derived.Test.YthfkmcbblnbfaaaGreatDoorProg
import Derived.KernelRfl
namespace Go.Proofs.YthfkmcbblnbfaaaGreatDoor
theorem ω {P:Prop} (h:P:=by omega):P:=h
theorem σ {P:Prop} (h:P:=by simp):P:=h
theorem κ {P:Prop} (h:P:=by decide):P:=h
theorem φ {P:Prop} (h:P:=by kernel_rfl):P:=h
theorem ψ {P Q:Prop} (h:P) (e:P->Q:=by intro h;simpa using h):Q:=e h
theorem χ {A:Type} {a:Option A} {b c:A} (h:a=some b) (k:b=c:=by kernel_rfl):a=some c:=h.trans (congrArg some k)
