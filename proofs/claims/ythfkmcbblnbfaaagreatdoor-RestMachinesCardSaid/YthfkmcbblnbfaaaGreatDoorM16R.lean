/- Lemmas of one proof. -/
import Derived.Test.YthfkmcbblnbfaaaGreatDoorM12R
import Derived.Test.YthfkmcbblnbfaaaGreatDoorM5R

namespace Go.Proofs.YthfkmcbblnbfaaaGreatDoor
set_option maxRecDepth 100000
set_option maxHeartbeats 16000000
section
open Go.ChangeShapes Go.WideShapes Go.ChangeAt Go.RowKit Go.Deep
theorem Dj:Tryz.prog.cellsOf 86=2:=by kernel_rfl
theorem Dk:Tryz.prog.bytesOf 86=16:=by kernel_rfl
theorem Jo:Tryz.prog.cellsOf 3=1:=by kernel_rfl
theorem P5:Rd 86 bC:=by
 intro H enc W fuel cs x h hw
 obtain⟨xs,n,_,rfl,hcl,hxl,hf⟩:=DataW.trod_struct Tryz.underlying86 h
 rw[Dj] at hcl
 obtain⟨c0,c1,rfl⟩:∃c0 c1,cs= [c0,c1]:=by
  match cs,hcl with
  | [c0,c1],_=>exact⟨c0,c1,rfl⟩
 match xs,hxl with
 | [y0,y1],_=>
  have h0:=hf 0 _ rfl
  have h1:=hf 1 _ rfl
  simp[Jo] at h0 h1
  obtain⟨n0,e0,he0,hi0⟩:=DataW.trod_int Tryz.underlying3 h0
  obtain⟨n1,e1,he1,hi1⟩:=DataW.trod_int Tryz.underlying3 h1
  simp at e0 e1
  subst e0 e1
  exact⟨⟨n0,n1⟩,rfl,zW hi0,zW hi1⟩
theorem HK:Rd 77 (List bC):=lw P5 Tryz.underlying77 Dj (by decide) (by rw[Dk];decide)
theorem oW:Rd 3 Int:=Or Tryz.underlying3
end
