/- Texts of one proof, one behind the other: lemmas alone. -/
import Derived.Test.YtpacloheigifkaaGreatM11I
import Derived.Test.YtpacloheigifkaaGreatM4I

namespace Go.Proofs.YtpacloheigifkaaGreat
section
open Go.ChangeShapes Go.WideShapes Go.ChangeAt Go.RowKit Go.Deep
theorem wH:Tryz.prog.cellsOf 49=2:=by kernel_rfl
theorem DO:Tryz.prog.bytesOf 49=16:=by kernel_rfl
theorem B7:Tryz.prog.cellsOf 3=1:=by kernel_rfl
set_option maxRecDepth 100000 in
theorem GX:Rd 49 cc:=by
 intro H enc W fuel cs x h hw
 obtain⟨xs,n,_,rfl,hcl,hxl,hf⟩:=DataW.trod_struct Tryz.underlying49 h
 rw[wH] at hcl
 obtain⟨c0,c1,rfl⟩:∃c0 c1,cs= [c0,c1]:=by
  match cs,hcl with
  | [c0,c1],_=>exact⟨c0,c1,rfl⟩
 match xs,hxl with
 | [y0,y1],_=>
  have h0:=hf 0 _ rfl
  have h1:=hf 1 _ rfl
  simp[B7] at h0 h1
  obtain⟨n0,e0,he0,hi0⟩:=DataW.trod_int Tryz.underlying3 h0
  obtain⟨n1,e1,he1,hi1⟩:=DataW.trod_int Tryz.underlying3 h1
  simp at e0 e1
  subst e0 e1
  exact⟨⟨n0,n1⟩,rfl,tY hi0,tY hi1⟩
theorem FN:Rd 108 (List cc):=lb GX Tryz.underlying108 wH (by decide) (by rw[DO];decide)
theorem pw:Rd 3 Int:=FO Tryz.underlying3
end
end Go.Proofs.YtpacloheigifkaaGreat
