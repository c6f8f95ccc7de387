/- Texts of one proof, one behind the other: lemmas alone. -/
import Derived.Test.YtpacloheigifkaaGreatM11D
import Derived.Test.YtpacloheigifkaaGreatM4D

namespace Go.Proofs.YtpacloheigifkaaGreat
section
open Go.ChangeShapes Go.WideShapes Go.ChangeAt Go.RowKit Go.Deep
theorem uu:Tryz.prog.cellsOf 49=2:=by kernel_rfl
theorem Bo:Tryz.prog.bytesOf 49=16:=by kernel_rfl
theorem zv:Tryz.prog.cellsOf 3=1:=by kernel_rfl
set_option maxRecDepth 100000 in
theorem Ei:Rd 49 cn:=by
 intro H enc W fuel cs x h hw
 obtain⟨xs,n,_,rfl,hcl,hxl,hf⟩:=DataW.trod_struct Tryz.underlying49 h
 rw[uu] at hcl
 obtain⟨c0,c1,rfl⟩:∃c0 c1,cs= [c0,c1]:=by
  match cs,hcl with
  | [c0,c1],_=>exact⟨c0,c1,rfl⟩
 match xs,hxl with
 | [y0,y1],_=>
  have h0:=hf 0 _ rfl
  have h1:=hf 1 _ rfl
  simp[zv] at h0 h1
  obtain⟨n0,e0,he0,hi0⟩:=DataW.trod_int Tryz.underlying3 h0
  obtain⟨n1,e1,he1,hi1⟩:=DataW.trod_int Tryz.underlying3 h1
  simp at e0 e1
  subst e0 e1
  exact⟨⟨n0,n1⟩,rfl,rX hi0,rX hi1⟩
theorem C6:Rd 108 (List cn):=jC Ei Tryz.underlying108 uu (by decide) (by rw[Bo];decide)
theorem ow:Rd 3 Int:=C7 Tryz.underlying3
end
end Go.Proofs.YtpacloheigifkaaGreat
