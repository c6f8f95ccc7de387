/- Lemmas of one proof. -/
import Derived.Test.YthfkmcbblnbfaaaGreatDoorM31Q
import Derived.Test.YthfkmcbblnbfaaaGreatDoorM40Q

namespace Go.Proofs.YthfkmcbblnbfaaaGreatDoor
set_option maxRecDepth 100000
set_option maxHeartbeats 16000000
section
open Go.ChangeShapes Go.WideShapes Go.ChangeAt Go.RowKit Go.Deep
theorem yC:Tryz.prog.cellsOf 33=3:=by kernel_rfl
theorem Ip:Tryz.prog.bytesOf 33=24:=by kernel_rfl
theorem N5:Rd 33 gg:=by
 intro H enc W fuel cs x h hw
 obtain⟨hl,hp⟩:=uH Tryz.underlying33 h hw
 rw[yC] at hl
 obtain⟨c0,c1,c2,rfl⟩:∃c0 c1 c2,cs= [c0,c1,c2]:=by
  match cs,hl with
  | [c0,c1,c2],_=>exact⟨c0,c1,c2,rfl⟩
 obtain⟨y0,h0,i0⟩:=hp 0 _ rfl Int wX
 obtain⟨y1,h1,i1⟩:=hp 1 _ rfl Int wX
 obtain⟨y2,h2,i2⟩:=hp 2 _ rfl Int wX
 simp[rL] at h0 h1 h2
 subst h0 h1 h2
 exact⟨⟨y0,y1,y2⟩,rfl,i0,i1,i2⟩
theorem LD:Rd 47 (List gg):=ra N5 Tryz.underlying47 yC (by decide) (by rw[Ip];decide)
end
