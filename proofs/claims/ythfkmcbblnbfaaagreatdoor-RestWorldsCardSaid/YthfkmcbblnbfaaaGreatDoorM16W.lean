/- Lemmas of one proof. -/
import Derived.Test.YthfkmcbblnbfaaaGreatDoorM90W
import Derived.Test.YthfkmcbblnbfaaaGreatDoorM12W
import Derived.Test.YthfkmcbblnbfaaaGreatDoorM5W

namespace Go.Proofs.YthfkmcbblnbfaaaGreatDoor
set_option maxRecDepth 100000
set_option maxHeartbeats 16000000
section
open Go.ChangeShapes Go.WideShapes Go.ChangeAt Go.RowKit Go.Deep
theorem F0:Tryz.prog.cellsOf 86=2:=by kernel_rfl
theorem F6:Tryz.prog.bytesOf 86=16:=by kernel_rfl
theorem MH:Tryz.prog.cellsOf 3=1:=by kernel_rfl
theorem Ur:Rd 86 bG:=by
 intro q s r t c y j w;obtain⟨p,x,_,rfl,h,m,i⟩:=DataW.trod_struct Tryz.underlying86 j;rw[F0] at h;obtain⟨a,b,rfl⟩:∃a b,c= [a,b]:=by
  match c,h with
  | [a,b],_=>exact⟨a,b,rfl⟩
 match p,m with
 | [z,A],_=>
  have f:=i 0 _ rfl;have g:=i 1 _ rfl;simp[MH] at f g;obtain⟨n,d,u,k⟩:=DataW.trod_int Tryz.underlying3 f;obtain⟨o,e,v,l⟩:=DataW.trod_int Tryz.underlying3 g;simp at d e;subst d e;exact⟨⟨n,o⟩,rfl,CN k,CN l⟩
theorem KW:Rd 77 (List bG):=mb Ur Tryz.underlying77 F0 κ (by rw[F6];decide)
theorem oC:Rd 3 Int:=Sy Tryz.underlying3
end
