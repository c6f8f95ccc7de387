/- Lemmas of one proof. -/
import Derived.Test.YthfkmcbblnbfaaaGreatDoorM90E
import Derived.Test.YthfkmcbblnbfaaaGreatDoorM12E
import Derived.Test.YthfkmcbblnbfaaaGreatDoorM5E

namespace Go.Proofs.YthfkmcbblnbfaaaGreatDoor
set_option maxRecDepth 100000
set_option maxHeartbeats 16000000
section
open Go.ChangeShapes Go.WideShapes Go.ChangeAt Go.RowKit Go.Deep
theorem Fl:Tryz.prog.cellsOf 86=2:=by kernel_rfl
theorem Oo:Tryz.prog.bytesOf 86=16:=by kernel_rfl
theorem Md:Tryz.prog.cellsOf 3=1:=by kernel_rfl
theorem TU:Rd 86 bJ:=by
 intro q s r t c y j w;obtain⟨p,x,_,rfl,h,m,i⟩:=DataW.trod_struct Tryz.underlying86 j;rw[Fl] at h;obtain⟨a,b,rfl⟩:∃a b,c= [a,b]:=by
  match c,h with
  | [a,b],_=>exact⟨a,b,rfl⟩
 match p,m with
 | [z,A],_=>
  have f:=i 0 _ rfl;have g:=i 1 _ rfl;simp[Md] at f g;obtain⟨n,d,u,k⟩:=DataW.trod_int Tryz.underlying3 f;obtain⟨o,e,v,l⟩:=DataW.trod_int Tryz.underlying3 g;simp at d e;subst d e;exact⟨⟨n,o⟩,rfl,Ci k,Ci l⟩
theorem RX:Rd 77 (List bJ):=od TU Tryz.underlying77 Fl κ (by rw[Oo];decide)
theorem rE:Rd 3 Int:=RY Tryz.underlying3
end
