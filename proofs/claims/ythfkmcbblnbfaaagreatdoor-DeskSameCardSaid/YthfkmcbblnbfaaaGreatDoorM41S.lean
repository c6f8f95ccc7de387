/- Lemmas of one proof. -/
import Derived.Test.YthfkmcbblnbfaaaGreatDoorM0S
import Derived.Test.YthfkmcbblnbfaaaGreatDoorM37S
import Derived.Test.YthfkmcbblnbfaaaGreatDoorM39S

namespace Go.Proofs.YthfkmcbblnbfaaaGreatDoor
set_option maxRecDepth 100000
set_option maxHeartbeats 16000000
section
open Go.ChangeShapes Go.WideShapes Go.ChangeAt Go.RowKit Go.Deep
theorem wM:Tryz.prog.bytesOf 43=112:=by kernel_rfl
theorem De:Tryz.prog.cellsOf 25=1:=by kernel_rfl
theorem JB:Rd 25 (List mE):=lC LS Tryz.underlying25 rV (by decide) (by rw[wM];decide)
structure tb where
 ms:BL 112 mE
def tb.l (x:tb):List ar:=x.ms.l.map mE.m
instance:ay tb where
 k:=1
 rep w B cs x:= ∃v,cs= [v]/\br w B v x.ms.l/\x.ms.l.length*112<=140737488351232
 len h:=by obtain⟨v,h,_⟩:=h;rw[h];rfl
 keep h hc:=by obtain⟨v,h,hs,j⟩:=h;exact⟨v,h,hs.keep hc,j⟩
 more h hb:=by obtain⟨v,h,hs,j⟩:=h;exact⟨v,h,hs.more hb,j⟩
 one h:=by obtain⟨v,h,hs,_⟩:=h;obtain⟨A,c,rfl,_⟩:=hs.form;rw[h];simp[Value.oneCell']
theorem JA:Rd 27 tb:=by
 intro H enc W fuel cs x h hw
 obtain⟨hl,hp⟩:=lD Tryz.underlying27 h hw
 rw[show Tryz.prog.cellsOf 27=1 from by kernel_rfl] at hl
 obtain⟨c0,rfl⟩:∃c0,cs= [c0]:=by
  match cs,hl with
  | [c0],_=>exact⟨c0,rfl⟩
 obtain⟨y0,v,h0,i0⟩:=hp 0 _ rfl (BL 112 mE) (nz JB Tryz.underlying25 wM)
 simp[De] at h0
 subst h0
 exact⟨⟨y0⟩,_,rfl,i0⟩
theorem IT {W:World} {B:Nat} {cs:List Value} {x:tb} (h:ay.rep W B cs x):∃(A:Option Addr) (c:Nat),cs= [.slice A x.l.length c]/\br W B (.slice A x.l.length c) x.l/\kW x.l:=by
 obtain⟨v,hcs,h1,j1⟩:=h
 have hfit:kW x.l:=by
  refine⟨by show (x.ms.l.map mE.m).length*112<=_;rw[aN];omega,fun y hy=>?_⟩
  obtain⟨f,hf,rfl⟩:=kY.1 hy
  obtain⟨i,hi',rfl⟩:=cz hf
  obtain⟨_,_,_,_,_,_,k4⟩:=h1
  obtain⟨_,_,_,_,k5⟩:=k4 (by omega)
  obtain⟨cs2,k6,_⟩:=k5 i _ (an hi')
  obtain⟨_,_,_,k7⟩:=DX k6
  exact k7
 have h2:=h1.mapped mE.m rfl (fun cs f hf=>by
  obtain⟨a,rfl,hm,_⟩:=DX hf
  exact⟨_,_,_,_,rfl,⟨hm.s,hm.t⟩,hm.f,hm.b,hm.i,hm.o⟩)
 obtain⟨A,c,rfl,_⟩:=h2.form
 exact⟨A,c,hcs,h2,hfit⟩
end
