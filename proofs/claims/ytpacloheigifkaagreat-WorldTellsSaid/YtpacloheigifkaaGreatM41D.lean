/- Texts of one proof, one behind the other: lemmas alone. -/
import Derived.Test.YtpacloheigifkaaGreatM36D
import Derived.Test.YtpacloheigifkaaGreatM38D

namespace Go.Proofs.YtpacloheigifkaaGreat
section
open Go.ChangeShapes Go.WideShapes Go.ChangeAt Go.RowKit Go.Deep
theorem qX:Tryz.prog.bytesOf 29=112:=by kernel_rfl
theorem vr:Tryz.prog.cellsOf 65=1:=by kernel_rfl
theorem z8:Rd 65 (List ka):=jC BZ Tryz.underlying65 nW (by decide) (by rw[qX];decide)
structure oR where
 ms:BL 112 ka
def oR.l (x:oR):List aD:=x.ms.l.map ka.m
instance:aR oR where
 k:=1
 rep w B cs x:= ∃v,cs= [v]∧bX w B v x.ms.l∧x.ms.l.length*112≤140737488351232
 len h:=by obtain⟨v,h,_⟩:=h;rw[h];rfl
 keep h hc:=by obtain⟨v,h,hs,j⟩:=h;exact⟨v,h,hs.keep hc,j⟩
 more h hb:=by obtain⟨v,h,hs,j⟩:=h;exact⟨v,h,hs.more hb,j⟩
 one h:=by obtain⟨v,h,hs,_⟩:=h;obtain⟨A,c,rfl,_⟩:=hs.form;rw[h];simp[Value.oneCell']
set_option maxRecDepth 100000 in
theorem z7:Rd 67 oR:=by
 intro H enc W fuel cs x h hw
 obtain⟨hl,hp⟩:=jD Tryz.underlying67 h hw
 rw[show Tryz.prog.cellsOf 67=1 from by kernel_rfl] at hl
 obtain⟨c0,rfl⟩:∃c0,cs= [c0]:=by
  match cs,hl with
  | [c0],_=>exact⟨c0,rfl⟩
 obtain⟨y0,v,h0,i0⟩:=hp 0 _ rfl (BL 112 ka) (kW z8 Tryz.underlying65 qX)
 simp[vr] at h0
 subst h0
 exact⟨⟨y0⟩,_,rfl,i0⟩
theorem zC {W:World} {B:Nat} {cs:List Value} {x:oR} (h:aR.rep W B cs x):∃(A:Option Addr) (c:Nat),cs= [.slice A x.l.length c]∧bX W B (.slice A x.l.length c) x.l∧kc x.l:=by
 obtain⟨v,hcs,h1,j1⟩:=h
 have hfit:kc x.l:=by
  refine⟨by show (x.ms.l.map ka.m).length*112≤_;rw[List.length_map];omega,fun y hy=>?_⟩
  obtain⟨f,hf,rfl⟩:=List.mem_map.1 hy
  obtain⟨i,hi',rfl⟩:=List.getElem_of_mem hf
  obtain⟨_,_,_,_,_,_,k4⟩:=h1
  obtain⟨_,_,_,_,k5⟩:=k4 (by omega)
  obtain⟨cs2,k6,_⟩:=k5 i _ (List.getElem?_eq_getElem hi')
  obtain⟨_,_,_,k7⟩:=vP k6
  exact k7
 have h2:=h1.mapped ka.m rfl (fun cs f hf=>by
  obtain⟨a,rfl,hm,_⟩:=vP hf
  exact⟨_,_,_,_,rfl,⟨hm.s,hm.t⟩,hm.f,hm.b,hm.i,hm.o⟩)
 obtain⟨A,c,rfl,_⟩:=h2.form
 exact⟨A,c,hcs,h2,hfit⟩
end
end Go.Proofs.YtpacloheigifkaaGreat
