/- Lemmas of one proof. -/
import Derived.Test.YthfkmcbblnbfaaaGreatDoorM90E
import Derived.Test.YthfkmcbblnbfaaaGreatDoorM0E
import Derived.Test.YthfkmcbblnbfaaaGreatDoorM41E
import Derived.Test.YthfkmcbblnbfaaaGreatDoorM43E

namespace Go.Proofs.YthfkmcbblnbfaaaGreatDoor
set_option maxRecDepth 100000
set_option maxHeartbeats 16000000
section
open Go.ChangeShapes Go.WideShapes Go.ChangeAt Go.RowKit Go.Deep
theorem AL:Tryz.prog.bytesOf 43=112:=by kernel_rfl
theorem Gr:Tryz.prog.cellsOf 25=1:=by kernel_rfl
theorem Nf:Rd 25 (List pp):=od Pw Tryz.underlying25 vD κ (by rw[AL];decide)
structure wM where
 ms:BL 112 pp
def wM.l (x:wM):List av:=x.ms.l.map pp.m
instance:aH wM where
 k:=1
 rep w B cs x:= ∃v,cs= [v]/\bN w B v x.ms.l/\x.ms.l.length*112<=140737488351232
 len h:=by obtain⟨v,h,_⟩:=h;rw[h];rfl
 keep h hc:=by obtain⟨v,h,hs,j⟩:=h;exact⟨v,h,hs.keep hc,j⟩
 more h hb:=by obtain⟨v,h,hs,j⟩:=h;exact⟨v,h,hs.more hb,j⟩
 one h:=by obtain⟨v,h,hs,_⟩:=h;obtain⟨A,c,rfl,_⟩:=hs.form;rw[h];simp[Value.oneCell']
theorem Nd:Rd 27 wM:=by
 intro j l k m b o e g;obtain⟨d,f⟩:=mH Tryz.underlying27 e g;rw[show Tryz.prog.cellsOf 27=1 from by kernel_rfl] at d;obtain⟨a,rfl⟩:∃a,b= [a]:=by
  match b,d with
  | [a],_=>exact⟨a,rfl⟩
 obtain⟨i,n,c,h⟩:=f 0 _ rfl (BL 112 pp) (qr Nf Tryz.underlying25 AL);simp[Gr] at c;subst c;exact⟨⟨i⟩,_,rfl,h⟩
theorem Mq {d:World} {B:Nat} {cs:List Value} {x:wM} (h:aH.rep d B cs x):∃(A:Option Addr) (c:Nat),cs= [ac A x.l.length c]/\bN d B (ac A x.l.length c) x.l/\ne x.l:=by
 obtain⟨u,i,e,t⟩:=h;have j:ne x.l:=by
  refine⟨by show (x.ms.l.map pp.m).length*112<=_;rw[aQ];omega,fun v l=>?_⟩;obtain⟨g,b,rfl⟩:=ll.1 l;obtain⟨m,k,rfl⟩:=cA b;obtain⟨_,_,_,_,_,_,n⟩:=e;obtain⟨_,_,_,_,o⟩:=n ω;obtain⟨s,p,_⟩:=o m _ (aq k);obtain⟨_,_,_,q⟩:=Hb p;exact q
 have f:=e.mapped pp.m rfl (fun cs g b=>by
  obtain⟨r,rfl,a,_⟩:=Hb b;exact⟨_,_,_,_,rfl,⟨a.s,a.t⟩,a.f,a.b,a.i,a.o⟩)
 obtain⟨A,c,rfl,_⟩:=f.form;exact⟨A,c,i,f,j⟩
end
