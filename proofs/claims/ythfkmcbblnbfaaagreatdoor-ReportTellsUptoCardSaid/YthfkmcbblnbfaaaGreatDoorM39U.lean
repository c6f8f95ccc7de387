/- Texts of one proof, one behind the other: lemmas alone. -/
import Derived.Test.YthfkmcbblnbfaaaGreatDoorM36U
import Derived.Test.YthfkmcbblnbfaaaGreatDoorM35U

namespace Go.Proofs.YthfkmcbblnbfaaaGreatDoor
set_option maxRecDepth 100000
set_option maxHeartbeats 16000000
section
open Go.ChangeShapes Go.WideShapes Go.ChangeAt Go.RowKit Go.Deep
instance:am cY where
 k:=5
 rep w B cs r:= ∃v,cs= [.int .i64 r.status,.int .i64 r.trap,.int .i64 r.depth,.int .i64 r.cells,v]/\(aI r.status/\aI r.trap/\aI r.depth/\aI r.cells)/\aT w B v r.out
 len h:=by obtain⟨v,h,_⟩:=h;rw[h];rfl
 keep h hc:=by obtain⟨v,h,hi,h1⟩:=h;exact⟨v,h,hi,h1.keep hc⟩
 more h hb:=by obtain⟨v,h,hi,h1⟩:=h;exact⟨v,h,hi,h1.more hb⟩
 one h:=by
  obtain⟨v,h,hi,h1⟩:=h
  obtain⟨A1,c1,rfl,_⟩:=h1.form
  rw[h]
  simp[Value.oneCell']
theorem uu:Tryz.prog.cellsOf 37=5:=by kernel_rfl
theorem El:Rd 37 cY:=by
 intro H enc W fuel cs x h hw
 obtain⟨hl,hp⟩:=jp Tryz.underlying37 h hw
 rw[uu] at hl
 obtain⟨c0,c1,c2,c3,c4,rfl⟩:∃c0 c1 c2 c3 c4,cs= [c0,c1,c2,c3,c4]:=by
  match cs,hl with
  | [c0,c1,c2,c3,c4],_=>exact⟨c0,c1,c2,c3,c4,rfl⟩
 obtain⟨y0,h0,i0⟩:=hp 0 _ rfl Int kO
 obtain⟨y1,h1,i1⟩:=hp 1 _ rfl Int kO
 obtain⟨y2,h2,i2⟩:=hp 2 _ rfl Int kO
 obtain⟨y3,h3,i3⟩:=hp 3 _ rfl Int kO
 obtain⟨y4,v4,h4,i4⟩:=hp 4 _ rfl (List Int) mh
 simp[iU,kA] at h0 h1 h2 h3 h4
 subst h0 h1 h2 h3 h4
 exact⟨⟨y0,y1,y2,y3,y4⟩,_,rfl,⟨i0,i1,i2,i3⟩,i4⟩
end
end Go.Proofs.YthfkmcbblnbfaaaGreatDoor
