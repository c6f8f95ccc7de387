/- Lemmas of one proof. -/
import Derived.Test.YthfkmcbblnbfaaaGreatDoorM0Q
import Derived.Test.YthfkmcbblnbfaaaGreatDoorM16Q
import Derived.Test.YthfkmcbblnbfaaaGreatDoorM28Q

namespace Go.Proofs.YthfkmcbblnbfaaaGreatDoor
set_option maxRecDepth 100000
set_option maxHeartbeats 16000000
section
open Go.ChangeShapes Go.WideShapes Go.ChangeAt Go.RowKit Go.Deep
theorem uH {t:TypeId} {fs:Array Field} (ht:Tryz.prog.underlying t=some (.struct fs)) {H:Type} {enc:TypeId×Value->H} {W:World} {fuel:Nat} {cs:List Value} {x:DataW H×List MemPlace}
  (h:DataW.trod enc Tryz.prog W 0 (fun _=>true) true fuel t cs=some x) (hw:∀n∈x.1.weights Tryz.prog t,n<=reachBytes) :
  cs.length=Tryz.prog.cellsOf t/\∀(i:Nat) (f:Field),fs[i]? =some f->∀(α:Type) [ay α],Rd f.type α->∃y:α,ay.rep W W.heap.size ((cs.drop f.offset).take (Tryz.prog.cellsOf f.type)) y:=by
 obtain⟨xs,n,_,rfl,hcl,hxl,hf⟩:=DataW.trod_struct ht h
 refine⟨hcl,fun i f hfi α _ hr=>?_⟩
 have h1:=hf i f hfi
 have hi:i<xs.length:=by rw[hxl];exact(cI.1 hfi).1
 rw[ap hi] at h1
 refine hr _ _ _ _ _ _ h1 fun u hu=>hw u ?_
 simp only[DataW.weights,ht]
 exact DataW.weights_mem_each (j:=i) (by rw[cD,cQ,hfi];rfl) (by rw[cD,ap hi];rfl) u hu
theorem rL:Tryz.prog.cellsOf 3=1:=by kernel_rfl
theorem Ft:Tryz.prog.bytesOf 3=8:=by kernel_rfl
theorem C6:Tryz.prog.cellsOf 35=1:=by kernel_rfl
theorem Fq:Tryz.prog.cellsOf 77=1:=by kernel_rfl
theorem ut:Tryz.prog.cellsOf 84=4:=by kernel_rfl
theorem C7:Tryz.prog.bytesOf 84=64:=by kernel_rfl
theorem Ce:Tryz.prog.cellsOf 22=1:=by kernel_rfl
theorem LB:Rd 35 (List Int):=ra wX Tryz.underlying35 rL (by decide) (by rw[Ft];decide)
theorem LC:Rd 84 au:=by
 intro H enc W fuel cs x h hw
 obtain⟨hl,hp⟩:=uH Tryz.underlying84 h hw
 rw[ut] at hl
 obtain⟨c0,c1,c2,c3,rfl⟩:∃c0 c1 c2 c3,cs= [c0,c1,c2,c3]:=by
  match cs,hl with
  | [c0,c1,c2,c3],_=>exact⟨c0,c1,c2,c3,rfl⟩
 obtain⟨y0,h0,i0⟩:=hp 0 _ rfl Int wX
 obtain⟨y1,v1,h1,i1⟩:=hp 1 _ rfl (List Int) LB
 obtain⟨y2,h2,i2⟩:=hp 2 _ rfl Int wX
 obtain⟨y3,v3,h3,i3⟩:=hp 3 _ rfl (List bd) N3
 simp[rL,C6,Fq] at h0 h1 h2 h3
 subst h0 h1 h2 h3
 exact⟨⟨y0,y1,y2,y3⟩,_,_,rfl,⟨i0,i2⟩,i1,i3⟩
theorem Jk:Rd 22 (List au):=ra LC Tryz.underlying22 ut (by decide) (by rw[C7];decide)
structure KQ where
 funcs:List au
instance:ay KQ where
 k:=1
 rep w B cs p:= ∃v,cs= [v]/\bE w B v p.funcs
 len h:=by obtain⟨v,h,_⟩:=h;rw[h];rfl
 keep h hc:=by obtain⟨v,h,hs⟩:=h;exact⟨v,h,hs.keep hc⟩
 more h hb:=by obtain⟨v,h,hs⟩:=h;exact⟨v,h,hs.more hb⟩
 one h:=by obtain⟨v,h,hs⟩:=h;obtain⟨A,c,rfl,_⟩:=hs.form;rw[h];simp[Value.oneCell']
theorem QB:Rd 24 KQ:=by
 intro H enc W fuel cs x h hw
 obtain⟨hl,hp⟩:=uH Tryz.underlying24 h hw
 rw[show Tryz.prog.cellsOf 24=1 from by kernel_rfl] at hl
 obtain⟨c0,rfl⟩:∃c0,cs= [c0]:=by
  match cs,hl with
  | [c0],_=>exact⟨c0,rfl⟩
 obtain⟨y0,v,h0,i0⟩:=hp 0 _ rfl (List au) Jk
 simp[Ce] at h0
 subst h0
 exact⟨⟨y0⟩,_,rfl,i0⟩
end
