/- Lemmas of one proof. -/
import Derived.Test.YthfkmcbblnbfaaaGreatDoorM0R
import Derived.Test.YthfkmcbblnbfaaaGreatDoorM16R
import Derived.Test.YthfkmcbblnbfaaaGreatDoorM29R

namespace Go.Proofs.YthfkmcbblnbfaaaGreatDoor
set_option maxRecDepth 100000
set_option maxHeartbeats 16000000
section
open Go.ChangeShapes Go.WideShapes Go.ChangeAt Go.RowKit Go.Deep
theorem kG {t:TypeId} {fs:Array Field} (ht:Tryz.prog.underlying t=some (.struct fs)) {H:Type} {enc:TypeId×Value->H} {W:World} {fuel:Nat} {cs:List Value} {x:DataW H×List MemPlace}
  (h:DataW.trod enc Tryz.prog W 0 (fun _=>true) true fuel t cs=some x) (hw:∀n∈x.1.weights Tryz.prog t,n<=reachBytes) :
  cs.length=Tryz.prog.cellsOf t/\∀(i:Nat) (f:Field),fs[i]? =some f->∀(α:Type) [aE α],Rd f.type α->∃y:α,aE.rep W W.heap.size ((cs.drop f.offset).take (Tryz.prog.cellsOf f.type)) y:=by
 obtain⟨xs,n,_,rfl,hcl,hxl,hf⟩:=DataW.trod_struct ht h
 refine⟨hcl,fun i f hfi α _ hr=>?_⟩
 have h1:=hf i f hfi
 have hi:i<xs.length:=by rw[hxl];exact(de.1 hfi).1
 rw[ap hi] at h1
 refine hr _ _ _ _ _ _ h1 fun u hu=>hw u ?_
 simp only[DataW.weights,ht]
 exact DataW.weights_mem_each (j:=i) (by rw[dc,dE,hfi];rfl) (by rw[dc,ap hi];rfl) u hu
theorem kO:Tryz.prog.cellsOf 3=1:=by kernel_rfl
theorem tf:Tryz.prog.bytesOf 3=8:=by kernel_rfl
theorem lb:Tryz.prog.cellsOf 35=1:=by kernel_rfl
theorem yw:Tryz.prog.cellsOf 77=1:=by kernel_rfl
theorem oG:Tryz.prog.cellsOf 84=4:=by kernel_rfl
theorem oH:Tryz.prog.bytesOf 84=64:=by kernel_rfl
theorem qm:Tryz.prog.cellsOf 22=1:=by kernel_rfl
theorem pI:Rd 35 (List Int):=lw oW Tryz.underlying35 kO (by decide) (by rw[tf];decide)
structure LI where
 funcs:List au
instance:aE LI where
 k:=1
 rep w B cs p:= ∃v,cs= [v]/\bJ w B v p.funcs
 len h:=by obtain⟨v,h,_⟩:=h;rw[h];rfl
 keep h hc:=by obtain⟨v,h,hs⟩:=h;exact⟨v,h,hs.keep hc⟩
 more h hb:=by obtain⟨v,h,hs⟩:=h;exact⟨v,h,hs.more hb⟩
 one h:=by obtain⟨v,h,hs⟩:=h;obtain⟨A,c,rfl,_⟩:=hs.form;rw[h];simp[Value.oneCell']
end
section
open Go.ChangeShapes Go.WideShapes Go.ChangeAt Go.RowKit Go.Deep
structure BL (n:Nat) (α:Type) where
 l:List α
instance {n:Nat} {α:Type} [aE α]:aE (BL n α) where
 k:=1
 rep w B cs x:= ∃v,cs= [v]/\bJ w B v x.l/\x.l.length*n<=140737488351232
 len h:=by obtain⟨v,h,_⟩:=h;rw[h];rfl
 keep h hc:=by obtain⟨v,h,hs,hn⟩:=h;exact⟨v,h,hs.keep hc,hn⟩
 more h hb:=by obtain⟨v,h,hs,hn⟩:=h;exact⟨v,h,hs.more hb,hn⟩
 one h:=by obtain⟨v,h,hs,_⟩:=h;obtain⟨A,c,rfl,_⟩:=hs.form;rw[h];simp[Value.oneCell']
theorem jg {t e:TypeId} {α:Type} [aE α] {n:Nat} (hr:Rd t (List α)) (ht:Tryz.prog.underlying t=some (.slice e)) (hn:Tryz.prog.bytesOf e=n):Rd t (BL n α):=by
 intro H enc W fuel cs x h hw
 obtain⟨xs,v,hcs,hs⟩:=hr _ _ _ _ _ _ h hw
 refine⟨⟨xs⟩,v,hcs,hs,?_⟩
 subst hcs
 rcases open_slice ht h with ⟨hcs,hx⟩ | ⟨a',len',cap',m,k,D,Pl,hcs,_,hl',hm,hmm,hx,hi⟩
 ·simp only[List.cons.injEq,and_true] at hcs
  subst hcs
  have:=bJ.len_eq hs
  show xs.length*n<=_
  rw[this];omega
 simp only[List.cons.injEq,and_true] at hcs
 subst hcs
 have hl:=bJ.len_eq hs
 have:=hw ((((List.range len').map D).length+((List.range (m - len')).map fun j=>D (len'+j)).length)*Tryz.prog.bytesOf e) (by rw[hx];simp only[DataW.weights,ht];exact List.mem_cons_self)
 rw[hn] at this
 have h2:xs.length*n<=(((List.range len').map D).length+((List.range (m - len')).map fun j=>D (len'+j)).length)*n:=dt _ (by rw[hl];simp)
 unfold reachBytes at this
 show xs.length*n<=_
 omega
structure Jp where
 funcs:BL 64 au
instance:aE Jp where
 k:=1
 rep w B cs p:= ∃v,cs= [v]/\bJ w B v p.funcs.l/\p.funcs.l.length*64<=140737488351232
 len h:=by obtain⟨v,h,_⟩:=h;rw[h];rfl
 keep h hc:=by obtain⟨v,h,hs,hn⟩:=h;exact⟨v,h,hs.keep hc,hn⟩
 more h hb:=by obtain⟨v,h,hs,hn⟩:=h;exact⟨v,h,hs.more hb,hn⟩
 one h:=by obtain⟨v,h,hs,_⟩:=h;obtain⟨A,c,rfl,_⟩:=hs.form;rw[h];simp[Value.oneCell']
end
