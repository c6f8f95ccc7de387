/- Lemmas of one proof. -/
import Derived.Test.YthfkmcbblnbfaaaGreatDoorM90W
import Derived.Test.YthfkmcbblnbfaaaGreatDoorM0W
import Derived.Test.YthfkmcbblnbfaaaGreatDoorM16W
import Derived.Test.YthfkmcbblnbfaaaGreatDoorM29W

namespace Go.Proofs.YthfkmcbblnbfaaaGreatDoor
set_option maxRecDepth 100000
set_option maxHeartbeats 16000000
section
open Go.ChangeShapes Go.WideShapes Go.ChangeAt Go.RowKit Go.Deep
theorem kw {t:TypeId} {fs:Array Field} (e:Tryz.prog.underlying t=some (.struct fs)) {H:Type} {enc:TypeId×Value->H} {a:World} {k:Nat} {cs:List Value} {x:DataW H×List MemPlace}
  (h:DataW.trod enc Tryz.prog a 0 (fun _=>true) true k t cs=some x) (q:∀n∈x.1.weights Tryz.prog t,n<=reachBytes) :
  cs.length=Tryz.prog.cellsOf t/\∀(i:Nat) (f:Field),fs[i]? =some f->∀(α:Type) [aG α],Rd f.type α->∃y:α,aG.rep a a.heap.size ((cs.drop f.offset).take (Tryz.prog.cellsOf f.type)) y:=by
 obtain⟨s,n,_,rfl,l,r,m⟩:=DataW.trod_struct e h;refine⟨l,fun i f b α _ o=>?_⟩;have c:=m i f b;have d:i<s.length:=by rw[r];exact(dE.1 b).1
 rw[aq d] at c;refine o _ _ _ _ _ _ c fun g p=>q g ?_;simp only[DataW.weights,e];exact DataW.weights_mem_each (j:=i) (by rw[dd,eB,b];rfl) (by rw[dd,aq d];rfl) g p
theorem kZ:Tryz.prog.cellsOf 3=1:=by kernel_rfl
theorem vC:Tryz.prog.bytesOf 3=8:=by kernel_rfl
theorem mH:Tryz.prog.cellsOf 35=1:=by kernel_rfl
theorem Bm:Tryz.prog.cellsOf 77=1:=by kernel_rfl
theorem qA:Tryz.prog.cellsOf 84=4:=by kernel_rfl
theorem qB:Tryz.prog.bytesOf 84=64:=by kernel_rfl
theorem sw:Tryz.prog.cellsOf 22=1:=by kernel_rfl
theorem rO:Rd 35 (List Int):=mb oC Tryz.underlying35 kZ κ (by rw[vC];decide)
structure Pa where
 funcs:List aw
instance:aG Pa where
 k:=1
 rep w B cs p:= ∃v,cs= [v]/\bO w B v p.funcs
 len h:=by obtain⟨v,h,_⟩:=h;rw[h];rfl
 keep h hc:=by obtain⟨v,h,hs⟩:=h;exact⟨v,h,hs.keep hc⟩
 more h hb:=by obtain⟨v,h,hs⟩:=h;exact⟨v,h,hs.more hb⟩
 one h:=by obtain⟨v,h,hs⟩:=h;obtain⟨A,c,rfl,_⟩:=hs.form;rw[h];simp[Value.oneCell']
end
section
open Go.ChangeShapes Go.WideShapes Go.ChangeAt Go.RowKit Go.Deep
structure BL (n:Nat) (α:Type) where
 l:List α
instance {n:Nat} {α:Type} [aG α]:aG (BL n α) where
 k:=1
 rep w B cs x:= ∃v,cs= [v]/\bO w B v x.l/\x.l.length*n<=140737488351232
 len h:=by obtain⟨v,h,_⟩:=h;rw[h];rfl
 keep h hc:=by obtain⟨v,h,hs,hn⟩:=h;exact⟨v,h,hs.keep hc,hn⟩
 more h hb:=by obtain⟨v,h,hs,hn⟩:=h;exact⟨v,h,hs.more hb,hn⟩
 one h:=by obtain⟨v,h,hs,_⟩:=h;obtain⟨A,c,rfl,_⟩:=hs.form;rw[h];simp[Value.oneCell']
theorem jt {t e:TypeId} {α:Type} [aG α] {n:Nat} (p:Rd t (List α)) (i:Tryz.prog.underlying t=some (.slice e)) (o:Tryz.prog.bytesOf e=n):Rd t (BL n α):=by
 intro r y u z x G h j
 obtain⟨d,q,a,f⟩:=p _ _ _ _ _ _ h j
 refine⟨⟨d⟩,q,a,f,?_⟩
 subst a
 rcases open_slice i h with ⟨a,k⟩ | ⟨v,b,w,l,F,c,s,a,_,C,D,E,k,B⟩
 ·simp only[List.cons.injEq,and_true] at a
  subst a
  have:=bO.len_eq f
  show d.length*n<=_
  rw[this];omega
 simp only[List.cons.injEq,and_true] at a
 subst a
 have m:=bO.len_eq f
 have:=j ((((List.range b).map c).length+((List.range (l - b)).map fun g=>c (b+g)).length)*Tryz.prog.bytesOf e) (by rw[k];simp only[DataW.weights,i];exact List.mem_cons_self)
 rw[o] at this
 have A:d.length*n<=(((List.range b).map c).length+((List.range (l - b)).map fun g=>c (b+g)).length)*n:=dP _ (by rw[m];simp)
 unfold reachBytes at this
 show d.length*n<=_
 omega
structure MK where
 funcs:BL 64 aw
instance:aG MK where
 k:=1
 rep w B cs p:= ∃v,cs= [v]/\bO w B v p.funcs.l/\p.funcs.l.length*64<=140737488351232
 len h:=by obtain⟨v,h,_⟩:=h;rw[h];rfl
 keep h hc:=by obtain⟨v,h,hs,hn⟩:=h;exact⟨v,h,hs.keep hc,hn⟩
 more h hb:=by obtain⟨v,h,hs,hn⟩:=h;exact⟨v,h,hs.more hb,hn⟩
 one h:=by obtain⟨v,h,hs,_⟩:=h;obtain⟨A,c,rfl,_⟩:=hs.form;rw[h];simp[Value.oneCell']
end
