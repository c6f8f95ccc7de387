/- Lemmas of one proof. -/
import Derived.Test.YthfkmcbblnbfaaaGreatDoorM0R
import Derived.Test.YthfkmcbblnbfaaaGreatDoorRows
import Derived.ProofKit
import Derived.Deep.Slices
import Derived.SizedLaws
import Derived.OpenShut
import Derived.ShutString
import Derived.ChangeOld
import Derived.Test.YthfkmcbblnbfaaaGreatDoorM3R

namespace Go.Proofs.YthfkmcbblnbfaaaGreatDoor
set_option maxRecDepth 100000
set_option maxHeartbeats 16000000
section
open Go.ChangeShapes Go.WideShapes Go.ChangeAt Go.RowKit Go.Deep
def Rd (t:TypeId) (α:Type) [aE α]:Prop:=
 ∀(H:Type) (enc:TypeId×Value->H) (W:World) (fuel:Nat) (cs:List Value) (x:DataW H×List MemPlace),
  DataW.trod enc Tryz.prog W 0 (fun _=>true) true fuel t cs=some x->(∀n∈x.1.weights Tryz.prog t,n<=reachBytes)->∃y:α,aE.rep W W.heap.size cs y
theorem zW {n:Int} (hw:(Lit.int .i64 n).wf=true):aH n:=by
 simp[Lit.wf,IntKind.min,IntKind.max,IntKind.signed,IntKind.bits] at hw
 exact⟨by omega,by omega⟩
theorem Or {t:TypeId} (ht:Tryz.prog.underlying t=some (.int .i64)):Rd t Int:=by
 intro H enc W fuel cs x h _
 obtain⟨n,rfl,_,hw⟩:=DataW.trod_int ht h
 refine⟨n,rfl,?_⟩
 simp[Lit.wf,IntKind.min,IntKind.max,IntKind.signed,IntKind.bits] at hw
 exact⟨by omega,by omega⟩
theorem DU {α:Type} {R:Nat->α->Prop} (n:Nat) (h:∀i,i<n->∃y,R i y):∃ys:List α,ys.length=n/\∀i y,ys[i]? =some y->R i y:=by
 induction n with
 | zero=>exact⟨[],rfl,fun i y h=>by simp at h⟩
 | succ n ih=>
  obtain⟨ys,hl,hy⟩:=ih (fun i hi=>h i (by omega))
  obtain⟨y,hR⟩:=h n (by omega)
  refine⟨ys++ [y],by simp[hl],fun i z hz=>?_⟩
  by_cases hi:i<ys.length
  ·rw[en hi] at hz;exact hy i z hz
  rw[dd (by omega)] at hz
  have:i - ys.length=0:=by
   rcases gj (i - ys.length) with h | h
   ·exact h
   rw[aW (by simp;omega)] at hz;cases hz
  rw[this] at hz
  simp at hz
  subst hz
  have:i=n:=by omega
  rw[this];exact hR
theorem lw {t e:TypeId} {α:Type} [aE α] (hr:Rd e α) (ht:Tryz.prog.underlying t=some (.slice e)) (hc:Tryz.prog.cellsOf e=aE.k α) (hk:0<aE.k α) (hb:0<Tryz.prog.bytesOf e) :
  Rd t (List α):=by
 intro H enc W fuel cs x h hw
 rcases open_slice ht h with ⟨rfl,rfl⟩ | ⟨a,len,cap,m,n,D,Pl,rfl,_,hl,hm,hmm,rfl,hi⟩
 ·exact⟨[],_,rfl,bJ.nil_⟩
 have hmc:cap=m:=by simpa using hmm.symm
 clear hmm
 rw[hmc] at hl hm⊢
 clear hmc
 have hel:∀i,i<len->∃y:α,∃cs',W.cells? 0 (a.add (i*aE.k α)) (aE.k α)=some cs'/\aE.rep W W.heap.size cs' y:=by
  intro i hil
  obtain⟨cs',hcs,htr⟩:=hi i (by omega)
  rw[hc] at hcs
  obtain⟨y,hy⟩:=hr H enc W n cs' _ htr (fun u hu=>hw u (by
   simp only[DataW.weights,ht]
   refine List.mem_cons_of_mem _ (gT _ ?_)
   have:∀(l:List Nat),i∈l->u∈DataW.weightsAll Tryz.prog e (l.map D):=by
    intro l
    induction l with
    | nil=>simp
    | cons z l ih=>
     intro hz
     simp only[et,DataW.weightsAll,dD]
     rcases dC.1 hz with rfl | hz
     ·exact .inl hu
     exact .inr (ih hz)
   exact this _ (kV.2 hil)))
  exact⟨y,cs',hcs,hy⟩
 obtain⟨ys,hyl,hy⟩:=DU len hel
 have hbytes:(len+(m - len))*Tryz.prog.bytesOf e<=reachBytes:=by
  have:=hw ((((List.range len).map D).length+((List.range (m - len)).map fun j=>D (len+j)).length)*Tryz.prog.bytesOf e) (by simp only[DataW.weights,ht];exact List.mem_cons_self)
  simpa using this
 have hlen:len<=140737488355328:=by
  have h1:len+(m - len)<=(len+(m - len))*Tryz.prog.bytesOf e:=Nat.le_mul_of_pos_right _ hb
  have h2:=reachBytes_lt
  omega
 refine⟨ys,_,rfl,some a,m,by rw[hyl],by omega,hm,by omega,fun h0=>?_⟩
 have hsome:∀i,i<len->∀j,j<aE.k α->∃v,W.cell? ((a.add (i*aE.k α)).add j)=some v:=by
  intro i hil j hj
  obtain⟨y,cs',hcs,_⟩:=hel i hil
  obtain⟨_,hcl,hat⟩:=World.cells?_some hcs
  exact⟨cs'[j]'(by omega),by rw[hat j hj];exact ap (by omega)⟩
 obtain⟨b,off,spot⟩:=a
 obtain⟨v0,hv0⟩:=hsome 0 (by omega) 0 hk
 have hspot:spot=none:=by simpa [Addr.add] using World.cell?_spot hv0
 subst hspot
 have hadd:∀i j:Nat,((⟨b,off,none⟩:Addr).add i).add j=⟨b,off+i+j,none⟩:=by
  intro i j;unfold Addr.add;by_cases hi:i=0 <;> by_cases hj:j=0 <;> simp[hi,hj,Nat.add_assoc]
 have hblt:b<W.heap.size:=by
  rw[hadd] at hv0
  rcases fK b W.heap.size with h | h
  ·exact h
  simp[World.cell?,ra h] at hv0
 refine⟨b,off,rfl,hblt,fun i y hyi=>?_⟩
 obtain⟨cs',hcs,hrep⟩:=hy i y hyi
 obtain⟨_,hcl,hat⟩:=World.cells?_some hcs
 refine⟨cs',hrep,fun j u hu=>?_⟩
 have hj:j<aE.k α:=by have:=(aZ.1 hu).1;omega
 have:=hat j hj
 rw[hadd] at this
 rw[this,hu]
section
variable {H:Type} {enc:TypeId×Value->H} {W:World} {t e:TypeId} {v:Value} {d:DataW H} {p:List MemPlace} {base:Nat}
theorem NZ (ht:Tryz.prog.underlying t=some (.int .i64)) (hv:Value.okWide Tryz.prog W .any base t v) (h:DataW.Trod enc Tryz.prog W 0 (fun _=>true) true t v d p):∃n,v= .int .i64 n/\aH n:=by
 obtain⟨n,rfl,_,_,hw⟩:=open_int ht hv h
 refine⟨n,rfl,?_⟩
 simp[Lit.wf,IntKind.min,IntKind.max,IntKind.signed,IntKind.bits] at hw
 exact⟨by omega,by omega⟩
theorem Fl {α:Type} [aE α] {fs:Array Field} (hr:Rd t α) (ht:Tryz.prog.underlying t=some (.struct fs)) (hv:Value.okWide Tryz.prog W .any base t v) (h:DataW.Trod enc Tryz.prog W 0 (fun _=>true) true t v d p) (hw:∀n∈d.weights Tryz.prog t,n<=reachBytes):∃(x:α) (cs:List Value),v= .agg cs.toArray/\aE.rep W W.heap.size cs x:=by
 obtain⟨cs,rfl,_⟩:=okWide_struct ht hv
 obtain⟨fuel,hf⟩:=h
 obtain⟨x,hx⟩:=hr _ _ _ _ _ _ hf hw
 exact⟨x,_,rfl,hx⟩
end
end
