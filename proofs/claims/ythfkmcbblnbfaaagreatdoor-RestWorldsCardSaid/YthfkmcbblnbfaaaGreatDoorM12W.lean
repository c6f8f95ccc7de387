/- Lemmas of one proof. -/
import Derived.Test.YthfkmcbblnbfaaaGreatDoorM90W
import Derived.Test.YthfkmcbblnbfaaaGreatDoorM0W
import Derived.Test.YthfkmcbblnbfaaaGreatDoorRows
import Derived.ProofKit
import Derived.Deep.Slices
import Derived.SizedLaws
import Derived.OpenShut
import Derived.ShutString
import Derived.ChangeOld
import Derived.Test.YthfkmcbblnbfaaaGreatDoorM3W

namespace Go.Proofs.YthfkmcbblnbfaaaGreatDoor
set_option maxRecDepth 100000
set_option maxHeartbeats 16000000
section
open Go.ChangeShapes Go.WideShapes Go.ChangeAt Go.RowKit Go.Deep
def Rd (t:TypeId) (α:Type) [aG α]:Prop:=
 ∀(H:Type) (enc:TypeId×Value->H) (W:World) (fuel:Nat) (cs:List Value) (x:DataW H×List MemPlace),
  DataW.trod enc Tryz.prog W 0 (fun _=>true) true fuel t cs=some x->(∀n∈x.1.weights Tryz.prog t,n<=reachBytes)->∃y:α,aG.rep W W.heap.size cs y
theorem CN {n:Int} (a:(Lit.int .i64 n).wf=true):aI n:=by
 simp[Lit.wf,IntKind.min,IntKind.max,IntKind.signed,IntKind.bits] at a;exact⟨by omega,by omega⟩
theorem Sy {t:TypeId} (b:Tryz.prog.underlying t=some (.int .i64)):Rd t Int:=by
 intro H enc W h g i a _;obtain⟨f,rfl,_,c⟩:=DataW.trod_int b a;refine⟨f,rfl,?_⟩;simp[Lit.wf,IntKind.min,IntKind.max,IntKind.signed,IntKind.bits] at c;exact⟨ω,ω⟩
theorem GG {α:Type} {R:Nat->α->Prop} (n:Nat) (h:∀i,i<n->∃y,R i y):∃ys:List α,ys.length=n/\∀i y,ys[i]? =some y->R i y:=by
 induction n with
 | zero=>exact⟨[],rfl,fun i y h=>by simp at h⟩
 | succ n j=>
  obtain⟨ys,f,g⟩:=j (fun i b=>h i ω);obtain⟨y,c⟩:=h n ω;refine⟨ys++ [y],by simp[f],fun i k a=>?_⟩
  by_cases b:i<ys.length
  ·rw[eS b] at a;exact g i k a
  rw[dD ω] at a;have:i - ys.length=0:=by
   rcases ig (i - ys.length) with h | h
   ·exact h
   rw[bh (by simp;omega)] at a;cases a
  rw[this] at a;simp at a;subst a;have:i=n:=ω;rw[this];exact c
theorem mb {t e:TypeId} {α:Type} [aG α] (Q:Rd e α) (w:Tryz.prog.underlying t=some (.slice e)) (M:Tryz.prog.cellsOf e=aG.k α) (O:0<aG.k α) (K:0<Tryz.prog.bytesOf e) :
  Rd t (List α):=by
 intro H enc W a1 a0 a8 k I;rcases open_slice w k with ⟨rfl,rfl⟩ | ⟨n,c,J,h,Z,q,am,rfl,_,P,E,G,rfl,s⟩
 ·exact⟨[],_,rfl,bO.nil_⟩
 have F:J=h:=ψ G.symm;clear G;rw[F] at P E⊢;clear F;have D:∀a,a<c->∃i:α,∃f,W.cells? 0 (n.add (a*aG.k α)) (aG.k α)=some f/\aG.rep W W.heap.size f i:=by
  intro a u;obtain⟨f,g,U⟩:=s a ω;rw[M] at g;obtain⟨i,y⟩:=Q H enc W Z f _ U (fun B o=>I B (by
   simp only[DataW.weights,w];refine List.mem_cons_of_mem _ (iH _ ?_);have:∀(m:List Nat),a∈m->B∈DataW.weightsAll Tryz.prog e (m.map q):=by
    intro m
    induction m with
    | nil=>simp
    | cons a9 m Y=>
     intro z;simp only[eM,DataW.weightsAll,dU];rcases eo.1 z with rfl | z
     ·exact .inl o
     exact .inr (Y z)
   exact this _ (jj.2 u)))
  exact⟨i,f,g,y⟩
 obtain⟨al,X,y⟩:=GG c D;have:(c+(h - c))*Tryz.prog.bytesOf e<=reachBytes:=by
  have:=I ((((List.range c).map q).length+((List.range (h - c)).map fun b=>q (c+b)).length)*Tryz.prog.bytesOf e) (by simp only[DataW.weights,w];exact List.mem_cons_self);simpa using this
 have:c<=140737488355328:=by
  have:c+(h - c)<=(c+(h - c))*Tryz.prog.bytesOf e:=Nat.le_mul_of_pos_right _ K;have:=reachBytes_lt;omega
 refine⟨al,_,rfl,some n,h,by rw[X],ω,E,ω,fun a2=>?_⟩;have S:∀a,a<c->∀b,b<aG.k α->∃v,W.cell? ((n.add (a*aG.k α)).add b)=some v:=by
  intro a u b l;obtain⟨i,f,g,_⟩:=D a u;obtain⟨_,N,r⟩:=World.cells?_some g;exact⟨f[b]'(by omega),by rw[r b l];exact aq ω⟩
 obtain⟨j,A,ad⟩:=n;obtain⟨a7,x⟩:=S 0 ω 0 O;have T:ad=none:=by simpa [Addr.add] using World.cell?_spot x
 subst T;have C:∀a b:Nat,((⟨j,A,none⟩:Addr).add a).add b=⟨j,A+a+b,none⟩:=by
  intro a b;unfold Addr.add;by_cases s:a=0 <;> by_cases l:b=0 <;> simp[s,l,Nat.add_assoc]
 have L:j<W.heap.size:=by
  rw[C] at x;rcases gL j W.heap.size with k | k
  ·exact k
  simp[World.cell?,tF k] at x
 refine⟨j,A,rfl,L,fun a i V=>?_⟩;obtain⟨f,g,R⟩:=y a i V;obtain⟨_,N,r⟩:=World.cells?_some g;refine⟨f,R,fun b B o=>?_⟩;have l:b<aG.k α:=by have:=(bt.1 o).1;omega
 have:=r b l;rw[C] at this;rw[this,o]
section
variable {H:Type} {enc:TypeId×Value->H} {W:World} {t e:TypeId} {v:Value} {d:DataW H} {p:List MemPlace} {base:Nat}
theorem JS (a:Tryz.prog.underlying t=some .string) (b:Value.okWide Tryz.prog W .any base t v) (h:DataW.Trod enc Tryz.prog W 0 (fun _=>true) true t v d p) (c:∀n∈d.weights Tryz.prog t,n<=reachBytes):∃l:List UInt8,v= .string ⟨l.toArray⟩/\l.length<=140737488351232:=by
 obtain⟨⟨⟨l⟩⟩,rfl,rfl,_,_⟩:=Go.ChangeMaps.open_string a b h;refine⟨l,rfl,?_⟩;have:=c l.length (by simp[DataW.weights]);unfold reachBytes at this;omega
theorem B7 {α:Type} [aG α] {fs:Array Field} (b:Rd t α) (c:Tryz.prog.underlying t=some (.struct fs)) (f:Value.okWide Tryz.prog W .any base t v) (h:DataW.Trod enc Tryz.prog W 0 (fun _=>true) true t v d p) (g:∀n∈d.weights Tryz.prog t,n<=reachBytes):∃(x:α) (cs:List Value),v= .agg cs.toArray/\aG.rep W W.heap.size cs x:=by
 obtain⟨cs,rfl,_⟩:=okWide_struct c f;obtain⟨j,a⟩:=h;obtain⟨x,i⟩:=b _ _ _ _ _ _ a g;exact⟨x,_,rfl,i⟩
end
end
