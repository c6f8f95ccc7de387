/- Lemmas of one proof. -/
import Derived.Test.YthfkmcbblnbfaaaGreatDoorM90E
import Derived.Test.YthfkmcbblnbfaaaGreatDoorM0E
import Derived.Test.YthfkmcbblnbfaaaGreatDoorRows
import Derived.ProofKit
import Derived.Deep.Slices
import Derived.SizedLaws
import Derived.OpenShut
import Derived.ShutString
import Derived.ChangeOld
import Derived.Test.YthfkmcbblnbfaaaGreatDoorM3E

namespace Go.Proofs.YthfkmcbblnbfaaaGreatDoor
set_option maxRecDepth 100000
set_option maxHeartbeats 16000000
section
open Go.ChangeShapes Go.WideShapes Go.ChangeAt Go.RowKit Go.Deep
def Rd (t:TypeId) (α:Type) [aH α]:Prop:=
 ∀(H:Type) (enc:TypeId×Value->H) (W:World) (fuel:Nat) (cs:List Value) (x:DataW H×List MemPlace),
  DataW.trod enc Tryz.prog W 0 (fun _=>true) true fuel t cs=some x->(∀n∈x.1.weights Tryz.prog t,n<=reachBytes)->∃y:α,aH.rep W W.heap.size cs y
theorem Ci {n:Int} (a:(Lit.int .i64 n).wf=true):aI n:=by
 simp[Lit.wf,IntKind.min,IntKind.max,IntKind.signed,IntKind.bits] at a;exact⟨by omega,by omega⟩
theorem RY {t:TypeId} (b:Tryz.prog.underlying t=some (.int .i64)):Rd t Int:=by
 intro H enc W h g i a _;obtain⟨f,rfl,_,c⟩:=DataW.trod_int b a;refine⟨f,rfl,?_⟩;simp[Lit.wf,IntKind.min,IntKind.max,IntKind.signed,IntKind.bits] at c;exact⟨ω,ω⟩
theorem F5 {α:Type} {R:Nat->α->Prop} (n:Nat) (h:∀i,i<n->∃y,R i y):∃ys:List α,ys.length=n/\∀i y,ys[i]? =some y->R i y:=by
 induction n with
 | zero=>exact⟨[],rfl,fun i y h=>by simp at h⟩
 | succ n j=>
  obtain⟨ys,f,g⟩:=j (fun i b=>h i ω);obtain⟨y,c⟩:=h n ω;refine⟨ys++ [y],by simp[f],fun i k a=>?_⟩
  by_cases b:i<ys.length
  ·rw[eU b] at a;exact g i k a
  rw[dx ω] at a;have:i - ys.length=0:=by
   rcases ic (i - ys.length) with h | h
   ·exact h
   rw[bn (by simp;omega)] at a;cases a
  rw[this] at a;simp at a;subst a;have:i=n:=ω;rw[this];exact c
theorem od {t e:TypeId} {α:Type} [aH α] (Q:Rd e α) (w:Tryz.prog.underlying t=some (.slice e)) (M:Tryz.prog.cellsOf e=aH.k α) (O:0<aH.k α) (K:0<Tryz.prog.bytesOf e) :
  Rd t (List α):=by
 intro H enc W a1 a0 a8 k I;rcases open_slice w k with ⟨rfl,rfl⟩ | ⟨n,c,J,h,Z,q,am,rfl,_,P,E,G,rfl,s⟩
 ·exact⟨[],_,rfl,bN.nil_⟩
 have F:J=h:=τ G.symm;clear G;rw[F] at P E⊢;clear F;have D:∀a,a<c->∃i:α,∃f,W.cells? 0 (n.add (a*aH.k α)) (aH.k α)=some f/\aH.rep W W.heap.size f i:=by
  intro a u;obtain⟨f,g,U⟩:=s a ω;rw[M] at g;obtain⟨i,y⟩:=Q H enc W Z f _ U (fun B o=>I B (by
   simp only[DataW.weights,w];refine List.mem_cons_of_mem _ (iF _ ?_);have:∀(m:List Nat),a∈m->B∈DataW.weightsAll Tryz.prog e (m.map q):=by
    intro m
    induction m with
    | nil=>simp
    | cons a9 m Y=>
     intro z;simp only[eL,DataW.weightsAll,dQ];rcases ec.1 z with rfl | z
     ·exact .inl o
     exact .inr (Y z)
   exact this _ (jj.2 u)))
  exact⟨i,f,g,y⟩
 obtain⟨al,X,y⟩:=F5 c D;have:(c+(h - c))*Tryz.prog.bytesOf e<=reachBytes:=by
  have:=I ((((List.range c).map q).length+((List.range (h - c)).map fun b=>q (c+b)).length)*Tryz.prog.bytesOf e) (by simp only[DataW.weights,w];exact List.mem_cons_self);simpa using this
 have:c<=140737488355328:=by
  have:c+(h - c)<=(c+(h - c))*Tryz.prog.bytesOf e:=Nat.le_mul_of_pos_right _ K;have:=reachBytes_lt;omega
 refine⟨al,_,rfl,some n,h,by rw[X],ω,E,ω,fun a2=>?_⟩;have S:∀a,a<c->∀b,b<aH.k α->∃v,W.cell? ((n.add (a*aH.k α)).add b)=some v:=by
  intro a u b l;obtain⟨i,f,g,_⟩:=D a u;obtain⟨_,N,r⟩:=World.cells?_some g;exact⟨f[b]'(by omega),by rw[r b l];exact aq ω⟩
 obtain⟨j,A,ad⟩:=n;obtain⟨a7,x⟩:=S 0 ω 0 O;have T:ad=none:=by simpa [Addr.add] using World.cell?_spot x
 subst T;have C:∀a b:Nat,((⟨j,A,none⟩:Addr).add a).add b=⟨j,A+a+b,none⟩:=by
  intro a b;unfold Addr.add;by_cases s:a=0 <;> by_cases l:b=0 <;> simp[s,l,Nat.add_assoc]
 have L:j<W.heap.size:=by
  rw[C] at x;rcases gH j W.heap.size with k | k
  ·exact k
  simp[World.cell?,sW k] at x
 refine⟨j,A,rfl,L,fun a i V=>?_⟩;obtain⟨f,g,R⟩:=y a i V;obtain⟨_,N,r⟩:=World.cells?_some g;refine⟨f,R,fun b B o=>?_⟩;have l:b<aH.k α:=by have:=(bw.1 o).1;omega
 have:=r b l;rw[C] at this;rw[this,o]
section
variable {H:Type} {enc:TypeId×Value->H} {W:World} {t e:TypeId} {v:Value} {d:DataW H} {p:List MemPlace} {base:Nat}
theorem Rg (a:Tryz.prog.underlying t=some (.int .i64)) (b:Value.okWide Tryz.prog W .any base t v) (h:DataW.Trod enc Tryz.prog W 0 (fun _=>true) true t v d p):∃n,v= .int .i64 n/\aI n:=by
 obtain⟨n,rfl,_,_,c⟩:=open_int a b h;refine⟨n,rfl,?_⟩;simp[Lit.wf,IntKind.min,IntKind.max,IntKind.signed,IntKind.bits] at c;exact⟨by omega,by omega⟩
theorem Ji (a:Tryz.prog.underlying t=some .string) (b:Value.okWide Tryz.prog W .any base t v) (h:DataW.Trod enc Tryz.prog W 0 (fun _=>true) true t v d p) (c:∀n∈d.weights Tryz.prog t,n<=reachBytes):∃l:List UInt8,v= .string ⟨l.toArray⟩/\l.length<=140737488351232:=by
 obtain⟨⟨⟨l⟩⟩,rfl,rfl,_,_⟩:=Go.ChangeMaps.open_string a b h;refine⟨l,rfl,?_⟩;have:=c l.length (by simp[DataW.weights]);unfold reachBytes at this;omega
theorem By {α:Type} [aH α] {fs:Array Field} (b:Rd t α) (c:Tryz.prog.underlying t=some (.struct fs)) (f:Value.okWide Tryz.prog W .any base t v) (h:DataW.Trod enc Tryz.prog W 0 (fun _=>true) true t v d p) (g:∀n∈d.weights Tryz.prog t,n<=reachBytes):∃(x:α) (cs:List Value),v= .agg cs.toArray/\aH.rep W W.heap.size cs x:=by
 obtain⟨cs,rfl,_⟩:=okWide_struct c f;obtain⟨j,a⟩:=h;obtain⟨x,i⟩:=b _ _ _ _ _ _ a g;exact⟨x,_,rfl,i⟩
end
end
