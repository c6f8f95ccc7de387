/- Lemmas of one proof. -/
import Derived.Test.YthfkmcbblnbfaaaGreatDoorM90E
import Derived.Test.YthfkmcbblnbfaaaGreatDoorM0E
import Derived.Test.YthfkmcbblnbfaaaGreatDoorM16E
import Derived.Test.YthfkmcbblnbfaaaGreatDoorM29E

namespace Go.Proofs.YthfkmcbblnbfaaaGreatDoor
set_option maxRecDepth 100000
set_option maxHeartbeats 16000000
section
open Go.ChangeShapes Go.WideShapes Go.ChangeAt Go.RowKit Go.Deep
theorem mH {t:TypeId} {fs:Array Field} (e:Tryz.prog.underlying t=some (.struct fs)) {H:Type} {enc:TypeId×Value->H} {a:World} {k:Nat} {cs:List Value} {x:DataW H×List MemPlace}
  (h:DataW.trod enc Tryz.prog a 0 (fun _=>true) true k t cs=some x) (q:∀n∈x.1.weights Tryz.prog t,n<=reachBytes) :
  cs.length=Tryz.prog.cellsOf t/\∀(i:Nat) (f:Field),fs[i]? =some f->∀(α:Type) [aH α],Rd f.type α->∃y:α,aH.rep a a.heap.size ((cs.drop f.offset).take (Tryz.prog.cellsOf f.type)) y:=by
 obtain⟨s,n,_,rfl,l,r,m⟩:=DataW.trod_struct e h;refine⟨l,fun i f b α _ o=>?_⟩;have c:=m i f b;have d:i<s.length:=by rw[r];exact(dy.1 b).1
 rw[aq d] at c;refine o _ _ _ _ _ _ c fun g p=>q g ?_;simp only[DataW.weights,e];exact DataW.weights_mem_each (j:=i) (by rw[dw,en,b];rfl) (by rw[dw,aq d];rfl) g p
theorem nA:Tryz.prog.cellsOf 3=1:=by kernel_rfl
theorem Jw:Tryz.prog.bytesOf 3=8:=by kernel_rfl
theorem sU:Tryz.prog.cellsOf 35=1:=by kernel_rfl
theorem Jt:Tryz.prog.cellsOf 77=1:=by kernel_rfl
theorem xW:Tryz.prog.cellsOf 84=4:=by kernel_rfl
theorem xY:Tryz.prog.bytesOf 84=64:=by kernel_rfl
theorem wO:Tryz.prog.cellsOf 22=1:=by kernel_rfl
theorem wY:Rd 35 (List Int):=od rE Tryz.underlying35 nA κ (by rw[Jw];decide)
theorem Px:Rd 84 aw:=by
 intro v x w y f B l m;obtain⟨k,e⟩:=mH Tryz.underlying84 l m;rw[xW] at k;obtain⟨a,b,c,d,rfl⟩:∃a b c d,f= [a,b,c,d]:=by
  match f,k with
  | [a,b,c,d],_=>exact⟨a,b,c,d,rfl⟩
 obtain⟨r,g,n⟩:=e 0 _ rfl Int rE;obtain⟨s,z,h,o⟩:=e 1 _ rfl (List Int) wY;obtain⟨t,i,p⟩:=e 2 _ rfl Int rE;obtain⟨u,A,j,q⟩:=e 3 _ rfl (List bJ) RX;simp[nA,sU,Jt] at g h i j;subst g h i j;exact⟨⟨r,s,t,u⟩,_,_,rfl,⟨n,p⟩,o,q⟩
theorem D1:Rd 22 (List aw):=od Px Tryz.underlying22 xW κ (by rw[xY];decide)
structure OI where
 funcs:List aw
instance:aH OI where
 k:=1
 rep w B cs p:= ∃v,cs= [v]/\bN w B v p.funcs
 len h:=by obtain⟨v,h,_⟩:=h;rw[h];rfl
 keep h hc:=by obtain⟨v,h,hs⟩:=h;exact⟨v,h,hs.keep hc⟩
 more h hb:=by obtain⟨v,h,hs⟩:=h;exact⟨v,h,hs.more hb⟩
 one h:=by obtain⟨v,h,hs⟩:=h;obtain⟨A,c,rfl,_⟩:=hs.form;rw[h];simp[Value.oneCell']
theorem Pv:Rd 24 OI:=by
 intro j l k m b o e g;obtain⟨d,f⟩:=mH Tryz.underlying24 e g;rw[show Tryz.prog.cellsOf 24=1 from by kernel_rfl] at d;obtain⟨a,rfl⟩:∃a,b= [a]:=by
  match b,d with
  | [a],_=>exact⟨a,rfl⟩
 obtain⟨i,n,c,h⟩:=f 0 _ rfl (List aw) D1;simp[wO] at c;subst c;exact⟨⟨i⟩,_,rfl,h⟩
end
section
open Go.ChangeShapes Go.WideShapes Go.ChangeAt Go.RowKit Go.Deep
structure BL (n:Nat) (α:Type) where
 l:List α
instance {n:Nat} {α:Type} [aH α]:aH (BL n α) where
 k:=1
 rep w B cs x:= ∃v,cs= [v]/\bN w B v x.l/\x.l.length*n<=140737488351232
 len h:=by obtain⟨v,h,_⟩:=h;rw[h];rfl
 keep h hc:=by obtain⟨v,h,hs,hn⟩:=h;exact⟨v,h,hs.keep hc,hn⟩
 more h hb:=by obtain⟨v,h,hs,hn⟩:=h;exact⟨v,h,hs.more hb,hn⟩
 one h:=by obtain⟨v,h,hs,_⟩:=h;obtain⟨A,c,rfl,_⟩:=hs.form;rw[h];simp[Value.oneCell']
theorem qr {t e:TypeId} {α:Type} [aH α] {n:Nat} (p:Rd t (List α)) (i:Tryz.prog.underlying t=some (.slice e)) (o:Tryz.prog.bytesOf e=n):Rd t (BL n α):=by
 intro r y u z x G h j
 obtain⟨d,q,a,f⟩:=p _ _ _ _ _ _ h j
 refine⟨⟨d⟩,q,a,f,?_⟩
 subst a
 rcases open_slice i h with ⟨a,k⟩ | ⟨v,b,w,l,F,c,s,a,_,C,D,E,k,B⟩
 ·simp only[List.cons.injEq,and_true] at a
  subst a
  have:=bN.len_eq f
  show d.length*n<=_
  rw[this];omega
 simp only[List.cons.injEq,and_true] at a
 subst a
 have m:=bN.len_eq f
 have:=j ((((List.range b).map c).length+((List.range (l - b)).map fun g=>c (b+g)).length)*Tryz.prog.bytesOf e) (by rw[k];simp only[DataW.weights,i];exact List.mem_cons_self)
 rw[o] at this
 have A:d.length*n<=(((List.range b).map c).length+((List.range (l - b)).map fun g=>c (b+g)).length)*n:=dL _ (by rw[m];simp)
 unfold reachBytes at this
 show d.length*n<=_
 omega
structure Mf where
 funcs:BL 64 aw
instance:aH Mf where
 k:=1
 rep w B cs p:= ∃v,cs= [v]/\bN w B v p.funcs.l/\p.funcs.l.length*64<=140737488351232
 len h:=by obtain⟨v,h,_⟩:=h;rw[h];rfl
 keep h hc:=by obtain⟨v,h,hs,hn⟩:=h;exact⟨v,h,hs.keep hc,hn⟩
 more h hb:=by obtain⟨v,h,hs,hn⟩:=h;exact⟨v,h,hs.more hb,hn⟩
 one h:=by obtain⟨v,h,hs,_⟩:=h;obtain⟨A,c,rfl,_⟩:=hs.form;rw[h];simp[Value.oneCell']
end
