/- Lemmas of one proof. -/
import Derived.Test.YthfkmcbblnbfaaaGreatDoorM0S
import Derived.Test.YthfkmcbblnbfaaaGreatDoorM16S
import Derived.Test.YthfkmcbblnbfaaaGreatDoorM28S

namespace Go.Proofs.YthfkmcbblnbfaaaGreatDoor
set_option maxRecDepth 100000
set_option maxHeartbeats 16000000
section
open Go.ChangeShapes Go.WideShapes Go.ChangeAt Go.RowKit Go.Deep
theorem lD {t:TypeId} {fs:Array Field} (ht:Tryz.prog.underlying t=some (.struct fs)) {H:Type} {enc:TypeId×Value->H} {W:World} {fuel:Nat} {cs:List Value} {x:DataW H×List MemPlace}
  (h:DataW.trod enc Tryz.prog W 0 (fun _=>true) true fuel t cs=some x) (hw:∀n∈x.1.weights Tryz.prog t,n<=reachBytes) :
  cs.length=Tryz.prog.cellsOf t/\∀(i:Nat) (f:Field),fs[i]? =some f->∀(α:Type) [ay α],Rd f.type α->∃y:α,ay.rep W W.heap.size ((cs.drop f.offset).take (Tryz.prog.cellsOf f.type)) y:=by
 obtain⟨xs,n,_,rfl,hcl,hxl,hf⟩:=DataW.trod_struct ht h
 refine⟨hcl,fun i f hfi α _ hr=>?_⟩
 have h1:=hf i f hfi
 have hi:i<xs.length:=by rw[hxl];exact(cF.1 hfi).1
 rw[an hi] at h1
 refine hr _ _ _ _ _ _ h1 fun u hu=>hw u ?_
 simp only[DataW.weights,ht]
 exact DataW.weights_mem_each (j:=i) (by rw[cJ,cO,hfi];rfl) (by rw[cJ,an hi];rfl) u hu
theorem mC:Tryz.prog.cellsOf 3=1:=by kernel_rfl
theorem FG:Tryz.prog.bytesOf 3=8:=by kernel_rfl
theorem pQ:Tryz.prog.cellsOf 35=1:=by kernel_rfl
theorem FB:Tryz.prog.cellsOf 77=1:=by kernel_rfl
theorem ux:Tryz.prog.cellsOf 84=4:=by kernel_rfl
theorem uz:Tryz.prog.bytesOf 84=64:=by kernel_rfl
theorem tf:Tryz.prog.cellsOf 22=1:=by kernel_rfl
theorem tA:Rd 35 (List Int):=lC sy Tryz.underlying35 mC (by decide) (by rw[FG];decide)
theorem LT:Rd 84 au:=by
 intro H enc W fuel cs x h hw
 obtain⟨hl,hp⟩:=lD Tryz.underlying84 h hw
 rw[ux] at hl
 obtain⟨c0,c1,c2,c3,rfl⟩:∃c0 c1 c2 c3,cs= [c0,c1,c2,c3]:=by
  match cs,hl with
  | [c0,c1,c2,c3],_=>exact⟨c0,c1,c2,c3,rfl⟩
 obtain⟨y0,h0,i0⟩:=hp 0 _ rfl Int sy
 obtain⟨y1,v1,h1,i1⟩:=hp 1 _ rfl (List Int) tA
 obtain⟨y2,h2,i2⟩:=hp 2 _ rfl Int sy
 obtain⟨y3,v3,h3,i3⟩:=hp 3 _ rfl (List bd) On
 simp[mC,pQ,FB] at h0 h1 h2 h3
 subst h0 h1 h2 h3
 exact⟨⟨y0,y1,y2,y3⟩,_,_,rfl,⟨i0,i2⟩,i1,i3⟩
theorem AG:Rd 22 (List au):=lC LT Tryz.underlying22 ux (by decide) (by rw[uz];decide)
structure K8 where
 funcs:List au
instance:ay K8 where
 k:=1
 rep w B cs p:= ∃v,cs= [v]/\br w B v p.funcs
 len h:=by obtain⟨v,h,_⟩:=h;rw[h];rfl
 keep h hc:=by obtain⟨v,h,hs⟩:=h;exact⟨v,h,hs.keep hc⟩
 more h hb:=by obtain⟨v,h,hs⟩:=h;exact⟨v,h,hs.more hb⟩
 one h:=by obtain⟨v,h,hs⟩:=h;obtain⟨A,c,rfl,_⟩:=hs.form;rw[h];simp[Value.oneCell']
theorem LR:Rd 24 K8:=by
 intro H enc W fuel cs x h hw
 obtain⟨hl,hp⟩:=lD Tryz.underlying24 h hw
 rw[show Tryz.prog.cellsOf 24=1 from by kernel_rfl] at hl
 obtain⟨c0,rfl⟩:∃c0,cs= [c0]:=by
  match cs,hl with
  | [c0],_=>exact⟨c0,rfl⟩
 obtain⟨y0,v,h0,i0⟩:=hp 0 _ rfl (List au) AG
 simp[tf] at h0
 subst h0
 exact⟨⟨y0⟩,_,rfl,i0⟩
end
section
open Go.ChangeShapes Go.WideShapes Go.ChangeAt Go.RowKit Go.Deep
structure BL (n:Nat) (α:Type) where
 l:List α
instance {n:Nat} {α:Type} [ay α]:ay (BL n α) where
 k:=1
 rep w B cs x:= ∃v,cs= [v]/\br w B v x.l/\x.l.length*n<=140737488351232
 len h:=by obtain⟨v,h,_⟩:=h;rw[h];rfl
 keep h hc:=by obtain⟨v,h,hs,hn⟩:=h;exact⟨v,h,hs.keep hc,hn⟩
 more h hb:=by obtain⟨v,h,hs,hn⟩:=h;exact⟨v,h,hs.more hb,hn⟩
 one h:=by obtain⟨v,h,hs,_⟩:=h;obtain⟨A,c,rfl,_⟩:=hs.form;rw[h];simp[Value.oneCell']
theorem nz {t e:TypeId} {α:Type} [ay α] {n:Nat} (hr:Rd t (List α)) (ht:Tryz.prog.underlying t=some (.slice e)) (hn:Tryz.prog.bytesOf e=n):Rd t (BL n α):=by
 intro H enc W fuel cs x h hw
 obtain⟨xs,v,hcs,hs⟩:=hr _ _ _ _ _ _ h hw
 refine⟨⟨xs⟩,v,hcs,hs,?_⟩
 subst hcs
 rcases open_slice ht h with ⟨hcs,hx⟩ | ⟨a',len',cap',m,k,D,Pl,hcs,_,hl',hm,hmm,hx,hi⟩
 ·simp only[List.cons.injEq,and_true] at hcs
  subst hcs
  have:=br.len_eq hs
  show xs.length*n<=_
  rw[this];omega
 simp only[List.cons.injEq,and_true] at hcs
 subst hcs
 have hl:=br.len_eq hs
 have:=hw ((((List.range len').map D).length+((List.range (m - len')).map fun j=>D (len'+j)).length)*Tryz.prog.bytesOf e) (by rw[hx];simp only[DataW.weights,ht];exact List.mem_cons_self)
 rw[hn] at this
 have h2:xs.length*n<=(((List.range len').map D).length+((List.range (m - len')).map fun j=>D (len'+j)).length)*n:=cq _ (by rw[hl];simp)
 unfold reachBytes at this
 show xs.length*n<=_
 omega
structure IE where
 funcs:BL 64 au
instance:ay IE where
 k:=1
 rep w B cs p:= ∃v,cs= [v]/\br w B v p.funcs.l/\p.funcs.l.length*64<=140737488351232
 len h:=by obtain⟨v,h,_⟩:=h;rw[h];rfl
 keep h hc:=by obtain⟨v,h,hs,hn⟩:=h;exact⟨v,h,hs.keep hc,hn⟩
 more h hb:=by obtain⟨v,h,hs,hn⟩:=h;exact⟨v,h,hs.more hb,hn⟩
 one h:=by obtain⟨v,h,hs,_⟩:=h;obtain⟨A,c,rfl,_⟩:=hs.form;rw[h];simp[Value.oneCell']
theorem QE:Rd 24 IE:=by
 intro H enc W fuel cs x h hw
 obtain⟨hl,hp⟩:=lD Tryz.underlying24 h hw
 rw[show Tryz.prog.cellsOf 24=1 from by kernel_rfl] at hl
 obtain⟨c0,rfl⟩:∃c0,cs= [c0]:=by
  match cs,hl with
  | [c0],_=>exact⟨c0,rfl⟩
 obtain⟨y0,v,h0,i0,j0⟩:=hp 0 _ rfl (BL 64 au) (nz AG Tryz.underlying22 uz)
 simp[tf] at h0
 subst h0
 exact⟨⟨y0⟩,_,rfl,i0,j0⟩
end
