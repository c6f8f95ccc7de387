/- Lemmas of one proof. -/
import Derived.Test.YthfkmcbblnbfaaaGreatDoorM0R
import Derived.RegionTactic
import Derived.Deep.OwnRows
import Derived.Test.YthfkmcbblnbfaaaGreatDoorM4R

namespace Go.Proofs.YthfkmcbblnbfaaaGreatDoor
set_option maxRecDepth 100000
set_option maxHeartbeats 16000000
open Go.RowKit
section
def ef {α:Type} [Ow α] (w:World) (B:Nat) (v:Value) (xs:List α):Prop:= ∃F,cL w F v xs/\∀b,F b->B<=b
section
variable {α:Type} [Ow α] {w w':World} {B:Nat} {F:Nat->Prop} {v:Value} {xs:List α}
theorem cL.ownF (h:cL w F v xs) {g:Nat} (hg:v.ownBlock=some g):F g:=by
 rcases h with ⟨rfl,_,_⟩ | ⟨g',p,cap,cur,Fs,h⟩
 ·simp[Value.ownBlock] at hg
 obtain rfl:=h.hv
 simp[Value.ownBlock] at hg
 subst hg
 exact(h.hF _).2 (.inl rfl)
theorem ef.sl (h:ef w B v xs):Sl w v xs:=by obtain⟨F,h,_⟩:=h;exact h.sl
theorem ef.nil_ (w:World) (B:Nat):ef w B (.slice none 0 0) ([]:List α):=⟨_,cL.nil_ w,fun _ h=>h.elim⟩
theorem ef.via (hb:Below w.heap.size w w') (h:ef w B v xs):ef w' B v xs:=by obtain⟨F,h,hB⟩:=h;exact⟨F,h.via hb,hB⟩
theorem ef.alloc (h:ef w B v xs) (o:Obj):ef (w.alloc o) B v xs:=h.via ((Below.refl _ _).alloc (aK _) _)
theorem ef.drew (h:ef w B v xs):ef w.drew B v xs:=h.via (Below.refl _ _).drew
theorem ef.mono {B':Nat} (h:ef w B v xs) (hb:B'<=B):ef w B' v xs:=by obtain⟨F,h,hB⟩:=h;exact⟨F,h,fun b hF=>eE hb (hB b hF)⟩
theorem ef.form (h:ef w B v xs):∃A c,v= .slice A xs.length c/\xs.length<=c/\c<=9223372036854775807/\xs.length<=140737488355328:=h.sl.form
theorem ef.form_n {n:Nat} (h:ef w B v xs) (hn:xs.length=n):∃A c,v= .slice A n c/\n<=c/\c<=9223372036854775807/\n<=140737488355328:=by subst hn;exact h.sl.form
theorem cL.grown_below {a W w2:World} {v:Value} {xs:List α} (h:Below B a W) (ho:cL W F v xs) (hF:∀b,F b->B<=b) (hg:W.grownBy w2 v.ownBlock) (hB:B<=W.heap.size):Below B a w2:=
 h.grown hg hB (fun k hk=>hF k (ho.ownF hk))
theorem ef.of_zs {base:Nat} {zs:List Value} (h:w.ownsRow base (Ow.ty α) (aE.k α) v xs.length zs) (hzl:zs.length=xs.length*aE.k α) (hr:∀i x,xs[i]? =some x->Ow.own w (fun _=>False) ((zs.drop (i*aE.k α)).take (aE.k α)) x) (hl:xs.length<=140737488355328) :
  ef w base v xs:=by
 rcases h.2 with ⟨rfl,h0⟩ | ⟨g,cap,cur,rfl,hb,hg,hn,hm,hs,ht⟩
 ·obtain rfl:=aY h0
  exact ef.nil_ _ _
 refine⟨fun b=>b=g,.inr ⟨g,0,cap,cur,fun _ _=>False,⟨rfl,hg,hn,hm,by rw[ir,hs];exact aK _,hl,fun i x hx=>?_,fun b=>by simp,fun _ _ h=>h,fun _ _ _ _ _ h=>h.elim⟩⟩,fun b hb'=>by subst hb';exact hb⟩
 have hx':=hr i x hx
 have hi:=(aZ.1 hx).1
 have h5:i*aE.k α+aE.k α<=zs.length:=by
  rw[hzl]
  calc i*aE.k α+aE.k α=(i+1)*aE.k α:=by rw[gS]
   _<=xs.length*aE.k α:=dt _ (by omega)
 have:(cur.toList.drop (0+i*aE.k α)).take (aE.k α)=(zs.drop (i*aE.k α)).take (aE.k α):=by
  rw[ir,<-ht]
  rw[<-ht,aA] at h5
  apply fq
  intro j
  by_cases hj:j<aE.k α
  ·rw[dQ,if_pos hj,dw,dQ,if_pos hj,dw,dQ,if_pos (by omega)]
  rw[aW (by rw[aA];omega),aW (by rw[aA];omega)]
 rw[this]
 exact hx'
end
def rM {α:Type} [Ow α] (w:World) (B:Nat) (v:Value) (xs:List α) (cs:List Value) (y:α):Prop:=
 ∃F G,cL w F v xs/\Ow.own w G cs y/\(∀b,F b->B<=b)/\(∀b,G b->B<=b)/\∀b,F b->¬G b
theorem rM.newer {α:Type} [Ow α] {w wr:World} {B:Nat} {v:Value} {xs:List α} {cs:List Value} {y:α} (h:ef wr B v xs) (hbel:Below wr.heap.size wr w) (hB:B<=wr.heap.size) (hy:∃G,Ow.own w G cs y/\∀b,G b->wr.heap.size<=b):rM w B v xs cs y:=by
 obtain⟨F,ho,hF⟩:=h
 obtain⟨G,hG,hGB⟩:=hy
 exact⟨F,G,ho.via hbel,hG,hF,fun b hb=>eE hB (hGB b hb),fun b hb hg=>by have:=hGB b hg;have:=ho.lt hb;omega⟩
theorem rM.older {α:Type} [Ow α] {w wr:World} {B:Nat} {v:Value} {xs:List α} {cs:List Value} {y:α} (hy:∃G,Ow.own wr G cs y/\∀b,G b->B<=b) (hbel:Below wr.heap.size wr w) (hB:B<=wr.heap.size) (h:ef w wr.heap.size v xs):rM w B v xs cs y:=by
 obtain⟨F,ho,hF⟩:=h
 obtain⟨G,hG,hGB⟩:=hy
 exact⟨F,G,ho,Ow.frame hG fun b hb=>hbel.block b (Ow.lt hG hb),fun b hb=>eE hB (hF b hb),hGB,fun b hb hg=>by have:=Ow.lt hG hg;have:=hF b hb;omega⟩
section
variable {P:Program} (w:World) {α:Type} [Ow α]
theorem yM (t ty:TypeId) (i:TypeInfo) (z:Value) (bytes:Nat) (ht:P.underlying t=some (.slice (Ow.ty α))) (hi:P.info? (Ow.ty α)=some i) (hz:i.zero=some z)
  (hsize:i.size=aE.k α) (hby:i.bytes=bytes) (hzs:z.cells.size=aE.k α)
  {B:Nat} {v:Value} {xs:List α} (ad:Addr) (c:Nat) (cs:List Value) (y:α) (h:rM w B v xs cs y) (hcs:∀j u,cs[j]? =some u->w.cell? (ad.add j)=some u)
  (hBr:B<=w.heap.size) (hbnd:xs.length+1<=140737488355328) (hbytes:(xs.length+1)*bytes<=140737488355328) :
  ∃v' w',(Builtin.append_ #[t,t] ty #[v,.slice (some ad) 1 c]).run P w= .ok v' w'/\ef w' B v' (xs++ [y])/\(∀a,Below B a w->Below B a w'):=by
 obtain⟨F,G,ho,hG,hB,hGB,hd⟩:=h
 have hrep:=Ow.rd_ hG
 have hlen:cs.length=aE.k α:=aE.len hrep
 obtain⟨v',w',F',hr,ho',hg,hF'⟩:=kS (P:=P) w t ty i z bytes ht hi hz hsize hby hzs ho ad 1 c cs hcs (fun u hu=>aE.one hrep u hu) [y] rfl (by omega) (fun _=>G)
  ⟨by simp[hlen],fun j x hx=>by
   have hj:j<1:=by simpa using (aZ.1 hx).1
   obtain rfl:j=0:=by omega
   simp at hx
   subst hx
   rw[Nat.zero_mul,oy,bA (by omega)]
   exact hG⟩
  (fun _ b _ hb hFb=>hd b hFb hb) (fun j l _ hj hl _ _=>by omega) hbnd hbytes
 refine⟨v',w',hr,⟨F',ho',fun b hb=>?_⟩,fun a ha=>cL.grown_below ha ho hB hg hBr⟩
 rcases hF' b hb with h | ⟨_,_,h⟩ | rfl
 ·exact hB b h
 ·exact hGB b h
 exact hBr
theorem tm {o:Oper} {a:Act} {K:Act->World->Prop} {Q:Exit->Act->World->Prop} (so xo:Operand) (t:TypeId)
  (hop:o.op= .call {callee:= .builtin .append,args:= #[so,xo],argTypes:= #[t,t]})
  (i:TypeInfo) (z:Value) (bytes:Nat) (ht:P.underlying t=some (.slice (Ow.ty α))) (hi:P.info? (Ow.ty α)=some i) (hz:i.zero=some z)
  (hsize:i.size=aE.k α) (hby:i.bytes=bytes) (hzs:z.cells.size=aE.k α)
  {B:Nat} {v:Value} {xs:List α} (hv:a.eval so=v) (ad:Addr) (c:Nat) (hx:a.eval xo= .slice (some ad) 1 c) (cs:List Value) (y:α) (h:rM w B v xs cs y) (hcs:∀j u,cs[j]? =some u->w.cell? (ad.add j)=some u)
  (hBr:B<=w.heap.size) (hbnd:xs.length+1<=140737488355328) (hbytes:(xs.length+1)*bytes<=140737488355328)
  (hk:∀v' w',ef w' B v' (xs++ [y])->(∀a,Below B a w->Below B a w')->K (a.put o.dst v') w'):o.wp P a w K Q:=by
 obtain⟨v',w',hrun,h1,h2⟩:=yM (P:=P) w t o.type i z bytes ht hi hz hsize hby hzs ad c cs y h hcs hBr hbnd hbytes
 unfold Oper.wp execOp
 simp only[hop,resolve,invoke,builtin,Sem.run_bind,Sem.run_pure,Result.andThen_ok,nI,et,iX,hv,hx,hrun]
 exact hk v' w' h1 h2
theorem pg {ops:Array Oper} {rest:List Oper} {o:Oper} {a:Act} {Q:Exit->Act->World->Prop} (hgd:o.guard=none) (so xo:Operand) (t:TypeId)
  (hop:o.op= .call {callee:= .builtin .append,args:= #[so,xo],argTypes:= #[t,t]})
  (i:TypeInfo) (z:Value) (bytes:Nat) (ht:P.underlying t=some (.slice (Ow.ty α))) (hi:P.info? (Ow.ty α)=some i) (hz:i.zero=some z)
  (hsize:i.size=aE.k α) (hby:i.bytes=bytes) (hzs:z.cells.size=aE.k α)
  {B:Nat} {v:Value} {xs:List α} (hv:a.eval so=v) (ad:Addr) (c:Nat) (hx:a.eval xo= .slice (some ad) 1 c) (cs:List Value) (y:α) (h:rM w B v xs cs y) (hcs:∀j u,cs[j]? =some u->w.cell? (ad.add j)=some u)
  (hBr:B<=w.heap.size) (hbnd:xs.length+1<=140737488355328) (hbytes:(xs.length+1)*bytes<=140737488355328)
  (hk:∀v' w',ef w' B v' (xs++ [y])->(∀a,Below B a w->Below B a w')->wpList P ops Q rest (a.put o.dst v') w'):wpList P ops Q (o::rest) a w:=
 wpList_plain hgd fun _ hK=>tm w so xo t hop i z bytes ht hi hz hsize hby hzs hv ad c hx cs y h hcs hBr hbnd hbytes fun v' w' h1 h2=>hK _ _ (hk v' w' h1 h2)
theorem wW {ops:Array Oper} {o:Oper} {a:Act} {K:Act->World->Prop} {Q:Exit->Act->World->Prop} {E:Prop} (hgd:o.guard=none) (so xo:Operand) (t:TypeId)
  (hop:o.op= .call {callee:= .builtin .append,args:= #[so,xo],argTypes:= #[t,t]})
  (i:TypeInfo) (z:Value) (bytes:Nat) (ht:P.underlying t=some (.slice (Ow.ty α))) (hi:P.info? (Ow.ty α)=some i) (hz:i.zero=some z)
  (hsize:i.size=aE.k α) (hby:i.bytes=bytes) (hzs:z.cells.size=aE.k α)
  {B:Nat} {v:Value} {xs:List α} (hv:a.eval so=v) (ad:Addr) (c:Nat) (hx:a.eval xo= .slice (some ad) 1 c) (cs:List Value) (y:α) (h:rM w B v xs cs y) (hcs:∀j u,cs[j]? =some u->w.cell? (ad.add j)=some u)
  (hBr:B<=w.heap.size) (hbnd:xs.length+1<=140737488355328) (hbytes:(xs.length+1)*bytes<=140737488355328)
  (hk:∀v' w',ef w' B v' (xs++ [y])->(∀a,Below B a w->Below B a w')->K (a.put o.dst v') w') :
  if Region.wanted o (yielded ops a.tmps)=true then Oper.wp P o a w K Q else E:=by
 have hw:Region.wanted o (yielded ops a.tmps)=true:=by simp[Region.wanted,hgd]
 rw[if_pos hw]
 exact tm w so xo t hop i z bytes ht hi hz hsize hby hzs hv ad c hx cs y h hcs hBr hbnd hbytes hk
end
section
variable {α:Type} [aE α] {w:World}
theorem Sl.form_n {v:Value} {xs:List α} {n:Nat} (h:Sl w v xs) (hn:xs.length=n):∃A c,v= .slice A n c/\n<=c/\c<=9223372036854775807/\n<=140737488355328:=by subst hn;exact h.form
theorem Sl.sl_at {A:Option Addr} {n c k:Nat} {xs:List (List α)} (h:Sl w (.slice A n c) xs) (hk:k<n) :
  ∃b off v,A=some ⟨b,off,none⟩/\b<w.heap.size/\w.cell? ⟨b,off+k,none⟩=some v/\Sl w v (xs.getD k []):=by
 have hl:=bJ.len_eq h
 have hx:xs[k]? =some (xs.getD k []):=by
  rw[an,ap (by omega)];rfl
 obtain⟨b,off,cs,hA,hb,⟨v,hcs,hv⟩,hj⟩:=bJ.at_ h hk _ hx
 refine⟨b,off,v,hA,hb,?_,hv⟩
 have:=hj 0 v (by rw[hcs];rfl)
 simpa [aE.k] using this
end
theorem CH {w w':World} {B:Nat} {cs:List Value} {x:Int} (h:aE.rep w B cs x):Ow.own w' (fun _=>False) cs x:=⟨h,fun _ h=>h⟩
theorem wx (w:World) (n:Nat) (h:n<=140737488355328):ef (w.alloc (.cells (madeCells #[.int .i64 0] n) 3)) w.heap.size (.slice (some ⟨w.heap.size,0,none⟩) n n) (List.replicate n (0:Int)):=by
 have hsz:(madeCells #[Value.int .i64 0] n).size=n:=by simp[madeCells]
 refine⟨fun b=>b=w.heap.size,.inr ⟨w.heap.size,0,n,_,fun _ _=>False,⟨by rw[List.length_replicate],heap_alloc_new w _,by simp,by unfold maxLen;omega,by simp[aE.k,hsz],by simpa using h,fun i x hx=>?_,fun b=>by simp,fun _ _ h=>h,fun _ _ _ _ _ h=>h.elim⟩⟩,fun b hb=>by subst hb;exact aK _⟩
 have hi:i<n:=by have:=(aZ.1 hx).1;simpa using this
 rw[qu,if_pos hi] at hx
 cases hx
 refine⟨⟨?_,by simp[aH]⟩,fun _ h=>h⟩
 apply fq
 intro j
 by_cases hj:j<1
 ·obtain rfl:j=0:=by omega
  rw[gg _ _ _ _ (by simp[aE.k])]
  simp[madeCells,aE.k,hi,Nat.mod_one]
 rw[aW (by rw[aA];simp[aE.k];omega),aW (by simp;omega)]
theorem rx {α:Type} [Ow α] [js α] {w:World} {B:Nat} {u:Value} {y:List α} (h:ef w B u y):∃G,Ow.own w G [u] y/\∀b,G b->B<=b:=by
 obtain⟨F,h,hB⟩:=h
 exact⟨F,⟨u,rfl,h⟩,hB⟩
theorem xx {w:World} {b o:Nat} {u:Value} (h:w.cell? ⟨b,o,none⟩=some u):∀j x,[u][j]? =some x->w.cell? ((⟨b,o,none⟩:Addr).add j)=some x:=by
 intro j x hj
 match j with
 | 0=>simp at hj;subst hj;simpa [Addr.add] using h
 | j+1=>simp at hj
end
