/- Lemmas of one proof. -/
import Derived.Test.YthfkmcbblnbfaaaGreatDoorM0Q
import Derived.RegionTactic
import Derived.Deep.OwnRows
import Derived.Test.YthfkmcbblnbfaaaGreatDoorM4Q

namespace Go.Proofs.YthfkmcbblnbfaaaGreatDoor
set_option maxRecDepth 100000
set_option maxHeartbeats 16000000
open Go.RowKit
section
def eo {α:Type} [Ow α] (w:World) (B:Nat) (v:Value) (xs:List α):Prop:= ∃F,bX w F v xs/\∀b,F b->B<=b
section
variable {α:Type} [Ow α] {w w':World} {B:Nat} {F:Nat->Prop} {v:Value} {xs:List α}
theorem bX.ownF (h:bX w F v xs) {g:Nat} (hg:v.ownBlock=some g):F g:=by
 rcases h with ⟨rfl,_,_⟩ | ⟨g',p,cap,cur,Fs,h⟩
 ·simp[Value.ownBlock] at hg
 obtain rfl:=h.hv
 simp[Value.ownBlock] at hg
 subst hg
 exact(h.hF _).2 (.inl rfl)
theorem eo.sl (h:eo w B v xs):Sl w v xs:=by obtain⟨F,h,_⟩:=h;exact h.sl
theorem eo.nil_ (w:World) (B:Nat):eo w B (.slice none 0 0) ([]:List α):=⟨_,bX.nil_ w,fun _ h=>h.elim⟩
theorem eo.via (hb:Below w.heap.size w w') (h:eo w B v xs):eo w' B v xs:=by obtain⟨F,h,hB⟩:=h;exact⟨F,h.via hb,hB⟩
theorem eo.alloc (h:eo w B v xs) (o:Obj):eo (w.alloc o) B v xs:=h.via ((Below.refl _ _).alloc (aA _) _)
theorem eo.drew (h:eo w B v xs):eo w.drew B v xs:=h.via (Below.refl _ _).drew
theorem eo.mono {B':Nat} (h:eo w B v xs) (hb:B'<=B):eo w B' v xs:=by obtain⟨F,h,hB⟩:=h;exact⟨F,h,fun b hF=>dc hb (hB b hF)⟩
theorem eo.form (h:eo w B v xs):∃A c,v= .slice A xs.length c/\xs.length<=c/\c<=9223372036854775807/\xs.length<=140737488355328:=h.sl.form
theorem eo.form_n {n:Nat} (h:eo w B v xs) (hn:xs.length=n):∃A c,v= .slice A n c/\n<=c/\c<=9223372036854775807/\n<=140737488355328:=by subst hn;exact h.sl.form
theorem bX.grown_below {a W w2:World} {v:Value} {xs:List α} (h:Below B a W) (ho:bX W F v xs) (hF:∀b,F b->B<=b) (hg:W.grownBy w2 v.ownBlock) (hB:B<=W.heap.size):Below B a w2:=
 h.grown hg hB (fun k hk=>hF k (ho.ownF hk))
theorem eo.of_zs {base:Nat} {zs:List Value} (h:w.ownsRow base (Ow.ty α) (ay.k α) v xs.length zs) (hzl:zs.length=xs.length*ay.k α) (hr:∀i x,xs[i]? =some x->Ow.own w (fun _=>False) ((zs.drop (i*ay.k α)).take (ay.k α)) x) (hl:xs.length<=140737488355328) :
  eo w base v xs:=by
 rcases h.2 with ⟨rfl,h0⟩ | ⟨g,cap,cur,rfl,hb,hg,hn,hm,hs,ht⟩
 ·obtain rfl:=aS h0
  exact eo.nil_ _ _
 refine⟨fun b=>b=g,.inr ⟨g,0,cap,cur,fun _ _=>False,⟨rfl,hg,hn,hm,by rw[ik,hs];exact aA _,hl,fun i x hx=>?_,fun b=>by simp,fun _ _ h=>h,fun _ _ _ _ _ h=>h.elim⟩⟩,fun b hb'=>by subst hb';exact hb⟩
 have hx':=hr i x hx
 have hi:=(aN.1 hx).1
 have h5:i*ay.k α+ay.k α<=zs.length:=by
  rw[hzl]
  calc i*ay.k α+ay.k α=(i+1)*ay.k α:=by rw[fP]
   _<=xs.length*ay.k α:=cP _ (by omega)
 have:(cur.toList.drop (0+i*ay.k α)).take (ay.k α)=(zs.drop (i*ay.k α)).take (ay.k α):=by
  rw[ik,<-ht]
  rw[<-ht,ax] at h5
  apply en
  intro j
  by_cases hj:j<ay.k α
  ·rw[de,if_pos hj,cH,de,if_pos hj,cH,de,if_pos (by omega)]
  rw[aT (by rw[ax];omega),aT (by rw[ax];omega)]
 rw[this]
 exact hx'
end
def sa {α:Type} [Ow α] (w:World) (B:Nat) (v:Value) (xs:List α) (cs:List Value) (y:α):Prop:=
 ∃F G,bX w F v xs/\Ow.own w G cs y/\(∀b,F b->B<=b)/\(∀b,G b->B<=b)/\∀b,F b->¬G b
theorem sa.newer {α:Type} [Ow α] {w wr:World} {B:Nat} {v:Value} {xs:List α} {cs:List Value} {y:α} (h:eo wr B v xs) (hbel:Below wr.heap.size wr w) (hB:B<=wr.heap.size) (hy:∃G,Ow.own w G cs y/\∀b,G b->wr.heap.size<=b):sa w B v xs cs y:=by
 obtain⟨F,ho,hF⟩:=h
 obtain⟨G,hG,hGB⟩:=hy
 exact⟨F,G,ho.via hbel,hG,hF,fun b hb=>dc hB (hGB b hb),fun b hb hg=>by have:=hGB b hg;have:=ho.lt hb;omega⟩
theorem sa.older {α:Type} [Ow α] {w wr:World} {B:Nat} {v:Value} {xs:List α} {cs:List Value} {y:α} (hy:∃G,Ow.own wr G cs y/\∀b,G b->B<=b) (hbel:Below wr.heap.size wr w) (hB:B<=wr.heap.size) (h:eo w wr.heap.size v xs):sa w B v xs cs y:=by
 obtain⟨F,ho,hF⟩:=h
 obtain⟨G,hG,hGB⟩:=hy
 exact⟨F,G,ho,Ow.frame hG fun b hb=>hbel.block b (Ow.lt hG hb),fun b hb=>dc hB (hF b hb),hGB,fun b hb hg=>by have:=Ow.lt hG hg;have:=hF b hb;omega⟩
section
variable {P:Program} (w:World) {α:Type} [Ow α]
theorem wV (t ty:TypeId) (i:TypeInfo) (z:Value) (bytes:Nat) (ht:P.underlying t=some (.slice (Ow.ty α))) (hi:P.info? (Ow.ty α)=some i) (hz:i.zero=some z)
  (hsize:i.size=ay.k α) (hby:i.bytes=bytes) (hzs:z.cells.size=ay.k α)
  {B:Nat} {v:Value} {xs:List α} (ad:Addr) (c:Nat) (cs:List Value) (y:α) (h:sa w B v xs cs y) (hcs:∀j u,cs[j]? =some u->w.cell? (ad.add j)=some u)
  (hBr:B<=w.heap.size) (hbnd:xs.length+1<=140737488355328) (hbytes:(xs.length+1)*bytes<=140737488355328) :
  ∃v' w',(Builtin.append_ #[t,t] ty #[v,.slice (some ad) 1 c]).run P w= .ok v' w'/\eo w' B v' (xs++ [y])/\(∀a,Below B a w->Below B a w'):=by
 obtain⟨F,G,ho,hG,hB,hGB,hd⟩:=h
 have hrep:=Ow.rd_ hG
 have hlen:cs.length=ay.k α:=ay.len hrep
 obtain⟨v',w',F',hr,ho',hg,hF'⟩:=jM (P:=P) w t ty i z bytes ht hi hz hsize hby hzs ho ad 1 c cs hcs (fun u hu=>ay.one hrep u hu) [y] rfl (by omega) (fun _=>G)
  ⟨by simp[hlen],fun j x hx=>by
   have hj:j<1:=by simpa using (aN.1 hx).1
   obtain rfl:j=0:=by omega
   simp at hx
   subst hx
   rw[Nat.zero_mul,pH,bg (by omega)]
   exact hG⟩
  (fun _ b _ hb hFb=>hd b hFb hb) (fun j l _ hj hl _ _=>by omega) hbnd hbytes
 refine⟨v',w',hr,⟨F',ho',fun b hb=>?_⟩,fun a ha=>bX.grown_below ha ho hB hg hBr⟩
 rcases hF' b hb with h | ⟨_,_,h⟩ | rfl
 ·exact hB b h
 ·exact hGB b h
 exact hBr
theorem rQ {o:Oper} {a:Act} {K:Act->World->Prop} {Q:Exit->Act->World->Prop} (so xo:Operand) (t:TypeId)
  (hop:o.op= .call {callee:= .builtin .append,args:= #[so,xo],argTypes:= #[t,t]})
  (i:TypeInfo) (z:Value) (bytes:Nat) (ht:P.underlying t=some (.slice (Ow.ty α))) (hi:P.info? (Ow.ty α)=some i) (hz:i.zero=some z)
  (hsize:i.size=ay.k α) (hby:i.bytes=bytes) (hzs:z.cells.size=ay.k α)
  {B:Nat} {v:Value} {xs:List α} (hv:a.eval so=v) (ad:Addr) (c:Nat) (hx:a.eval xo= .slice (some ad) 1 c) (cs:List Value) (y:α) (h:sa w B v xs cs y) (hcs:∀j u,cs[j]? =some u->w.cell? (ad.add j)=some u)
  (hBr:B<=w.heap.size) (hbnd:xs.length+1<=140737488355328) (hbytes:(xs.length+1)*bytes<=140737488355328)
  (hk:∀v' w',eo w' B v' (xs++ [y])->(∀a,Below B a w->Below B a w')->K (a.put o.dst v') w'):o.wp P a w K Q:=by
 obtain⟨v',w',hrun,h1,h2⟩:=wV (P:=P) w t o.type i z bytes ht hi hz hsize hby hzs ad c cs y h hcs hBr hbnd hbytes
 unfold Oper.wp execOp
 simp only[hop,resolve,invoke,builtin,Sem.run_bind,Sem.run_pure,Result.andThen_ok,mD,ee,il,hv,hx,hrun]
 exact hk v' w' h1 h2
theorem tU {ops:Array Oper} {rest:List Oper} {o:Oper} {a:Act} {Q:Exit->Act->World->Prop} (hgd:o.guard=none) (so xo:Operand) (t:TypeId)
  (hop:o.op= .call {callee:= .builtin .append,args:= #[so,xo],argTypes:= #[t,t]})
  (i:TypeInfo) (z:Value) (bytes:Nat) (ht:P.underlying t=some (.slice (Ow.ty α))) (hi:P.info? (Ow.ty α)=some i) (hz:i.zero=some z)
  (hsize:i.size=ay.k α) (hby:i.bytes=bytes) (hzs:z.cells.size=ay.k α)
  {B:Nat} {v:Value} {xs:List α} (hv:a.eval so=v) (ad:Addr) (c:Nat) (hx:a.eval xo= .slice (some ad) 1 c) (cs:List Value) (y:α) (h:sa w B v xs cs y) (hcs:∀j u,cs[j]? =some u->w.cell? (ad.add j)=some u)
  (hBr:B<=w.heap.size) (hbnd:xs.length+1<=140737488355328) (hbytes:(xs.length+1)*bytes<=140737488355328)
  (hk:∀v' w',eo w' B v' (xs++ [y])->(∀a,Below B a w->Below B a w')->wpList P ops Q rest (a.put o.dst v') w'):wpList P ops Q (o::rest) a w:=
 wpList_plain hgd fun _ hK=>rQ w so xo t hop i z bytes ht hi hz hsize hby hzs hv ad c hx cs y h hcs hBr hbnd hbytes fun v' w' h1 h2=>hK _ _ (hk v' w' h1 h2)
theorem vB {ops:Array Oper} {o:Oper} {a:Act} {K:Act->World->Prop} {Q:Exit->Act->World->Prop} {E:Prop} (hgd:o.guard=none) (so xo:Operand) (t:TypeId)
  (hop:o.op= .call {callee:= .builtin .append,args:= #[so,xo],argTypes:= #[t,t]})
  (i:TypeInfo) (z:Value) (bytes:Nat) (ht:P.underlying t=some (.slice (Ow.ty α))) (hi:P.info? (Ow.ty α)=some i) (hz:i.zero=some z)
  (hsize:i.size=ay.k α) (hby:i.bytes=bytes) (hzs:z.cells.size=ay.k α)
  {B:Nat} {v:Value} {xs:List α} (hv:a.eval so=v) (ad:Addr) (c:Nat) (hx:a.eval xo= .slice (some ad) 1 c) (cs:List Value) (y:α) (h:sa w B v xs cs y) (hcs:∀j u,cs[j]? =some u->w.cell? (ad.add j)=some u)
  (hBr:B<=w.heap.size) (hbnd:xs.length+1<=140737488355328) (hbytes:(xs.length+1)*bytes<=140737488355328)
  (hk:∀v' w',eo w' B v' (xs++ [y])->(∀a,Below B a w->Below B a w')->K (a.put o.dst v') w') :
  if Region.wanted o (yielded ops a.tmps)=true then Oper.wp P o a w K Q else E:=by
 have hw:Region.wanted o (yielded ops a.tmps)=true:=by simp[Region.wanted,hgd]
 rw[if_pos hw]
 exact rQ w so xo t hop i z bytes ht hi hz hsize hby hzs hv ad c hx cs y h hcs hBr hbnd hbytes hk
end
section
variable {α:Type} [ay α] {w:World}
theorem Sl.form_n {v:Value} {xs:List α} {n:Nat} (h:Sl w v xs) (hn:xs.length=n):∃A c,v= .slice A n c/\n<=c/\c<=9223372036854775807/\n<=140737488355328:=by subst hn;exact h.form
theorem Sl.sl_at {A:Option Addr} {n c k:Nat} {xs:List (List α)} (h:Sl w (.slice A n c) xs) (hk:k<n) :
  ∃b off v,A=some ⟨b,off,none⟩/\b<w.heap.size/\w.cell? ⟨b,off+k,none⟩=some v/\Sl w v (xs.getD k []):=by
 have hl:=bE.len_eq h
 have hx:xs[k]? =some (xs.getD k []):=by
  rw[ak,ap (by omega)];rfl
 obtain⟨b,off,cs,hA,hb,⟨v,hcs,hv⟩,hj⟩:=bE.at_ h hk _ hx
 refine⟨b,off,v,hA,hb,?_,hv⟩
 have:=hj 0 v (by rw[hcs];rfl)
 simpa [ay.k] using this
end
theorem J1 {w w':World} {B:Nat} {cs:List Value} {x:Int} (h:ay.rep w B cs x):Ow.own w' (fun _=>False) cs x:=⟨h,fun _ h=>h⟩
theorem uT (w:World) (n:Nat) (h:n<=140737488355328):eo (w.alloc (.cells (madeCells #[.int .i64 0] n) 3)) w.heap.size (.slice (some ⟨w.heap.size,0,none⟩) n n) (List.replicate n (0:Int)):=by
 have hsz:(madeCells #[Value.int .i64 0] n).size=n:=by simp[madeCells]
 refine⟨fun b=>b=w.heap.size,.inr ⟨w.heap.size,0,n,_,fun _ _=>False,⟨by rw[List.length_replicate],heap_alloc_new w _,by simp,by unfold maxLen;omega,by simp[ay.k,hsz],by simpa using h,fun i x hx=>?_,fun b=>by simp,fun _ _ h=>h,fun _ _ _ _ _ h=>h.elim⟩⟩,fun b hb=>by subst hb;exact aA _⟩
 have hi:i<n:=by have:=(aN.1 hx).1;simpa using this
 rw[pj,if_pos hi] at hx
 cases hx
 refine⟨⟨?_,by simp[aF]⟩,fun _ h=>h⟩
 apply en
 intro j
 by_cases hj:j<1
 ·obtain rfl:j=0:=by omega
  rw[ft _ _ _ _ (by simp[ay.k])]
  simp[madeCells,ay.k,hi,Nat.mod_one]
 rw[aT (by rw[ax];simp[ay.k];omega),aT (by simp;omega)]
theorem tC {α:Type} [Ow α] [iC α] {w:World} {B:Nat} {u:Value} {y:List α} (h:eo w B u y):∃G,Ow.own w G [u] y/\∀b,G b->B<=b:=by
 obtain⟨F,h,hB⟩:=h
 exact⟨F,⟨u,rfl,h⟩,hB⟩
theorem AX {w:World} {b o:Nat} {u:Value} (h:w.cell? ⟨b,o,none⟩=some u):∀j x,[u][j]? =some x->w.cell? ((⟨b,o,none⟩:Addr).add j)=some x:=by
 intro j x hj
 match j with
 | 0=>simp at hj;subst hj;simpa [Addr.add] using h
 | j+1=>simp at hj
end
