/- Texts of one proof, one behind the other: lemmas alone. -/
import Derived.RegionTactic
import Derived.Deep.OwnRows
import Derived.Test.YtpacloheigifkaaGreatM3D

namespace Go.Proofs.YtpacloheigifkaaGreat
open Go.RowKit
section
def dT {α:Type} [Ow α] (w:World) (B:Nat) (v:Value) (xs:List α):Prop:= ∃F,cS w F v xs∧∀b,F b→B≤b
section
variable {α:Type} [Ow α] {w w':World} {B:Nat} {F:Nat→Prop} {v:Value} {xs:List α}
theorem cS.ownF (h:cS w F v xs) {g:Nat} (hg:v.ownBlock=some g):F g:=by
 rcases h with ⟨rfl,_,_⟩ | ⟨g',p,cap,cur,Fs,h⟩
 ·simp[Value.ownBlock] at hg
 obtain rfl:=h.hv
 simp[Value.ownBlock] at hg
 subst hg
 exact(h.hF _).2 (.inl rfl)
theorem dT.sl (h:dT w B v xs):Sl w v xs:=by obtain⟨F,h,_⟩:=h;exact h.sl
theorem dT.nil_ (w:World) (B:Nat):dT w B (.slice none 0 0) ([]:List α):=⟨_,cS.nil_ w,fun _ h=>h.elim⟩
theorem dT.via (hb:Below w.heap.size w w') (h:dT w B v xs):dT w' B v xs:=by obtain⟨F,h,hB⟩:=h;exact⟨F,h.via hb,hB⟩
theorem dT.alloc (h:dT w B v xs) (o:Obj):dT (w.alloc o) B v xs:=h.via ((Below.refl _ _).alloc (Nat.le_refl _) _)
theorem dT.drew (h:dT w B v xs):dT w.drew B v xs:=h.via (Below.refl _ _).drew
theorem dT.mono {B':Nat} (h:dT w B v xs) (hb:B'≤B):dT w B' v xs:=by obtain⟨F,h,hB⟩:=h;exact⟨F,h,fun b hF=>Nat.le_trans hb (hB b hF)⟩
theorem dT.form (h:dT w B v xs):∃A c,v= .slice A xs.length c∧xs.length≤c∧c≤9223372036854775807∧xs.length≤140737488355328:=h.sl.form
theorem dT.form_n {n:Nat} (h:dT w B v xs) (hn:xs.length=n):∃A c,v= .slice A n c∧n≤c∧c≤9223372036854775807∧n≤140737488355328:=by subst hn;exact h.sl.form
theorem cS.grown_below {a W w2:World} {v:Value} {xs:List α} (h:Below B a W) (ho:cS W F v xs) (hF:∀b,F b→B≤b) (hg:W.grownBy w2 v.ownBlock) (hB:B≤W.heap.size):Below B a w2:=
 h.grown hg hB (fun k hk=>hF k (ho.ownF hk))
theorem dT.of_zs {base:Nat} {zs:List Value} (h:w.ownsRow base (Ow.ty α) (aR.k α) v xs.length zs) (hzl:zs.length=xs.length*aR.k α) (hr:∀i x,xs[i]? =some x→Ow.own w (fun _=>False) ((zs.drop (i*aR.k α)).take (aR.k α)) x) (hl:xs.length≤140737488355328) :
  dT w base v xs:=by
 rcases h.2 with ⟨rfl,h0⟩ | ⟨g,cap,cur,rfl,hb,hg,hn,hm,hs,ht⟩
 ·obtain rfl:=List.eq_nil_of_length_eq_zero h0
  exact dT.nil_ _ _
 refine⟨fun b=>b=g,.inr ⟨g,0,cap,cur,fun _ _=>False,⟨rfl,hg,hn,hm,by rw[Nat.zero_add,hs];exact Nat.le_refl _,hl,fun i x hx=>?_,fun b=>by simp,fun _ _ h=>h,fun _ _ _ _ _ h=>h.elim⟩⟩,fun b hb'=>by subst hb';exact hb⟩
 have hx':=hr i x hx
 have hi:=(List.getElem?_eq_some_iff.1 hx).1
 have h5:i*aR.k α+aR.k α≤zs.length:=by
  rw[hzl]
  calc i*aR.k α+aR.k α=(i+1)*aR.k α:=by rw[Nat.succ_mul]
   _≤xs.length*aR.k α:=Nat.mul_le_mul_right _ (by omega)
 have:(cur.toList.drop (0+i*aR.k α)).take (aR.k α)=(zs.drop (i*aR.k α)).take (aR.k α):=by
  rw[Nat.zero_add,←ht]
  rw[←ht,List.length_take] at h5
  apply List.ext_getElem?
  intro j
  by_cases hj:j<aR.k α
  ·rw[List.getElem?_take,if_pos hj,List.getElem?_drop,List.getElem?_take,if_pos hj,List.getElem?_drop,List.getElem?_take,if_pos (by omega)]
  rw[List.getElem?_eq_none (by rw[List.length_take];omega),List.getElem?_eq_none (by rw[List.length_take];omega)]
 rw[this]
 exact hx'
end
def nh {α:Type} [Ow α] (w:World) (B:Nat) (v:Value) (xs:List α) (cs:List Value) (y:α):Prop:=
 ∃F G,cS w F v xs∧Ow.own w G cs y∧(∀b,F b→B≤b)∧(∀b,G b→B≤b)∧∀b,F b→¬G b
theorem nh.newer {α:Type} [Ow α] {w wr:World} {B:Nat} {v:Value} {xs:List α} {cs:List Value} {y:α} (h:dT wr B v xs) (hbel:Below wr.heap.size wr w) (hB:B≤wr.heap.size) (hy:∃G,Ow.own w G cs y∧∀b,G b→wr.heap.size≤b):nh w B v xs cs y:=by
 obtain⟨F,ho,hF⟩:=h
 obtain⟨G,hG,hGB⟩:=hy
 exact⟨F,G,ho.via hbel,hG,hF,fun b hb=>Nat.le_trans hB (hGB b hb),fun b hb hg=>by have:=hGB b hg;have:=ho.lt hb;omega⟩
theorem nh.older {α:Type} [Ow α] {w wr:World} {B:Nat} {v:Value} {xs:List α} {cs:List Value} {y:α} (hy:∃G,Ow.own wr G cs y∧∀b,G b→B≤b) (hbel:Below wr.heap.size wr w) (hB:B≤wr.heap.size) (h:dT w wr.heap.size v xs):nh w B v xs cs y:=by
 obtain⟨F,ho,hF⟩:=h
 obtain⟨G,hG,hGB⟩:=hy
 exact⟨F,G,ho,Ow.frame hG fun b hb=>hbel.block b (Ow.lt hG hb),fun b hb=>Nat.le_trans hB (hF b hb),hGB,fun b hb hg=>by have:=Ow.lt hG hg;have:=hF b hb;omega⟩
section
variable {P:Program} (w:World) {α:Type} [Ow α]
theorem rj (t ty:TypeId) (i:TypeInfo) (z:Value) (bytes:Nat) (ht:P.underlying t=some (.slice (Ow.ty α))) (hi:P.info? (Ow.ty α)=some i) (hz:i.zero=some z)
  (hsize:i.size=aR.k α) (hby:i.bytes=bytes) (hzs:z.cells.size=aR.k α)
  {B:Nat} {v:Value} {xs:List α} (ad:Addr) (c:Nat) (cs:List Value) (y:α) (h:nh w B v xs cs y) (hcs:∀j u,cs[j]? =some u→w.cell? (ad.add j)=some u)
  (hBr:B≤w.heap.size) (hbnd:xs.length+1≤140737488355328) (hbytes:(xs.length+1)*bytes≤140737488355328) :
  ∃v' w',(Builtin.append_ #[t,t] ty #[v,.slice (some ad) 1 c]).run P w= .ok v' w'∧dT w' B v' (xs++ [y])∧(∀a,Below B a w→Below B a w'):=by
 obtain⟨F,G,ho,hG,hB,hGB,hd⟩:=h
 have hrep:=Ow.rd_ hG
 have hlen:cs.length=aR.k α:=aR.len hrep
 obtain⟨v',w',F',hr,ho',hg,hF'⟩:=iE (P:=P) w t ty i z bytes ht hi hz hsize hby hzs ho ad 1 c cs hcs (fun u hu=>aR.one hrep u hu) [y] rfl (by omega) (fun _=>G)
  ⟨by simp[hlen],fun j x hx=>by
   have hj:j<1:=by simpa using (List.getElem?_eq_some_iff.1 hx).1
   obtain rfl:j=0:=by omega
   simp at hx
   subst hx
   rw[Nat.zero_mul,List.drop_zero,List.take_of_length_le (by omega)]
   exact hG⟩
  (fun _ b _ hb hFb=>hd b hFb hb) (fun j l _ hj hl _ _=>by omega) hbnd hbytes
 refine⟨v',w',hr,⟨F',ho',fun b hb=>?_⟩,fun a ha=>cS.grown_below ha ho hB hg hBr⟩
 rcases hF' b hb with h | ⟨_,_,h⟩ | rfl
 ·exact hB b h
 ·exact hGB b h
 exact hBr
theorem nP {o:Oper} {a:Act} {K:Act→World→Prop} {Q:Exit→Act→World→Prop} (so xo:Operand) (t:TypeId)
  (hop:o.op= .call {callee:= .builtin .append,args:= #[so,xo],argTypes:= #[t,t]})
  (i:TypeInfo) (z:Value) (bytes:Nat) (ht:P.underlying t=some (.slice (Ow.ty α))) (hi:P.info? (Ow.ty α)=some i) (hz:i.zero=some z)
  (hsize:i.size=aR.k α) (hby:i.bytes=bytes) (hzs:z.cells.size=aR.k α)
  {B:Nat} {v:Value} {xs:List α} (hv:a.eval so=v) (ad:Addr) (c:Nat) (hx:a.eval xo= .slice (some ad) 1 c) (cs:List Value) (y:α) (h:nh w B v xs cs y) (hcs:∀j u,cs[j]? =some u→w.cell? (ad.add j)=some u)
  (hBr:B≤w.heap.size) (hbnd:xs.length+1≤140737488355328) (hbytes:(xs.length+1)*bytes≤140737488355328)
  (hk:∀v' w',dT w' B v' (xs++ [y])→(∀a,Below B a w→Below B a w')→K (a.put o.dst v') w'):o.wp P a w K Q:=by
 obtain⟨v',w',hrun,h1,h2⟩:=rj (P:=P) w t o.type i z bytes ht hi hz hsize hby hzs ad c cs y h hcs hBr hbnd hbytes
 unfold Oper.wp execOp
 simp only[hop,resolve,invoke,builtin,Sem.run_bind,Sem.run_pure,Result.andThen_ok,List.map_toArray,List.map_cons,List.map_nil,hv,hx,hrun]
 exact hk v' w' h1 h2
theorem lh {ops:Array Oper} {rest:List Oper} {o:Oper} {a:Act} {Q:Exit→Act→World→Prop} (hgd:o.guard=none) (so xo:Operand) (t:TypeId)
  (hop:o.op= .call {callee:= .builtin .append,args:= #[so,xo],argTypes:= #[t,t]})
  (i:TypeInfo) (z:Value) (bytes:Nat) (ht:P.underlying t=some (.slice (Ow.ty α))) (hi:P.info? (Ow.ty α)=some i) (hz:i.zero=some z)
  (hsize:i.size=aR.k α) (hby:i.bytes=bytes) (hzs:z.cells.size=aR.k α)
  {B:Nat} {v:Value} {xs:List α} (hv:a.eval so=v) (ad:Addr) (c:Nat) (hx:a.eval xo= .slice (some ad) 1 c) (cs:List Value) (y:α) (h:nh w B v xs cs y) (hcs:∀j u,cs[j]? =some u→w.cell? (ad.add j)=some u)
  (hBr:B≤w.heap.size) (hbnd:xs.length+1≤140737488355328) (hbytes:(xs.length+1)*bytes≤140737488355328)
  (hk:∀v' w',dT w' B v' (xs++ [y])→(∀a,Below B a w→Below B a w')→wpList P ops Q rest (a.put o.dst v') w'):wpList P ops Q (o::rest) a w:=
 wpList_plain hgd fun _ hK=>nP w so xo t hop i z bytes ht hi hz hsize hby hzs hv ad c hx cs y h hcs hBr hbnd hbytes fun v' w' h1 h2=>hK _ _ (hk v' w' h1 h2)
theorem qh {ops:Array Oper} {o:Oper} {a:Act} {K:Act→World→Prop} {Q:Exit→Act→World→Prop} {E:Prop} (hgd:o.guard=none) (so xo:Operand) (t:TypeId)
  (hop:o.op= .call {callee:= .builtin .append,args:= #[so,xo],argTypes:= #[t,t]})
  (i:TypeInfo) (z:Value) (bytes:Nat) (ht:P.underlying t=some (.slice (Ow.ty α))) (hi:P.info? (Ow.ty α)=some i) (hz:i.zero=some z)
  (hsize:i.size=aR.k α) (hby:i.bytes=bytes) (hzs:z.cells.size=aR.k α)
  {B:Nat} {v:Value} {xs:List α} (hv:a.eval so=v) (ad:Addr) (c:Nat) (hx:a.eval xo= .slice (some ad) 1 c) (cs:List Value) (y:α) (h:nh w B v xs cs y) (hcs:∀j u,cs[j]? =some u→w.cell? (ad.add j)=some u)
  (hBr:B≤w.heap.size) (hbnd:xs.length+1≤140737488355328) (hbytes:(xs.length+1)*bytes≤140737488355328)
  (hk:∀v' w',dT w' B v' (xs++ [y])→(∀a,Below B a w→Below B a w')→K (a.put o.dst v') w') :
  if Region.wanted o (yielded ops a.tmps)=true then Oper.wp P o a w K Q else E:=by
 have hw:Region.wanted o (yielded ops a.tmps)=true:=by simp[Region.wanted,hgd]
 rw[if_pos hw]
 exact nP w so xo t hop i z bytes ht hi hz hsize hby hzs hv ad c hx cs y h hcs hBr hbnd hbytes hk
end
section
variable {α:Type} [aR α] {w:World}
theorem Sl.form_n {v:Value} {xs:List α} {n:Nat} (h:Sl w v xs) (hn:xs.length=n):∃A c,v= .slice A n c∧n≤c∧c≤9223372036854775807∧n≤140737488355328:=by subst hn;exact h.form
theorem Sl.sl_at {A:Option Addr} {n c k:Nat} {xs:List (List α)} (h:Sl w (.slice A n c) xs) (hk:k<n) :
  ∃b off v,A=some ⟨b,off,none⟩∧b<w.heap.size∧w.cell? ⟨b,off+k,none⟩=some v∧Sl w v (xs.getD k []):=by
 have hl:=bX.len_eq h
 have hx:xs[k]? =some (xs.getD k []):=by
  rw[List.getD_eq_getElem?_getD,List.getElem?_eq_getElem (by omega)];rfl
 obtain⟨b,off,cs,hA,hb,⟨v,hcs,hv⟩,hj⟩:=bX.at_ h hk _ hx
 refine⟨b,off,v,hA,hb,?_,hv⟩
 have:=hj 0 v (by rw[hcs];rfl)
 simpa [aR.k] using this
end
theorem tT {w w':World} {B:Nat} {cs:List Value} {x:Int} (h:aR.rep w B cs x):Ow.own w' (fun _=>False) cs x:=⟨h,fun _ h=>h⟩
theorem pW (w:World) (n:Nat) (h:n≤140737488355328):dT (w.alloc (.cells (madeCells #[.int .i64 0] n) 3)) w.heap.size (.slice (some ⟨w.heap.size,0,none⟩) n n) (List.replicate n (0:Int)):=by
 have hsz:(madeCells #[Value.int .i64 0] n).size=n:=by simp[madeCells]
 refine⟨fun b=>b=w.heap.size,.inr ⟨w.heap.size,0,n,_,fun _ _=>False,⟨by rw[List.length_replicate],heap_alloc_new w _,by simp,by unfold maxLen;omega,by simp[aR.k,hsz],by simpa using h,fun i x hx=>?_,fun b=>by simp,fun _ _ h=>h,fun _ _ _ _ _ h=>h.elim⟩⟩,fun b hb=>by subst hb;exact Nat.le_refl _⟩
 have hi:i<n:=by have:=(List.getElem?_eq_some_iff.1 hx).1;simpa using this
 rw[List.getElem?_replicate,if_pos hi] at hx
 cases hx
 refine⟨⟨?_,by simp[aX]⟩,fun _ h=>h⟩
 apply List.ext_getElem?
 intro j
 by_cases hj:j<1
 ·obtain rfl:j=0:=by omega
  rw[fd _ _ _ _ (by simp[aR.k])]
  simp[madeCells,aR.k,hi,Nat.mod_one]
 rw[List.getElem?_eq_none (by rw[List.length_take];simp[aR.k];omega),List.getElem?_eq_none (by simp;omega)]
theorem mW {α:Type} [Ow α] [gP α] {w:World} {B:Nat} {u:Value} {y:List α} (h:dT w B u y):∃G,Ow.own w G [u] y∧∀b,G b→B≤b:=by
 obtain⟨F,h,hB⟩:=h
 exact⟨F,⟨u,rfl,h⟩,hB⟩
theorem qv {w:World} {b o:Nat} {u:Value} (h:w.cell? ⟨b,o,none⟩=some u):∀j x,[u][j]? =some x→w.cell? ((⟨b,o,none⟩:Addr).add j)=some x:=by
 intro j x hj
 match j with
 | 0=>simp at hj;subst hj;simpa [Addr.add] using h
 | j+1=>simp at hj
end
end Go.Proofs.YtpacloheigifkaaGreat
