/- Lemmas of one proof. -/
import Derived.Test.YthfkmcbblnbfaaaGreatDoorM90W
import Derived.Test.YthfkmcbblnbfaaaGreatDoorM0W
import Derived.RegionTactic
import Derived.Deep.OwnRows
import Derived.Test.YthfkmcbblnbfaaaGreatDoorM4W

namespace Go.Proofs.YthfkmcbblnbfaaaGreatDoor
set_option maxRecDepth 100000
set_option maxHeartbeats 16000000
open Go.RowKit
section
def eU {α:Type} [Ow α] (w:World) (B:Nat) (v:Value) (xs:List α):Prop:= ∃F,da w F v xs/\∀b,F b->B<=b
section
variable {α:Type} [Ow α] {w w':World} {B:Nat} {F:Nat->Prop} {v:Value} {xs:List α}
theorem da.ownF (h:da w F v xs) {g:Nat} (a:v.ownBlock=some g):F g:=by
 rcases h with ⟨rfl,_,_⟩ | ⟨e,f,c,d,b,h⟩
 ·simp[Value.ownBlock] at a
 obtain rfl:=h.hv;simp[Value.ownBlock] at a;subst a;exact(h.hF _).2 (.inl rfl)
theorem eU.sl (h:eU w B v xs):Sl w v xs:=by obtain⟨F,h,_⟩:=h;exact h.sl
theorem eU.nil_ (w:World) (B:Nat):eU w B (.slice none 0 0) ([]:List α):=⟨_,da.nil_ w,fun _ h=>h.elim⟩
theorem eU.via (hb:Below w.heap.size w w') (h:eU w B v xs):eU w' B v xs:=by obtain⟨F,h,hB⟩:=h;exact⟨F,h.via hb,hB⟩
theorem eU.alloc (h:eU w B v xs) (o:Obj):eU (w.alloc o) B v xs:=h.via ((Below.refl _ _).alloc (aH _) _)
theorem eU.drew (h:eU w B v xs):eU w.drew B v xs:=h.via (Below.refl _ _).drew
theorem eU.mono {a:Nat} (h:eU w B v xs) (e:a<=B):eU w a v xs:=by obtain⟨F,h,c⟩:=h;exact⟨F,h,fun b d=>dW e (c b d)⟩
theorem eU.form (h:eU w B v xs):∃A c,v= .slice A xs.length c/\xs.length<=c/\c<=9223372036854775807/\xs.length<=140737488355328:=h.sl.form
theorem eU.form_n {n:Nat} (h:eU w B v xs) (a:xs.length=n):∃A c,v= .slice A n c/\n<=c/\c<=9223372036854775807/\n<=140737488355328:=by subst a;exact h.sl.form
theorem da.grown_below {a c d:World} {v:Value} {xs:List α} (h:Below B a c) (j:da c F v xs) (f:∀b,F b->B<=b) (g:c.grownBy d v.ownBlock) (e:B<=c.heap.size):Below B a d:=
 h.grown g e (fun k i=>f k (j.ownF i))
theorem eU.of_zs {base:Nat} {a:List Value} (h:w.ownsRow base (Ow.ty α) (aG.k α) v xs.length a) (y:a.length=xs.length*aG.k α) (s:∀i x,xs[i]? =some x->Ow.own w (fun _=>False) ((a.drop (i*aG.k α)).take (aG.k α)) x) (p:xs.length<=140737488355328) :
  eU w base v xs:=by
 rcases h.2 with ⟨rfl,k⟩ | ⟨d,j,c,rfl,m,o,r,q,t,f⟩
 ·obtain rfl:=bz k;exact eU.nil_ _ _
 refine⟨fun b=>b=d,.inr ⟨d,0,j,c,fun _ _=>False,⟨rfl,o,r,q,by rw[gY,t];exact aH _,p,fun i x g=>?_,fun b=>σ,fun _ _ h=>h,fun _ _ _ _ _ h=>h.elim⟩⟩,fun b n=>by subst n;exact m⟩;have u:=s i x g;have:=(bt.1 g).1;have l:i*aG.k α+aG.k α<=a.length:=by
  rw[y]
  calc i*aG.k α+aG.k α=(i+1)*aG.k α:=by rw[iF]
   _<=xs.length*aG.k α:=dP _ ω
 have:(c.toList.drop (0+i*aG.k α)).take (aG.k α)=(a.drop (i*aG.k α)).take (aG.k α):=by
  rw[gY,<-f];rw[<-f,aB] at l
  apply fI
  intro z
  by_cases e:z<aG.k α
  ·rw[ee,if_pos e,dV,ee,if_pos e,dV,ee,if_pos ω]
  rw[bh (by rw[aB];omega),bh (by rw[aB];omega)]
 rw[this];exact u
end
def un {α:Type} [Ow α] (w:World) (B:Nat) (v:Value) (xs:List α) (cs:List Value) (y:α):Prop:=
 ∃F G,da w F v xs/\Ow.own w G cs y/\(∀b,F b->B<=b)/\(∀b,G b->B<=b)/\∀b,F b->¬G b
theorem un.newer {α:Type} [Ow α] {w a:World} {B:Nat} {v:Value} {xs:List α} {cs:List Value} {y:α} (h:eU a B v xs) (k:Below a.heap.size a w) (g:B<=a.heap.size) (m:∃c,Ow.own w c cs y/\∀b,c b->a.heap.size<=b):un w B v xs cs y:=by
 obtain⟨F,f,i⟩:=h;obtain⟨c,j,e⟩:=m;exact⟨F,c,f.via k,j,i,fun b d=>dW g (e b d),fun b d l=>by have:=e b l;have:=f.lt d;omega⟩
theorem un.older {α:Type} [Ow α] {w c:World} {B:Nat} {v:Value} {xs:List α} {cs:List Value} {y:α} (m:∃d,Ow.own c d cs y/\∀b,d b->B<=b) (j:Below c.heap.size c w) (g:B<=c.heap.size) (h:eU w c.heap.size v xs):un w B v xs cs y:=by
 obtain⟨F,l,f⟩:=h;obtain⟨d,e,i⟩:=m;exact⟨F,d,l,Ow.frame e fun b a=>j.block b (Ow.lt e a),fun b a=>dW g (f b a),i,fun b a k=>by have:=Ow.lt e k;have:=f b a;omega⟩
section
variable {P:Program} (w:World) {α:Type} [Ow α]
theorem BE (t ty:TypeId) (i:TypeInfo) (z:Value) (bytes:Nat) (M:P.underlying t=some (.slice (Ow.ty α))) (hi:P.info? (Ow.ty α)=some i) (O:i.zero=some z)
  (L:i.size=aG.k α) (A:i.bytes=bytes) (Q:z.cells.size=aG.k α)
  {B:Nat} {v:Value} {xs:List α} (d:Addr) (c:Nat) (cs:List Value) (y:α) (h:un w B v xs cs y) (D:∀j u,cs[j]? =some u->w.cell? (d.add j)=some u)
  (k:B<=w.heap.size) (x:xs.length+1<=140737488355328) (C:(xs.length+1)*bytes<=140737488355328) :
  ∃v' w',(Builtin.append_ #[t,t] ty #[v,.slice (some d) 1 c]).run P w= .ok v' w'/\eU w' B v' (xs++ [y])/\(∀a,Below B a w->Below B a w'):=by
 obtain⟨F,p,m,l,g,s,E⟩:=h;have n:=Ow.rd_ l;have I:cs.length=aG.k α:=aG.len n;obtain⟨v',w',o,K,J,G,q⟩:=mz (P:=P) w t ty i z bytes M hi O L A Q m d 1 c cs D (fun u N=>aG.one n u N) [y] rfl (by omega) (fun _=>p)
  ⟨by simp[I],fun j T f=>by
   have H:j<1:=by simpa using (bt.1 f).1
   obtain rfl:j=0:=by omega
   simp at f;subst f;rw[Nat.zero_mul,qt,bD (by omega)];exact l⟩
  (fun _ b _ e r=>E b r e) (fun j S _ H R _ _=>by omega) x C
 refine⟨v',w',K,⟨o,J,fun b e=>?_⟩,fun a ha=>da.grown_below ha m g G k⟩;rcases q b e with h | ⟨_,_,h⟩ | rfl
 ·exact g b h
 ·exact s b h
 exact k
theorem vI {o:Oper} {a:Act} {d:Act->World->Prop} {Q:Exit->Act->World->Prop} (e f:Operand) (t:TypeId)
  (s:o.op= .call {callee:= .builtin .append,args:= #[e,f],argTypes:= #[t,t]})
  (i:TypeInfo) (z:Value) (bytes:Nat) (C:P.underlying t=some (.slice (Ow.ty α))) (hi:P.info? (Ow.ty α)=some i) (G:i.zero=some z)
  (A:i.size=aG.k α) (n:i.bytes=bytes) (H:z.cells.size=aG.k α)
  {B:Nat} {v:Value} {xs:List α} (D:a.eval e=v) (b:Addr) (c:Nat) (E:a.eval f= .slice (some b) 1 c) (cs:List Value) (y:α) (h:un w B v xs cs y) (q:∀j u,cs[j]? =some u->w.cell? (b.add j)=some u)
  (l:B<=w.heap.size) (m:xs.length+1<=140737488355328) (p:(xs.length+1)*bytes<=140737488355328)
  (r:∀v' w',eU w' B v' (xs++ [y])->(∀a,Below B a w->Below B a w')->d (a.put o.dst v') w'):o.wp P a w d Q:=by
 obtain⟨v',w',x,g,k⟩:=BE (P:=P) w t o.type i z bytes C hi G A n H b c cs y h q l m p;unfold Oper.wp execOp;simp only[s,resolve,invoke,builtin,Sem.run_bind,Sem.run_pure,Result.andThen_ok,pG,eM,iI,D,E,x];exact r v' w' g k
theorem rh {f:Array Oper} {g:List Oper} {o:Oper} {a:Act} {Q:Exit->Act->World->Prop} (x:o.guard=none) (d e:Operand) (t:TypeId)
  (C:o.op= .call {callee:= .builtin .append,args:= #[d,e],argTypes:= #[t,t]})
  (i:TypeInfo) (z:Value) (bytes:Nat) (E:P.underlying t=some (.slice (Ow.ty α))) (hi:P.info? (Ow.ty α)=some i) (I:i.zero=some z)
  (D:i.size=aG.k α) (q:i.bytes=bytes) (J:z.cells.size=aG.k α)
  {B:Nat} {v:Value} {xs:List α} (G:a.eval d=v) (b:Addr) (c:Nat) (H:a.eval e= .slice (some b) 1 c) (cs:List Value) (y:α) (h:un w B v xs cs y) (s:∀j u,cs[j]? =some u->w.cell? (b.add j)=some u)
  (m:B<=w.heap.size) (p:xs.length+1<=140737488355328) (r:(xs.length+1)*bytes<=140737488355328)
  (A:∀v' w',eU w' B v' (xs++ [y])->(∀a,Below B a w->Below B a w')->wpList P f Q g (a.put o.dst v') w'):wpList P f Q (o::g) a w:=
 wpList_plain x fun _ n=>vI w d e t C i z bytes E hi I D q J G b c H cs y h s m p r fun v' w' k l=>n _ _ (A v' w' k l)
theorem zE {g:Array Oper} {o:Oper} {a:Act} {f:Act->World->Prop} {Q:Exit->Act->World->Prop} {k:Prop} (r:o.guard=none) (d e:Operand) (t:TypeId)
  (x:o.op= .call {callee:= .builtin .append,args:= #[d,e],argTypes:= #[t,t]})
  (i:TypeInfo) (z:Value) (bytes:Nat) (C:P.underlying t=some (.slice (Ow.ty α))) (hi:P.info? (Ow.ty α)=some i) (H:i.zero=some z)
  (A:i.size=aG.k α) (n:i.bytes=bytes) (I:z.cells.size=aG.k α)
  {B:Nat} {v:Value} {xs:List α} (D:a.eval d=v) (b:Addr) (c:Nat) (G:a.eval e= .slice (some b) 1 c) (cs:List Value) (y:α) (h:un w B v xs cs y) (q:∀j u,cs[j]? =some u->w.cell? (b.add j)=some u)
  (l:B<=w.heap.size) (m:xs.length+1<=140737488355328) (p:(xs.length+1)*bytes<=140737488355328)
  (s:∀v' w',eU w' B v' (xs++ [y])->(∀a,Below B a w->Below B a w')->f (a.put o.dst v') w') :
  if Region.wanted o (yielded g a.tmps)=true then Oper.wp P o a w f Q else k:=by
 have E:Region.wanted o (yielded g a.tmps)=true:=by simp[Region.wanted,r]
 rw[if_pos E];exact vI w d e t x i z bytes C hi H A n I D b c G cs y h q l m p s
end
section
variable {α:Type} [aG α] {w:World}
theorem Sl.form_n {v:Value} {xs:List α} {n:Nat} (h:Sl w v xs) (a:xs.length=n):∃A c,v= .slice A n c/\n<=c/\c<=9223372036854775807/\n<=140737488355328:=by subst a;exact h.form
theorem Sl.sl_at {A:Option Addr} {n c k:Nat} {xs:List (List α)} (h:Sl w (.slice A n c) xs) (i:k<n) :
  ∃b a v,A=some ⟨b,a,none⟩/\b<w.heap.size/\w.cell? ⟨b,a+k,none⟩=some v/\Sl w v (xs.getD k []):=by
 have:=bO.len_eq h;have l:xs[k]? =some (xs.getD k []):=by
  rw[ap,aq (by omega)];rfl
 obtain⟨b,a,m,d,e,⟨v,f,j⟩,g⟩:=bO.at_ h i _ l;refine⟨b,a,v,d,e,?_,j⟩;have:=g 0 v (by rw[f];rfl);simpa [aG.k] using this
end
theorem Ff {w w':World} {B:Nat} {cs:List Value} {x:Int} (h:aG.rep w B cs x):Ow.own w' (fun _=>False) cs x:=⟨h,fun _ h=>h⟩
theorem zd (w:World) (n:Nat) (h:n<=140737488355328):eU (w.alloc (.cells (madeCells #[.int .i64 0] n) 3)) w.heap.size (.slice (some ⟨w.heap.size,0,none⟩) n n) (List.replicate n (0:Int)):=by
 have f:(madeCells #[Value.int .i64 0] n).size=n:=by simp[madeCells]
 refine⟨fun a=>a=w.heap.size,.inr ⟨w.heap.size,0,n,_,fun _ _=>False,⟨by rw[List.length_replicate],heap_alloc_new w _,by simp,by unfold maxLen;omega,by simp[aG.k,f],by simpa using h,fun g j b=>?_,fun a=>by simp,fun _ _ h=>h,fun _ _ _ _ _ h=>h.elim⟩⟩,fun a e=>by subst e;exact aH _⟩;have c:g<n:=by have:=(bt.1 b).1;simpa using this
 rw[sD,if_pos c] at b
 cases b
 refine⟨⟨?_,by simp[aI]⟩,fun _ h=>h⟩
 apply fI
 intro d
 by_cases i:d<1
 ·obtain rfl:d=0:=by omega
  rw[hU _ _ _ _ (by simp[aG.k])];simp[madeCells,aG.k,c,Nat.mod_one]
 rw[bh (by rw[aB];simp[aG.k];omega),bh (by simp;omega)]
theorem tY {α:Type} [Ow α] [kc α] {w:World} {B:Nat} {u:Value} {y:List α} (h:eU w B u y):∃a,Ow.own w a [u] y/\∀b,a b->B<=b:=by
 obtain⟨F,h,c⟩:=h;exact⟨F,⟨u,rfl,h⟩,c⟩
theorem zX {w:World} {b o:Nat} {u:Value} (h:w.cell? ⟨b,o,none⟩=some u):∀j x,[u][j]? =some x->w.cell? ((⟨b,o,none⟩:Addr).add j)=some x:=by
 intro j x a
 match j with
 | 0=>simp at a;subst a;simpa [Addr.add] using h
 | j+1=>simp at a
end
