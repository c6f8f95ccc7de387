/- Lemmas of one proof. -/
import Derived.Test.YthfkmcbblnbfaaaGreatDoorM90E
import Derived.Test.YthfkmcbblnbfaaaGreatDoorM0E
import Derived.RegionTactic
import Derived.Deep.OwnRows
import Derived.Test.YthfkmcbblnbfaaaGreatDoorM4E

namespace Go.Proofs.YthfkmcbblnbfaaaGreatDoor
set_option maxRecDepth 100000
set_option maxHeartbeats 16000000
open Go.RowKit
section
def eQ {α:Type} [Ow α] (w:World) (B:Nat) (v:Value) (xs:List α):Prop:= ∃F,cY w F v xs/\∀b,F b->B<=b
section
variable {α:Type} [Ow α] {w w':World} {B:Nat} {F:Nat->Prop} {v:Value} {xs:List α}
theorem cY.ownF (h:cY w F v xs) {g:Nat} (a:v.ownBlock=some g):F g:=by
 rcases h with ⟨rfl,_,_⟩ | ⟨e,f,c,d,b,h⟩
 ·simp[Value.ownBlock] at a
 obtain rfl:=h.hv;simp[Value.ownBlock] at a;subst a;exact(h.hF _).2 (.inl rfl)
theorem eQ.sl (h:eQ w B v xs):Sl w v xs:=by obtain⟨F,h,_⟩:=h;exact h.sl
theorem eQ.nil_ (w:World) (B:Nat):eQ w B (.slice none 0 0) ([]:List α):=⟨_,cY.nil_ w,fun _ h=>h.elim⟩
theorem eQ.via (hb:Below w.heap.size w w') (h:eQ w B v xs):eQ w' B v xs:=by obtain⟨F,h,hB⟩:=h;exact⟨F,h.via hb,hB⟩
theorem eQ.alloc (h:eQ w B v xs) (o:Obj):eQ (w.alloc o) B v xs:=h.via ((Below.refl _ _).alloc (aF _) _)
theorem eQ.drew (h:eQ w B v xs):eQ w.drew B v xs:=h.via (Below.refl _ _).drew
theorem eQ.mono {a:Nat} (h:eQ w B v xs) (e:a<=B):eQ w a v xs:=by obtain⟨F,h,c⟩:=h;exact⟨F,h,fun b d=>dS e (c b d)⟩
theorem eQ.form (h:eQ w B v xs):∃A c,v= .slice A xs.length c/\xs.length<=c/\c<=9223372036854775807/\xs.length<=140737488355328:=h.sl.form
theorem eQ.form_n {n:Nat} (h:eQ w B v xs) (a:xs.length=n):∃A c,v= .slice A n c/\n<=c/\c<=9223372036854775807/\n<=140737488355328:=by subst a;exact h.sl.form
theorem cY.grown_below {a c d:World} {v:Value} {xs:List α} (h:Below B a c) (j:cY c F v xs) (f:∀b,F b->B<=b) (g:c.grownBy d v.ownBlock) (e:B<=c.heap.size):Below B a d:=
 h.grown g e (fun k i=>f k (j.ownF i))
theorem eQ.of_zs {base:Nat} {a:List Value} (h:w.ownsRow base (Ow.ty α) (aH.k α) v xs.length a) (y:a.length=xs.length*aH.k α) (s:∀i x,xs[i]? =some x->Ow.own w (fun _=>False) ((a.drop (i*aH.k α)).take (aH.k α)) x) (p:xs.length<=140737488355328) :
  eQ w base v xs:=by
 rcases h.2 with ⟨rfl,k⟩ | ⟨d,j,c,rfl,m,o,r,q,t,f⟩
 ·obtain rfl:=bu k;exact eQ.nil_ _ _
 refine⟨fun b=>b=d,.inr ⟨d,0,j,c,fun _ _=>False,⟨rfl,o,r,q,by rw[jh,t];exact aF _,p,fun i x g=>?_,fun b=>σ,fun _ _ h=>h,fun _ _ _ _ _ h=>h.elim⟩⟩,fun b n=>by subst n;exact m⟩;have u:=s i x g;have:=(bw.1 g).1;have l:i*aH.k α+aH.k α<=a.length:=by
  rw[y]
  calc i*aH.k α+aH.k α=(i+1)*aH.k α:=by rw[iE]
   _<=xs.length*aH.k α:=dL _ ω
 have:(c.toList.drop (0+i*aH.k α)).take (aH.k α)=(a.drop (i*aH.k α)).take (aH.k α):=by
  rw[jh,<-f];rw[<-f,aB] at l
  apply fK
  intro z
  by_cases e:z<aH.k α
  ·rw[ek,if_pos e,dR,ek,if_pos e,dR,ek,if_pos ω]
  rw[bn (by rw[aB];omega),bn (by rw[aB];omega)]
 rw[this];exact u
end
def tV {α:Type} [Ow α] (w:World) (B:Nat) (v:Value) (xs:List α) (cs:List Value) (y:α):Prop:=
 ∃F G,cY w F v xs/\Ow.own w G cs y/\(∀b,F b->B<=b)/\(∀b,G b->B<=b)/\∀b,F b->¬G b
theorem tV.newer {α:Type} [Ow α] {w a:World} {B:Nat} {v:Value} {xs:List α} {cs:List Value} {y:α} (h:eQ a B v xs) (k:Below a.heap.size a w) (g:B<=a.heap.size) (m:∃c,Ow.own w c cs y/\∀b,c b->a.heap.size<=b):tV w B v xs cs y:=by
 obtain⟨F,f,i⟩:=h;obtain⟨c,j,e⟩:=m;exact⟨F,c,f.via k,j,i,fun b d=>dS g (e b d),fun b d l=>by have:=e b l;have:=f.lt d;omega⟩
theorem tV.older {α:Type} [Ow α] {w c:World} {B:Nat} {v:Value} {xs:List α} {cs:List Value} {y:α} (m:∃d,Ow.own c d cs y/\∀b,d b->B<=b) (j:Below c.heap.size c w) (g:B<=c.heap.size) (h:eQ w c.heap.size v xs):tV w B v xs cs y:=by
 obtain⟨F,l,f⟩:=h;obtain⟨d,e,i⟩:=m;exact⟨F,d,l,Ow.frame e fun b a=>j.block b (Ow.lt e a),fun b a=>dS g (f b a),i,fun b a k=>by have:=Ow.lt e k;have:=f b a;omega⟩
section
variable {P:Program} (w:World) {α:Type} [Ow α]
theorem Bb (t ty:TypeId) (i:TypeInfo) (z:Value) (bytes:Nat) (M:P.underlying t=some (.slice (Ow.ty α))) (hi:P.info? (Ow.ty α)=some i) (O:i.zero=some z)
  (L:i.size=aH.k α) (A:i.bytes=bytes) (Q:z.cells.size=aH.k α)
  {B:Nat} {v:Value} {xs:List α} (e:Addr) (c:Nat) (cs:List Value) (y:α) (h:tV w B v xs cs y) (D:∀j d,cs[j]? =some d->w.cell? (e.add j)=some d)
  (l:B<=w.heap.size) (x:xs.length+1<=140737488355328) (C:(xs.length+1)*bytes<=140737488355328) :
  ∃v' w',(Builtin.append_ #[t,t] ty #[v,.slice (some e) 1 c]).run P w= .ok v' w'/\eQ w' B v' (xs++ [y])/\(∀a,Below B a w->Below B a w'):=by
 obtain⟨F,q,n,m,k,u,E⟩:=h;have o:=Ow.rd_ m;have I:cs.length=aH.k α:=aH.len o;obtain⟨v',w',p,K,J,G,r⟩:=mb (P:=P) w t ty i z bytes M hi O L A Q n e 1 c cs D (fun d N=>aH.one o d N) [y] rfl (by omega) (fun _=>q)
  ⟨by simp[I],fun j T g=>by
   have H:j<1:=by simpa using (bw.1 g).1
   obtain rfl:j=0:=by omega
   simp at g;subst g;rw[Nat.zero_mul,qd,bD (by omega)];exact m⟩
  (fun _ b _ f s=>E b s f) (fun j S _ H R _ _=>by omega) x C
 refine⟨v',w',K,⟨p,J,fun b f=>?_⟩,fun a ha=>cY.grown_below ha n k G l⟩;rcases r b f with h | ⟨_,_,h⟩ | rfl
 ·exact k b h
 ·exact u b h
 exact l
theorem vk {o:Oper} {a:Act} {d:Act->World->Prop} {Q:Exit->Act->World->Prop} (e g:Operand) (t:TypeId)
  (u:o.op= .call {callee:= .builtin .append,args:= #[e,g],argTypes:= #[t,t]})
  (i:TypeInfo) (z:Value) (bytes:Nat) (C:P.underlying t=some (.slice (Ow.ty α))) (hi:P.info? (Ow.ty α)=some i) (G:i.zero=some z)
  (A:i.size=aH.k α) (p:i.bytes=bytes) (H:z.cells.size=aH.k α)
  {B:Nat} {v:Value} {xs:List α} (D:a.eval e=v) (b:Addr) (c:Nat) (E:a.eval g= .slice (some b) 1 c) (cs:List Value) (y:α) (h:tV w B v xs cs y) (r:∀j f,cs[j]? =some f->w.cell? (b.add j)=some f)
  (m:B<=w.heap.size) (n:xs.length+1<=140737488355328) (q:(xs.length+1)*bytes<=140737488355328)
  (s:∀v' w',eQ w' B v' (xs++ [y])->(∀a,Below B a w->Below B a w')->d (a.put o.dst v') w'):o.wp P a w d Q:=by
 obtain⟨v',w',x,k,l⟩:=Bb (P:=P) w t o.type i z bytes C hi G A p H b c cs y h r m n q;unfold Oper.wp execOp;simp only[u,resolve,invoke,builtin,Sem.run_bind,Sem.run_pure,Result.andThen_ok,pt,eL,iG,D,E,x];exact s v' w' k l
theorem qN {f:Array Oper} {g:List Oper} {o:Oper} {a:Act} {Q:Exit->Act->World->Prop} (x:o.guard=none) (d e:Operand) (t:TypeId)
  (C:o.op= .call {callee:= .builtin .append,args:= #[d,e],argTypes:= #[t,t]})
  (i:TypeInfo) (z:Value) (bytes:Nat) (E:P.underlying t=some (.slice (Ow.ty α))) (hi:P.info? (Ow.ty α)=some i) (I:i.zero=some z)
  (D:i.size=aH.k α) (r:i.bytes=bytes) (J:z.cells.size=aH.k α)
  {B:Nat} {v:Value} {xs:List α} (G:a.eval d=v) (b:Addr) (c:Nat) (H:a.eval e= .slice (some b) 1 c) (cs:List Value) (y:α) (h:tV w B v xs cs y) (u:∀j k,cs[j]? =some k->w.cell? (b.add j)=some k)
  (n:B<=w.heap.size) (q:xs.length+1<=140737488355328) (s:(xs.length+1)*bytes<=140737488355328)
  (A:∀v' w',eQ w' B v' (xs++ [y])->(∀a,Below B a w->Below B a w')->wpList P f Q g (a.put o.dst v') w'):wpList P f Q (o::g) a w:=
 wpList_plain x fun _ p=>vk w d e t C i z bytes E hi I D r J G b c H cs y h u n q s fun v' w' l m=>p _ _ (A v' w' l m)
theorem zg {g:Array Oper} {o:Oper} {a:Act} {f:Act->World->Prop} {Q:Exit->Act->World->Prop} {l:Prop} (s:o.guard=none) (d e:Operand) (t:TypeId)
  (x:o.op= .call {callee:= .builtin .append,args:= #[d,e],argTypes:= #[t,t]})
  (i:TypeInfo) (z:Value) (bytes:Nat) (C:P.underlying t=some (.slice (Ow.ty α))) (hi:P.info? (Ow.ty α)=some i) (H:i.zero=some z)
  (A:i.size=aH.k α) (p:i.bytes=bytes) (I:z.cells.size=aH.k α)
  {B:Nat} {v:Value} {xs:List α} (D:a.eval d=v) (b:Addr) (c:Nat) (G:a.eval e= .slice (some b) 1 c) (cs:List Value) (y:α) (h:tV w B v xs cs y) (r:∀j k,cs[j]? =some k->w.cell? (b.add j)=some k)
  (m:B<=w.heap.size) (n:xs.length+1<=140737488355328) (q:(xs.length+1)*bytes<=140737488355328)
  (u:∀v' w',eQ w' B v' (xs++ [y])->(∀a,Below B a w->Below B a w')->f (a.put o.dst v') w') :
  if Region.wanted o (yielded g a.tmps)=true then Oper.wp P o a w f Q else l:=by
 have E:Region.wanted o (yielded g a.tmps)=true:=by simp[Region.wanted,s]
 rw[if_pos E];exact vk w d e t x i z bytes C hi H A p I D b c G cs y h r m n q u
end
section
variable {α:Type} [aH α] {w:World}
theorem Sl.form_n {v:Value} {xs:List α} {n:Nat} (h:Sl w v xs) (a:xs.length=n):∃A c,v= .slice A n c/\n<=c/\c<=9223372036854775807/\n<=140737488355328:=by subst a;exact h.form
theorem Sl.sl_at {A:Option Addr} {n c k:Nat} {xs:List (List α)} (h:Sl w (.slice A n c) xs) (i:k<n) :
  ∃b a v,A=some ⟨b,a,none⟩/\b<w.heap.size/\w.cell? ⟨b,a+k,none⟩=some v/\Sl w v (xs.getD k []):=by
 have:=bN.len_eq h;have l:xs[k]? =some (xs.getD k []):=by
  rw[ap,aq (by omega)];rfl
 obtain⟨b,a,m,d,e,⟨v,f,j⟩,g⟩:=bN.at_ h i _ l;refine⟨b,a,v,d,e,?_,j⟩;have:=g 0 v (by rw[f];rfl);simpa [aH.k] using this
end
theorem EI {w w':World} {B:Nat} {cs:List Value} {x:Int} (h:aH.rep w B cs x):Ow.own w' (fun _=>False) cs x:=⟨h,fun _ h=>h⟩
theorem yH (w:World) (n:Nat) (h:n<=140737488355328):eQ (w.alloc (.cells (madeCells #[.int .i64 0] n) 3)) w.heap.size (.slice (some ⟨w.heap.size,0,none⟩) n n) (List.replicate n (0:Int)):=by
 have f:(madeCells #[Value.int .i64 0] n).size=n:=by simp[madeCells]
 refine⟨fun a=>a=w.heap.size,.inr ⟨w.heap.size,0,n,_,fun _ _=>False,⟨by rw[vh],heap_alloc_new w _,by simp,by unfold maxLen;omega,by simp[aH.k,f],by simpa using h,fun g j b=>?_,fun a=>by simp,fun _ _ h=>h,fun _ _ _ _ _ h=>h.elim⟩⟩,fun a e=>by subst e;exact aF _⟩;have c:g<n:=by have:=(bw.1 b).1;simpa using this
 rw[rX,if_pos c] at b
 cases b
 refine⟨⟨?_,by simp[aI]⟩,fun _ h=>h⟩
 apply fK
 intro d
 by_cases i:d<1
 ·obtain rfl:d=0:=by omega
  rw[gZ _ _ _ _ (by simp[aH.k])];simp[madeCells,aH.k,c,Nat.mod_one]
 rw[bn (by rw[aB];simp[aH.k];omega),bn (by simp;omega)]
theorem tD {α:Type} [Ow α] [jU α] {w:World} {B:Nat} {a:Value} {y:List α} (h:eQ w B a y):∃c,Ow.own w c [a] y/\∀b,c b->B<=b:=by
 obtain⟨F,h,d⟩:=h;exact⟨F,⟨a,rfl,h⟩,d⟩
theorem zB {w:World} {b o:Nat} {c:Value} (h:w.cell? ⟨b,o,none⟩=some c):∀j x,[c][j]? =some x->w.cell? ((⟨b,o,none⟩:Addr).add j)=some x:=by
 intro j x a
 match j with
 | 0=>simp at a;subst a;simpa [Addr.add] using h
 | j+1=>simp at a
end
