/- Lemmas of one proof. -/
import Derived.Test.YthfkmcbblnbfaaaGreatDoorM0Q
import Derived.WalkKit
import Derived.WalkSpells
import Derived.WalkLawsBesides
import Derived.Lib.Hide
import Derived.Lib.ConvBytes
import Derived.Laws.BytesArg

namespace Go.Proofs.YthfkmcbblnbfaaaGreatDoor
set_option maxRecDepth 100000
set_option maxHeartbeats 16000000
open Go.RowKit
section
def aF (n:Int):Prop:= -9223372036854775808<=n/\n<=9223372036854775807
instance (n:Int):Decidable (aF n):=by unfold aF;infer_instance
theorem aF.lo {n:Int} (h:aF n): -9223372036854775808<=n:=h.1
theorem aF.hi {n:Int} (h:aF n):n<=9223372036854775807:=h.2
def km (B:Nat) (w w':World):Prop:= ∀p:Addr,p.block<B->w'.cell? p=w.cell? p
theorem km.refl (B:Nat) (w:World):km B w w:=fun _ _=>rfl
theorem km.trans {B:Nat} {a b c:World} (h:km B a b) (k:km B b c):km B a c:=fun p hp=>(k p hp).trans (h p hp)
theorem km.mono {B B':Nat} {w w':World} (h:km B w w') (hb:B'<=B):km B' w w':=fun p hp=>h p (Nat.lt_of_lt_of_le hp hb)
theorem km.of_below {B:Nat} {w w':World} (h:Below B w w'):km B w w':=fun _ hp=>h.cell hp
class ay (α:Type) where
 k:Nat
 rep:World->Nat->List Value->α->Prop
 len:∀{w:World} {B:Nat} {cs:List Value} {x:α},rep w B cs x->cs.length=k
 keep:∀{w w':World} {B:Nat} {cs:List Value} {x:α},rep w B cs x->km B w w'->rep w' B cs x
 more:∀{w:World} {B B':Nat} {cs:List Value} {x:α},rep w B cs x->B<=B'->rep w B' cs x
 one:∀{w:World} {B:Nat} {cs:List Value} {x:α},rep w B cs x->∀u∈cs,u.oneCell'=true
def bE {α:Type} [ay α] (w:World) (B:Nat) (v:Value) (xs:List α):Prop:=
 ∃(A:Option Addr) (c:Nat),v= .slice A xs.length c/\xs.length<=c/\c<=maxLen/\xs.length<=140737488355328/\
  (0<xs.length->∃b off,A=some ⟨b,off,none⟩/\b<B/\∀i x,xs[i]? =some x->∃cs,ay.rep w B cs x/\∀j u,cs[j]? =some u->w.cell? ⟨b,off+i*ay.k α+j,none⟩=some u)
section
variable {α:Type} [ay α] {w w':World} {B B':Nat} {v:Value} {xs:List α}
theorem bE.keep (h:bE w B v xs) (hc:km B w w'):bE w' B v xs:=by
 obtain⟨A,c,hv,h1,h2,h3,h4⟩:=h
 refine⟨A,c,hv,h1,h2,h3,fun h0=>?_⟩
 obtain⟨b,off,hA,hb,hi⟩:=h4 h0
 refine⟨b,off,hA,hb,fun i x hx=>?_⟩
 obtain⟨cs,hr,hj⟩:=hi i x hx
 exact⟨cs,ay.keep hr hc,fun j u hu=>(hc ⟨b,_,none⟩ hb).trans (hj j u hu)⟩
theorem bE.more (h:bE w B v xs) (hb:B<=B'):bE w B' v xs:=by
 obtain⟨A,c,hv,h1,h2,h3,h4⟩:=h
 refine⟨A,c,hv,h1,h2,h3,fun h0=>?_⟩
 obtain⟨b,off,hA,hb',hi⟩:=h4 h0
 refine⟨b,off,hA,by omega,fun i x hx=>?_⟩
 obtain⟨cs,hr,hj⟩:=hi i x hx
 exact⟨cs,ay.more hr hb,hj⟩
theorem bE.below (h:bE w B v xs) (hb:Below B w w'):bE w' B v xs:=h.keep (.of_below hb)
theorem bE.nil_:bE w B (.slice none 0 0) ([]:List α):=⟨none,0,rfl,aA _,by unfold maxLen;omega,by simp,fun h=>absurd h (by simp)⟩
theorem bE.form (h:bE w B v xs):∃A c,v= .slice A xs.length c/\xs.length<=c/\c<=9223372036854775807/\xs.length<=140737488355328:=by
 obtain⟨A,c,hv,h1,h2,h3,_⟩:=h
 exact⟨A,c,hv,h1,by unfold maxLen at h2;omega,h3⟩
theorem bE.at_ {A:Option Addr} {n c k:Nat} (h:bE w B (.slice A n c) xs) (hk:k<n) (x:α) (hx:xs[k]? =some x):∃b off cs,A=some ⟨b,off,none⟩/\b<B/\ay.rep w B cs x/\
  ∀j u,cs[j]? =some u->w.cell? ⟨b,off+k*ay.k α+j,none⟩=some u:=by
 obtain⟨A',c',hv,h1,h2,h3,h4⟩:=h
 injection hv with e1 e2 e3
 subst e1 e2
 obtain⟨b,off,hA,hb,hi⟩:=h4 (by omega)
 obtain⟨cs,hr,hj⟩:=hi k x hx
 exact⟨b,off,cs,hA,hb,hr,hj⟩
theorem bE.len_eq {A:Option Addr} {n c:Nat} (h:bE w B (.slice A n c) xs):xs.length=n:=by
 obtain⟨A',c',hv,_⟩:=h
 injection hv with e1 e2 e3
 exact e2.symm
end
instance:ay Int where
 k:=1
 rep _ _ cs n:=cs= [.int .i64 n]/\aF n
 len h:=by rw[h.1];rfl
 keep h _:=h
 more h _:=h
 one h:=by rw[h.1];simp[Value.oneCell']
instance {α:Type} [ay α]:ay (List α) where
 k:=1
 rep w B cs xs:= ∃v,cs= [v]/\bE w B v xs
 len h:=by obtain⟨v,h,_⟩:=h;rw[h];rfl
 keep h hc:=by obtain⟨v,h,hs⟩:=h;exact⟨v,h,hs.keep hc⟩
 more h hb:=by obtain⟨v,h,hs⟩:=h;exact⟨v,h,hs.more hb⟩
 one h:=by obtain⟨v,h,A,c,rfl,_⟩:=h;rw[h];simp[Value.oneCell']
section
variable {w w':World} {B:Nat}
theorem bE.int_at {A:Option Addr} {n c k:Nat} {xs:List Int} (h:bE w B (.slice A n c) xs) (hk:k<n) :
  ∃b off,A=some ⟨b,off,none⟩/\b<B/\w.cell? ⟨b,off+k,none⟩=some (.int .i64 (xs.getD k 0))/\aF (xs.getD k 0):=by
 have hl:=h.len_eq
 have hx:xs[k]? =some (xs.getD k 0):=by
  rw[ak,ap (by omega)];rfl
 obtain⟨b,off,cs,hA,hb,⟨hcs,hi⟩,hj⟩:=h.at_ hk _ hx
 refine⟨b,off,hA,hb,?_,hi⟩
 have:=hj 0 (.int .i64 (xs.getD k 0)) (by rw[hcs];rfl)
 simpa [ay.k] using this
end
theorem bE.lit_int (w:World) (T:TypeId) (xs:List Int) (hi:∀x∈xs,aF x) (hl:xs.length<=140737488355328) :
  bE (w.alloc (.cells (xs.map (Value.int .i64)).toArray T)) (w.heap.size+1) (.slice (some ⟨w.heap.size,0,none⟩) xs.length xs.length) xs:=by
 refine⟨_,_,rfl,aA _,by unfold maxLen;omega,hl,fun _=>⟨_,_,rfl,by omega,fun i x hx=>⟨[.int .i64 x],⟨rfl,hi x (eP hx)⟩,fun j u hu=>?_⟩⟩⟩
 have hb:(w.alloc (.cells (xs.map (Value.int .i64)).toArray T)).heap[w.heap.size]? =some (.cells (xs.map (Value.int .i64)).toArray T):=heap_alloc_new w _
 match j with
 | 0=>
  simp at hu
  subst hu
  simp only[World.cell?,hb,ay.k]
  simp[hx]
 | j+1=>simp at hu
theorem wF {W w1:World} (hb:Below W.heap.size W w1):(∀b o,b<W.heap.size->w1.cell? ⟨b,o,none⟩=W.cell? ⟨b,o,none⟩)/\(∀b o,b<W.heap.size->w1.frozen? ⟨b,o,none⟩=W.frozen? ⟨b,o,none⟩):=
 ⟨fun b o h=>hb.cell (p:=⟨b,o,none⟩) h,fun b o h=>hb.frozen (p:=⟨b,o,none⟩) h⟩
theorem bq {a W w1:World} (hb:Below W.heap.size W w1) (h:Below a.heap.size a W):Below a.heap.size a w1:=h.trans (hb.mono h.size)
theorem aK {a W:World} (h:Below a.heap.size a W) (o:Obj):Below a.heap.size a (W.alloc o):=h.alloc h.size o
theorem Below.drewN_ {B:Nat} {a w:World} (h:Below B a w) (n:Nat):Below B a (w.drewN n):=⟨h.os,h.tape,h.output,h.size,h.block⟩
theorem aM {a b:Bool} (h:a=b):Ending.returned (.bool a)= .returned (.bool b):=by rw[h]
theorem fk {k:IntKind} {a b:Int} (h:a=b):Ending.returned (.int k a)= .returned (.int k b):=by rw[h]
theorem Dw {a b:List UInt8} (h:a=b):Ending.returned (.string ⟨a.toArray⟩)= .returned (.string ⟨b.toArray⟩):=by rw[h]
theorem oX (w:World) (e:TypeId) (s:ByteArray):Below w.heap.size w (Lib.bytesWorld w e s):=
 ⟨rfl,rfl,rfl,by rw[Lib.bytesWorld_size];omega,fun k hk=>Lib.bytesWorld_at_old w e s k hk⟩
def Sl {α:Type} [ay α] (w:World) (v:Value) (xs:List α):Prop:=bE w w.heap.size v xs
section
variable {α:Type} [ay α] {w w':World} {v:Value} {xs:List α}
theorem bE.all {B:Nat} (h:bE w B v xs) (hb:B<=w.heap.size):Sl w v xs:=h.more hb
theorem Sl.via (hb:Below w.heap.size w w') (h:Sl w v xs):Sl w' v xs:=(bE.below h hb).more hb.size
theorem Sl.alloc (h:Sl w v xs) (o:Obj):Sl (w.alloc o) v xs:=h.via ((Below.refl _ _).alloc (aA _) _)
theorem Sl.drewN (h:Sl w v xs) (n:Nat):Sl (w.drewN n) v xs:=h.via (Below.drewN_ (Below.refl _ _) n)
theorem Sl.drew (h:Sl w v xs):Sl w.drew v xs:=h.via (Below.refl _ _).drew
theorem Sl.nil_:Sl w (.slice none 0 0) ([]:List α):=bE.nil_
theorem Sl.form (h:Sl w v xs):∃A c,v= .slice A xs.length c/\xs.length<=c/\c<=9223372036854775807/\xs.length<=140737488355328:=bE.form h
theorem Sl.lit_int (w:World) (T:TypeId) (xs:List Int) (hi:∀x∈xs,aF x) (hl:xs.length<=140737488355328) :
  Sl (w.alloc (.cells (xs.map (Value.int .i64)).toArray T)) (.slice (some ⟨w.heap.size,0,none⟩) xs.length xs.length) xs:=(bE.lit_int w T xs hi hl).all (by simp)
theorem Sl.int_at {A:Option Addr} {n c k:Nat} {xs:List Int} (h:Sl w (.slice A n c) xs) (hk:k<n) :
  ∃b off,A=some ⟨b,off,none⟩/\b<w.heap.size/\w.cell? ⟨b,off+k,none⟩=some (.int .i64 (xs.getD k 0))/\aF (xs.getD k 0):=bE.int_at h hk
end
theorem bD {a W:World} (h:Below a.heap.size a W) {p:Addr} (hp:a.heap.size<=p.block) (u:Value):Below a.heap.size a (W.setCell p u):=h.setCell hp u
@[go_sem] theorem Li (a b : List UInt8) : (ByteArray.mk a.toArray ++ ByteArray.mk b.toArray : ByteArray) = ByteArray.mk (a ++ b).toArray := by
  apply ByteArray.ext
  simp
@[go_sem] theorem Qz (l : List UInt8) (a b : Nat) : (ByteArray.mk l.toArray).extract a b = ByteArray.mk ((l.drop a).take (b - a)).toArray := ByteArray.extract_mk l a b
@[go_sem] theorem Qy (l : List UInt8) (i : Nat) (h : i < (ByteArray.mk l.toArray).size) : (ByteArray.mk l.toArray)[i]'h = l[i]'(by simpa [ByteArray.size] using h) := rfl
@[go_sem] theorem P8 (b : UInt8) : wrap64 (b.toNat : Int) = b.toNat := by have := b.toNat_lt; unfold wrap64; omega
@[go_sem] theorem ND (w : World) (b o : Nat) (v : Value) : (w.setCell ⟨b, o, none⟩ v).cell? ⟨b, o, none⟩ = (w.cell? ⟨b, o, none⟩).map fun _ => v := by
  simp only [World.setCell, World.cell?, Array.getElem?_modify, if_true]
  cases h : w.heap[b]? with
  | none => simp
  | some x => cases x <;> simp [Array.getElem?_setIfInBounds]; split <;> simp_all
theorem zP {α:Type} {m:List α->Prop} (h0:m []) (h1:∀l c,m l->m (l++ [c])) (l:List α):m l:=by
 have:∀r:List α,m r.reverse:=by
  intro r
  induction r with
  | nil=>simpa using h0
  | cons c r ih=>rw[List.reverse_cons];exact h1 _ _ ih
 simpa using this l.reverse
def Ci (p:Prop):Prop:=p
theorem vT {p : Prop} (h : Ci p) : p := h
theorem lI {α:Type} (f:α->List Value) (k:Nat):∀(xs:List α),(∀x∈xs,(f x).length=k)->∀(i:Nat) (x:α) (j:Nat) (u:Value),xs[i]? =some x->(f x)[j]? =some u->(xs.flatMap f)[i*k+j]? =some u
 | [],_,i,x,j,u,h,_=>by simp at h
 | y::ys,hk,0,x,j,u,h,hu=>by
  simp at h
  subst h
  have hj:j<(f y).length:=(aN.1 hu).1
  simp only[eG,Nat.zero_mul,ik]
  rw[dE hj,hu]
 | y::ys,hk,i+1,x,j,u,h,hu=>by
  have hy:=hk y (by simp)
  simp only[eG]
  rw[cy (by rw[hy,fP];omega),hy,show (i+1)*k+j - k=i*k+j from by rw[fP];omega]
  exact lI f k ys (fun x hx=>hk x (by simp[hx])) i x j u (by simpa using h) hu
theorem OA {α:Type} [ay α] {W:World} {base:Nat} {e:TypeId} {v:Value} {xs:List α} (f:α->List Value) (h:W.ownsRow base e (ay.k α) v xs.length (xs.flatMap f)) (hr:∀x∈xs,ay.rep W W.heap.size (f x) x) (hl:xs.length<=140737488355328):Sl W v xs:=by
 rcases h.2 with ⟨rfl,h0⟩ | ⟨g,cap,cur,rfl,_,hg,hn,hm,hs,ht⟩
 ·obtain rfl:=aS h0
  exact Sl.nil_
 refine⟨_,_,rfl,hn,hm,hl,fun _=>⟨g,0,rfl,(cI.1 hg).1,fun i x hx=>⟨f x,hr x (eP hx),fun j u hu=>?_⟩⟩⟩
 have h1:=lI f (ay.k α) xs (fun x hx=>ay.len (hr x hx)) i x j u hx hu
 rw[<-ht,de] at h1
 split at h1
 ·simp only[World.cell?,hg,ik]
  simpa using h1
 cases h1
theorem uK {W:World} {base size n:Nat} {e:TypeId} {v:Value} {xs:List Value} (h:W.ownsRow base e size v n xs):∃A cap,v= .slice A n cap:=by
 rcases h.2 with ⟨rfl,rfl⟩ | ⟨g,cap,cur,rfl,_⟩
 ·exact⟨_,_,rfl⟩
 exact⟨_,_,rfl⟩
theorem uJ {W:World} {base base' size n:Nat} {e:TypeId} {v:Value} {xs:List Value} (h:W.ownsRow base e size v n xs) (hb:base'<=base):W.ownsRow base' e size v n xs:=by
 obtain⟨h1,h2⟩:=h
 refine⟨h1,h2.imp id ?_⟩
 rintro⟨g,cap,cur,h3,h4,h5⟩
 exact⟨g,cap,cur,h3,by omega,h5⟩
end
