/- Lemmas of one proof. -/
import Derived.Test.YthfkmcbblnbfaaaGreatDoorM0R
import Derived.WalkKit
import Derived.WalkSpells
import Derived.WalkLawsBesides
import Derived.Lib.Hide
import Derived.Lib.ConvBytes
import Derived.Laws.BytesArg

namespace Go.Proofs.YthfkmcbblnbfaaaGreatDoor
set_option maxRecDepth 100000
set_option maxHeartbeats 16000000
open Go.RowKit
section
def aH (n:Int):Prop:= -9223372036854775808<=n/\n<=9223372036854775807
instance (n:Int):Decidable (aH n):=by unfold aH;infer_instance
theorem aH.lo {n:Int} (h:aH n): -9223372036854775808<=n:=h.1
theorem aH.hi {n:Int} (h:aH n):n<=9223372036854775807:=h.2
def kQ (B:Nat) (w w':World):Prop:= ∀p:Addr,p.block<B->w'.cell? p=w.cell? p
theorem kQ.refl (B:Nat) (w:World):kQ B w w:=fun _ _=>rfl
theorem kQ.trans {B:Nat} {a b c:World} (h:kQ B a b) (k:kQ B b c):kQ B a c:=fun p hp=>(k p hp).trans (h p hp)
theorem kQ.mono {B B':Nat} {w w':World} (h:kQ B w w') (hb:B'<=B):kQ B' w w':=fun p hp=>h p (Nat.lt_of_lt_of_le hp hb)
theorem kQ.of_below {B:Nat} {w w':World} (h:Below B w w'):kQ B w w':=fun _ hp=>h.cell hp
class aE (α:Type) where
 k:Nat
 rep:World->Nat->List Value->α->Prop
 len:∀{w:World} {B:Nat} {cs:List Value} {x:α},rep w B cs x->cs.length=k
 keep:∀{w w':World} {B:Nat} {cs:List Value} {x:α},rep w B cs x->kQ B w w'->rep w' B cs x
 more:∀{w:World} {B B':Nat} {cs:List Value} {x:α},rep w B cs x->B<=B'->rep w B' cs x
 one:∀{w:World} {B:Nat} {cs:List Value} {x:α},rep w B cs x->∀u∈cs,u.oneCell'=true
def bJ {α:Type} [aE α] (w:World) (B:Nat) (v:Value) (xs:List α):Prop:=
 ∃(A:Option Addr) (c:Nat),v= .slice A xs.length c/\xs.length<=c/\c<=maxLen/\xs.length<=140737488355328/\
  (0<xs.length->∃b off,A=some ⟨b,off,none⟩/\b<B/\∀i x,xs[i]? =some x->∃cs,aE.rep w B cs x/\∀j u,cs[j]? =some u->w.cell? ⟨b,off+i*aE.k α+j,none⟩=some u)
section
variable {α:Type} [aE α] {w w':World} {B B':Nat} {v:Value} {xs:List α}
theorem bJ.keep (h:bJ w B v xs) (hc:kQ B w w'):bJ w' B v xs:=by
 obtain⟨A,c,hv,h1,h2,h3,h4⟩:=h
 refine⟨A,c,hv,h1,h2,h3,fun h0=>?_⟩
 obtain⟨b,off,hA,hb,hi⟩:=h4 h0
 refine⟨b,off,hA,hb,fun i x hx=>?_⟩
 obtain⟨cs,hr,hj⟩:=hi i x hx
 exact⟨cs,aE.keep hr hc,fun j u hu=>(hc ⟨b,_,none⟩ hb).trans (hj j u hu)⟩
theorem bJ.more (h:bJ w B v xs) (hb:B<=B'):bJ w B' v xs:=by
 obtain⟨A,c,hv,h1,h2,h3,h4⟩:=h
 refine⟨A,c,hv,h1,h2,h3,fun h0=>?_⟩
 obtain⟨b,off,hA,hb',hi⟩:=h4 h0
 refine⟨b,off,hA,by omega,fun i x hx=>?_⟩
 obtain⟨cs,hr,hj⟩:=hi i x hx
 exact⟨cs,aE.more hr hb,hj⟩
theorem bJ.below (h:bJ w B v xs) (hb:Below B w w'):bJ w' B v xs:=h.keep (.of_below hb)
theorem bJ.nil_:bJ w B (.slice none 0 0) ([]:List α):=⟨none,0,rfl,aK _,by unfold maxLen;omega,by simp,fun h=>absurd h (by simp)⟩
theorem bJ.form (h:bJ w B v xs):∃A c,v= .slice A xs.length c/\xs.length<=c/\c<=9223372036854775807/\xs.length<=140737488355328:=by
 obtain⟨A,c,hv,h1,h2,h3,_⟩:=h
 exact⟨A,c,hv,h1,by unfold maxLen at h2;omega,h3⟩
theorem bJ.at_ {A:Option Addr} {n c k:Nat} (h:bJ w B (.slice A n c) xs) (hk:k<n) (x:α) (hx:xs[k]? =some x):∃b off cs,A=some ⟨b,off,none⟩/\b<B/\aE.rep w B cs x/\
  ∀j u,cs[j]? =some u->w.cell? ⟨b,off+k*aE.k α+j,none⟩=some u:=by
 obtain⟨A',c',hv,h1,h2,h3,h4⟩:=h
 injection hv with e1 e2 e3
 subst e1 e2
 obtain⟨b,off,hA,hb,hi⟩:=h4 (by omega)
 obtain⟨cs,hr,hj⟩:=hi k x hx
 exact⟨b,off,cs,hA,hb,hr,hj⟩
theorem bJ.len_eq {A:Option Addr} {n c:Nat} (h:bJ w B (.slice A n c) xs):xs.length=n:=by
 obtain⟨A',c',hv,_⟩:=h
 injection hv with e1 e2 e3
 exact e2.symm
end
instance:aE Int where
 k:=1
 rep _ _ cs n:=cs= [.int .i64 n]/\aH n
 len h:=by rw[h.1];rfl
 keep h _:=h
 more h _:=h
 one h:=by rw[h.1];simp[Value.oneCell']
instance {α:Type} [aE α]:aE (List α) where
 k:=1
 rep w B cs xs:= ∃v,cs= [v]/\bJ w B v xs
 len h:=by obtain⟨v,h,_⟩:=h;rw[h];rfl
 keep h hc:=by obtain⟨v,h,hs⟩:=h;exact⟨v,h,hs.keep hc⟩
 more h hb:=by obtain⟨v,h,hs⟩:=h;exact⟨v,h,hs.more hb⟩
 one h:=by obtain⟨v,h,A,c,rfl,_⟩:=h;rw[h];simp[Value.oneCell']
section
variable {w w':World} {B:Nat}
theorem bJ.int_at {A:Option Addr} {n c k:Nat} {xs:List Int} (h:bJ w B (.slice A n c) xs) (hk:k<n) :
  ∃b off,A=some ⟨b,off,none⟩/\b<B/\w.cell? ⟨b,off+k,none⟩=some (.int .i64 (xs.getD k 0))/\aH (xs.getD k 0):=by
 have hl:=h.len_eq
 have hx:xs[k]? =some (xs.getD k 0):=by
  rw[an,ap (by omega)];rfl
 obtain⟨b,off,cs,hA,hb,⟨hcs,hi⟩,hj⟩:=h.at_ hk _ hx
 refine⟨b,off,hA,hb,?_,hi⟩
 have:=hj 0 (.int .i64 (xs.getD k 0)) (by rw[hcs];rfl)
 simpa [aE.k] using this
end
theorem bJ.lit_int (w:World) (T:TypeId) (xs:List Int) (hi:∀x∈xs,aH x) (hl:xs.length<=140737488355328) :
  bJ (w.alloc (.cells (xs.map (Value.int .i64)).toArray T)) (w.heap.size+1) (.slice (some ⟨w.heap.size,0,none⟩) xs.length xs.length) xs:=by
 refine⟨_,_,rfl,aK _,by unfold maxLen;omega,hl,fun _=>⟨_,_,rfl,by omega,fun i x hx=>⟨[.int .i64 x],⟨rfl,hi x (eJ hx)⟩,fun j u hu=>?_⟩⟩⟩
 have hb:(w.alloc (.cells (xs.map (Value.int .i64)).toArray T)).heap[w.heap.size]? =some (.cells (xs.map (Value.int .i64)).toArray T):=heap_alloc_new w _
 match j with
 | 0=>
  simp at hu
  subst hu
  simp only[World.cell?,hb,aE.k]
  simp[hx]
 | j+1=>simp at hu
theorem yr {W w1:World} (hb:Below W.heap.size W w1):(∀b o,b<W.heap.size->w1.cell? ⟨b,o,none⟩=W.cell? ⟨b,o,none⟩)/\(∀b o,b<W.heap.size->w1.frozen? ⟨b,o,none⟩=W.frozen? ⟨b,o,none⟩):=
 ⟨fun b o h=>hb.cell (p:=⟨b,o,none⟩) h,fun b o h=>hb.frozen (p:=⟨b,o,none⟩) h⟩
theorem bF {a W w1:World} (hb:Below W.heap.size W w1) (h:Below a.heap.size a W):Below a.heap.size a w1:=h.trans (hb.mono h.size)
theorem aM {a W:World} (h:Below a.heap.size a W) (o:Obj):Below a.heap.size a (W.alloc o):=h.alloc h.size o
theorem Below.drewN_ {B:Nat} {a w:World} (h:Below B a w) (n:Nat):Below B a (w.drewN n):=⟨h.os,h.tape,h.output,h.size,h.block⟩
theorem aS {a b:Bool} (h:a=b):Ending.returned (.bool a)= .returned (.bool b):=by rw[h]
theorem ew {k:IntKind} {a b:Int} (h:a=b):Ending.returned (.int k a)= .returned (.int k b):=by rw[h]
theorem EC {a b:List UInt8} (h:a=b):Ending.returned (.string ⟨a.toArray⟩)= .returned (.string ⟨b.toArray⟩):=by rw[h]
theorem qk (w:World) (e:TypeId) (s:ByteArray):Below w.heap.size w (Lib.bytesWorld w e s):=
 ⟨rfl,rfl,rfl,by rw[Lib.bytesWorld_size];omega,fun k hk=>Lib.bytesWorld_at_old w e s k hk⟩
def Sl {α:Type} [aE α] (w:World) (v:Value) (xs:List α):Prop:=bJ w w.heap.size v xs
section
variable {α:Type} [aE α] {w w':World} {v:Value} {xs:List α}
theorem bJ.all {B:Nat} (h:bJ w B v xs) (hb:B<=w.heap.size):Sl w v xs:=h.more hb
theorem Sl.via (hb:Below w.heap.size w w') (h:Sl w v xs):Sl w' v xs:=(bJ.below h hb).more hb.size
theorem Sl.alloc (h:Sl w v xs) (o:Obj):Sl (w.alloc o) v xs:=h.via ((Below.refl _ _).alloc (aK _) _)
theorem Sl.drewN (h:Sl w v xs) (n:Nat):Sl (w.drewN n) v xs:=h.via (Below.drewN_ (Below.refl _ _) n)
theorem Sl.drew (h:Sl w v xs):Sl w.drew v xs:=h.via (Below.refl _ _).drew
theorem Sl.nil_:Sl w (.slice none 0 0) ([]:List α):=bJ.nil_
theorem Sl.form (h:Sl w v xs):∃A c,v= .slice A xs.length c/\xs.length<=c/\c<=9223372036854775807/\xs.length<=140737488355328:=bJ.form h
theorem Sl.lit_int (w:World) (T:TypeId) (xs:List Int) (hi:∀x∈xs,aH x) (hl:xs.length<=140737488355328) :
  Sl (w.alloc (.cells (xs.map (Value.int .i64)).toArray T)) (.slice (some ⟨w.heap.size,0,none⟩) xs.length xs.length) xs:=(bJ.lit_int w T xs hi hl).all (by simp)
theorem Sl.int_at {A:Option Addr} {n c k:Nat} {xs:List Int} (h:Sl w (.slice A n c) xs) (hk:k<n) :
  ∃b off,A=some ⟨b,off,none⟩/\b<w.heap.size/\w.cell? ⟨b,off+k,none⟩=some (.int .i64 (xs.getD k 0))/\aH (xs.getD k 0):=bJ.int_at h hk
end
theorem bP {a W:World} (h:Below a.heap.size a W) {p:Addr} (hp:a.heap.size<=p.block) (u:Value):Below a.heap.size a (W.setCell p u):=h.setCell hp u
@[go_sem] theorem L9 (a b : List UInt8) : (ByteArray.mk a.toArray ++ ByteArray.mk b.toArray : ByteArray) = ByteArray.mk (a ++ b).toArray := by
  apply ByteArray.ext
  simp
@[go_sem] theorem Q6 (l : List UInt8) (a b : Nat) : (ByteArray.mk l.toArray).extract a b = ByteArray.mk ((l.drop a).take (b - a)).toArray := ByteArray.extract_mk l a b
@[go_sem] theorem Q5 (l : List UInt8) (i : Nat) (h : i < (ByteArray.mk l.toArray).size) : (ByteArray.mk l.toArray)[i]'h = l[i]'(by simpa [ByteArray.size] using h) := rfl
@[go_sem] theorem Qu (b : UInt8) : wrap64 (b.toNat : Int) = b.toNat := by have := b.toNat_lt; unfold wrap64; omega
@[go_sem] theorem N7 (w : World) (b o : Nat) (v : Value) : (w.setCell ⟨b, o, none⟩ v).cell? ⟨b, o, none⟩ = (w.cell? ⟨b, o, none⟩).map fun _ => v := by
  simp only [World.setCell, World.cell?, Array.getElem?_modify, if_true]
  cases h : w.heap[b]? with
  | none => simp
  | some x => cases x <;> simp [Array.getElem?_setIfInBounds]; split <;> simp_all
def yz (p:Prop):Prop:=p
theorem sy {p : Prop} (h : yz p) : p := h
theorem mO {α:Type} (f:α->List Value) (k:Nat):∀(xs:List α),(∀x∈xs,(f x).length=k)->∀(i:Nat) (x:α) (j:Nat) (u:Value),xs[i]? =some x->(f x)[j]? =some u->(xs.flatMap f)[i*k+j]? =some u
 | [],_,i,x,j,u,h,_=>by simp at h
 | y::ys,hk,0,x,j,u,h,hu=>by
  simp at h
  subst h
  have hj:j<(f y).length:=(aZ.1 hu).1
  simp only[eV,Nat.zero_mul,ir]
  rw[en hj,hu]
 | y::ys,hk,i+1,x,j,u,h,hu=>by
  have hy:=hk y (by simp)
  simp only[eV]
  rw[dd (by rw[hy,gS];omega),hy,show (i+1)*k+j - k=i*k+j from by rw[gS];omega]
  exact mO f k ys (fun x hx=>hk x (by simp[hx])) i x j u (by simpa using h) hu
end
