/- Lemmas of one proof. -/
import Derived.Test.YthfkmcbblnbfaaaGreatDoorM90W
import Derived.Test.YthfkmcbblnbfaaaGreatDoorM0W
import Derived.WalkKit
import Derived.WalkSpells
import Derived.WalkLawsBesides
import Derived.Lib.Hide
import Derived.Lib.ConvBytes
import Derived.Laws.BytesArg

namespace Go.Proofs.YthfkmcbblnbfaaaGreatDoor
set_option maxRecDepth 100000
set_option maxHeartbeats 16000000
open Go.RowKit
section
def aI (n:Int):Prop:= -9223372036854775808<=n/\n<=9223372036854775807
instance (n:Int):Decidable (aI n):=by unfold aI;infer_instance
theorem aI.lo {n:Int} (h:aI n): -9223372036854775808<=n:=h.1
theorem aI.hi {n:Int} (h:aI n):n<=9223372036854775807:=h.2
def mx (B:Nat) (w w':World):Prop:= ∀p:Addr,p.block<B->w'.cell? p=w.cell? p
theorem mx.refl (B:Nat) (w:World):mx B w w:=fun _ _=>rfl
theorem mx.trans {B:Nat} {a b c:World} (h:mx B a b) (k:mx B b c):mx B a c:=fun p hp=>(k p hp).trans (h p hp)
theorem mx.mono {B B':Nat} {w w':World} (h:mx B w w') (a:B'<=B):mx B' w w':=fun c b=>h c (Nat.lt_of_lt_of_le b a)
theorem mx.of_below {B:Nat} {w w':World} (h:Below B w w'):mx B w w':=fun _ a=>h.cell a
class aG (α:Type) where
 k:Nat
 rep:World->Nat->List Value->α->Prop
 len:∀{w:World} {B:Nat} {cs:List Value} {x:α},rep w B cs x->cs.length=k
 keep:∀{w w':World} {B:Nat} {cs:List Value} {x:α},rep w B cs x->mx B w w'->rep w' B cs x
 more:∀{w:World} {B B':Nat} {cs:List Value} {x:α},rep w B cs x->B<=B'->rep w B' cs x
 one:∀{w:World} {B:Nat} {cs:List Value} {x:α},rep w B cs x->∀u∈cs,u.oneCell'=true
def bO {α:Type} [aG α] (w:World) (B:Nat) (v:Value) (xs:List α):Prop:=
 ∃(A:Option Addr) (c:Nat),v= .slice A xs.length c/\xs.length<=c/\c<=maxLen/\xs.length<=140737488355328/\
  (0<xs.length->∃b off,A=some ⟨b,off,none⟩/\b<B/\∀i x,xs[i]? =some x->∃cs,aG.rep w B cs x/\∀j u,cs[j]? =some u->w.cell? ⟨b,off+i*aG.k α+j,none⟩=some u)
section
variable {α:Type} [aG α] {w w':World} {B B':Nat} {v:Value} {xs:List α}
theorem bO.keep (h:bO w B v xs) (hc:mx B w w'):bO w' B v xs:=by
 obtain⟨A,c,hv,h1,h2,h3,h4⟩:=h
 refine⟨A,c,hv,h1,h2,h3,fun h0=>?_⟩
 obtain⟨b,off,hA,hb,hi⟩:=h4 h0
 refine⟨b,off,hA,hb,fun i x hx=>?_⟩
 obtain⟨cs,hr,hj⟩:=hi i x hx
 exact⟨cs,aG.keep hr hc,fun j u hu=>(hc ⟨b,_,none⟩ hb).trans (hj j u hu)⟩
theorem bO.more (h:bO w B v xs) (hb:B<=B'):bO w B' v xs:=by
 obtain⟨A,c,hv,h1,h2,h3,h4⟩:=h
 refine⟨A,c,hv,h1,h2,h3,fun h0=>?_⟩
 obtain⟨b,off,hA,hb',hi⟩:=h4 h0
 refine⟨b,off,hA,by omega,fun i x hx=>?_⟩
 obtain⟨cs,hr,hj⟩:=hi i x hx
 exact⟨cs,aG.more hr hb,hj⟩
theorem bO.below (h:bO w B v xs) (a:Below B w w'):bO w' B v xs:=h.keep (.of_below a)
theorem bO.nil_:bO w B (.slice none 0 0) ([]:List α):=⟨none,0,rfl,aH _,by unfold maxLen;omega,by simp,fun a=>absurd a (by simp)⟩
theorem bO.form (h:bO w B v xs):∃A c,v= .slice A xs.length c/\xs.length<=c/\c<=9223372036854775807/\xs.length<=140737488355328:=by
 obtain⟨A,c,e,a,b,d,_⟩:=h;exact⟨A,c,e,a,by unfold maxLen at b;omega,d⟩
theorem bO.at_ {A:Option Addr} {n c k:Nat} (h:bO w B (.slice A n c) xs) (D:k<n) (x:α) (q:xs[k]? =some x):∃b a cs,A=some ⟨b,a,none⟩/\b<B/\aG.rep w B cs x/\
  ∀j u,cs[j]? =some u->w.cell? ⟨b,a+k*aG.k α+j,none⟩=some u:=by
 obtain⟨r,s,p,y,z,C,f⟩:=h;injection p with d e t
 subst d e;obtain⟨b,a,g,i,l⟩:=f (by omega);obtain⟨cs,o,m⟩:=l k x q;exact⟨b,a,cs,g,i,o,m⟩
theorem bO.len_eq {A:Option Addr} {n c:Nat} (h:bO w B (.slice A n c) xs):xs.length=n:=by
 obtain⟨d,e,b,_⟩:=h;injection b with f a g
 exact a.symm
end
instance:aG Int where
 k:=1
 rep _ _ cs n:=cs= [.int .i64 n]/\aI n
 len h:=by rw[h.1];rfl
 keep h _:=h
 more h _:=h
 one h:=by rw[h.1];simp[Value.oneCell']
instance {α:Type} [aG α]:aG (List α) where
 k:=1
 rep w B cs xs:= ∃v,cs= [v]/\bO w B v xs
 len h:=by obtain⟨v,h,_⟩:=h;rw[h];rfl
 keep h hc:=by obtain⟨v,h,hs⟩:=h;exact⟨v,h,hs.keep hc⟩
 more h hb:=by obtain⟨v,h,hs⟩:=h;exact⟨v,h,hs.more hb⟩
 one h:=by obtain⟨v,h,A,c,rfl,_⟩:=h;rw[h];simp[Value.oneCell']
section
variable {w w':World} {B:Nat}
theorem bO.int_at {A:Option Addr} {n c k:Nat} {xs:List Int} (h:bO w B (.slice A n c) xs) (j:k<n) :
  ∃b a,A=some ⟨b,a,none⟩/\b<B/\w.cell? ⟨b,a+k,none⟩=some (.int .i64 (xs.getD k 0))/\aI (xs.getD k 0):=by
 have:=h.len_eq;have l:xs[k]? =some (xs.getD k 0):=by
  rw[ap,aq (by omega)];rfl
 obtain⟨b,a,m,d,e,⟨f,g⟩,i⟩:=h.at_ j _ l;refine⟨b,a,d,e,?_,g⟩;have:=i 0 (.int .i64 (xs.getD k 0)) (by rw[f];rfl);simpa [aG.k] using this
end
theorem bO.lit_int (w:World) (T:TypeId) (xs:List Int) (hi:∀x∈xs,aI x) (e:xs.length<=140737488355328) :
  bO (w.alloc (.cells (xs.map (Value.int .i64)).toArray T)) (w.heap.size+1) (.slice (some ⟨w.heap.size,0,none⟩) xs.length xs.length) xs:=by
 refine⟨_,_,rfl,aH _,by unfold maxLen;omega,e,fun _=>⟨_,_,rfl,by omega,fun f x b=>⟨[.int .i64 x],⟨rfl,hi x (fQ b)⟩,fun c g a=>?_⟩⟩⟩;have d:(w.alloc (.cells (xs.map (Value.int .i64)).toArray T)).heap[w.heap.size]? =some (.cells (xs.map (Value.int .i64)).toArray T):=heap_alloc_new w _
 match c with
 | 0=>
  simp at a;subst a;simp only[World.cell?,d,aG.k];simp[b]
 | c+1=>simp at a
theorem Bi {a d:World} (e:Below a.heap.size a d):(∀b o,b<a.heap.size->d.cell? ⟨b,o,none⟩=a.cell? ⟨b,o,none⟩)/\(∀b o,b<a.heap.size->d.frozen? ⟨b,o,none⟩=a.frozen? ⟨b,o,none⟩):=
 ⟨fun b o c=>e.cell (p:=⟨b,o,none⟩) c,fun b o c=>e.frozen (p:=⟨b,o,none⟩) c⟩
theorem bK {a b c:World} (d:Below b.heap.size b c) (h:Below a.heap.size a b):Below a.heap.size a c:=h.trans (d.mono h.size)
theorem aT {a b:World} (h:Below a.heap.size a b) (o:Obj):Below a.heap.size a (b.alloc o):=h.alloc h.size o
theorem Below.drewN_ {B:Nat} {a w:World} (h:Below B a w) (n:Nat):Below B a (w.drewN n):=⟨h.os,h.tape,h.output,h.size,h.block⟩
theorem aY {a b:Bool} (h:a=b):Ending.returned (.bool a)= .returned (.bool b):=by rw[h]
theorem eW {k:IntKind} {a b:Int} (h:a=b):Ending.returned (.int k a)= .returned (.int k b):=by rw[h]
theorem Hy {a b:List UInt8} (h:a=b):Ending.returned (.string ⟨a.toArray⟩)= .returned (.string ⟨b.toArray⟩):=by rw[h]
theorem sr (w:World) (e:TypeId) (s:ByteArray):Below w.heap.size w (Lib.bytesWorld w e s):=
 ⟨rfl,rfl,rfl,by rw[Lib.bytesWorld_size];omega,fun b a=>Lib.bytesWorld_at_old w e s b a⟩
def Sl {α:Type} [aG α] (w:World) (v:Value) (xs:List α):Prop:=bO w w.heap.size v xs
section
variable {α:Type} [aG α] {w w':World} {v:Value} {xs:List α}
theorem bO.all {B:Nat} (h:bO w B v xs) (a:B<=w.heap.size):Sl w v xs:=h.more a
theorem Sl.via (a:Below w.heap.size w w') (h:Sl w v xs):Sl w' v xs:=(bO.below h a).more a.size
theorem Sl.alloc (h:Sl w v xs) (o:Obj):Sl (w.alloc o) v xs:=h.via ((Below.refl _ _).alloc (aH _) _)
theorem Sl.drewN (h:Sl w v xs) (n:Nat):Sl (w.drewN n) v xs:=h.via (Below.drewN_ (Below.refl _ _) n)
theorem Sl.drew (h:Sl w v xs):Sl w.drew v xs:=h.via (Below.refl _ _).drew
theorem Sl.nil_:Sl w (.slice none 0 0) ([]:List α):=bO.nil_
theorem Sl.form (h:Sl w v xs):∃A c,v= .slice A xs.length c/\xs.length<=c/\c<=9223372036854775807/\xs.length<=140737488355328:=bO.form h
theorem Sl.lit_int (w:World) (T:TypeId) (xs:List Int) (hi:∀x∈xs,aI x) (a:xs.length<=140737488355328) :
  Sl (w.alloc (.cells (xs.map (Value.int .i64)).toArray T)) (.slice (some ⟨w.heap.size,0,none⟩) xs.length xs.length) xs:=(bO.lit_int w T xs hi a).all (by simp)
theorem Sl.int_at {A:Option Addr} {n c k:Nat} {xs:List Int} (h:Sl w (.slice A n c) xs) (d:k<n) :
  ∃b a,A=some ⟨b,a,none⟩/\b<w.heap.size/\w.cell? ⟨b,a+k,none⟩=some (.int .i64 (xs.getD k 0))/\aI (xs.getD k 0):=bO.int_at h d
end
theorem bZ {a b:World} (h:Below a.heap.size a b) {p:Addr} (c:a.heap.size<=p.block) (u:Value):Below a.heap.size a (b.setCell p u):=h.setCell c u
@[go_sem] theorem PA (a b:List UInt8):(ByteArray.mk a.toArray++ByteArray.mk b.toArray:ByteArray)=ByteArray.mk (a++b).toArray:=by
 apply ByteArray.ext
 simp
@[go_sem] theorem Vs (l:List UInt8) (a b:Nat):(ByteArray.mk l.toArray).extract a b=ByteArray.mk ((l.drop a).take (b - a)).toArray:=ByteArray.extract_mk l a b
@[go_sem] theorem Vr (l:List UInt8) (i:Nat) (h:i<(ByteArray.mk l.toArray).size):(ByteArray.mk l.toArray)[i]'h=l[i]'(by simpa [ByteArray.size] using h):=rfl
@[go_sem] theorem US (b:UInt8):wrap64 (b.toNat:Int)=b.toNat:=by have:=b.toNat_lt;unfold wrap64;omega
@[go_sem] theorem RX (w:World) (b o:Nat) (v:Value):(w.setCell ⟨b,o,none⟩ v).cell? ⟨b,o,none⟩=(w.cell? ⟨b,o,none⟩).map fun _=>v:=by
 simp only[World.setCell,World.cell?,Array.getElem?_modify,if_true]
 cases h:w.heap[b]? with
 | none=>simp
 | some a=>cases a <;> simp[Array.getElem?_setIfInBounds];split <;> simp_all
def uo (p:Prop):Prop:=p
theorem pu {p : Prop} (h : uo p) : p := h
theorem np {α:Type} (f:α->List Value) (k:Nat):∀(xs:List α),(∀x∈xs,(f x).length=k)->∀(i:Nat) (x:α) (j:Nat) (u:Value),xs[i]? =some x->(f x)[j]? =some u->(xs.flatMap f)[i*k+j]? =some u
 | [],_,i,x,j,u,h,_=>by simp at h
 | y::ys,b,0,x,j,u,h,a=>by
  simp at h;subst h;have d:j<(f y).length:=(bt.1 a).1;simp only[fH,Nat.zero_mul,gY];rw[eS d,a]
 | y::ys,b,i+1,x,j,u,h,a=>by
  have c:=b y σ;simp only[fH];rw[dD (by rw[c,iF];omega),c,show (i+1)*k+j - k=i*k+j from by rw[iF];omega];exact np f k ys (fun x e=>b x (by simp[e])) i x j u (ψ h) a
theorem S5 {α:Type} [aG α] {a:World} {base:Nat} {e:TypeId} {v:Value} {xs:List α} (f:α->List Value) (h:a.ownsRow base e (aG.k α) v xs.length (xs.flatMap f)) (g:∀x∈xs,aG.rep a a.heap.size (f x) x) (k:xs.length<=140737488355328):Sl a v xs:=by
 rcases h.2 with ⟨rfl,j⟩ | ⟨i,s,t,rfl,_,d,m,l,u,n⟩
 ·obtain rfl:=bz j;exact Sl.nil_
 refine⟨_,_,rfl,m,l,k,fun _=>⟨i,0,rfl,(dE.1 d).1,fun p x c=>⟨f x,g x (fQ c),fun q r o=>?_⟩⟩⟩;have b:=np f (aG.k α) xs (fun x c=>aG.len (g x c)) p x q r c o;rw[<-n,ee] at b
 split at b
 ·simp only[World.cell?,d,gY];simpa using b
 cases b
theorem yU {a:World} {base size n:Nat} {e:TypeId} {v:Value} {xs:List Value} (h:a.ownsRow base e size v n xs):∃A cap,v= .slice A n cap:=by
 rcases h.2 with ⟨rfl,rfl⟩ | ⟨c,cap,b,rfl,_⟩
 ·exact⟨_,_,rfl⟩
 exact⟨_,_,rfl⟩
theorem yT {a:World} {base b size n:Nat} {e:TypeId} {v:Value} {xs:List Value} (h:a.ownsRow base e size v n xs) (m:b<=base):a.ownsRow b e size v n xs:=by
 obtain⟨g,i⟩:=h;refine⟨g,i.imp id ?_⟩;rintro⟨f,c,d,j,l,k⟩;exact⟨f,c,d,j,ω,k⟩
end
