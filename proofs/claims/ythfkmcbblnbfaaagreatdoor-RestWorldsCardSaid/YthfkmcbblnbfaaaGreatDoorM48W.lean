/- Lemmas of one proof. -/
import Derived.Test.YthfkmcbblnbfaaaGreatDoorM90W
import Derived.Test.YthfkmcbblnbfaaaGreatDoorM0W
import Derived.Test.YthfkmcbblnbfaaaGreatDoorM39W
import Derived.Test.YthfkmcbblnbfaaaGreatDoorM2W
import Derived.Test.YthfkmcbblnbfaaaGreatDoorM46W

namespace Go.Proofs.YthfkmcbblnbfaaaGreatDoor
set_option maxRecDepth 100000
set_option maxHeartbeats 16000000
open Go.RowKit
section
structure ey where
 b:List UInt8
 deriving DecidableEq
instance:Inhabited ey:=⟨⟨[]⟩⟩
instance:aG ey where
 k:=1
 rep _ _ cs s:=cs= [.string ⟨s.b.toArray⟩]/\True
 len h:=by rw[h.1];rfl
 keep h _:=h
 more h _:=h
 one h:=by rw[h.1];simp[Value.oneCell']
instance:Ow ey where
 ty:=9
 own _ F cs s:=(cs= [.string ⟨s.b.toArray⟩]/\True)/\∀b,¬F b
 rd_ h:=h.1
 lt h hb:=(h.2 _ hb).elim
 frame h _:=h
 cong h hf:=⟨h.1,fun b hb=>h.2 b ((hf b).2 hb)⟩
instance:dc ey where
 enc s:= [.string ⟨s.b.toArray⟩]
 wf _:=True
 rep_iff:=kA
 own_iff:=kA
instance:kc ey:=⟨48⟩
theorem pB:(Tryz.prog.info? 9).map (fun i=>(i.zero,i.size,i.bytes))=some (some (.string ByteArray.empty),1,16):=by kernel_rfl
section
variable {B:Nat} {w0:World} {H:List aO}
theorem SF.str {A:Option Addr} {xs:List ey} {m c k:Nat} (b:SF B w0 H A m c xs) (a:k<m):∀w,Cw B w0 H w->w.cell? ⟨ab A,ao A+k*1,none⟩=some (.string ⟨(xs.getD k default).b.toArray⟩):=fun w d=>SF.cell b a default (j:=0) rfl w d
end
def pb:List (List UInt8):= [G7,OW,Ke,Kf,yC]
structure ln (w:World):Prop where
 wd:∀k s,pb[k]? =some s->w.cell? ⟨0,k,none⟩=some (.string ⟨s.toArray⟩)
 tab:Lib.TabIs Tryz.prog w "internal/strconv.uint64pow10" .u64 Lib.pow10Tab
structure nO (w:World):Prop where
 gl:ln w
 ml:∃m,w.cell? ⟨xh.g 1,0,none⟩=some (.int .i64 m)
 es:∃te pe,w.cell? ⟨xV.g 15,0,none⟩=some (.iface te pe)
 er:∃te pe,w.cell? ⟨xV.g 16,0,none⟩=some (.iface te pe)
theorem MD:Tryz.prog.globalNamed "internal/strconv.uint64pow10" =some 4:=by kernel_rfl
theorem xL {w w':World} (b:Below w.heap.size w w') {a:Addr} {v:Value} (h:w.cell? a=some v):w'.cell? a=some v:=(b.cell (World.block_lt_of_cell? w a h)).trans h
theorem Sb {n:String} {g:Nat} {k:IntKind} {b:List Int} {w w':World} (d:Tryz.prog.globalNamed n=some g) (h:Lib.TabIs Tryz.prog w n k b) (c:Below w.heap.size w w'):Lib.TabIs Tryz.prog w' n k b:=by
 unfold Lib.TabIs World.var? at h⊢;rw[d] at h⊢;simp only[Option.bind_some] at h⊢;have e:g<w.heap.size:=by
  rcases gL g w.heap.size with a | a
  ·exact a
  simp[tF a] at h
 rw[c.block g e];exact h
theorem ln.below {w w':World} (h:ln w) (a:Below w.heap.size w w'):ln w':=
 ⟨fun c d b=>xL a (h.wd c d b),Sb MD h.tab a⟩
theorem ln.cw {w0 w:World} {H:List aO} (h:ln w0) (a:Cw w0.heap.size w0 H w):ln w:=h.below a.below
theorem nO.below {w w':World} (h:nO w) (a:Below w.heap.size w w'):nO w':=by
 obtain⟨b,⟨f,c⟩,⟨j,g,d⟩,⟨k,i,e⟩⟩:=h;exact⟨b.below a,⟨f,xL a c⟩,⟨j,g,xL a d⟩,⟨k,i,xL a e⟩⟩
theorem nO.cw {w0 w:World} {H:List aO} (h:nO w0) (a:Cw w0.heap.size w0 H w):nO w:=h.below a.below
theorem Jt (w:World) (k:Nat) (a:Array Obj):Below w.heap.size w (Go.Sort.grow (w.drewN k) a):=
 ⟨rfl,rfl,rfl,σ,fun c b=>Go.Sort.heap_grow_old (w.drewN k) a b⟩
theorem N5 (n:Int) (b:aI n) (w:World) (c:ln w):Calls Tryz.prog 128 #[ai n] w fun e w'=>e= .returned (.string ⟨(Lib.itoa n).toArray⟩)/\Below w.heap.size w w':=
 (Any.strconv_Itoa Dx n b.1 b.2 w c.tab).mono fun e w' a=>⟨a.1,by obtain⟨d,f,rfl⟩:=a.2;exact Jt w d f⟩
theorem LA (A:Option Addr) (c:Nat) (l:List ey) (w:World) (y:Sl w (ac A l.length c) l) (x:(Lib.join (l.map ey.b) [32]).length<=140737488355328) :
  Calls Tryz.prog 129 #[ac A l.length c,.string ⟨[32].toArray⟩] w fun e w'=>e= .returned (.string ⟨(Lib.join (l.map ey.b) [32]).toArray⟩)/\Below w.heap.size w w':=by
 by_cases g:l= []
 ·subst g;refine(Any.strings_Join_none vT um A c ⟨[32].toArray⟩ w).mono fun e w' f=>⟨f.1,?_⟩
  rw[f.2];exact Below.refl _ _
 obtain⟨D,E,z,p,G,q,r⟩:=y;injection z with k _ m
 subst k m;obtain⟨j,C,rfl,s,t⟩:=r (sC.2 g);have h:(l.map fun a:ey=>(⟨a.b.toArray⟩:ByteArray)).map (fun d=>d.data.toList)=l.map ey.b:=by rw[List.map_map];exact oJ fun a _=>σ
 have:=Any.strings_Join vT um j C c (l.map fun a:ey=>(⟨a.b.toArray⟩:ByteArray)) ⟨[32].toArray⟩ w (fun i d b=>by
  rw[dd] at b
  cases hj:l[i]? with
  | none=>rw[hj] at b;cases b
  | some a=>
   rw[hj] at b;obtain⟨F,⟨u,_⟩,v⟩:=t i a hj;have:=v 0 (.string ⟨a.b.toArray⟩) (by rw[u];rfl);have b:(⟨a.b.toArray⟩:ByteArray)=d:=fC b;rw[<-b];simpa [aG.k] using this) s (by rw[aL];exact q) (by rw[aL];exact p) (by rw[h];exact x)
 rw[h,aL] at this;exact this
end
section
def qS (m:av):ir:=⟨m.S,m.T,m.F.length,dq m.B,m.out⟩
theorem El (a:MA) (m:av) (w:World) (c:fV w.heap.size w a m) (h:m.B.length<=8) (i:m.out.length<=1000000) :
  Calls Tryz.prog 67 #[.agg #[ac a.Af m.F.length a.cf,ac a.Ab m.B.length a.cb,ac a.Ai m.I.length a.ci,ac a.Ao m.out.length a.co,ai m.S,ai m.T]] w fun e w'=> ∃g:Option Addr×Nat,True/\e= .returned (.agg #[ai m.S,ai m.T,ai (m.F.length:Int),ai (dq m.B),ac g.1 m.out.length g.2])/\Cw w.heap.size w [an (ac g.1 m.out.length g.2) m.out] w':=by
 refine enter Tryz.func67 rfl Tryz.ntmps67 rfl<|aj ?_;refine fun j _=>aj ?_;refine fun k _=>aj ?_;refine bq [0,3,6,9,12,15,18,21,24,30,33,29,38,39,44] [14] rfl<|aj ?_;refine ls rfl rfl Tryz.call125 (fun w b=>fY (xc _ m.B w (b.ro c.b) h)) ?_;refine pE rfl (fl rfl rfl rfl mJ (fun w b=>kj _ m.out w (b.ro c.o) i)) (fun⟨d,f⟩ _=>?_);refine aP ?_;intro w b;exact⟨(d,f),trivial,rfl,b.msub ms⟩
end
section
section
variable {P:Program} {n:NF} {o:Oper} {env:cS} {B:Nat} {w0:World} {H:List aO}
theorem HH {i j:Operand} {t e:TypeId} {p:IntKind} {l:List Value} {k m:Nat} {v:Value} (f:P.underlying t=some (.array m e)) (ha:∀w,(isAgg e).run P w= .ok false w) (h:∀w,(sizeOf e).run P w= .ok 1 w) (r:k<m) (g:l[k]? =some v)
  (d:o.op= .index t i j) (hi:opv env i=some (.agg l.toArray)) (c:opv env j=some (.int p (k:Int))):QS P n B w0 o env H v:=by
 intro q w a s;have b:(0:Int)<=k/\(k:Int)<m:=ω;unfold execOp;simp only[d,a.opv hi,a.opv c,Sem.run_bind,Instr.index,asIntOf,Sem.run_pure,Result.andThen_ok,run_underlying f,b,and_self,if_true,h,Go.part,ha,bu,qs,List.getElem?_toArray,g,pM,if_false]
theorem HK {t e:TypeId} {a:Array (Nat×Operand)} {vs:List (Nat×Value)} {m:Nat} {z:Value} {cs:Array Value} (h:∀w,(zeroValue t).run P w= .ok z w) (f:P.underlying t=some (.array m e)) (d:∀w,(sizeOf e).run P w= .ok 1 w)
  (c:o.op= .build t a) (g:pvs env a.toList=some vs) (b:Instr.fill (fun i=>some (i*1,1)) z.cells vs=some cs):QS P n B w0 o env H (.agg cs):=
 EG c g fun w=>by
  unfold Instr.build;simp only[Sem.run_bind,h,Result.andThen_ok,run_underlying f,d,b,Sem.run_pure]
theorem HI {i j:Operand} {t e:TypeId} {p:IntKind} {b q c k m:Nat} (h:P.underlying t=some (.array m e)) (l:∀w,(sizeOf e).run P w= .ok c w) (s:k<m) (g:o.op= .indexAddr t i j)
  (hi:opv env i=some (.pointer (some ⟨b,q,none⟩))) (f:opv env j=some (.int p (k:Int))):QS P n B w0 o env H (.pointer (some ⟨b,q+k*c,none⟩)):=by
 intro r w a u;have d:(0:Int)<=k/\(k:Int)<m:=ω;unfold execOp;simp only[g,a.opv hi,a.opv f,Sem.run_bind,Instr.indexAt,Instr.sureAddr,asIntOf,Sem.run_pure,Result.andThen_ok,run_underlying h,d,and_self,if_true,l,gU,bu]
end
def lF (r:ir) (k:Nat):List ey:=((gQ r).take k).map ey.mk
theorem uN {r:ir} {k:Nat} {b:List UInt8} (c:k<(gQ r).length) (a:(gQ r).getD k []=b):lF r (k+1)=lF r k++ [⟨b⟩]:=by
 unfold lF;rw[eF _ k [] c,db,a];rfl
def DD (r:ir):List Int:= [r.S,r.T,r.depth,r.cells]
theorem R8 (r:ir) {k:Nat} (a:k<4):(gQ r).getD (2*k) []=pb.getD k []:=by
 match k,a with
 | 0,_ | 1,_ | 2,_ | 3,_=>rfl
theorem Ua (r:ir) {k:Nat} (a:k<4):(gQ r).getD (2*k+1) []=Lib.itoa ((DD r).getD k 0):=by
 match k,a with
 | 0,_ | 1,_ | 2,_ | 3,_=>rfl
theorem zy (r:ir):(gQ r).length=9+r.out.length:=by unfold gQ;simp;omega
theorem T9 (r:ir) {j:Nat} (a:j<r.out.length):(gQ r).getD (9+j) []=Lib.itoa (r.out.getD j 0):=by
 unfold gQ;rw[ap,dD σ,dd];simp[aq a]
theorem NT {r:ir} (a:F8 r) (k:Nat):bT ((DD r).getD k 0)=true:=by
 match k with
 | 0=>exact a.s
 | 1=>exact a.t
 | 2=>exact a.d
 | 3=>exact a.c
 | k+4=>rfl
theorem B0:∀(k u:Nat),u<10 ^ (k+1)->(Lib.decDigits u).length<=k+1
 | 0,u,h=>by rw[Lib.decDigits,dif_pos (by simpa using h)];simp
 | k+1,u,h=>by
  rw[Lib.decDigits]
  split
  ·simp
  have:=B0 k (u / 10) (by rw[Nat.pow_succ] at h;omega);rw[ar,aV];omega
theorem sf {n:Int} (h:bT n=true):(Lib.itoa n).length<=11:=by
 unfold bT at h;simp only[dC,decide_eq_true_eq] at h;unfold Lib.itoa
 split
 ·have:=B0 9 n.natAbs ω;rw[bC];omega
 have:=B0 9 n.toNat ω;omega
theorem E6:∀{l:List (List UInt8)} {k:Nat},(∀b∈l,b.length<=k)->(Lib.join l [32]).length<=l.length*(k+1)
 | [],k,_=>by simp[Lib.join]
 | [x],k,h=>by rw[CK];have:=h x σ;simp;omega
 | x::y::l,k,h=>by
  rw[E5 x σ,ar,bC];have:=h x σ;have c:=E6 (l:=y::l) (k:=k) fun b a=>h b (by simp at a⊢;exact .inr a);simp only[bC] at c⊢;rw[iF (l.length+1)];omega
theorem N2 {r:ir} (b:F8 r):(lz r).length<=228:=by
 have:=b.l;have c:=E6 (l:=gQ r) (k:=11) fun e a=>by
  unfold gQ at a;rcases dU.1 a with a | a
  ·simp only[eo,yA,or_false] at a;rcases a with rfl | rfl | rfl | rfl | rfl | rfl | rfl | rfl | rfl
   ·decide
   ·exact sf b.s
   ·decide
   ·exact sf b.t
   ·decide
   ·exact sf b.d
   ·decide
   ·exact sf b.c
   decide
  obtain⟨n,d,rfl⟩:=jR.1 a;exact sf (b.o n d)
 rw[zy] at c;unfold lz;have:(9+r.out.length)*(11+1)<=19*12:=Nat.mul_le_mul ω (aH _);omega
theorem CH {B:Nat} {w0:World} {H:List aO} (b:Nat) (l:List ey) (A:Option Addr) (c:Nat) (n:Int) (i:aI n) (k:l.length<=1000) (h:∀H w,Cw B w0 H w->ln w) (w:World)
  (a:Cw B w0 (ak b [ac A l.length c] 48::an (ac A l.length c) l::H) w) :
  Calls Tryz.prog 127 #[ai n,af b] w fun e w'=> ∃g:Option Addr×Nat,True/\e= .returned (.tuple #[])/\
   Cw B w0 (ak b [ac g.1 (l++ [(⟨Lib.itoa n⟩:ey)]).length g.2] 48::an (ac g.1 (l++ [(⟨Lib.itoa n⟩:ey)]).length g.2) (l++ [(⟨Lib.itoa n⟩:ey)])::H) w':=by
 refine bI Tryz.func127 rfl Tryz.ntmps127 rfl a<|bq [0,3,8,11,14,17] [4,5] rfl<|aj ?_;refine ls rfl rfl Tryz.call128 (fun w a=>N5 n i w (h _ w a))<|aj ?_;intro j _;refine pE rfl (cz (α:=ey) (bytes:=16) ⟨Lib.itoa n⟩ [] rfl lB (aU pB) rfl (eG fc fc) (dt trivial) ω ω rfl rfl rfl) (fun⟨d,f⟩ _=>?_);refine aP ?_;intro w a;exact⟨(d,f),trivial,rfl,a.msub ms⟩
theorem MY {k:Nat} (a:k<4):pb[k]? =some (pb.getD k []):=by rw[ap,aq (by show k<5;omega)];rfl
theorem Qm (r:ir) {k:Nat} (a:k<4):([ai r.S,ai r.T,ai r.depth,ai r.cells]:List Value)[k]? =some (ai ((DD r).getD k 0)):=by
 match k,a with
 | 0,_ | 1,_ | 2,_ | 3,_=>rfl
theorem wy (A:Option Addr) (c:Nat) (r:ir) (w:World) (z:Sl w (ac A r.out.length c) r.out) (m:F8 r) (J:ln w) :
  Calls Tryz.prog 70 #[.agg #[ai r.S,ai r.T,ai r.depth,ai r.cells,ac A r.out.length c]] w fun e w'=>e= .returned (.string ⟨(lz r).toArray⟩)/\Below w.heap.size w w':=by
 have:=m.l;have:=zy r;have l:∀H w',Cw w.heap.size w H w'->ln w':=fun H w' i=>J.cw i;refine enter Tryz.func70 rfl Tryz.ntmps70 rfl<|aj ?_;refine fun k _=>aj ?_;intro f _;refine bL<|cE<|bQ<|aC ?_;refine aC ?_;refine bL<|dm (fun w i=>Cw.nilO ey i) ?_;refine cE<|cE<|bQ<|aC ?_;refine dR (df fc bF rfl rfl (by rfl)) rfl rfl ?_;refine aC ?_;refine dR (df fc bF rfl rfl (by rfl)) rfl rfl ?_;refine aC ?_;refine dR (df fc bF rfl rfl (by rfl)) rfl rfl ?_;refine aC ?_;refine dR (df fc bF rfl rfl (by rfl)) rfl rfl ?_;refine sE (HK (cs:= #[ai r.S,ai r.T,ai r.depth,ai r.cells]) Tryz.zeroValue185 Ws aZ rfl rfl (by rfl))<|aj ?_;refine cZ (fun a:Nat×Option Addr×Nat=>a.1<=4) (fun a=>4 - a.1) (fun a=> [(1,af k),(3,af f),(4,.func (.func 127) #[] #[af f]),(18,.agg #[ai r.S,ai r.T,ai r.depth,ai r.cells]),(19,ai (a.1:Int))]) (fun a=> [ak k [ai r.S,ai r.T,ai r.depth,ai r.cells,ac A r.out.length c] 37,ak f [ac a.2.1 (lF r (2*a.1)).length a.2.2] 48,ag a.2.1 a.2.2 (lF r (2*a.1))]) (0,none,0) κ ?_;rintro⟨d,S,U⟩ L
 try dsimp only
 have:d<=4:=L;refine ax (fun s=>?_) (fun s=>?_)
 ·have j:d<4:=ω;have M:=uN (r:=r) (k:=2*d) ω (R8 r j);have N:=uN (r:=r) (k:=2*d+1) ω (Ua r j);have R:(lF r (2*d)).length<=100:=by unfold lF;rw[aL,aB];omega
  have:(lF r (2*d+1)).length<=100:=by unfold lF;rw[aL,aB];omega
  refine aj ?_;refine sE (HH (k:=d) Ws bF aZ j (Qm r j) rfl rfl rfl) ?_;refine aC ?_;refine aC ?_;refine bL<|dG (fun _:Option Addr×Nat=>True) (fun a=> [(1,af k),(3,af f),(4,.func (.func 127) #[] #[af f]),(6,ai ((DD r).getD d 0)),(18,.agg #[ai r.S,ai r.T,ai r.depth,ai r.cells]),(19,ai (d:Int))]) (fun a=> [ak k [ai r.S,ai r.T,ai r.depth,ai r.cells,ac A r.out.length c] 37,ak f [ac a.1 (lF r (2*d+1)).length a.2] 48,ag a.1 a.2 (lF r (2*d+1))]) ?_ ?_
  ·refine bq [0,3,6,9,14,17,20] [5,6] rfl<|aj ?_;refine tE rfl (HI (k:=d) Wr zt ω rfl rfl rfl) ?_;refine tE rfl (bY (v:= .string ⟨(pb.getD d []).toArray⟩) (fun w g=>by have:=(l _ w g).wd d _ (MY j);simpa using this) rfl rfl Tryz.isAgg9)<|aj ?_;intro V _;refine pE rfl (cz (α:=ey) (bytes:=16) ⟨pb.getD d []⟩ [] M lB (aU pB) rfl (eG fc fc) (dt trivial) ω ω rfl rfl rfl) (fun⟨p,q⟩ _=>?_);refine aP ?_;refine bJ<|bX (p,q) trivial (hh:=(fun _ i=>i.msub ms))
  rintro⟨p,q⟩ _;refine aP ?_;refine oE (gF rfl rfl rfl Tryz.call127 (fun w g=>CH f (lF r (2*d+1)) p q _ (nI (NT m d)) ω l w (g.msub (.s fc (.s fc .r))))) (fun⟨C,F⟩ _=>?_);refine aP ?_;rw[<-N];refine cG (d+1,C,F) (by show d+1<=4;omega) (by show _ - _<_ - _;omega)
 obtain rfl:d=4:=ω;have O:lF r (9+0)=lF r (2*4)++ [⟨yC⟩]:=uN (r:=r) (k:=8) (b:=yC) ω rfl;have R:(lF r (2*4)).length<=100:=by unfold lF;rw[aL,aB];omega
 refine aj ?_;refine sE (HI (k:=4) Wr zt ω rfl rfl rfl) ?_;refine sE (bY (v:= .string ⟨yC.toArray⟩) (fun w g=>by have:=(l _ w g).wd 4 yC rfl;simpa using this) rfl rfl Tryz.isAgg9)<|aj ?_;intro W _;refine oE (cz (α:=ey) (bytes:=16) ⟨yC⟩ [] O lB (aU pB) rfl (eG fc fc) (dt trivial) ω ω rfl rfl rfl) (fun⟨D,G⟩ _=>?_);refine aP ?_;refine cZ (fun a:Nat×Option Addr×Nat=>a.1<=r.out.length) (fun a=>r.out.length - a.1) (fun a=> [(3,af f),(4,.func (.func 127) #[] #[af f]),(39,ac A r.out.length c),(40,ai (r.out.length:Int)),(41,ai (a.1:Int))]) (fun a=> [ak f [ac a.2.1 (lF r (9+a.1)).length a.2.2] 48,ag a.2.1 a.2.2 (lF r (9+a.1))]) (0,D,G) (aS _) ?_;rintro⟨h,t,u⟩ K
 try dsimp only
 have:h<=r.out.length:=K;refine ax (fun s=>?_) (fun s=>?_)
 ·have y:h<r.out.length:=ω;have Q:=uN (r:=r) (k:=9+h) ω (T9 r y);have:(lF r (9+h)).length<=100:=by unfold lF;rw[aL,aB];omega
  refine aj ?_;refine cP _ rfl (.ro z) ?_;refine nj rfl (.ro z)<|aj ?_;refine oE (gF rfl rfl rfl Tryz.call127 (fun w g=>CH f (lF r (9+h)) t u _ (nI (m.o _ (cL y))) ω l w (g.msub (.s fc (.s fc .r))))) (fun⟨E,I⟩ _=>?_);refine aP ?_;rw[<-Q];refine cG (h+1,E,I) (by show h+1<=_;omega) (by show _ - _<_ - _;omega)
 obtain rfl:h=r.out.length:=ω;have x:(lF r (9+r.out.length)).map ey.b=gQ r:=by
  unfold lF;rw[bD ω,List.map_map];exact List.map_id _
 have:=N2 m;refine aj ?_;refine cO rfl Tryz.call129 (fun w g=>LA t u (lF r (9+r.out.length)) w (SF.at_ (SF.own rfl fc) g) (by rw[x];show (lz r).length<=_;omega))<|aj ?_;rw[x];refine aj ?_;intro w g;exact⟨rfl,g.below⟩
end
section
end
section
theorem qp {k:Nat} (h:k<10):Lib.decDigits k= [UInt8.ofNat (48+k)]:=by rw[Lib.decDigits,dif_pos h]
theorem SC {fs:List aw} {m:av} (h:bU fs m):mV (qS m)=0:=by
 obtain⟨b,c⟩:=h.st;have d:0<=m.T/\m.T<=5:=by
  by_cases a:m.S=3
  ·have:=h.t3 a;omega
  have:=h.t0 a;omega
 have:=(gS h.bl).2;have:=h.n6;have e:dw m.out=false:=by
  cases a:dw m.out with
  | false=>rfl
  | true=>exact absurd h.oi (od.1 a)
 unfold mV;rw[if_neg (by rw[show br (qS m).S 0 3=true from dL.2 ⟨b,c⟩];decide),
  if_neg (by
   rw[show br (qS m).T 0 5=true from dL.2 d,show br (qS m).depth 0 6=true from dL.2 ⟨by show (0:Int)<=m.F.length;omega,by show (m.F.length:Int)<=6;omega⟩,
    show br (qS m).cells 0 40=true from dL.2 ⟨by show (0:Int)<=dq m.B;omega,by show (dq m.B:Int)<=40;omega⟩]
   decide),
  if_neg (by show¬10<m.out.length;have:=h.ob;omega),if_neg (by rw[show dw (qS m).out=false from e];decide)]
end
section
instance:aG jz where
 k:=3
 rep _ _ cs a:=cs= [.int .i64 a.kind,.int .i64 a.of_,.int .i64 a.n]/\aI a.kind/\aI a.of_/\aI a.n
 len h:=by rw[h.1];rfl
 keep h _:=h
 more h _:=h
 one h:=by rw[h.1];simp[Value.oneCell']
instance:qr jz where
 enc a:= [.int .i64 a.kind,.int .i64 a.of_,.int .i64 a.n]
 enc_eq h:=h.1
structure qQ where
 n:Int
 deriving DecidableEq
instance:Inhabited qQ:=⟨⟨0⟩⟩
instance:aG qQ where
 k:=1
 rep _ _ cs e:=cs= [.int .i64 e.n]/\aI e.n
 len h:=by rw[h.1];rfl
 keep h _:=h
 more h _:=h
 one h:=by rw[h.1];simp[Value.oneCell']
instance:Ow qQ where
 ty:=29
 own _ F cs e:=(cs= [.int .i64 e.n]/\aI e.n)/\∀b,¬F b
 rd_ h:=h.1
 lt h hb:=(h.2 _ hb).elim
 frame h _:=h
 cong h hf:=⟨h.1,fun b hb=>h.2 b ((hf b).2 hb)⟩
instance:dc qQ where
 enc e:= [.int .i64 e.n]
 wf e:=aI e.n
 rep_iff:=kA
 own_iff:=kA
instance:kc qQ:=⟨49⟩
theorem JZ:(Tryz.prog.info? 29).map (fun i=>(i.zero,i.size,i.bytes))=some (some (ai 0),1,8):=by kernel_rfl
theorem SF.err {B:Nat} {w0:World} {H:List aO} {A:Option Addr} {xs:List qQ} {m c k:Nat} (b:SF B w0 H A m c xs) (a:k<m):∀w,Cw B w0 H w->w.cell? ⟨ab A,ao A+k*1,none⟩=some (ai (xs.getD k default).n):=fun w d=>SF.cell b a default (j:=0) rfl w d
def iz (l:List jz) (k:Nat):jz:=l.getD k default
theorem SF.act {B:Nat} {w0:World} {H:List aO} {A:Option Addr} {xs:List jz} {m c k:Nat} (d:SF B w0 H A m c xs) (b:k<m):∀w,Cw B w0 H w->∀j v,([ai (iz xs k).kind,ai (iz xs k).of_,ai (iz xs k).n]:List Value)[j]? =some v->w.cell? ⟨ab A,ao A+k*3+j,none⟩=some v:=
 fun w e _ _ a=>SF.cell d b default a w e
theorem IA {w:World} {B:Nat} {A:Option Addr} {xs:List jz} {m c k:Nat} (h:bO w B (ac A m c) xs) (a:k<m):aI (iz xs k).n:=by
 obtain⟨d,b,_⟩:=h.elr a default;exact b.2.2.2
theorem UL {fs:List aw} {l:List av} {a:jz} (h:(iV fs l a).2=0):lQ fs l/\lQ fs (iV fs l a).1/\(iV fs l a).1.length=l.length:=by
 unfold iV at h⊢
 split at h
 ·rename_i e;exact absurd h e
 rename_i e;have r:dA fs l=0:=dM e;have b:=pO r
 split at h
 ·rename_i f;exact absurd h f
 rename_i f;have ha:qq l.length a=0:=dM f;obtain⟨t,u⟩:=MB ha;have i:a.of_.toNat<l.length:=ω;refine⟨b,?_⟩;rw[if_neg e,if_neg f];unfold L8 at h⊢
 split
 ·rename_i g;rw[if_pos g] at h;have h:iK fs l a.n=0:=h;obtain⟨_,p,_⟩:=Ha h;have q:=(Au (fs:=fs) (pV fs l a.n)).1;have c:=(sU (pV fs l a.n)).trans (mg fs l a.n);show lQ fs (lS fs l a.n)/\(lS fs l a.n).length=l.length;unfold lS;rw[if_pos h];exact⟨⟨b.p,b.f,q.right (uL b p),by rw[c];exact b.n0,by rw[c];exact b.n4⟩,c⟩
 rename_i g;rw[if_neg g] at h
 split
 ·rename_i k;rw[if_pos k] at h;have h:jl fs l a.of_ a.n=0:=h;have j:jb fs l a.of_ a.n=0:=dM fun d=>by
   unfold jl at h;rw[if_pos d] at h;exact d h
  obtain⟨_,s,d⟩:=Ee j;have m:(ay l a.of_.toNat).I.length≠10:=fun d=>by
   unfold jl at h;rw[if_neg (fun h=>h j),if_pos d] at h
   cases h
  have c:(l.set a.of_.toNat (gT (ay l a.of_.toNat) a.n)).length=l.length:=bS ..;show lQ fs (lT fs l a.of_ a.n)/\(lT fs l a.of_ a.n).length=l.length;unfold lT;rw[if_pos h];exact⟨⟨b.p,b.f,xN b.r (yq (b.r _ (gA i)) d m),by rw[c];exact b.n0,by rw[c];exact b.n4⟩,c⟩
 rename_i k
 split
 ·have c:(l.set a.of_.toNat (dT (ay l a.of_.toNat))).length=l.length:=bS ..;show lQ fs (l.set a.of_.toNat (dT (ay l a.of_.toNat)))/\(l.set a.of_.toNat (dT (ay l a.of_.toNat))).length=l.length;exact⟨⟨b.p,b.f,xN b.r (wZ (b.r _ (gA i))),by rw[c];exact b.n0,by rw[c];exact b.n4⟩,c⟩
 exact⟨b,rfl⟩
def fE (fs:List aw) (l:List av) (acts:List jz):Nat->List av
 | 0=>l
 | k+1=>if (iV fs (fE fs l acts k) (iz acts k)).2=0 then (iV fs (fE fs l acts k) (iz acts k)).1 else fE fs l acts k
def nr (fs:List aw) (l:List av) (acts:List jz) (n:Nat):List qQ:=(List.range n).map fun k=>⟨(iV fs (fE fs l acts k) (iz acts k)).2⟩
theorem Re (fs:List aw) (l:List av) (a:List jz) (n:Nat):(nr fs l a n).length=n:=by unfold nr;rw[aL,kD]
theorem Oq (fs:List aw) (l:List av) (a:List jz) (n:Nat):nr fs l a (n+1)=nr fs l a n++ [⟨(iV fs (fE fs l a n) (iz a n)).2⟩]:=by
 unfold nr;rw[iB,db];rfl
theorem Kg {fs:List aw} {l:List av} (a:List jz) (b:lQ fs l):∀k,lQ fs (fE fs l a k)/\(fE fs l a k).length=l.length
 | 0=>⟨b,rfl⟩
 | k+1=>by
  have c:=Kg a b k;unfold fE
  split
  ·rename_i d;obtain⟨_,e,f⟩:=UL d;exact⟨e,f.trans c.2⟩
  exact c
def nh (l:List av):List ey:=l.map fun m=>⟨lz (qS m)⟩
theorem Gx {l:List av} {k:Nat} (a:k<l.length):nh (l.take (k+1))=nh (l.take k)++ [⟨lz (qS (ay l k))⟩]:=by
 unfold nh;rw[rJ a,db];rfl
def Eg (P:(List aw×List av)×Int) (acts:List jz):(List ey×List qQ)×Int:=
 if P.2≠0 then (([],[]),P.2) else if 20<acts.length then (([],[]),2) else ((nh (fE P.1.1 P.1.2 acts acts.length),nr P.1.1 P.1.2 acts acts.length),0)
def Sm (e:Int):Prop:=0<=e/\e<=20
theorem uE {α:Type} {g:α->Int} (h:∀x,Sm (g x)):∀l:List α,Sm (ei g l)
 | []=>(show Sm 0 from⟨by decide,by decide⟩)
 | x::l=>by
  simp only[ei]
  split
  ·exact h x
  exact uE h l
theorem Uc (o:bG):Sm (fM o):=by
 unfold fM
 repeat' split
 all_goals exact⟨κ,κ⟩
theorem Kw:∀l:List bG,Sm (fB l)
 | []=>⟨by decide,by decide⟩
 | x::l=>by
  simp only[fB]
  split
  ·exact Uc x
  exact Kw l
theorem PF (l:List bG):Sm (eL l):=by
 unfold eL
 split
 ·exact⟨κ,κ⟩
 exact Kw l
theorem Sh (n:Nat) (f:aw):Sm (fj n f):=by
 unfold fj
 repeat' split
 all_goals first | exact⟨κ,κ⟩ | exact PF _
theorem PE (fs:List aw):Sm (dZ fs):=by
 unfold dZ dp
 repeat' split
 all_goals first | exact⟨κ,κ⟩ | exact uE (Sh _) _
theorem Nm (fs:List aw) (nb:Nat) (l:List aK) (i:Nat):Sm (gB fs nb l i):=by
 unfold gB
 repeat' split
 all_goals exact⟨κ,κ⟩
theorem Ky (l:List (List Int)):Sm (cR l):=by
 unfold cR
 repeat' split
 all_goals exact⟨κ,κ⟩
theorem Kx (fs:List aw) (m:av):Sm (lK fs m):=by
 unfold lK
 repeat' split
 all_goals first | exact⟨κ,κ⟩ | exact uE (fun _=>Nm _ _ _ _) _
theorem Nl (fs:List aw) (m:av):Sm (fd fs m):=by
 unfold fd
 repeat' split
 all_goals first | exact Ky _ | exact Kx _ _ | exact⟨κ,κ⟩
theorem Nk (fs:List aw) (l:List av):Sm (dA fs l):=by
 unfold dA
 repeat' split
 all_goals first | exact⟨κ,κ⟩ | exact PE _ | exact uE (Nl fs) _
theorem TN {fs:List aw} {l:List av} {a:jz} :aI (iV fs l a).2:=by
 suffices h:Sm (iV fs l a).2 by
  obtain⟨b,c⟩:=h;exact⟨ω,ω⟩
 unfold iV qq L8 iK jl jb
 repeat' split
 all_goals first | exact Nk _ _ | (unfold Sm;dsimp only;omega)
theorem Lo {fs:List aw} (e:dZ fs=0):bU fs (gg fs):=by
 have c:=qn e;have b:=pZ e;obtain⟨_,_,g⟩:=iE c.p;obtain⟨_,_,_,i,_⟩:=lj (g _ (jN b));refine⟨(show (0:Int)<=0/\(0:Int)<=3 from by decide),fun a=>(by cases a),fun _=>rfl,(show cR []=0 from by decide),(show ([]:List Int).length<=10 from by decide),(show ([]:List Int).length<=10 from by decide),fun _ a=>(by cases a),fun _ a=>(by cases a),by show 1<=6;decide,⟨fun a=>(by cases a),fun a=>(by cases a)⟩,fun l j=>?_,fun _=>rfl,fun f d=>?_,fun a=>(by cases a)⟩
 ·have:l=⟨0,0,dB (au fs 0).L,[]⟩:=cN.1 j;subst this;exact⟨by show (0:Int)<=0;omega,by show (0:Int)<fs.length;omega⟩
 have d:f<1:=d;obtain rfl:f=0:=ω;refine⟨[],?_,Fb i,rfl,fun k h=>absurd h (gu k),fun _ a=>(by cases a)⟩;exact(c.e 0 b).z
theorem Qu {s:List UInt8} {n:Int} (h:(ja s n).2=0):lQ (ja s n).1.1 (ja s n).1.2:=by
 unfold ja at h⊢
 split at h
 ·rename_i a;rw[if_pos a];have d:ou s=0/\1<=n/\n<=4:=by
   unfold ly at a
   split at a
   ·cases a
   rename_i h;exact⟨a,ω,ω⟩
  have b:dZ (gE s).1=0:=by
   have:=d.1;unfold ou at this
   split at this
   ·exact this
   rename_i h;exact absurd this h
  refine⟨b,qn b,fun e c=>?_,?_,?_⟩
  ·obtain rfl:=List.eq_of_mem_replicate c;exact Lo b
  ·show 1<=(List.replicate _ _).length;rw[List.length_replicate];omega
  show (List.replicate _ _).length<=4;rw[List.length_replicate];omega
 rename_i a;exact absurd h a
theorem Fp (s:List UInt8) (n:Int) (A:Option Addr) (c:Nat) (a:List jz) (R:(List ey×List qQ)×Int) (p:Eg (ja s n) a=R) (bv:s.length<=140737488355320) (w:World) (K:Sl w (ac A a.length c) a) (bk:ln w) :
  Calls Tryz.prog 17 #[.string ⟨s.toArray⟩,ai n,ac A a.length c] w fun e w'=> ∃g:(Option Addr×Nat)×Option Addr×Nat,True/\e= .returned (.tuple #[ac g.1.1 R.1.1.length g.1.2,ac g.2.1 R.1.2.length g.2.2,ai R.2])/\
   Cw w.heap.size w [an (ac g.1.1 R.1.1.length g.1.2) R.1.1,an (ac g.2.1 R.1.2.length g.2.2) R.1.2] w':=by
 have:=bx K;have bo:∀H w',Cw w.heap.size w H w'->ln w':=fun H w' h=>bk.cw h;obtain⟨P,bl⟩:∃P,ja s n=P:=⟨_,rfl⟩
 have S:=fun w=>zf s n bv w;have T:=Qu (s:=s) (n:=n);rw[bl] at S T p;obtain⟨⟨b,d⟩,V⟩:=P;simp only at S T;unfold Eg at p;simp only at p;refine enter Tryz.func17 rfl Tryz.ntmps17 rfl<|aj ?_;refine eu rfl Wo (fun w i=>S w) (fun⟨⟨k,l⟩,a0,a9⟩ _=>?_);refine aP ?_;refine fun E _=>aj ?_;refine fun b4 _=>dh 29 (fun y=>?_) (fun y=>?_)
 ·have y:V=0:=of_decide_eq_true y;subst y;rw[if_neg (fun h=>h rfl)] at p;have bm:=T rfl;refine ax (fun u=>?_) (fun u=>?_)
  ·have u:20<a.length:=by have u:(20:Int)<a.length:=u;omega
   rw[if_pos u] at p;subst p;refine aj ?_;refine cT (t:=35) (v':= .bool true) rfl rfl<|be rfl<|aj ?_;intro w i;exact⟨((none,0),(none,0)),trivial,rfl,(Cw.nilO ey (Cw.nilO qQ i)).msub ms⟩
  have u:¬20<a.length:=by have u:¬(20:Int)<a.length:=u;omega
  rw[if_neg u] at p;refine aj ?_;refine cT (t:=35) (v':= .bool false) rfl rfl<|cA rfl<|aj ?_;refine fun x _=>aj ?_;refine dm (fun w h=>Cw.nilO qQ h) ?_;refine cZ (fun g:Nat×Option Addr×Nat×Option Addr×Nat=>g.1<=a.length) (fun g=>a.length - g.1) (fun g=> [(9,af E),(12,af x),(41,ac A a.length c),(42,ai (a.length:Int)),(43,ai (g.1:Int))]) (fun g=> [ak E [ac k b.length l] 24,ag k l b,ak x [ac g.2.1 (fE b d a g.1).length g.2.2.1,ac k b.length l,ac g.2.2.2.1 (nr b d a g.1).length g.2.2.2.2] 112,ag g.2.1 g.2.2.1 (fE b d a g.1),ag g.2.2.2.1 g.2.2.2.2 (nr b d a g.1)]) (0,a0,a9,none,0) (aS _) ?_ (hh:=(fun _ h=>h.msub ms));rintro⟨f,q,r,z,C⟩ Z
  try dsimp only
  have Z:f<=a.length:=Z;obtain⟨J,ca⟩:=Kg a bm f;have X:=Re b d a f;refine ax (fun bw=>?_) (fun bw=>?_)
  ·have Q:f<a.length:=ω;obtain⟨j,F⟩:∃j,iV b (fE b d a f) (iz a f)=j:=⟨_,rfl⟩
   have bp:aI j.2:=by rw[<-F];exact TN
   have b1:nr b d a (f+1)=nr b d a f++ [⟨j.2⟩]:=by rw[<-F];exact Oq b d a f
   refine aj ?_;refine cP f rfl (.ro K) ?_;refine iC rfl (SF.act (.ro K) Q)<|aj ?_;intro b5 _;refine dN (dk _ fc Tryz.sizeOf33 rfl rfl rfl rfl rfl (by rfl) rfl (by rfl)) rfl rfl (fun _ _=>?_);refine bL<|dG (fun _:Nat×Option Addr×Nat=>True) (fun g=> [(9,af E),(12,af x),(15,af g.1),(16,ai j.2),(41,ac A a.length c),(42,ai (a.length:Int)),(43,ai (f:Int))]) (fun g=> [ak E [ac k b.length l] 24,ag k l b,ak x [ac q (fE b d a f).length r,ac k b.length l,ac z (nr b d a f).length C] 112,ag q r (fE b d a f),ag z C (nr b d a f),ak g.1 [ac g.2.1 j.1.length g.2.2] 27,ag g.2.1 g.2.2 j.1]) ?_ ?_
   ·refine jh (.still 0 (.still 1 (.still 2 (.still 3 (.still 4 (.still 5 (.pick 6 (.still 7 (.still 8 (.still 9 (.pick 10 (.pick 11 (.still 12 .done) .stop) .stop)))) (.pick 10 (.pick 6 (.still 7 (.still 8 (.still 9 (.pick 11 (.still 12 .done) .stop)))) .stop) .stop)))))))) [] rfl φ φ ?_;refine aj ?_;refine dx rfl (lh rfl rfl rfl T8 (fun w i=>Bq k q l r b (fE b d a f) (iz a f).kind (iz a f).of_ (iz a f).n j F (IA K Q) w (SF.at_ (SF.own rfl fc) i) (SF.at_ (SF.own rfl fc) i) J.fit)) rfl rfl (.inr fun _=>ha) (fun⟨G,I⟩ _=>?_) ?_
    ·refine aP ?_;intro N _;refine aj ?_;refine bJ<|bX (N,G,I) trivial (hh:=(fun _ h=>h.msub ms))
    refine aj ?_;intro N _;refine jc rfl rfl T8 (fun w i=>Bq k q l r b (fE b d a f) (iz a f).kind (iz a f).of_ (iz a f).n j F (IA K Q) w (SF.at_ (SF.own rfl fc) i) (SF.at_ (SF.own rfl fc) i) J.fit) (fun⟨G,I⟩ _=>?_);refine aP ?_;refine bJ<|bX (N,G,I) trivial (hh:=(fun _ h=>h.msub ms))
   rintro⟨N,G,I⟩ _
   try dsimp only
   refine dG (fun _:Option Addr×Nat=>True) (fun _=> [(9,af E),(12,af x),(16,ai j.2),(41,ac A a.length c),(42,ai (a.length:Int)),(43,ai (f:Int))]) (fun g=> [ak E [ac k b.length l] 24,ag k l b,ak x [ac g.1 (fE b d a (f+1)).length g.2,ac k b.length l,ac z (nr b d a f).length C] 112,ag g.1 g.2 (fE b d a (f+1)),ag z C (nr b d a f)]) ?_ ?_
   ·refine ax (fun D=>?_) (fun D=>?_)
    ·have D:j.2=0:=D;have U:fE b d a (f+1)=j.1:=by show (if (iV _ _ _).2=0 then _ else _)=_;rw[F,if_pos D]
     rw[U];refine aj ?_;refine lq (G,I) trivial (hh:=(fun _ h=>h.msub ms))
    have D:¬j.2=0:=D;have U:fE b d a (f+1)=fE b d a f:=by show (if (iV _ _ _).2=0 then _ else _)=_;rw[F,if_neg D]
    rw[U];refine aj ?_;refine bX (q,r) trivial (hh:=(fun _ h=>h.msub ms))
   rintro⟨a1,ba⟩ _;refine aP ?_;intro b6 _;refine oE (cz (α:=qQ) (bytes:=8) ⟨j.2⟩ [] b1 Ww (aU JZ) rfl (eG fc fc) (dt bp) (by rw[X];omega) (by rw[X];omega) rfl rfl rfl) (fun⟨a2,bb⟩ _=>?_);refine aP ?_;refine cG (f+1,a1,ba,a2,bb) (by show f+1<=_;omega) (by show _ - _<_ - _;omega) (hh:=(fun _ h=>h.msub ms))
  obtain rfl:f=a.length:=ω;have:=J.n4;refine dm (fun w h=>Cw.nilO ey h)<|aj ?_;refine AV (v:= ac q (fE b d a a.length).length r) (L:=(fE b d a a.length)) fc fun a6 b0 W=>?_;have al:=W.len;refine cZ (fun g:Nat×Option Addr×Nat=>g.1<=(fE b d a a.length).length) (fun g=>(fE b d a a.length).length - g.1) (fun g=> [(12,af x),(17,ac g.2.1 (nh ((fE b d a a.length).take g.1)).length g.2.2),(78,ac q (fE b d a a.length).length r),(79,ai ((fE b d a a.length).length:Int)),(80,ai (g.1:Int))]) (fun g=> [ak x [ac q (fE b d a a.length).length r,ac k b.length l,ac z (nr b d a a.length).length C] 112,an (ac q (fE b d a a.length).length r) b0,a6,ag z C (nr b d a a.length),ag g.2.1 g.2.2 (nh ((fE b d a a.length).take g.1))]) (0,none,0) (aS _) ?_ (hh:=(fun _ h=>h.msub ms));rintro⟨m,a5,bg⟩ Y
  try dsimp only
  have Y:m<=(fE b d a a.length).length:=Y;have ad:(nh ((fE b d a a.length).take m)).length=m:=by unfold nh;rw[aL,aB];omega
  refine ax (fun bs=>?_) (fun bs=>?_)
  ·have M:m<(fE b d a a.length).length:=ω;obtain⟨a8,bi,b2,a7⟩:=W.el m M;have O:=J.r _ (gA M);have bn:=kK J.f O;refine aj ?_;refine cP m rfl ((SF.own (α:=eZ) al fc)) ?_;refine iC rfl (SF.hmc (SF.own (α:=eZ) al fc) M bi)<|aj ?_;refine fun b7 _=>aj ?_;refine eu rfl Tryz.call67 (fun w i=>El a8 (ay (fE b d a a.length) m) w (SF.min (a7 _ _ fc) b2 i) (gS O.bl).1 bn.o) (fun⟨a3,bc⟩ _=>?_)
   try dsimp only
   refine cO rfl Wj (fun w i=>wy a3 bc (qS (ay (fE b d a a.length) m)) w (SF.at_ (SF.own rfl fc) i) (uJ (SC O)) (bo _ w i))<|aj ?_;intro b8 _;refine oE (cz (α:=ey) (bytes:=16) ⟨lz (qS (ay (fE b d a a.length) m))⟩ [] (Gx M) lB (aU pB) rfl (eG fc fc) (dt trivial) (by rw[ad];omega) (by rw[ad];omega) rfl rfl rfl) (fun⟨a4,bf⟩ _=>?_);refine aP ?_;refine cG (m+1,a4,bf) (by show m+1<=_;omega) (by show _ - _<_ - _;omega) (hh:=(fun _ h=>h.msub ms))
  obtain rfl:m=(fE b d a a.length).length:=ω;rw[bD (aH _)];subst p;refine aj ?_;refine bq [0,3,6,9,12,15,18,21] [] rfl<|aj ?_;intro w i;exact⟨((a5,bg),(z,C)),trivial,rfl,i.msub ms⟩
 have y:¬V=0:=of_decide_eq_false y;rw[if_pos y] at p;subst p;refine aj ?_;refine cA rfl<|cU (fun am=>?_) (fun am=>?_)
 ·refine aj ?_;intro w i;exact⟨((none,0),(none,0)),trivial,rfl,(Cw.nilO ey (Cw.nilO qQ i)).msub ms⟩
 exact absurd am y
end
section
def xY:List UInt8:=(kr bB).1
def vQ:List av:= [kT,vO [4] 0]
def uh:List av:= [vO [16] 0,vO [] 1]
def gW:List jz:= [⟨2,1,4⟩,⟨1,0,100⟩,⟨4,7,0⟩,⟨3,1,0⟩]
def yk:List qQ:= [⟨0⟩,⟨0⟩,⟨3⟩,⟨0⟩]
def DE:List UInt8:= [115,116,97,116,117,115,32,49,32,116,114,97,112,32,48,32,100,101,112,116,104,32,49,32,99,101,108,108,115,32,48,32,111,117,116]
theorem Tf:lz ⟨1,0,1,0,[]⟩=DE:=by
 have a:Lib.itoa 0= [48]:=by unfold Lib.itoa;rw[if_neg κ];exact qp κ
 have b:Lib.itoa 1= [49]:=by unfold Lib.itoa;rw[if_neg κ];exact qp κ
 unfold lz gQ;simp only[a,b,iI]
 decide
theorem BY:iV bB fg ⟨2,1,4⟩=(vQ,0):=by kernel_rfl
theorem Rs:iV bB vQ ⟨1,0,100⟩=(uh,0):=by kernel_rfl
theorem Rr:iV bB uh ⟨4,7,0⟩=([],3):=by kernel_rfl
theorem Rq:iV bB uh ⟨3,1,0⟩=(uh,0):=by kernel_rfl
theorem uy {fs:List aw} {l:List av} {a:List jz} {k:Nat} {R:List av×Int} (h:iV fs (fE fs l a k) (iz a k)=R):fE fs l a (k+1)=if R.2=0 then R.1 else fE fs l a k:=by
 show (if (iV fs (fE fs l a k) (iz a k)).2=0 then (iV fs (fE fs l a k) (iz a k)).1 else _)=_;rw[h]
theorem Rn:fE bB fg gW 1=vQ:=(uy BY).trans (if_pos rfl)
theorem Io:iV bB (fE bB fg gW 1) (iz gW 1)=(uh,0):=by rw[Rn];exact Rs
theorem Il:fE bB fg gW 2=uh:=(uy Io).trans (if_pos rfl)
theorem In:iV bB (fE bB fg gW 2) (iz gW 2)=([],3):=by rw[Il];exact Rr
theorem Rm:fE bB fg gW 3=uh:=(uy In).trans ((if_neg κ).trans Il)
theorem Im:iV bB (fE bB fg gW 3) (iz gW 3)=(uh,0):=by rw[Rm];exact Rq
theorem Rl:fE bB fg gW 4=uh:=(uy Im).trans (if_pos rfl)
theorem Rp:nr bB fg gW 4=yk:=by
 show [(⟨(iV bB fg ⟨2,1,4⟩).2⟩:qQ),⟨(iV bB (fE bB fg gW 1) (iz gW 1)).2⟩,⟨(iV bB (fE bB fg gW 2) (iz gW 2)).2⟩,⟨(iV bB (fE bB fg gW 3) (iz gW 3)).2⟩]=yk;rw[BY,Io,In,Im];rfl
theorem Ro:ja xY 2=((bB,fg),0):=by kernel_rfl
theorem nL:(kr bB).2=0/\xY.length<=1000/\ja xY 2=((bB,fg),0)/\iV bB fg ⟨2,1,4⟩=(vQ,0)/\fE bB fg gW 4=uh/\nr bB fg gW 4=yk:=by
 refine⟨φ,of_decide_eq_true φ,Ro,BY,Rl,Rp⟩
def pw:List ey:=nh uh
theorem Jh:(pw.getD 1 default).b=DE:=Tf
theorem TL (A:Option Addr) (c:Nat) (w:World) (hs:Sl w (.slice A 2 c) bB) :
  Calls Tryz.prog 61 #[.agg #[.slice A 2 c]] w fun e w'=>e= .returned (.tuple #[.string ⟨xY.toArray⟩,.int .i64 0])/\Below w.heap.size w w':=by
 have:=yb A c bB w hs
 rw[nL.1] at this
 exact this
theorem Qt (w:World):Calls Tryz.prog 19 #[.string ⟨xY.toArray⟩,ai 2] w fun e w'=> ∃g:(Option Addr×Nat)×Option Addr×Nat,True/\e= .returned (.tuple #[.agg #[ac g.1.1 2 g.1.2],.agg #[ac g.2.1 2 g.2.2],ai 0])/\
  Cw w.heap.size w [an (ac g.1.1 2 g.1.2) bB,an (ac g.2.1 2 g.2.2) fg] w':=by
 have:=zf xY 2 (dW nL.2.1 κ) w;rw[nL.2.2.1] at this;simp only[qj,show bB.length=2 from rfl] at this;exact this
theorem UK (Ap Aw:Option Addr) (cp cw:Nat) (w:World) (hs:Sl w (.slice Ap 2 cp) bB) (hl:Sl w (.slice Aw 2 cw) fg) :
  Calls Tryz.prog 12 #[.agg #[.slice Ap 2 cp],.agg #[.slice Aw 2 cw],.agg #[.int .i64 2,.int .i64 1,.int .i64 4]] w fun e w'=> ∃q:Option Addr×Nat,True/\e= .returned (.tuple #[.agg #[.slice q.1 2 q.2],.int .i64 0])/\Cw w.heap.size w [an (.slice q.1 2 q.2) vQ] w':=by
 have:=Bq Ap Aw cp cw bB fg 2 1 4 (vQ,0) nL.2.2.2.1 (by decide) w hs (by rw[qj];exact hl) zk
 rw[qj] at this
 exact this
theorem Sk:Eg (ja xY 2) gW=((pw,yk),0):=by
 obtain⟨_,_,f3,_,f5,f6⟩:=nL
 unfold Eg
 rw[f3,if_neg (fun h=>h rfl),if_neg (by decide)]
 show ((nh (fE bB fg gW 4),nr bB fg gW 4),(0:Int))=_
 rw[f5,f6]
 rfl
theorem So (A:Option Addr) (c:Nat) (w:World) (ha:Sl w (.slice A 4 c) gW) (hG:ln w) :
  Calls Tryz.prog 17 #[.string ⟨xY.toArray⟩,.int .i64 2,.slice A 4 c] w fun e w'=> ∃g:(Option Addr×Nat)×Option Addr×Nat,True/\e= .returned (.tuple #[.slice g.1.1 2 g.1.2,.slice g.2.1 4 g.2.2,.int .i64 0])/\
   Cw w.heap.size w [an (.slice g.1.1 2 g.1.2) pw,an (.slice g.2.1 4 g.2.2) yk] w':=
 Fp xY 2 A c gW ((pw,yk),0) Sk (dW nL.2.1 (by decide)) w ha hG
theorem Mz (w:World) (B:Nat):∀x∈gW,aG.rep w B (qr.enc x) x:=fun x a=>by
 refine⟨rfl,?_⟩;have:(x=⟨2,1,4⟩\/x=⟨1,0,100⟩\/x=⟨4,7,0⟩\/x=⟨3,1,0⟩):=by simpa [gW] using a
 rcases this with rfl | rfl | rfl | rfl <;> decide
attribute [irreducible] xY vQ uh pw
theorem Ia:vQ.length=2:=by unfold vQ;rfl
theorem Rf:ay vQ 1=vO [4] 0:=by unfold vQ;rfl
theorem Lx:pw.length=2:=by unfold pw uh;rfl
theorem Do (w:World) (E:ln w):Calls Tryz.prog 10 #[] w fun e w'=>e= .returned (.bool true)/\Below w.heap.size w w':=by
 have F:∀H w',Cw w.heap.size w H w'->ln w':=fun H w' l=>E.cw l;refine enter Tryz.func10 rfl Tryz.ntmps10 rfl<|cE<|bQ<|rn 1 [] rfl<|bL<|cE<|bQ<|eu rfl kN (fun w a=>gG w) (fun V _=>?_);refine cO rfl Tryz.call61 (fun w a=>TL _ _ w (SF.at_ (SF.own rfl fc) a)) ?_;refine rn 5 [1,2] rfl<|bL<|cE<|bQ<|rn 1 [1,2,17] rfl<|eu rfl Wo (fun w a=>Qt w) (fun⟨⟨u,C⟩,x,D⟩ _=>?_)
 try dsimp only
 refine rn 4 [1,2,19,20,21] rfl<|oE (mj Dy rfl rfl) (fun Q _=>?_);refine oE (mj RZ rfl rfl) (fun R _=>?_);refine oE (dk _ fc MP rfl rfl rfl rfl rfl (by rfl) rfl (by rfl)) (fun _ _=>?_);refine oE (dk _ fc pN rfl rfl rfl rfl rfl (by rfl) rfl (by rfl)) (fun _ _=>?_);refine rn 1 [1,2,3,4,5] rfl<|bL<|cE<|bQ<|dR (oP (vs:= [_]) fc Tryz.isAgg24 MP rfl rfl (by rfl) rfl) rfl rfl ?_;refine dR (oP (vs:= [_]) fc Tryz.isAgg27 pN rfl rfl (by rfl) rfl) rfl rfl ?_;refine dR (qG (cs:= [_,_,_]) xB rf rfl rfl (by rfl)) rfl rfl ?_;refine eu rfl T8 (fun w a=>UK u x C D w (SF.at_ (SF.own rfl fc) a) (SF.at_ (SF.own (xs:=fg) qj fc) a)) (fun⟨f,q⟩ _=>?_)
 try dsimp only
 refine rn 3 [1,2,4,5,27,28] rfl<|oE (mj RZ rfl rfl) (fun S _=>?_);refine oE (dk _ fc pN rfl rfl rfl rfl rfl (by rfl) rfl (by rfl)) (fun _ _=>?_);refine rn 1 [1,2,4,5,6,7] rfl<|bL<|cE<|bQ<|rn 1 [2,4,5,6,7,30] rfl<|dR (qG (cs:= [_,_,_]) xB rf rfl rfl (by rfl)) rfl rfl ?_;refine dR (qG (cs:= [_,_,_]) xB rf rfl rfl (by rfl)) rfl rfl ?_;refine dR (qG (cs:= [_,_,_]) xB rf rfl rfl (by rfl)) rfl rfl ?_;refine dR (qG (cs:= [_,_,_]) xB rf rfl rfl (by rfl)) rfl rfl ?_;refine oE (fi (cs:= [_,_,_,_,_,_,_,_,_,_,_,_]) Tryz.underlying47 Tryz.sizeOf33 rf rfl rfl rfl rfl rfl) (fun T _=>?_);refine eu rfl Tryz.call17 (fun w a=>So _ _ w (SF.at_ (SF.lit gW rfl (aH _) κ rfl (fun w B J I=>Mz w B J I) fc) a) (F _ w a)) (fun⟨⟨K,N⟩,M,O⟩ _=>?_)
 try dsimp only
 refine rn 7 [2,4,5,6,7,8,9,10] rfl<|bL<|cE<|cE<|bQ<|rn 3 [4,5,6,7,8,9,10,42] rfl<|bj (t:=42) (v':= .bool false) rfl rfl<|rn 4 [4,6,7,8,9,10,46] rfl<|bj (t:=46) (v':= .bool false) rfl rfl<|rn 4 [4,6,8,9,10,50] rfl<|bj (t:=50) (v':= .bool false) rfl rfl<|rn 4 [4,6,8,9,54] rfl<|bj (t:=54) (v':= .bool false) rfl rfl<|rn 1 [6,8,9,54,55] rfl<|dR (df fc Gc rfl rfl (by rfl)) rfl rfl ?_;refine dR (lE dz rfl rfl) rfl rfl<|rn 3 [6,8,9,60] rfl<|bj (t:=60) (v':= .bool false) rfl rfl<|rn 1 [6,8,9,60,61] rfl<|dR (df fc Gc rfl rfl (by rfl)) rfl rfl ?_;refine dR (lE dz rfl rfl) rfl rfl<|rn 3 [6,8,9,66] rfl<|bj (t:=66) (v':= .bool false) rfl rfl<|rn 1 [6,8,9,66,67] rfl<|dR (lE lB rfl rfl) rfl rfl<|rn 3 [6,8,9,71] rfl<|bj (t:=71) (v':= .bool false) rfl rfl<|rn 1 [6,8,9,71,72] rfl<|dR (lE Ww rfl rfl) rfl rfl<|rn 2 [6,8,9,75] rfl<|bL<|cT (t:=75) (v':= .bool false) rfl rfl<|cA rfl<|fq (fm ?_);refine AV (v:= ac f 2 q) (L:=vQ) fc fun A G r=>?_;obtain⟨d,i,_,p⟩:=r.el 1 (by rw[Ia];decide);rw[Rf] at i p;have s:=r.len.trans Ia;have y:∀H h,cu H (an (ac f 2 q) G) h->∀g,Cw w.heap.size w H g->g.cell? ⟨ab f,ao f+1*6+2,none⟩=some (ac d.Ai 1 d.ci):=fun _ _ j g a=>(SF.hmc (SF.own (α:=eZ) (m:=2) s j) (k:=1) κ i) g a 2 _ rfl;have z:∀H h,cu H A h->SF w.heap.size w H d.Ai 1 d.ci [(4:Int)]:=fun _ _ j=>(p _ _ j).2.2.1;clear p i;refine cE<|bQ<|rn 1 [8,9,76] rfl<|dR (df fc Gc rfl rfl (by rfl)) rfl rfl ?_;refine cP 1 rfl ((SF.own (α:=eZ) (m:=2) s fc)) ?_;refine rn 1 [8,9,79] rfl<|ef rfl (y _ _ fc) ?_;refine oE (fi (cs:= [_]) az aZ fG rfl rfl rfl rfl rfl) (fun U _=>?_);refine fF (fun w l=>bN (α:=Int) (m:=1) [4] rfl (ic κ) rfl κ l) ?_;refine cO rfl rl (fun w a=>yY d.Ai (some ⟨_,0,none⟩) d.ci 4 w (SF.at_ (z _ _ fc) a) (SF.at_ (SF.own (m:=1) (c:=1) (xs:= [(4:Int)]) rfl fc) a)) ?_;refine rn 1 [8,9,83] rfl<|bj (t:=83) (v':= .bool true) rfl rfl<|rn 1 [9,83,84] rfl<|cP 1 rfl ((SF.own (xs:=pw) Lx fc)) ?_;refine ef rfl (SF.str (SF.own (xs:=pw) Lx fc) κ) ?_;refine bj (t:=86) (v':= .string ⟨DE.toArray⟩) rfl (by rw[Jh]) ?_;refine sE (EF (b:=DE) rfl rfl rfl) ?_;refine rn 2 [9,89] rfl<|bj (t:=89) (v':= .bool true) rfl rfl<|rn 1 [9,89,90] rfl<|cP 2 rfl ((SF.own (xs:=yk) rfl fc)) ?_;refine ef rfl (SF.err (SF.own (xs:=yk) rfl fc) κ) ?_;refine rn 3 [9,95] rfl<|bj (t:=95) (v':= .bool true) rfl rfl<|rn 1 [95,96] rfl<|cP 3 rfl ((SF.own (xs:=yk) rfl fc)) ?_;refine ef rfl (SF.err (SF.own (xs:=yk) rfl fc) κ) ?_;refine rn 3 [0] rfl<|bL<|iQ<|G4 Tryz.results10 (KC rfl) ?_;intro w a;exact⟨rfl,a.below⟩
end
section
theorem CP {β:Type} {l:List β} {k:Nat} (a:k<l.length) (d:β):l.getD k d∈l:=by
 rw[ap,aq a];exact cV a
theorem BG (s:List UInt8) (F r:Option Addr) (I v:Nat) (fs:List aw) (l:List av) (V o z:Int) (ca:s.length<=140737488355320) (cr:aI V/\aI o/\aI z) (w:World) (bo:Sl w (ac F fs.length I) fs) (a0:Sl w (ac r l.length v) l) (b4:J4 fs) (ba:xQ l) (d3:ln w) :
  Calls Tryz.prog 7 #[.string ⟨s.toArray⟩,.agg #[ac F fs.length I],.agg #[ac r l.length v],.agg #[ai V,ai o,ai z]] w fun e w'=>e= .returned (.bool true)/\Below w.heap.size w w':=by
 have:=bx bo;have:=bx a0;have c8:=cr.2.2;have b3:=ba.w;have cm:∀H w',Cw w.heap.size w H w'->ln w':=fun H w' g=>d3.cw g;obtain⟨b,b9⟩:∃b,iV fs l ⟨V,o,z⟩=b:=⟨_,rfl⟩
 obtain⟨a1,ex⟩:∃b5,Ay fs l=b5:=⟨_,rfl⟩
 obtain⟨a2,ez⟩:∃b5,lS fs l 9=b5:=⟨_,rfl⟩
 obtain⟨a3,eN⟩:∃b5,lT fs l 0 1=b5:=⟨_,rfl⟩
 obtain⟨P,d5⟩:∃P,ja s 2=P:=⟨_,rfl⟩
 obtain⟨k,d2⟩:∃k,gE s=k:=⟨_,rfl⟩
 obtain⟨p,d4⟩:∃p,bP s=p:=⟨_,rfl⟩
 obtain⟨c,d7⟩:∃c,Eg (ja s 1) [⟨V,o,z⟩]=c:=⟨_,rfl⟩
 have cx:=fun w=>zf s 2 ca w;rw[d5] at cx;have c4:=fun w=>qv s w ca;rw[d2] at c4;have c3:=fun w=>AT s w ca;rw[d4] at c3;have d6:b.1=if b.2=0 then b.1 else []:=by
  split
  ·rfl
  rename_i g;rw[<-b9] at g⊢;exact TO g
 refine enter Tryz.func7 rfl Tryz.ntmps7 rfl<|aj ?_;refine fun J _=>aj ?_;refine fun K _=>aj ?_;refine fun M _=>aj ?_;refine cO rfl Tryz.call18 (fun w a=>Bt w)<|aj ?_;refine cO rfl Tryz.call10 (fun w a=>Do w (cm _ w a))<|aj ?_;refine cO rfl Tryz.call33 (fun w a=>Gv w)<|aj ?_;refine cO rfl Tryz.call34 (fun w a=>Dg w)<|aj ?_;refine cA rfl<|fq (fm ?_);refine dG (fun _:Nat×Nat×(Option Addr×Nat)×Option Addr×Nat=>True) (fun d=> [(0,.string ⟨s.toArray⟩),(5,af J),(6,af K),(7,af M),(9,af d.1),(10,af d.2.1)]) (fun d=> [ak J [ac F fs.length I] 24,ak K [ac r l.length v] 27,ak M [ai V,ai o,ai z] 33,ak d.1 [ac d.2.2.1.1 fs.length d.2.2.1.2] 24,ag d.2.2.1.1 d.2.2.1.2 fs,ak d.2.1 [ac d.2.2.2.1 l.length d.2.2.2.2] 27,ag d.2.2.2.1 d.2.2.2.2 l]) ?_ ?_
 ·refine jh (.still 0 (.still 2 (.pick 1 (.pick 3 (.pick 4 (.pick 5 (.pick 6 (.pick 7 .done .stop) .stop) .stop) (.pick 5 (.pick 4 (.pick 6 (.pick 7 .done .stop) .stop) .stop) .stop)) (.pick 4 (.pick 3 (.pick 5 (.pick 6 (.pick 7 .done .stop) .stop) .stop) (.pick 5 (.pick 3 (.pick 6 (.pick 7 .done .stop) .stop) .stop) .stop)) (.pick 5 (.pick 3 (.pick 4 (.pick 6 (.pick 7 .done .stop) .stop) .stop) (.pick 4 (.pick 3 (.pick 6 (.pick 7 .done .stop) .stop) .stop) .stop)) .stop))) (.pick 4 (.pick 1 (.pick 3 (.pick 5 (.pick 6 (.pick 7 .done .stop) .stop) .stop) (.pick 5 (.pick 3 (.pick 6 (.pick 7 .done .stop) .stop) .stop) .stop)) (.pick 5 (.pick 1 (.pick 3 (.pick 6 (.pick 7 .done .stop) .stop) .stop) .stop) .stop)) (.pick 5 (.pick 1 (.pick 3 (.pick 4 (.pick 6 (.pick 7 .done .stop) .stop) .stop) (.pick 4 (.pick 3 (.pick 6 (.pick 7 .done .stop) .stop) .stop) .stop)) (.pick 4 (.pick 1 (.pick 3 (.pick 6 (.pick 7 .done .stop) .stop) .stop) .stop) .stop)) .stop))))) [3,6,7] rfl φ φ ?_;refine aj ?_;refine dx rfl (lh rfl rfl rfl Ka (fun w a=>pz F I fs w (a.ro bo) b4)) rfl rfl (.inr fun _=>ha) (fun⟨q,u⟩ _=>?_) ?_
  ·try dsimp only
   refine dx rfl (lh rfl rfl rfl km (fun w a=>ik r v l.length l rfl ba w (a.ro a0))) rfl rfl (.inl rfl) (fun⟨i,j⟩ _=>?_) ?_
   ·try dsimp only
    refine dx rfl (mj Dy rfl rfl) rfl rfl (.inr fun _=>ha) (fun N _=>?_) ?_
    ·refine aj ?_;intro O _;refine aj ?_;refine bJ<|bX (N,O,(q,u),i,j) trivial (hh:=(fun _ g=>g.msub ms))
    refine aj ?_;intro O _;refine aj ?_;intro N _;refine aj ?_;refine bJ<|bX (N,O,(q,u),i,j) trivial (hh:=(fun _ g=>g.msub ms))
   refine dx rfl (mj Dy rfl rfl) rfl rfl (.inr fun _=>ha) (fun N _=>?_) ?_
   ·refine dx rfl (lh rfl rfl rfl km (fun w a=>ik r v l.length l rfl ba w (a.ro a0))) rfl rfl (.inl rfl) (fun⟨i,j⟩ _=>?_) ?_
    ·refine aP ?_;intro O _;refine aj ?_;refine bJ<|bX (N,O,(q,u),i,j) trivial (hh:=(fun _ g=>g.msub ms))
    refine aj ?_;intro O _;refine jc rfl rfl km (fun w a=>ik r v l.length l rfl ba w (a.ro a0)) (fun⟨i,j⟩ _=>?_);refine aP ?_;refine bJ<|bX (N,O,(q,u),i,j) trivial (hh:=(fun _ g=>g.msub ms))
   refine aj ?_;intro O _;refine dx rfl (lh rfl rfl rfl km (fun w a=>ik r v l.length l rfl ba w (a.ro a0))) rfl rfl (.inl rfl) (fun⟨i,j⟩ _=>?_) ?_
   ·refine aP ?_;intro N _;refine aj ?_;refine bJ<|bX (N,O,(q,u),i,j) trivial (hh:=(fun _ g=>g.msub ms))
   refine aj ?_;intro N _;refine jc rfl rfl km (fun w a=>ik r v l.length l rfl ba w (a.ro a0)) (fun⟨i,j⟩ _=>?_);refine aP ?_;refine bJ<|bX (N,O,(q,u),i,j) trivial (hh:=(fun _ g=>g.msub ms))
  refine dx rfl (mj Dy rfl rfl) rfl rfl (.inr fun _=>ha) (fun N _=>?_) ?_
  ·refine dx rfl (lh rfl rfl rfl Ka (fun w a=>pz F I fs w (a.ro bo) b4)) rfl rfl (.inr fun _=>ha) (fun⟨q,u⟩ _=>?_) ?_
   ·try dsimp only
    refine dx rfl (lh rfl rfl rfl km (fun w a=>ik r v l.length l rfl ba w (a.ro a0))) rfl rfl (.inl rfl) (fun⟨i,j⟩ _=>?_) ?_
    ·refine aP ?_;intro O _;refine aj ?_;refine bJ<|bX (N,O,(q,u),i,j) trivial (hh:=(fun _ g=>g.msub ms))
    refine aj ?_;intro O _;refine jc rfl rfl km (fun w a=>ik r v l.length l rfl ba w (a.ro a0)) (fun⟨i,j⟩ _=>?_);refine aP ?_;refine bJ<|bX (N,O,(q,u),i,j) trivial (hh:=(fun _ g=>g.msub ms))
   refine aj ?_;intro O _;refine jc rfl rfl Ka (fun w a=>pz F I fs w (a.ro bo) b4) (fun⟨q,u⟩ _=>?_)
   try dsimp only
   refine jc rfl rfl km (fun w a=>ik r v l.length l rfl ba w (a.ro a0)) (fun⟨i,j⟩ _=>?_);refine aP ?_;refine bJ<|bX (N,O,(q,u),i,j) trivial (hh:=(fun _ g=>g.msub ms))
  refine aj ?_;intro O _;refine dx rfl (lh rfl rfl rfl Ka (fun w a=>pz F I fs w (a.ro bo) b4)) rfl rfl (.inr fun _=>ha) (fun⟨q,u⟩ _=>?_) ?_
  ·try dsimp only
   refine dx rfl (lh rfl rfl rfl km (fun w a=>ik r v l.length l rfl ba w (a.ro a0))) rfl rfl (.inl rfl) (fun⟨i,j⟩ _=>?_) ?_
   ·refine aP ?_;intro N _;refine aj ?_;refine bJ<|bX (N,O,(q,u),i,j) trivial (hh:=(fun _ g=>g.msub ms))
   refine aj ?_;intro N _;refine jc rfl rfl km (fun w a=>ik r v l.length l rfl ba w (a.ro a0)) (fun⟨i,j⟩ _=>?_);refine aP ?_;refine bJ<|bX (N,O,(q,u),i,j) trivial (hh:=(fun _ g=>g.msub ms))
  refine aj ?_;intro N _;refine jc rfl rfl Ka (fun w a=>pz F I fs w (a.ro bo) b4) (fun⟨q,u⟩ _=>?_)
  try dsimp only
  refine jc rfl rfl km (fun w a=>ik r v l.length l rfl ba w (a.ro a0)) (fun⟨i,j⟩ _=>?_);refine aP ?_;refine bJ<|bX (N,O,(q,u),i,j) trivial (hh:=(fun _ g=>g.msub ms))
 rintro⟨S,R,⟨A,D⟩,y,C⟩ _;refine aP ?_;refine cO rfl Tryz.call29 (fun w a=>IQ F r I v fs l w (a.ro bo) (a.ro a0) b3) ?_;refine aC ?_;refine bL<|aj ?_;refine fun Q _=>aj ?_;refine jJ (fun _:Option Addr×Nat=>True) (fun d=> [(0,.string ⟨s.toArray⟩),(5,af J),(6,af K),(7,af M),(9,af S),(10,af R),(11,ai b.2),(12,af Q)]) (fun d=> [ak Q [ac d.1 b.1.length d.2] 27,ag d.1 d.2 b.1,ak S [ac A fs.length D] 24,ag A D fs,ak R [ac y l.length C] 27,ag y C l,ak J [ac F fs.length I] 24,ak K [ac r l.length v] 27,ak M [ai V,ai o,ai z] 33]) ?_ ?_
 ·refine eK rfl (fun bw=>?_) (fun bw=>?_)
  ·have bw:dA fs l=0:=bw;refine aj ?_;refine eu rfl Tryz.call30 (fun w a=>PT F r I v fs l V o z b b9 c8 bw w (a.ro bo) (a.ro a0)) (fun⟨E,G⟩ _=>?_);refine aP ?_;refine lq (E,G) trivial
  have bw:¬dA fs l=0:=bw;have e:b=([],dA fs l):=by rw[<-b9];unfold iV;rw[if_pos bw]
  subst e;refine aj ?_;refine bX (none,0) trivial (hh:=(fun w g=>(Cw.nilO av g).msub ms))
 rintro⟨E,G⟩ _;refine aP ?_;refine cZ (fun Z:Nat=>Z<=2) (fun Z=>2 - Z) (fun Z=> [(0,.string ⟨s.toArray⟩),(5,af J),(6,af K),(7,af M),(9,af S),(10,af R),(11,ai b.2),(12,af Q),(13,ai (Z:Int))]) (fun _=> [ak Q [ac E b.1.length G] 27,ag E G b.1,ak S [ac A fs.length D] 24,ag A D fs,ak R [ac y l.length C] 27,ag y C l,ak J [ac F fs.length I] 24,ak K [ac r l.length v] 27,ak M [ai V,ai o,ai z] 33]) 0 (aS _) ?_;rintro Z cq;have cq:Z<=2:=cq;refine ax (fun es=>?_) (fun es=>?_)
 ·have:Z<2:=ω;refine aj ?_;refine eu rfl T8 (fun w a=>Bq A y D C fs l V o z b b9 c8 w (SF.at_ (SF.own rfl fc) a) (SF.at_ (SF.own rfl fc) a) b3) (fun⟨q,u⟩ _=>?_);refine aP ?_;refine fun f0 _=>aj ?_;refine cO rfl Tryz.call32 (fun w a=>Gi q E b.1.length b.1.length u G b.1 b.1 b.2 b.2 rfl d6 w (SF.at_ (SF.own rfl fc) a) (SF.at_ (SF.own rfl fc) a) rfl rfl)<|aj ?_;refine cT (t:=87) (v':= .bool false) rfl rfl<|cA rfl<|aj ?_;refine eu rfl T7 (fun w a=>Ce A y D C fs l a1 ex w (SF.at_ (SF.own rfl fc) a) (SF.at_ (SF.own rfl fc) a) b3) (fun⟨i,j⟩ _=>?_);refine aP ?_;refine fun f1 _=>aj ?_;refine eu rfl tH (fun w a=>vW A y D C fs l 9 a2 ez w (SF.at_ (SF.own rfl fc) a) (SF.at_ (SF.own rfl fc) a) b3) (fun⟨bc,bk⟩ _=>?_);refine aP ?_;refine fun f2 _=>aj ?_;refine eu rfl Wn (fun w a=>vX A y D C fs l 0 1 κ a3 eN w (SF.at_ (SF.own rfl fc) a) (SF.at_ (SF.own rfl fc) a) b3) (fun⟨bf,bl⟩ _=>?_);refine aP ?_;refine fun f3 _=>aj ?_;refine eu rfl Wo (fun w a=>cx w) (fun⟨⟨e2,fr⟩,bg,bi⟩ _=>?_);refine aP ?_;refine fun f4 _=>aj ?_;refine fun fu _=>aj ?_;refine oE (fl rfl rfl rfl T6 (fun w a=>c4 w)) (fun⟨a8,a9⟩ _=>?_);refine aP ?_;refine fun bm _=>aj ?_;refine oE (fl rfl rfl rfl Tryz.call41 (fun w a=>c3 w)) (fun⟨a4,a5⟩ _=>?_);refine aP ?_;intro fv _;refine eu rfl Tryz.call17 (fun w a=>Fp s 1 _ _ [⟨V,o,z⟩] c d7 ca w (SF.at_ (SF.lit ([⟨V,o,z⟩]:List jz) rfl (aH _) κ rfl (fun w B c9 c7=>by rw[cN] at c7;subst c7;exact⟨rfl,cr⟩) fc) a) (cm _ w a)) (fun⟨⟨al,am⟩,W,X⟩ _=>?_);refine aP ?_;refine cO rfl Tryz.call31 (fun w a=>zK F A I D fs fs w (a.ro bo) (SF.at_ (SF.own rfl fc) a)) ?_;refine aC ?_;refine aC ?_;refine bj (t:=135) (v':= .bool false) rfl (by rw[decide_eq_true rfl];rfl)<|aj ?_;refine cO rfl Wq (fun w a=>qR r y _ _ v C l l w (a.ro a0) (SF.at_ (SF.own rfl fc) a) rfl rfl)<|aj ?_;refine cT (t:=140) (v':= .bool false) rfl (by rw[decide_eq_true rfl];rfl) ?_;refine cA rfl<|aj ?_;refine fun bv _=>aj ?_;refine lM (D:=a8) (m:=k.1.length) (c:=a9) (L:=k.1) fc fun e4=>?_;refine lM (D:=a4) (m:=p.1.length) (c:=a5) (L:=p.1) fc fun e6=>?_;refine lM (D:=al) (m:=c.1.1.length) (c:=am) (L:=c.1.1) fc fun e8=>?_;refine lM (D:=W) (m:=c.1.2.length) (c:=X) (L:=c.1.2) fc fun e9=>?_;refine cZ (fun x:Nat=>x<=5) (fun x=>5 - x) (fun x=> [(0,.string ⟨s.toArray⟩),(5,af J),(6,af K),(7,af M),(9,af S),(10,af R),(11,ai b.2),(12,af Q),(13,ai (Z:Int)),(26,af bm),(28,ac a4 p.1.length a5),(30,ac al c.1.1.length am),(31,ac W c.1.2.length X),(33,ac (some ⟨bv,0,none⟩) 5 5),(34,ai (x:Int))]) (fun x=> [O8 ((([(ac q b.1.length u,b.1),(ac i a1.1.length j,a1.1),(ac bc a2.length bk,a2),(ac bf a3.length bl,a3),(ac bg P.1.2.length bi,P.1.2)]:List (Value×List av))).drop x),ak bv [ac q b.1.length u,ac i a1.1.length j,ac bc a2.length bk,ac bf a3.length bl,ac bg P.1.2.length bi] 27,ak bm [ac a8 k.1.length a9] 24,ag a8 a9 k.1,ag a4 a5 p.1,ag al am c.1.1,ag W X c.1.2,ak Q [ac E b.1.length G] 27,ag E G b.1,ak S [ac A fs.length D] 24,ag A D fs,ak R [ac y l.length C] 27,ag y C l,ak J [ac F fs.length I] 24,ak K [ac r l.length v] 27,ak M [ai V,ai o,ai z] 33]) 0 (aS _) ?_ (hh:=(fun w g=>Cw.pack (l1:=(([(ac q b.1.length u,b.1),(ac i a1.1.length j,a1.1),(ac bc a2.length bk,a2),(ac bf a3.length bl,a3),(ac bg P.1.2.length bi,P.1.2)]:List (Value×List av))).map Ep) (g.msub (T:= [ag q u b.1,ag i j a1.1,ag bc bk a2,ag bf bl a3,ag bg bi P.1.2,ak bv [ac q b.1.length u,ac i a1.1.length j,ac bc a2.length bk,ac bf a3.length bl,ac bg P.1.2.length bi] 27,ak bm [ac a8 k.1.length a9] 24,ag a8 a9 k.1,ag a4 a5 p.1,ag al am c.1.1,ag W X c.1.2,ak Q [ac E b.1.length G] 27,ag E G b.1,ak S [ac A fs.length D] 24,ag A D fs,ak R [ac y l.length C] 27,ag y C l,ak J [ac F fs.length I] 24,ak K [ac r l.length v] 27,ak M [ai V,ai o,ai z] 33]) ms)));rintro x cv;have cv:x<=5:=cv;refine ax (fun el=>?_) (fun el=>?_)
  ·have cw:x<5:=ω;obtain⟨bb,a7,eT,c2⟩:∃bb a7,(([(ac q b.1.length u,b.1),(ac i a1.1.length j,a1.1),(ac bc a2.length bk,a2),(ac bf a3.length bl,a3),(ac bg P.1.2.length bi,P.1.2)]:List (Value×List av)))[x]? =some (bb,a7)/\kS [ac q b.1.length u,ac i a1.1.length j,ac bc a2.length bk,ac bf a3.length bl,ac bg P.1.2.length bi] x=some bb:=by
    have d1:x=0\/x=1\/x=2\/x=3\/x=4:=ω;rcases d1 with rfl | rfl | rfl | rfl | rfl <;> exact⟨_,_,rfl,rfl⟩
   refine OD eT fc ?_;refine rU (v:=bb) (L:=a7) fc fun bs a6 e=>?_;subst e;refine lM (D:=bs) (m:=a7.length) (c:=a6) (L:=a7) fc fun fn=>?_;refine AW (v:= ac bs a7.length a6) (xs:=a7) fc fun bp em ev=>?_;have cg:bp.length=a7.length:=by rw[<-em,aL]
   have bn:(bp.map Prod.fst).length=a7.length:=by rw[aL,cg]
   refine aj ?_;refine cZ (fun ad:Nat=>ad<=a7.length) (fun ad=>a7.length - ad) (fun ad=> [(0,.string ⟨s.toArray⟩),(5,af J),(6,af K),(7,af M),(9,af S),(10,af R),(11,ai b.2),(12,af Q),(13,ai (Z:Int)),(26,af bm),(28,ac a4 p.1.length a5),(30,ac al c.1.1.length am),(31,ac W c.1.2.length X),(33,ac (some ⟨bv,0,none⟩) 5 5),(34,ai (x:Int)),(35,ai (ad:Int))]) (fun ad=> [cJ (bp.drop ad),an (ac bs a7.length a6) (bp.map Prod.fst),O8 ((([(ac q b.1.length u,b.1),(ac i a1.1.length j,a1.1),(ac bc a2.length bk,a2),(ac bf a3.length bl,a3),(ac bg P.1.2.length bi,P.1.2)]:List (Value×List av))).drop (x+1)),ak bv [ac q b.1.length u,ac i a1.1.length j,ac bc a2.length bk,ac bf a3.length bl,ac bg P.1.2.length bi] 27,ak bm [ac a8 k.1.length a9] 24,ag a8 a9 k.1,ag a4 a5 p.1,ag al am c.1.1,ag W X c.1.2,ak Q [ac E b.1.length G] 27,ag E G b.1,ak S [ac A fs.length D] 24,ag A D fs,ak R [ac y l.length C] 27,ag y C l,ak J [ac F fs.length I] 24,ak K [ac r l.length v] 27,ak M [ai V,ai o,ai z] 33]) 0 (aS _) ?_;rintro ad cs;have cs:ad<=a7.length:=cs;refine aj ?_;refine sE (jG (k:=x) Wv pN rfl cw rfl rfl rfl)<|aj ?_;refine ef rfl (fun w a=>show w.cell? ⟨bv,0+x*1+0,none⟩=_ from by rw[gY,qs];exact gt fc c2 w a)<|ax (fun ej=>?_) (fun ej=>?_)
   ·have ct:ad<bp.length:=ω;refine OE ev ct fc fun dn d0=>?_;refine aj ?_;refine sE (jG (k:=x) Wv pN rfl cw rfl rfl rfl)<|aj ?_;refine ef rfl (fun w a=>show w.cell? ⟨bv,0+x*1+0,none⟩=_ from by rw[gY,qs];exact gt fc c2 w a)<|aj ?_;refine cP ad rfl ((SF.own (xs:=bp.map Prod.fst) bn fc)) ?_;refine iC rfl (SF.hmc (SF.own (xs:=bp.map Prod.fst) bn fc) ω ((Mq ct _).trans d0)) ?_;refine du rfl Tryz.call42 (fun w a=>IK dn bp[ad].2 w (a.msub (.s fc (.s fc (.s fc (.s fc .r)))))) (fun _ _=>aj ?_);refine cG (ad+1) (by show ad+1<=_;omega) (by show _ - _<_ - _;omega)
   refine aj ?_;refine cG (x+1) (by show x+1<=_;omega) (by show _ - _<_ - _;omega)
  refine AW (v:= ac a8 k.1.length a9) (xs:=k.1) fc fun m ea _=>?_;have cg:m.length=k.1.length:=by rw[<-ea,aL]
  have bn:(m.map Prod.fst).length=k.1.length:=by rw[aL,cg]
  refine aj ?_;refine cZ (fun h:Nat=>h<=k.1.length) (fun h=>k.1.length - h) (fun h=> [(0,.string ⟨s.toArray⟩),(5,af J),(6,af K),(7,af M),(9,af S),(10,af R),(11,ai b.2),(12,af Q),(13,ai (Z:Int)),(26,af bm),(28,ac a4 p.1.length a5),(30,ac al c.1.1.length am),(31,ac W c.1.2.length X),(36,ai (h:Int))]) (fun h=> [cJ (m.drop h),ak bm [ac a8 k.1.length a9] 24,an (ac a8 k.1.length a9) (m.map Prod.fst),ag a4 a5 p.1,ag al am c.1.1,ag W X c.1.2,ak Q [ac E b.1.length G] 27,ag E G b.1,ak S [ac A fs.length D] 24,ag A D fs,ak R [ac y l.length C] 27,ag y C l,ak J [ac F fs.length I] 24,ak K [ac r l.length v] 27,ak M [ai V,ai o,ai z] 33]) 0 (aS _) ?_;rintro h c0;have c0:h<=k.1.length:=c0;refine ax (fun ep=>?_) (fun ep=>?_)
  ·have c1:h<m.length:=ω;have ci:h<k.1.length:=ω;refine OF c1 fc ?_;obtain⟨ck,c5⟩:∃ck,m[h].1=ck:=⟨_,rfl⟩
   rw[c5];obtain⟨f6,e0,f7,e1⟩:=ck;refine rU (v:=e0) (L:=m[h].2.L) fc fun dj ds e=>?_;subst e;refine rU (v:=e1) (L:=m[h].2.C) fc fun b6 b7 e=>?_;subst e;refine lM (D:=b6) (m:=m[h].2.C.length) (c:=b7) (L:=m[h].2.C) fc fun e3=>?_;have ce:∀cd,(m.map Prod.fst).getD h cd=_:=fun cd=>(Mq c1 cd).trans c5;refine aj ?_;refine cP h rfl ((SF.own (xs:=m.map Prod.fst) bn fc))<|aj ?_;refine ef rfl (fun w a=>SF.cell (SF.own (xs:=m.map Prod.fst) bn fc) ci default (j:=1) (by rw[ce];rfl) w a) ?_;refine du rfl T5 (fun w a=>rq dj ds m[h].2.L.length m[h].2.L rfl w (a.msub (.s fc .r))) (fun f8 _=>aj ?_);refine cZ (fun d:Nat×List bG=>d.1<=m[h].2.C.length/\d.2.length=m[h].2.C.length) (fun d=>m[h].2.C.length - d.1) (fun d=> [(0,.string ⟨s.toArray⟩),(5,af J),(6,af K),(7,af M),(9,af S),(10,af R),(11,ai b.2),(12,af Q),(13,ai (Z:Int)),(26,af bm),(28,ac a4 p.1.length a5),(30,ac al c.1.1.length am),(31,ac W c.1.2.length X),(36,ai (h:Int)),(37,ai (d.1:Int))]) (fun d=> [an (ac b6 m[h].2.C.length b7) d.2,cJ (m.drop (h+1)),ak bm [ac a8 k.1.length a9] 24,an (ac a8 k.1.length a9) (m.map Prod.fst),ag a4 a5 p.1,ag al am c.1.1,ag W X c.1.2,ak Q [ac E b.1.length G] 27,ag E G b.1,ak S [ac A fs.length D] 24,ag A D fs,ak R [ac y l.length C] 27,ag y C l,ak J [ac F fs.length I] 24,ak K [ac r l.length v] 27,ak M [ai V,ai o,ai z] 33]) (0,m[h].2.C) (⟨aS _,rfl⟩) ?_;rintro⟨g,Y⟩ U
   try dsimp only
   obtain⟨U,b2⟩:g<=m[h].2.C.length/\Y.length=m[h].2.C.length:=U;refine aj ?_;refine cP h rfl ((SF.own (xs:=m.map Prod.fst) bn fc))<|aj ?_;refine ef rfl (fun w a=>SF.cell (SF.own (xs:=m.map Prod.fst) bn fc) ci default (j:=3) (by rw[ce];rfl) w a)<|ax (fun ch=>?_) (fun ch=>?_)
   ·have cf:g<m[h].2.C.length:=ω;refine ek (fun w a=>lD (xs:=Y) (v:= ac b6 m[h].2.C.length b7) a fc (x:=Y.getD g default) (CP ω _)) fun cj=>?_;refine aj ?_;refine cP h rfl ((SF.own (xs:=m.map Prod.fst) bn fc))<|aj ?_;refine ef rfl (fun w a=>SF.cell (SF.own (xs:=m.map Prod.fst) bn fc) ci default (j:=3) (by rw[ce];rfl) w a)<|aj ?_;refine cP g rfl ((SF.own (xs:=Y) b2 fc)) ?_;refine aC ?_;refine oE (jT (α:=bG) (A:=b6) (c:=b7) (m:=m[h].2.C.length) (f:=1) (us:= [ai (-7)]) ⟨(Y.getD g default).c, -7⟩ default rfl fc cf ⟨cj.1,by show aI (-7);decide⟩ aZ rfl rfl rfl rfl rfl rfl rfl rfl) (fun _ _=>aj ?_);refine cG (g+1,Y.set g ⟨(Y.getD g default).c, -7⟩) (⟨by show g+1<=_;omega,by show (Y.set g _).length=_;rw[bS];exact b2⟩) (by show _ - _<_ - _;omega)
   refine aj ?_;refine cG (h+1) (by show h+1<=_;omega) (by show _ - _<_ - _;omega)
  refine aj ?_;refine cZ (fun d:Nat×List bG=>d.1<=p.1.length/\d.2.length=p.1.length) (fun d=>p.1.length - d.1) (fun d=> [(0,.string ⟨s.toArray⟩),(5,af J),(6,af K),(7,af M),(9,af S),(10,af R),(11,ai b.2),(12,af Q),(13,ai (Z:Int)),(28,ac a4 p.1.length a5),(30,ac al c.1.1.length am),(31,ac W c.1.2.length X),(38,ai (d.1:Int))]) (fun d=> [an (ac a4 p.1.length a5) d.2,ag al am c.1.1,ag W X c.1.2,ak Q [ac E b.1.length G] 27,ag E G b.1,ak S [ac A fs.length D] 24,ag A D fs,ak R [ac y l.length C] 27,ag y C l,ak J [ac F fs.length I] 24,ak K [ac r l.length v] 27,ak M [ai V,ai o,ai z] 33]) (0,p.1) (⟨aS _,rfl⟩) ?_;rintro⟨g,Y⟩ U
  try dsimp only
  obtain⟨U,b2⟩:g<=p.1.length/\Y.length=p.1.length:=U;refine ax (fun ch=>?_) (fun ch=>?_)
  ·have cf:g<p.1.length:=ω;refine ek (fun w a=>lD (xs:=Y) (v:= ac a4 p.1.length a5) a fc (x:=Y.getD g default) (CP ω _)) fun cj=>?_;refine aj ?_;refine cP g rfl ((SF.own (xs:=Y) b2 fc)) ?_;refine aC ?_;refine oE (jT (α:=bG) (A:=a4) (c:=a5) (m:=p.1.length) (f:=1) (us:= [ai (-7)]) ⟨(Y.getD g default).c, -7⟩ default rfl fc cf ⟨cj.1,by show aI (-7);decide⟩ aZ rfl rfl rfl rfl rfl rfl rfl rfl) (fun _ _=>aj ?_);refine cG (g+1,Y.set g ⟨(Y.getD g default).c, -7⟩) (⟨by show g+1<=_;omega,by show (Y.set g _).length=_;rw[bS];exact b2⟩) (by show _ - _<_ - _;omega)
  refine aj ?_;refine cZ (fun d:Nat×List ey=>d.1<=c.1.1.length/\d.2.length=c.1.1.length) (fun d=>c.1.1.length - d.1) (fun d=> [(0,.string ⟨s.toArray⟩),(5,af J),(6,af K),(7,af M),(9,af S),(10,af R),(11,ai b.2),(12,af Q),(13,ai (Z:Int)),(30,ac al c.1.1.length am),(31,ac W c.1.2.length X),(39,ai (d.1:Int))]) (fun d=> [an (ac al c.1.1.length am) d.2,ag W X c.1.2,ak Q [ac E b.1.length G] 27,ag E G b.1,ak S [ac A fs.length D] 24,ag A D fs,ak R [ac y l.length C] 27,ag y C l,ak J [ac F fs.length I] 24,ak K [ac r l.length v] 27,ak M [ai V,ai o,ai z] 33]) (0,c.1.1) (⟨aS _,rfl⟩) ?_;rintro⟨b0,cb⟩ co
  try dsimp only
  obtain⟨co,c6⟩:b0<=c.1.1.length/\cb.length=c.1.1.length:=co;refine ax (fun eb=>?_) (fun eb=>?_)
  ·have d9:b0<c.1.1.length:=ω;refine aj ?_;refine cP b0 rfl ((SF.own (xs:=cb) c6 fc)) ?_;refine oE (fZ (α:=ey) (A:=al) (c:=am) (m:=c.1.1.length) (us:= [.string ⟨#[63]⟩]) ⟨[63]⟩ default rfl fc d9 trivial zt rfl rfl rfl rfl rfl rfl rfl rfl) (fun _ _=>aj ?_);refine cG (b0+1,cb.set b0 ⟨[63]⟩) (⟨by show b0+1<=_;omega,by show (cb.set b0 _).length=_;rw[bS];exact c6⟩) (by show _ - _<_ - _;omega)
  refine aj ?_;refine cZ (fun d:Nat×List qQ=>d.1<=c.1.2.length/\d.2.length=c.1.2.length) (fun d=>c.1.2.length - d.1) (fun d=> [(0,.string ⟨s.toArray⟩),(5,af J),(6,af K),(7,af M),(9,af S),(10,af R),(11,ai b.2),(12,af Q),(13,ai (Z:Int)),(31,ac W c.1.2.length X),(40,ai (d.1:Int))]) (fun d=> [an (ac W c.1.2.length X) d.2,ak Q [ac E b.1.length G] 27,ag E G b.1,ak S [ac A fs.length D] 24,ag A D fs,ak R [ac y l.length C] 27,ag y C l,ak J [ac F fs.length I] 24,ak K [ac r l.length v] 27,ak M [ai V,ai o,ai z] 33]) (0,c.1.2) (⟨aS _,rfl⟩) ?_;rintro⟨b1,b8⟩ cp
  try dsimp only
  obtain⟨cp,cl⟩:b1<=c.1.2.length/\b8.length=c.1.2.length:=cp;refine ax (fun eg=>?_) (fun eg=>?_)
  ·have d8:b1<c.1.2.length:=ω;refine aj ?_;refine cP b1 rfl ((SF.own (xs:=b8) cl fc)) ?_;refine oE (fZ (α:=qQ) (A:=W) (c:=X) (m:=c.1.2.length) (us:= [ai (-7)]) ⟨-7⟩ default rfl fc d8 (by show aI (-7);decide) Tryz.sizeOf29 rfl rfl rfl rfl rfl rfl rfl rfl) (fun _ _=>aj ?_);refine cG (b1+1,b8.set b1 ⟨-7⟩) (⟨by show b1+1<=_;omega,by show (b8.set b1 _).length=_;rw[bS];exact cl⟩) (by show _ - _<_ - _;omega)
  refine aj ?_;refine cG (Z+1) (by show Z+1<=_;omega) (by show _ - _<_ - _;omega)
 refine aj ?_;intro w a;exact⟨rfl,a.below⟩
end
