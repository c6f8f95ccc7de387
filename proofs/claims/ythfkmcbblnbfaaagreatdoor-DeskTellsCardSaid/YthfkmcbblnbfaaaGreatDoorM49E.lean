/- Lemmas of one proof. -/
import Derived.Test.YthfkmcbblnbfaaaGreatDoorM90E
import Derived.Test.YthfkmcbblnbfaaaGreatDoorM0E
import Derived.Test.YthfkmcbblnbfaaaGreatDoorM40E
import Derived.Test.YthfkmcbblnbfaaaGreatDoorM2E
import Derived.Test.YthfkmcbblnbfaaaGreatDoorM47E

namespace Go.Proofs.YthfkmcbblnbfaaaGreatDoor
set_option maxRecDepth 100000
set_option maxHeartbeats 16000000
open Go.RowKit
section
structure ew where
 b:List UInt8
 deriving DecidableEq
instance:Inhabited ew:=⟨⟨[]⟩⟩
instance:aH ew where
 k:=1
 rep _ _ cs s:=cs= [.string ⟨s.b.toArray⟩]/\True
 len h:=by rw[h.1];rfl
 keep h _:=h
 more h _:=h
 one h:=by rw[h.1];simp[Value.oneCell']
instance:Ow ew where
 ty:=9
 own _ F cs s:=(cs= [.string ⟨s.b.toArray⟩]/\True)/\∀b,¬F b
 rd_ h:=h.1
 lt h hb:=(h.2 _ hb).elim
 frame h _:=h
 cong h hf:=⟨h.1,fun b hb=>h.2 b ((hf b).2 hb)⟩
instance:dd ew where
 enc s:= [.string ⟨s.b.toArray⟩]
 wf _:=True
 rep_iff:=kl
 own_iff:=kl
instance:jU ew:=⟨48⟩
theorem pm:(Tryz.prog.info? 9).map (fun i=>(i.zero,i.size,i.bytes))=some (some (.string ByteArray.empty),1,16):=by kernel_rfl
section
variable {B:Nat} {w0:World} {H:List aP}
theorem SF.str {A:Option Addr} {xs:List ew} {m c k:Nat} (b:SF B w0 H A m c xs) (a:k<m):∀w,Cw B w0 H w->w.cell? ⟨ab A,ao A+k*1,none⟩=some (.string ⟨(xs.getD k default).b.toArray⟩):=fun w d=>SF.cell b a default (j:=0) rfl w d
end
def oS:List (List UInt8):= [Gx,Ot,JG,JH,ye]
structure kZ (w:World):Prop where
 wd:∀k s,oS[k]? =some s->w.cell? ⟨0,k,none⟩=some (.string ⟨s.toArray⟩)
 tab:Lib.TabIs Tryz.prog w "internal/strconv.uint64pow10" .u64 Lib.pow10Tab
structure nC (w:World):Prop where
 gl:kZ w
 ml:∃m,w.cell? ⟨wN.g 1,0,none⟩=some (.int .i64 m)
 es:∃te pe,w.cell? ⟨xA.g 15,0,none⟩=some (.iface te pe)
 er:∃te pe,w.cell? ⟨xA.g 16,0,none⟩=some (.iface te pe)
theorem L9:Tryz.prog.globalNamed "internal/strconv.uint64pow10" =some 4:=by kernel_rfl
theorem xq {w w':World} (b:Below w.heap.size w w') {a:Addr} {v:Value} (h:w.cell? a=some v):w'.cell? a=some v:=(b.cell (World.block_lt_of_cell? w a h)).trans h
theorem Ry {n:String} {g:Nat} {k:IntKind} {b:List Int} {w w':World} (d:Tryz.prog.globalNamed n=some g) (h:Lib.TabIs Tryz.prog w n k b) (c:Below w.heap.size w w'):Lib.TabIs Tryz.prog w' n k b:=by
 unfold Lib.TabIs World.var? at h⊢;rw[d] at h⊢;simp only[Option.bind_some] at h⊢;have e:g<w.heap.size:=by
  rcases gH g w.heap.size with a | a
  ·exact a
  simp[sW a] at h
 rw[c.block g e];exact h
theorem kZ.below {w w':World} (h:kZ w) (a:Below w.heap.size w w'):kZ w':=
 ⟨fun c d b=>xq a (h.wd c d b),Ry L9 h.tab a⟩
theorem kZ.cw {w0 w:World} {H:List aP} (h:kZ w0) (a:Cw w0.heap.size w0 H w):kZ w:=h.below a.below
theorem nC.below {w w':World} (h:nC w) (a:Below w.heap.size w w'):nC w':=by
 obtain⟨b,⟨f,c⟩,⟨j,g,d⟩,⟨k,i,e⟩⟩:=h;exact⟨b.below a,⟨f,xq a c⟩,⟨j,g,xq a d⟩,⟨k,i,xq a e⟩⟩
theorem nC.cw {w0 w:World} {H:List aP} (h:nC w0) (a:Cw w0.heap.size w0 H w):nC w:=h.below a.below
theorem IT (w:World) (k:Nat) (a:Array Obj):Below w.heap.size w (Go.Sort.grow (w.drewN k) a):=
 ⟨rfl,rfl,rfl,σ,fun c b=>Go.Sort.heap_grow_old (w.drewN k) a b⟩
theorem NE (n:Int) (b:aI n) (w:World) (c:kZ w):Calls Tryz.prog 128 #[ai n] w fun e w'=>e= .returned (.string ⟨(Lib.itoa n).toArray⟩)/\Below w.heap.size w w':=
 (Any.strconv_Itoa C2 n b.1 b.2 w c.tab).mono fun e w' a=>⟨a.1,by obtain⟨d,f,rfl⟩:=a.2;exact IT w d f⟩
theorem K4 (A:Option Addr) (c:Nat) (l:List ew) (w:World) (y:Sl w (ac A l.length c) l) (x:(Lib.join (l.map ew.b) [32]).length<=140737488355328) :
  Calls Tryz.prog 129 #[ac A l.length c,.string ⟨[32].toArray⟩] w fun e w'=>e= .returned (.string ⟨(Lib.join (l.map ew.b) [32]).toArray⟩)/\Below w.heap.size w w':=by
 by_cases g:l= []
 ·subst g;refine(Any.strings_Join_none vC tU A c ⟨[32].toArray⟩ w).mono fun e w' f=>⟨f.1,?_⟩
  rw[f.2];exact Below.refl _ _
 obtain⟨D,E,z,p,G,q,r⟩:=y;injection z with k _ m
 subst k m;obtain⟨j,C,rfl,s,t⟩:=r (rW.2 g);have h:(l.map fun a:ew=>(⟨a.b.toArray⟩:ByteArray)).map (fun d=>d.data.toList)=l.map ew.b:=by rw[List.map_map];exact oy fun a _=>σ
 have:=Any.strings_Join vC tU j C c (l.map fun a:ew=>(⟨a.b.toArray⟩:ByteArray)) ⟨[32].toArray⟩ w (fun i d b=>by
  rw[dw] at b
  cases hj:l[i]? with
  | none=>rw[hj] at b;cases b
  | some a=>
   rw[hj] at b;obtain⟨F,⟨u,_⟩,v⟩:=t i a hj;have:=v 0 (.string ⟨a.b.toArray⟩) (by rw[u];rfl);have b:(⟨a.b.toArray⟩:ByteArray)=d:=fE b;rw[<-b];simpa [aH.k] using this) s (by rw[aQ];exact q) (by rw[aQ];exact p) (by rw[h];exact x)
 rw[h,aQ] at this;exact this
end
section
def qD (m:av):ir:=⟨m.S,m.T,m.F.length,dg m.B,m.out⟩
theorem DO (a:MA) (m:av) (w:World) (c:fZ w.heap.size w a m) (h:m.B.length<=8) (i:m.out.length<=1000000) :
  Calls Tryz.prog 67 #[.agg #[ac a.Af m.F.length a.cf,ac a.Ab m.B.length a.cb,ac a.Ai m.I.length a.ci,ac a.Ao m.out.length a.co,ai m.S,ai m.T]] w fun e w'=> ∃g:Option Addr×Nat,True/\e= .returned (.agg #[ai m.S,ai m.T,ai (m.F.length:Int),ai (dg m.B),ac g.1 m.out.length g.2])/\Cw w.heap.size w [an (ac g.1 m.out.length g.2) m.out] w':=by
 refine enter Tryz.func67 rfl Tryz.ntmps67 rfl<|aj ?_;refine fun j _=>aj ?_;refine fun k _=>aj ?_;refine bh [0,3,6,9,12,15,18,21,24,30,33,29,38,39,44] [14] rfl<|aj ?_;refine lc rfl rfl Tryz.call125 (fun w b=>fT (wI _ m.B w (b.ro c.b) h)) ?_;refine pE rfl (fm rfl rfl rfl mo (fun w b=>jZ _ m.out w (b.ro c.o) i)) (fun⟨d,f⟩ _=>?_);refine aO ?_;intro w b;exact⟨(d,f),trivial,rfl,b.msub ms⟩
end
section
section
variable {P:Program} {n:NF} {o:Oper} {env:cM} {B:Nat} {w0:World} {H:List aP}
theorem GT {i j:Operand} {t e:TypeId} {p:IntKind} {l:List Value} {k m:Nat} {v:Value} (f:P.underlying t=some (.array m e)) (ha:∀w,(isAgg e).run P w= .ok false w) (h:∀w,(sizeOf e).run P w= .ok 1 w) (r:k<m) (g:l[k]? =some v)
  (d:o.op= .index t i j) (hi:opv env i=some (.agg l.toArray)) (c:opv env j=some (.int p (k:Int))):QS P n B w0 o env H v:=by
 intro q w a s;have b:(0:Int)<=k/\(k:Int)<m:=ω;unfold execOp;simp only[d,a.opv hi,a.opv c,Sem.run_bind,Instr.index,asIntOf,Sem.run_pure,Result.andThen_ok,run_underlying f,b,and_self,if_true,h,Go.part,ha,bq,vc,List.getElem?_toArray,g,mF,if_false]
theorem GW {t e:TypeId} {a:Array (Nat×Operand)} {vs:List (Nat×Value)} {m:Nat} {z:Value} {cs:Array Value} (h:∀w,(zeroValue t).run P w= .ok z w) (f:P.underlying t=some (.array m e)) (d:∀w,(sizeOf e).run P w= .ok 1 w)
  (c:o.op= .build t a) (g:pvs env a.toList=some vs) (b:Instr.fill (fun i=>some (i*1,1)) z.cells vs=some cs):QS P n B w0 o env H (.agg cs):=
 D8 c g fun w=>by
  unfold Instr.build;simp only[Sem.run_bind,h,Result.andThen_ok,run_underlying f,d,b,Sem.run_pure]
theorem GU {i j:Operand} {t e:TypeId} {p:IntKind} {b q c k m:Nat} (h:P.underlying t=some (.array m e)) (l:∀w,(sizeOf e).run P w= .ok c w) (s:k<m) (g:o.op= .indexAddr t i j)
  (hi:opv env i=some (.pointer (some ⟨b,q,none⟩))) (f:opv env j=some (.int p (k:Int))):QS P n B w0 o env H (.pointer (some ⟨b,q+k*c,none⟩)):=by
 intro r w a u;have d:(0:Int)<=k/\(k:Int)<m:=ω;unfold execOp;simp only[g,a.opv hi,a.opv f,Sem.run_bind,Instr.indexAt,Instr.sureAddr,asIntOf,Sem.run_pure,Result.andThen_ok,run_underlying h,d,and_self,if_true,l,gR,bq]
end
def ls (r:ir) (k:Nat):List ew:=((gM r).take k).map ew.mk
theorem uu {r:ir} {k:Nat} {b:List UInt8} (c:k<(gM r).length) (a:(gM r).getD k []=b):ls r (k+1)=ls r k++ [⟨b⟩]:=by
 unfold ls;rw[eE _ k [] c,cS,a];rfl
def C7 (r:ir):List Int:= [r.S,r.T,r.depth,r.cells]
theorem Rv (r:ir) {k:Nat} (a:k<4):(gM r).getD (2*k) []=oS.getD k []:=by
 match k,a with
 | 0,_ | 1,_ | 2,_ | 3,_=>rfl
theorem TE (r:ir) {k:Nat} (a:k<4):(gM r).getD (2*k+1) []=Lib.itoa ((C7 r).getD k 0):=by
 match k,a with
 | 0,_ | 1,_ | 2,_ | 3,_=>rfl
theorem za (r:ir):(gM r).length=9+r.out.length:=by unfold gM;simp;omega
theorem TD (r:ir) {j:Nat} (a:j<r.out.length):(gM r).getD (9+j) []=Lib.itoa (r.out.getD j 0):=by
 unfold gM;rw[ap,dx σ,dw];simp[aq a]
theorem Ns {r:ir} (a:Fq r) (k:Nat):bP ((C7 r).getD k 0)=true:=by
 match k with
 | 0=>exact a.s
 | 1=>exact a.t
 | 2=>exact a.d
 | 3=>exact a.c
 | k+4=>rfl
theorem Bu:∀(k a:Nat),a<10 ^ (k+1)->(Lib.decDigits a).length<=k+1
 | 0,a,h=>by rw[Lib.decDigits,dif_pos (by simpa using h)];simp
 | k+1,a,h=>by
  rw[Lib.decDigits]
  split
  ·simp
  have:=Bu k (a / 10) (by rw[Nat.pow_succ] at h;omega);rw[au,aT];omega
theorem rH {n:Int} (h:bP n=true):(Lib.itoa n).length<=11:=by
 unfold bP at h;simp only[dv,decide_eq_true_eq] at h;unfold Lib.itoa
 split
 ·have:=Bu 9 n.natAbs ω;rw[br];omega
 have:=Bu 9 n.toNat ω;omega
theorem Ez:∀{l:List (List UInt8)} {k:Nat},(∀b∈l,b.length<=k)->(Lib.join l [32]).length<=l.length*(k+1)
 | [],k,_=>by simp[Lib.join]
 | [x],k,h=>by rw[Cf];have:=h x σ;simp;omega
 | x::y::l,k,h=>by
  rw[Ey x σ,au,br];have:=h x σ;have c:=Ez (l:=y::l) (k:=k) fun b a=>h b (by simp at a⊢;exact .inr a);simp only[br] at c⊢;rw[iE (l.length+1)];omega
theorem NB {r:ir} (b:Fq r):(lj r).length<=228:=by
 have:=b.l;have c:=Ez (l:=gM r) (k:=11) fun e a=>by
  unfold gM at a;rcases dQ.1 a with a | a
  ·simp only[ec,yc,or_false] at a;rcases a with rfl | rfl | rfl | rfl | rfl | rfl | rfl | rfl | rfl
   ·decide
   ·exact rH b.s
   ·decide
   ·exact rH b.t
   ·decide
   ·exact rH b.d
   ·decide
   ·exact rH b.c
   decide
  obtain⟨n,d,rfl⟩:=ll.1 a;exact rH (b.o n d)
 rw[za] at c;unfold lj;have:(9+r.out.length)*(11+1)<=19*12:=Nat.mul_le_mul ω (aF _);omega
theorem Cc {B:Nat} {w0:World} {H:List aP} (b:Nat) (l:List ew) (A:Option Addr) (c:Nat) (n:Int) (i:aI n) (k:l.length<=1000) (h:∀H w,Cw B w0 H w->kZ w) (w:World)
  (a:Cw B w0 (ak b [ac A l.length c] 48::an (ac A l.length c) l::H) w) :
  Calls Tryz.prog 127 #[ai n,af b] w fun e w'=> ∃g:Option Addr×Nat,True/\e= .returned (.tuple #[])/\
   Cw B w0 (ak b [ac g.1 (l++ [(⟨Lib.itoa n⟩:ew)]).length g.2] 48::an (ac g.1 (l++ [(⟨Lib.itoa n⟩:ew)]).length g.2) (l++ [(⟨Lib.itoa n⟩:ew)])::H) w':=by
 refine bF Tryz.func127 rfl Tryz.ntmps127 rfl a<|bh [0,3,8,11,14,17] [4,5] rfl<|aj ?_;refine lc rfl rfl Tryz.call128 (fun w a=>NE n i w (h _ w a))<|aj ?_;intro j _;refine pE rfl (bV (α:=ew) (bytes:=16) ⟨Lib.itoa n⟩ [] rfl ln (aS pm) rfl (eB fc fc) (df trivial) ω ω rfl rfl rfl) (fun⟨d,f⟩ _=>?_);refine aO ?_;intro w a;exact⟨(d,f),trivial,rfl,a.msub ms⟩
theorem Mt {k:Nat} (a:k<4):oS[k]? =some (oS.getD k []):=by rw[ap,aq (by show k<5;omega)];rfl
theorem PQ (r:ir) {k:Nat} (a:k<4):([ai r.S,ai r.T,ai r.depth,ai r.cells]:List Value)[k]? =some (ai ((C7 r).getD k 0)):=by
 match k,a with
 | 0,_ | 1,_ | 2,_ | 3,_=>rfl
theorem vY (A:Option Addr) (c:Nat) (r:ir) (w:World) (z:Sl w (ac A r.out.length c) r.out) (m:Fq r) (J:kZ w) :
  Calls Tryz.prog 70 #[.agg #[ai r.S,ai r.T,ai r.depth,ai r.cells,ac A r.out.length c]] w fun e w'=>e= .returned (.string ⟨(lj r).toArray⟩)/\Below w.heap.size w w':=by
 have:=m.l;have:=za r;have l:∀H w',Cw w.heap.size w H w'->kZ w':=fun H w' i=>J.cw i;refine enter Tryz.func70 rfl Tryz.ntmps70 rfl<|aj ?_;refine fun k _=>aj ?_;intro f _;refine bG<|cn<|bK<|aC ?_;refine aC ?_;refine bG<|db (fun w i=>Cw.nilO ew i) ?_;refine cn<|cn<|bK<|aC ?_;refine dG (cT fc bB rfl rfl (by rfl)) rfl rfl ?_;refine aC ?_;refine dG (cT fc bB rfl rfl (by rfl)) rfl rfl ?_;refine aC ?_;refine dG (cT fc bB rfl rfl (by rfl)) rfl rfl ?_;refine aC ?_;refine dG (cT fc bB rfl rfl (by rfl)) rfl rfl ?_;refine sE (GW (cs:= #[ai r.S,ai r.T,ai r.depth,ai r.cells]) Tryz.zeroValue185 VY bg rfl rfl (by rfl))<|aj ?_;refine de (fun a:Nat×Option Addr×Nat=>a.1<=4) (fun a=>4 - a.1) (fun a=> [(1,af k),(3,af f),(4,.func (.func 127) #[] #[af f]),(18,.agg #[ai r.S,ai r.T,ai r.depth,ai r.cells]),(19,ai (a.1:Int))]) (fun a=> [ak k [ai r.S,ai r.T,ai r.depth,ai r.cells,ac A r.out.length c] 37,ak f [ac a.2.1 (ls r (2*a.1)).length a.2.2] 48,ag a.2.1 a.2.2 (ls r (2*a.1))]) (0,none,0) κ ?_;rintro⟨d,S,U⟩ L
 try dsimp only
 have:d<=4:=L;refine ax (fun s=>?_) (fun s=>?_)
 ·have j:d<4:=ω;have M:=uu (r:=r) (k:=2*d) ω (Rv r j);have N:=uu (r:=r) (k:=2*d+1) ω (TE r j);have R:(ls r (2*d)).length<=100:=by unfold ls;rw[aQ,aB];omega
  have:(ls r (2*d+1)).length<=100:=by unfold ls;rw[aQ,aB];omega
  refine aj ?_;refine sE (GT (k:=d) VY bB bg j (PQ r j) rfl rfl rfl) ?_;refine aC ?_;refine aC ?_;refine bG<|dq (fun _:Option Addr×Nat=>True) (fun a=> [(1,af k),(3,af f),(4,.func (.func 127) #[] #[af f]),(6,ai ((C7 r).getD d 0)),(18,.agg #[ai r.S,ai r.T,ai r.depth,ai r.cells]),(19,ai (d:Int))]) (fun a=> [ak k [ai r.S,ai r.T,ai r.depth,ai r.cells,ac A r.out.length c] 37,ak f [ac a.1 (ls r (2*d+1)).length a.2] 48,ag a.1 a.2 (ls r (2*d+1))]) ?_ ?_
  ·refine bh [0,3,6,9,14,17,20] [5,6] rfl<|aj ?_;refine tE rfl (GU (k:=d) VX Fu ω rfl rfl rfl) ?_;refine tE rfl (bU (v:= .string ⟨(oS.getD d []).toArray⟩) (fun w g=>by have:=(l _ w g).wd d _ (Mt j);simpa using this) rfl rfl Tryz.isAgg9)<|aj ?_;intro V _;refine pE rfl (bV (α:=ew) (bytes:=16) ⟨oS.getD d []⟩ [] M ln (aS pm) rfl (eB fc fc) (df trivial) ω ω rfl rfl rfl) (fun⟨p,q⟩ _=>?_);refine aO ?_;refine bR<|bW (p,q) trivial (hh:=(fun _ i=>i.msub ms))
  rintro⟨p,q⟩ _;refine aO ?_;refine oE (eW rfl rfl rfl Tryz.call127 (fun w g=>Cc f (ls r (2*d+1)) p q _ (nu (Ns m d)) ω l w (g.msub (.s fc (.s fc .r))))) (fun⟨C,F⟩ _=>?_);refine aO ?_;rw[<-N];refine cJ (d+1,C,F) (by show d+1<=4;omega) (by show _ - _<_ - _;omega)
 obtain rfl:d=4:=ω;have O:ls r (9+0)=ls r (2*4)++ [⟨ye⟩]:=uu (r:=r) (k:=8) (b:=ye) ω rfl;have R:(ls r (2*4)).length<=100:=by unfold ls;rw[aQ,aB];omega
 refine aj ?_;refine sE (GU (k:=4) VX Fu ω rfl rfl rfl) ?_;refine sE (bU (v:= .string ⟨ye.toArray⟩) (fun w g=>by have:=(l _ w g).wd 4 ye rfl;simpa using this) rfl rfl Tryz.isAgg9)<|aj ?_;intro W _;refine oE (bV (α:=ew) (bytes:=16) ⟨ye⟩ [] O ln (aS pm) rfl (eB fc fc) (df trivial) ω ω rfl rfl rfl) (fun⟨D,G⟩ _=>?_);refine aO ?_;refine de (fun a:Nat×Option Addr×Nat=>a.1<=r.out.length) (fun a=>r.out.length - a.1) (fun a=> [(3,af f),(4,.func (.func 127) #[] #[af f]),(39,ac A r.out.length c),(40,ai (r.out.length:Int)),(41,ai (a.1:Int))]) (fun a=> [ak f [ac a.2.1 (ls r (9+a.1)).length a.2.2] 48,ag a.2.1 a.2.2 (ls r (9+a.1))]) (0,D,G) (aU _) ?_;rintro⟨h,t,u⟩ K
 try dsimp only
 have:h<=r.out.length:=K;refine ax (fun s=>?_) (fun s=>?_)
 ·have y:h<r.out.length:=ω;have Q:=uu (r:=r) (k:=9+h) ω (TD r y);have:(ls r (9+h)).length<=100:=by unfold ls;rw[aQ,aB];omega
  refine aj ?_;refine da _ rfl (.ro z) ?_;refine mQ rfl (.ro z)<|aj ?_;refine oE (eW rfl rfl rfl Tryz.call127 (fun w g=>Cc f (ls r (9+h)) t u _ (nu (m.o _ (cC y))) ω l w (g.msub (.s fc (.s fc .r))))) (fun⟨E,I⟩ _=>?_);refine aO ?_;rw[<-Q];refine cJ (h+1,E,I) (by show h+1<=_;omega) (by show _ - _<_ - _;omega)
 obtain rfl:h=r.out.length:=ω;have x:(ls r (9+r.out.length)).map ew.b=gM r:=by
  unfold ls;rw[bD ω,List.map_map];exact List.map_id _
 have:=NB m;refine aj ?_;refine cE rfl Tryz.call129 (fun w g=>K4 t u (ls r (9+r.out.length)) w (SF.at_ (SF.own rfl fc) g) (by rw[x];show (lj r).length<=_;omega))<|aj ?_;rw[x];refine aj ?_;intro w g;exact⟨rfl,g.below⟩
end
section
end
section
theorem pZ {k:Nat} (h:k<10):Lib.decDigits k= [UInt8.ofNat (48+k)]:=by rw[Lib.decDigits,dif_pos h]
theorem R8 {fs:List aw} {m:av} (h:bQ fs m):mG (qD m)=0:=by
 obtain⟨b,c⟩:=h.st;have d:0<=m.T/\m.T<=5:=by
  by_cases a:m.S=3
  ·have:=h.t3 a;omega
  have:=h.t0 a;omega
 have:=(gO h.bl).2;have:=h.n6;have e:dp m.out=false:=by
  cases a:dp m.out with
  | false=>rfl
  | true=>exact absurd h.oi (nO.1 a)
 unfold mG;rw[if_neg (by rw[show be (qD m).S 0 3=true from dJ.2 ⟨b,c⟩];decide),
  if_neg (by
   rw[show be (qD m).T 0 5=true from dJ.2 d,show be (qD m).depth 0 6=true from dJ.2 ⟨by show (0:Int)<=m.F.length;omega,by show (m.F.length:Int)<=6;omega⟩,
    show be (qD m).cells 0 40=true from dJ.2 ⟨by show (0:Int)<=dg m.B;omega,by show (dg m.B:Int)<=40;omega⟩]
   decide),
  if_neg (by show¬10<m.out.length;have:=h.ob;omega),if_neg (by rw[show dp (qD m).out=false from e];decide)]
end
section
instance:aH jM where
 k:=3
 rep _ _ cs a:=cs= [.int .i64 a.kind,.int .i64 a.of_,.int .i64 a.n]/\aI a.kind/\aI a.of_/\aI a.n
 len h:=by rw[h.1];rfl
 keep h _:=h
 more h _:=h
 one h:=by rw[h.1];simp[Value.oneCell']
instance:qc jM where
 enc a:= [.int .i64 a.kind,.int .i64 a.of_,.int .i64 a.n]
 enc_eq h:=h.1
structure rV where
 n:Int
 deriving DecidableEq
instance:Inhabited rV:=⟨⟨0⟩⟩
instance:aH rV where
 k:=1
 rep _ _ cs e:=cs= [.int .i64 e.n]/\aI e.n
 len h:=by rw[h.1];rfl
 keep h _:=h
 more h _:=h
 one h:=by rw[h.1];simp[Value.oneCell']
instance:Ow rV where
 ty:=29
 own _ F cs e:=(cs= [.int .i64 e.n]/\aI e.n)/\∀b,¬F b
 rd_ h:=h.1
 lt h hb:=(h.2 _ hb).elim
 frame h _:=h
 cong h hf:=⟨h.1,fun b hb=>h.2 b ((hf b).2 hb)⟩
instance:dd rV where
 enc e:= [.int .i64 e.n]
 wf e:=aI e.n
 rep_iff:=kl
 own_iff:=kl
instance:jU rV:=⟨49⟩
theorem Jr:(Tryz.prog.info? 29).map (fun i=>(i.zero,i.size,i.bytes))=some (some (ai 0),1,8):=by kernel_rfl
theorem SF.err {B:Nat} {w0:World} {H:List aP} {A:Option Addr} {xs:List rV} {m c k:Nat} (b:SF B w0 H A m c xs) (a:k<m):∀w,Cw B w0 H w->w.cell? ⟨ab A,ao A+k*1,none⟩=some (ai (xs.getD k default).n):=fun w d=>SF.cell b a default (j:=0) rfl w d
def iy (l:List jM) (k:Nat):jM:=l.getD k default
theorem SF.act {B:Nat} {w0:World} {H:List aP} {A:Option Addr} {xs:List jM} {m c k:Nat} (d:SF B w0 H A m c xs) (b:k<m):∀w,Cw B w0 H w->∀j v,([ai (iy xs k).kind,ai (iy xs k).of_,ai (iy xs k).n]:List Value)[j]? =some v->w.cell? ⟨ab A,ao A+k*3+j,none⟩=some v:=
 fun w e _ _ a=>SF.cell d b default a w e
theorem HU {w:World} {B:Nat} {A:Option Addr} {xs:List jM} {m c k:Nat} (h:bN w B (ac A m c) xs) (a:k<m):aI (iy xs k).n:=by
 obtain⟨d,b,_⟩:=h.elr a default;exact b.2.2.2
theorem Uh {fs:List aw} {l:List av} {a:jM} (h:(iV fs l a).2=0):lF fs l/\lF fs (iV fs l a).1/\(iV fs l a).1.length=l.length:=by
 unfold iV at h⊢
 split at h
 ·rename_i e;exact absurd h e
 rename_i e;have r:du fs l=0:=dt e;have b:=pB r
 split at h
 ·rename_i f;exact absurd h f
 rename_i f;have ha:qa l.length a=0:=dt f;obtain⟨t,u⟩:=L7 ha;have i:a.of_.toNat<l.length:=ω;refine⟨b,?_⟩;rw[if_neg e,if_neg f];unfold LA at h⊢
 split
 ·rename_i g;rw[if_pos g] at h;have h:iI fs l a.n=0:=h;obtain⟨_,p,_⟩:=GA h;have q:=(zH (fs:=fs) (pK fs l a.n)).1;have c:=(su (pK fs l a.n)).trans (lM fs l a.n);show lF fs (mw fs l a.n)/\(mw fs l a.n).length=l.length;unfold mw;rw[if_pos h];exact⟨⟨b.p,b.f,q.right (ur b p),by rw[c];exact b.n0,by rw[c];exact b.n4⟩,c⟩
 rename_i g;rw[if_neg g] at h
 split
 ·rename_i k;rw[if_pos k] at h;have h:jk fs l a.of_ a.n=0:=h;have j:jc fs l a.of_ a.n=0:=dt fun d=>by
   unfold jk at h;rw[if_pos d] at h;exact d h
  obtain⟨_,s,d⟩:=DH j;have m:(az l a.of_.toNat).I.length≠10:=fun d=>by
   unfold jk at h;rw[if_neg (fun h=>h j),if_pos d] at h
   cases h
  have c:(l.set a.of_.toNat (gP (az l a.of_.toNat) a.n)).length=l.length:=cI ..;show lF fs (my fs l a.of_ a.n)/\(my fs l a.of_ a.n).length=l.length;unfold my;rw[if_pos h];exact⟨⟨b.p,b.f,xt b.r (xT (b.r _ (gD i)) d m),by rw[c];exact b.n0,by rw[c];exact b.n4⟩,c⟩
 rename_i k
 split
 ·have c:(l.set a.of_.toNat (dP (az l a.of_.toNat))).length=l.length:=cI ..;show lF fs (l.set a.of_.toNat (dP (az l a.of_.toNat)))/\(l.set a.of_.toNat (dP (az l a.of_.toNat))).length=l.length;exact⟨⟨b.p,b.f,xt b.r (wG (b.r _ (gD i))),by rw[c];exact b.n0,by rw[c];exact b.n4⟩,c⟩
 exact⟨b,rfl⟩
def fG (fs:List aw) (l:List av) (acts:List jM):Nat->List av
 | 0=>l
 | k+1=>if (iV fs (fG fs l acts k) (iy acts k)).2=0 then (iV fs (fG fs l acts k) (iy acts k)).1 else fG fs l acts k
def mV (fs:List aw) (l:List av) (acts:List jM) (n:Nat):List rV:=(List.range n).map fun k=>⟨(iV fs (fG fs l acts k) (iy acts k)).2⟩
theorem QI (fs:List aw) (l:List av) (a:List jM) (n:Nat):(mV fs l a n).length=n:=by unfold mV;rw[aQ,kv]
theorem NY (fs:List aw) (l:List av) (a:List jM) (n:Nat):mV fs l a (n+1)=mV fs l a n++ [⟨(iV fs (fG fs l a n) (iy a n)).2⟩]:=by
 unfold mV;rw[iA,cS];rfl
theorem JI {fs:List aw} {l:List av} (a:List jM) (b:lF fs l):∀k,lF fs (fG fs l a k)/\(fG fs l a k).length=l.length
 | 0=>⟨b,rfl⟩
 | k+1=>by
  have c:=JI a b k;unfold fG
  split
  ·rename_i d;obtain⟨_,e,f⟩:=Uh d;exact⟨e,f.trans c.2⟩
  exact c
def mP (l:List av):List ew:=l.map fun m=>⟨lj (qD m)⟩
theorem FR {l:List av} {k:Nat} (a:k<l.length):mP (l.take (k+1))=mP (l.take k)++ [⟨lj (qD (az l k))⟩]:=by
 unfold mP;rw[th a,cS];rfl
def Id (P:(List aw×List av)×Int) (acts:List jM):(List ew×List rV)×Int:=
 if P.2≠0 then (([],[]),P.2) else if 20<acts.length then (([],[]),2) else ((mP (fG P.1.1 P.1.2 acts acts.length),mV P.1.1 P.1.2 acts acts.length),0)
def Sm (e:Int):Prop:=0<=e/\e<=20
theorem uk {α:Type} {g:α->Int} (h:∀x,Sm (g x)):∀l:List α,Sm (dZ g l)
 | []=>(show Sm 0 from⟨by decide,by decide⟩)
 | x::l=>by
  simp only[dZ]
  split
  ·exact h x
  exact uk h l
theorem TG (o:bJ):Sm (gg o):=by
 unfold gg
 repeat' split
 all_goals exact⟨κ,κ⟩
theorem JY:∀l:List bJ,Sm (fD l)
 | []=>⟨by decide,by decide⟩
 | x::l=>by
  simp only[fD]
  split
  ·exact TG x
  exact JY l
theorem Pc (l:List bJ):Sm (eJ l):=by
 unfold eJ
 split
 ·exact⟨κ,κ⟩
 exact JY l
theorem RE (n:Nat) (f:aw):Sm (ft n f):=by
 unfold ft
 repeat' split
 all_goals first | exact⟨κ,κ⟩ | exact Pc _
theorem Pb (fs:List aw):Sm (dN fs):=by
 unfold dN dc
 repeat' split
 all_goals first | exact⟨κ,κ⟩ | exact uk (RE _) _
theorem MW (fs:List aw) (nb:Nat) (l:List aL) (i:Nat):Sm (gv fs nb l i):=by
 unfold gv
 repeat' split
 all_goals exact⟨κ,κ⟩
theorem J0 (l:List (List Int)):Sm (cH l):=by
 unfold cH
 repeat' split
 all_goals exact⟨κ,κ⟩
theorem JZ (fs:List aw) (m:av):Sm (lA fs m):=by
 unfold lA
 repeat' split
 all_goals first | exact⟨κ,κ⟩ | exact uk (fun _=>MW _ _ _ _) _
theorem MV (fs:List aw) (m:av):Sm (ff fs m):=by
 unfold ff
 repeat' split
 all_goals first | exact J0 _ | exact JZ _ _ | exact⟨κ,κ⟩
theorem MU (fs:List aw) (l:List av):Sm (du fs l):=by
 unfold du
 repeat' split
 all_goals first | exact⟨κ,κ⟩ | exact Pb _ | exact uk (MV fs) _
theorem Tl {fs:List aw} {l:List av} {a:jM} :aI (iV fs l a).2:=by
 suffices h:Sm (iV fs l a).2 by
  obtain⟨b,c⟩:=h;exact⟨ω,ω⟩
 unfold iV qa LA iI jk jc
 repeat' split
 all_goals first | exact MU _ _ | (unfold Sm;dsimp only;omega)
theorem KP {fs:List aw} (e:dN fs=0):bQ fs (dk fs):=by
 have c:=ot e;have b:=og e;obtain⟨_,_,g⟩:=iD c.p;obtain⟨_,_,_,i,_⟩:=kX (g _ (jL b));refine⟨(show (0:Int)<=0/\(0:Int)<=3 from by decide),fun a=>(by cases a),fun _=>rfl,(show cH []=0 from by decide),(show ([]:List Int).length<=10 from by decide),(show ([]:List Int).length<=10 from by decide),fun _ a=>(by cases a),fun _ a=>(by cases a),by show 1<=6;decide,⟨fun a=>(by cases a),fun a=>(by cases a)⟩,fun l j=>?_,fun _=>rfl,fun f d=>?_,fun a=>(by cases a)⟩
 ·have:l=⟨0,0,cX (ar fs 0).L,[]⟩:=cL.1 j;subst this;exact⟨by show (0:Int)<=0;omega,by show (0:Int)<fs.length;omega⟩
 have d:f<1:=d;obtain rfl:f=0:=ω;refine⟨[],?_,EE i,rfl,fun k h=>absurd h (gt k),fun _ a=>(by cases a)⟩;exact(c.e 0 b).z
theorem PY {s:List UInt8} {n:Int} (h:(fV s n).2=0):lF (fV s n).1.1 (fV s n).1.2:=by
 unfold fV at h⊢
 split at h
 ·rename_i a;rw[if_pos a];have d:jE s=0/\1<=n/\n<=4:=by
   unfold gU at a
   split at a
   ·cases a
   rename_i h;exact⟨a,ω,ω⟩
  have b:dN (eA s).1=0:=by
   have:=d.1;unfold jE at this
   split at this
   ·exact this
   rename_i h;exact absurd this h
  refine⟨b,ot b,fun e c=>?_,?_,?_⟩
  ·obtain rfl:=List.eq_of_mem_replicate c;exact KP b
  ·show 1<=(List.replicate _ _).length;rw[vh];omega
  show (List.replicate _ _).length<=4;rw[vh];omega
 rename_i a;exact absurd h a
theorem N4 (s:List UInt8) (n:Int) (A:Option Addr) (c:Nat) (a:List jM) (R:(List ew×List rV)×Int) (p:Id (fV s n) a=R) (b0:s.length<=140737488355320) (w:World) (K:Sl w (ac A a.length c) a) (bl:kZ w) :
  Calls Tryz.prog 17 #[.string ⟨s.toArray⟩,ai n,ac A a.length c] w fun e w'=> ∃g:(Option Addr×Nat)×Option Addr×Nat,True/\e= .returned (.tuple #[ac g.1.1 R.1.1.length g.1.2,ac g.2.1 R.1.2.length g.2.2,ai R.2])/\
   Cw w.heap.size w [an (ac g.1.1 R.1.1.length g.1.2) R.1.1,an (ac g.2.1 R.1.2.length g.2.2) R.1.2] w':=by
 have:=bA K;have bs:∀H w',Cw w.heap.size w H w'->kZ w':=fun H w' h=>bl.cw h;obtain⟨P,bm⟩:∃P,fV s n=P:=⟨_,rfl⟩
 have S:=fun w=>yJ s n b0 w;have T:=PY (s:=s) (n:=n);rw[bm] at S T p;obtain⟨⟨b,d⟩,V⟩:=P;simp only at S T;unfold Id at p;simp only at p;refine enter Tryz.func17 rfl Tryz.ntmps17 rfl<|aj ?_;refine et rfl VU (fun w i=>S w) (fun⟨⟨k,l⟩,a0,a9⟩ _=>?_);refine aO ?_;refine fun E _=>aj ?_;refine fun b6 _=>cR 29 (fun y=>?_) (fun y=>?_)
 ·have y:V=0:=of_decide_eq_true y;subst y;rw[if_neg (fun h=>h rfl)] at p;have bo:=T rfl;refine ax (fun u=>?_) (fun u=>?_)
  ·have u:20<a.length:=by have u:(20:Int)<a.length:=u;omega
   rw[if_pos u] at p;subst p;refine aj ?_;refine cN (t:=35) (v':= .bool true) rfl rfl<|aZ rfl<|aj ?_;intro w i;exact⟨((none,0),(none,0)),trivial,rfl,(Cw.nilO ew (Cw.nilO rV i)).msub ms⟩
  have u:¬20<a.length:=by have u:¬(20:Int)<a.length:=u;omega
  rw[if_neg u] at p;refine aj ?_;refine cN (t:=35) (v':= .bool false) rfl rfl<|bY rfl<|aj ?_;refine fun x _=>aj ?_;refine db (fun w h=>Cw.nilO rV h) ?_;refine de (fun g:Nat×Option Addr×Nat×Option Addr×Nat=>g.1<=a.length) (fun g=>a.length - g.1) (fun g=> [(9,af E),(12,af x),(41,ac A a.length c),(42,ai (a.length:Int)),(43,ai (g.1:Int))]) (fun g=> [ak E [ac k b.length l] 24,ag k l b,ak x [ac g.2.1 (fG b d a g.1).length g.2.2.1,ac k b.length l,ac g.2.2.2.1 (mV b d a g.1).length g.2.2.2.2] 112,ag g.2.1 g.2.2.1 (fG b d a g.1),ag g.2.2.2.1 g.2.2.2.2 (mV b d a g.1)]) (0,a0,a9,none,0) (aU _) ?_ (hh:=(fun _ h=>h.msub ms));rintro⟨f,q,r,z,C⟩ Z
  try dsimp only
  have Z:f<=a.length:=Z;obtain⟨J,cd⟩:=JI a bo f;have X:=QI b d a f;refine ax (fun b1=>?_) (fun b1=>?_)
  ·have Q:f<a.length:=ω;obtain⟨j,F⟩:∃j,iV b (fG b d a f) (iy a f)=j:=⟨_,rfl⟩
   have bt:aI j.2:=by rw[<-F];exact Tl
   have b3:mV b d a (f+1)=mV b d a f++ [⟨j.2⟩]:=by rw[<-F];exact NY b d a f
   refine aj ?_;refine da f rfl (.ro K) ?_;refine iB rfl (SF.act (.ro K) Q)<|aj ?_;intro b7 _;refine dE (cV _ fc Tryz.sizeOf33 rfl rfl rfl rfl rfl (by rfl) rfl (by rfl)) rfl rfl (fun _ _=>?_);refine bG<|dq (fun _:Nat×Option Addr×Nat=>True) (fun g=> [(9,af E),(12,af x),(15,af g.1),(16,ai j.2),(41,ac A a.length c),(42,ai (a.length:Int)),(43,ai (f:Int))]) (fun g=> [ak E [ac k b.length l] 24,ag k l b,ak x [ac q (fG b d a f).length r,ac k b.length l,ac z (mV b d a f).length C] 112,ag q r (fG b d a f),ag z C (mV b d a f),ak g.1 [ac g.2.1 j.1.length g.2.2] 27,ag g.2.1 g.2.2 j.1]) ?_ ?_
   ·refine jG (.still 0 (.still 1 (.still 2 (.still 3 (.still 4 (.still 5 (.pick 6 (.still 7 (.still 8 (.still 9 (.pick 10 (.pick 11 (.still 12 .done) .stop) .stop)))) (.pick 10 (.pick 6 (.still 7 (.still 8 (.still 9 (.pick 11 (.still 12 .done) .stop)))) .stop) .stop)))))))) [] rfl χ χ ?_;refine aj ?_;refine eo rfl (pR rfl rfl rfl TC (fun w i=>AP k q l r b (fG b d a f) (iy a f).kind (iy a f).of_ (iy a f).n j F (HU K Q) w (SF.at_ (SF.own rfl fc) i) (SF.at_ (SF.own rfl fc) i) J.fit)) rfl rfl (.inr fun _=>ha) (fun⟨G,I⟩ _=>?_) ?_
    ·refine aO ?_;intro N _;refine aj ?_;refine bR<|bW (N,G,I) trivial (hh:=(fun _ h=>h.msub ms))
    refine aj ?_;intro N _;refine kL rfl rfl TC (fun w i=>AP k q l r b (fG b d a f) (iy a f).kind (iy a f).of_ (iy a f).n j F (HU K Q) w (SF.at_ (SF.own rfl fc) i) (SF.at_ (SF.own rfl fc) i) J.fit) (fun⟨G,I⟩ _=>?_);refine aO ?_;refine bR<|bW (N,G,I) trivial (hh:=(fun _ h=>h.msub ms))
   rintro⟨N,G,I⟩ _
   try dsimp only
   refine dq (fun _:Option Addr×Nat=>True) (fun _=> [(9,af E),(12,af x),(16,ai j.2),(41,ac A a.length c),(42,ai (a.length:Int)),(43,ai (f:Int))]) (fun g=> [ak E [ac k b.length l] 24,ag k l b,ak x [ac g.1 (fG b d a (f+1)).length g.2,ac k b.length l,ac z (mV b d a f).length C] 112,ag g.1 g.2 (fG b d a (f+1)),ag z C (mV b d a f)]) ?_ ?_
   ·refine ax (fun D=>?_) (fun D=>?_)
    ·have D:j.2=0:=D;have U:fG b d a (f+1)=j.1:=by show (if (iV _ _ _).2=0 then _ else _)=_;rw[F,if_pos D]
     rw[U];refine aj ?_;refine kw (G,I) trivial (hh:=(fun _ h=>h.msub ms))
    have D:¬j.2=0:=D;have U:fG b d a (f+1)=fG b d a f:=by show (if (iV _ _ _).2=0 then _ else _)=_;rw[F,if_neg D]
    rw[U];refine aj ?_;refine bW (q,r) trivial (hh:=(fun _ h=>h.msub ms))
   rintro⟨a1,ba⟩ _;refine aO ?_;intro b8 _;refine oE (bV (α:=rV) (bytes:=8) ⟨j.2⟩ [] b3 V2 (aS Jr) rfl (eB fc fc) (df bt) (by rw[X];omega) (by rw[X];omega) rfl rfl rfl) (fun⟨a2,bb⟩ _=>?_);refine aO ?_;refine cJ (f+1,a1,ba,a2,bb) (by show f+1<=_;omega) (by show _ - _<_ - _;omega) (hh:=(fun _ h=>h.msub ms))
  obtain rfl:f=a.length:=ω;have:=J.n4;refine db (fun w h=>Cw.nilO ew h)<|aj ?_;refine An (v:= ac q (fG b d a a.length).length r) (L:=(fG b d a a.length)) fc fun a6 b2 W=>?_;have al:=W.len;refine de (fun g:Nat×Option Addr×Nat=>g.1<=(fG b d a a.length).length) (fun g=>(fG b d a a.length).length - g.1) (fun g=> [(12,af x),(17,ac g.2.1 (mP ((fG b d a a.length).take g.1)).length g.2.2),(78,ac q (fG b d a a.length).length r),(79,ai ((fG b d a a.length).length:Int)),(80,ai (g.1:Int))]) (fun g=> [ak x [ac q (fG b d a a.length).length r,ac k b.length l,ac z (mV b d a a.length).length C] 112,an (ac q (fG b d a a.length).length r) b2,a6,ag z C (mV b d a a.length),ag g.2.1 g.2.2 (mP ((fG b d a a.length).take g.1))]) (0,none,0) (aU _) ?_ (hh:=(fun _ h=>h.msub ms));rintro⟨m,a5,bi⟩ Y
  try dsimp only
  have Y:m<=(fG b d a a.length).length:=Y;have ad:(mP ((fG b d a a.length).take m)).length=m:=by unfold mP;rw[aQ,aB];omega
  refine ax (fun bv=>?_) (fun bv=>?_)
  ·have M:m<(fG b d a a.length).length:=ω;obtain⟨a8,bk,b4,a7⟩:=W.el m M;have O:=J.r _ (gD M);have bp:=kD J.f O;refine aj ?_;refine da m rfl ((SF.own (α:=fp) al fc)) ?_;refine iB rfl (SF.hmc (SF.own (α:=fp) al fc) M bk)<|aj ?_;refine fun b9 _=>aj ?_;refine et rfl Tryz.call67 (fun w i=>DO a8 (az (fG b d a a.length) m) w (SF.min (a7 _ _ fc) b4 i) (gO O.bl).1 bp.o) (fun⟨a3,bc⟩ _=>?_)
   try dsimp only
   refine cE rfl VP (fun w i=>vY a3 bc (qD (az (fG b d a a.length) m)) w (SF.at_ (SF.own rfl fc) i) (un (R8 O)) (bs _ w i))<|aj ?_;intro ca _;refine oE (bV (α:=ew) (bytes:=16) ⟨lj (qD (az (fG b d a a.length) m))⟩ [] (FR M) ln (aS pm) rfl (eB fc fc) (df trivial) (by rw[ad];omega) (by rw[ad];omega) rfl rfl rfl) (fun⟨a4,bf⟩ _=>?_);refine aO ?_;refine cJ (m+1,a4,bf) (by show m+1<=_;omega) (by show _ - _<_ - _;omega) (hh:=(fun _ h=>h.msub ms))
  obtain rfl:m=(fG b d a a.length).length:=ω;rw[bD (aF _)];subst p;refine aj ?_;refine bh [0,3,6,9,12,15,18,21] [] rfl<|aj ?_;intro w i;exact⟨((a5,bi),(z,C)),trivial,rfl,i.msub ms⟩
 have y:¬V=0:=of_decide_eq_false y;rw[if_pos y] at p;subst p;refine aj ?_;refine bY rfl<|cF (fun am=>?_) (fun am=>?_)
 ·refine aj ?_;intro w i;exact⟨((none,0),(none,0)),trivial,rfl,(Cw.nilO ew (Cw.nilO rV i)).msub ms⟩
 exact absurd am y
end
section
def xD:List UInt8:=(kc bz).1
def vz:List av:= [kM,vu [4] 0]
def tP:List av:= [vu [16] 0,vu [] 1]
def gW:List jM:= [⟨2,1,4⟩,⟨1,0,100⟩,⟨4,7,0⟩,⟨3,1,0⟩]
def xO:List rV:= [⟨0⟩,⟨0⟩,⟨3⟩,⟨0⟩]
def C9:List UInt8:= [115,116,97,116,117,115,32,49,32,116,114,97,112,32,48,32,100,101,112,116,104,32,49,32,99,101,108,108,115,32,48,32,111,117,116]
theorem SP:lj ⟨1,0,1,0,[]⟩=C9:=by
 have a:Lib.itoa 0= [48]:=by unfold Lib.itoa;rw[if_neg κ];exact pZ κ
 have b:Lib.itoa 1= [49]:=by unfold Lib.itoa;rw[if_neg κ];exact pZ κ
 unfold lj gM;simp only[a,b,iG]
 decide
theorem Bs:iV bz fl ⟨2,1,4⟩=(vz,0):=by kernel_rfl
theorem QX:iV bz vz ⟨1,0,100⟩=(tP,0):=by kernel_rfl
theorem QW:iV bz tP ⟨4,7,0⟩=([],3):=by kernel_rfl
theorem QV:iV bz tP ⟨3,1,0⟩=(tP,0):=by kernel_rfl
theorem ue {fs:List aw} {l:List av} {a:List jM} {k:Nat} {R:List av×Int} (h:iV fs (fG fs l a k) (iy a k)=R):fG fs l a (k+1)=if R.2=0 then R.1 else fG fs l a k:=by
 show (if (iV fs (fG fs l a k) (iy a k)).2=0 then (iV fs (fG fs l a k) (iy a k)).1 else _)=_;rw[h]
theorem QR:fG bz fl gW 1=vz:=(ue Bs).trans (if_pos rfl)
theorem HG:iV bz (fG bz fl gW 1) (iy gW 1)=(tP,0):=by rw[QR];exact QX
theorem HB:fG bz fl gW 2=tP:=(ue HG).trans (if_pos rfl)
theorem HF:iV bz (fG bz fl gW 2) (iy gW 2)=([],3):=by rw[HB];exact QW
theorem QQ:fG bz fl gW 3=tP:=(ue HF).trans ((if_neg κ).trans HB)
theorem HD:iV bz (fG bz fl gW 3) (iy gW 3)=(tP,0):=by rw[QQ];exact QV
theorem QP:fG bz fl gW 4=tP:=(ue HD).trans (if_pos rfl)
theorem QU:mV bz fl gW 4=xO:=by
 show [(⟨(iV bz fl ⟨2,1,4⟩).2⟩:rV),⟨(iV bz (fG bz fl gW 1) (iy gW 1)).2⟩,⟨(iV bz (fG bz fl gW 2) (iy gW 2)).2⟩,⟨(iV bz (fG bz fl gW 3) (iy gW 3)).2⟩]=xO;rw[Bs,HG,HF,HD];rfl
theorem QT:fV xD 2=((bz,fl),0):=by kernel_rfl
theorem ny:(kc bz).2=0/\xD.length<=1000/\fV xD 2=((bz,fl),0)/\iV bz fl ⟨2,1,4⟩=(vz,0)/\fG bz fl gW 4=tP/\mV bz fl gW 4=xO:=by
 refine⟨χ,of_decide_eq_true χ,QT,Bs,QP,QU⟩
def pg:List ew:=mP tP
theorem II:(pg.getD 1 default).b=C9:=SP
theorem Tj (A:Option Addr) (c:Nat) (w:World) (hs:Sl w (.slice A 2 c) bz) :
  Calls Tryz.prog 61 #[.agg #[.slice A 2 c]] w fun e w'=>e= .returned (.tuple #[.string ⟨xD.toArray⟩,.int .i64 0])/\Below w.heap.size w w':=by
 have:=xG A c bz w hs
 rw[ny.1] at this
 exact this
theorem PX (w:World):Calls Tryz.prog 19 #[.string ⟨xD.toArray⟩,ai 2] w fun e w'=> ∃g:(Option Addr×Nat)×Option Addr×Nat,True/\e= .returned (.tuple #[.agg #[ac g.1.1 2 g.1.2],.agg #[ac g.2.1 2 g.2.2],ai 0])/\
  Cw w.heap.size w [an (ac g.1.1 2 g.1.2) bz,an (ac g.2.1 2 g.2.2) fl] w':=by
 have:=yJ xD 2 (dS ny.2.1 κ) w;rw[ny.2.2.1] at this;simp only[pV,show bz.length=2 from rfl] at this;exact this
theorem Ug (Ap Aw:Option Addr) (cp cw:Nat) (w:World) (hs:Sl w (.slice Ap 2 cp) bz) (hl:Sl w (.slice Aw 2 cw) fl) :
  Calls Tryz.prog 12 #[.agg #[.slice Ap 2 cp],.agg #[.slice Aw 2 cw],.agg #[.int .i64 2,.int .i64 1,.int .i64 4]] w fun e w'=> ∃q:Option Addr×Nat,True/\e= .returned (.tuple #[.agg #[.slice q.1 2 q.2],.int .i64 0])/\Cw w.heap.size w [an (.slice q.1 2 q.2) vz] w':=by
 have:=AP Ap Aw cp cw bz fl 2 1 4 (vz,0) ny.2.2.2.1 (by decide) w hs (by rw[pV];exact hl) yO
 rw[pV] at this
 exact this
theorem RI:Id (fV xD 2) gW=((pg,xO),0):=by
 obtain⟨_,_,f3,_,f5,f6⟩:=ny
 unfold Id
 rw[f3,if_neg (fun h=>h rfl),if_neg (by decide)]
 show ((mP (fG bz fl gW 4),mV bz fl gW 4),(0:Int))=_
 rw[f5,f6]
 rfl
theorem RK (A:Option Addr) (c:Nat) (w:World) (ha:Sl w (.slice A 4 c) gW) (hG:kZ w) :
  Calls Tryz.prog 17 #[.string ⟨xD.toArray⟩,.int .i64 2,.slice A 4 c] w fun e w'=> ∃g:(Option Addr×Nat)×Option Addr×Nat,True/\e= .returned (.tuple #[.slice g.1.1 2 g.1.2,.slice g.2.1 4 g.2.2,.int .i64 0])/\
   Cw w.heap.size w [an (.slice g.1.1 2 g.1.2) pg,an (.slice g.2.1 4 g.2.2) xO] w':=
 N4 xD 2 A c gW ((pg,xO),0) RI (dS ny.2.1 (by decide)) w ha hG
theorem L6 (w:World) (B:Nat):∀x∈gW,aH.rep w B (qc.enc x) x:=fun x a=>by
 refine⟨rfl,?_⟩;have:(x=⟨2,1,4⟩\/x=⟨1,0,100⟩\/x=⟨4,7,0⟩\/x=⟨3,1,0⟩):=by simpa [gW] using a
 rcases this with rfl | rfl | rfl | rfl <;> decide
attribute [irreducible] xD vz tP pg
theorem Hi:vz.length=2:=by unfold vz;rfl
theorem QJ:az vz 1=vu [4] 0:=by unfold vz;rfl
theorem K0:pg.length=2:=by unfold pg tP;rfl
theorem CS (w:World) (E:kZ w):Calls Tryz.prog 10 #[] w fun e w'=>e= .returned (.bool true)/\Below w.heap.size w w':=by
 have F:∀H w',Cw w.heap.size w H w'->kZ w':=fun H w' l=>E.cw l;refine enter Tryz.func10 rfl Tryz.ntmps10 rfl<|cn<|bK<|rn 1 [] rfl<|bG<|cn<|bK<|et rfl kG (fun w a=>gC w) (fun V _=>?_);refine cE rfl Tryz.call61 (fun w a=>Tj _ _ w (SF.at_ (SF.own rfl fc) a)) ?_;refine rn 5 [1,2] rfl<|bG<|cn<|bK<|rn 1 [1,2,17] rfl<|et rfl VU (fun w a=>PX w) (fun⟨⟨u,C⟩,x,D⟩ _=>?_)
 try dsimp only
 refine rn 4 [1,2,19,20,21] rfl<|oE (pS Tryz.zeroValue24 rfl rfl) (fun Q _=>?_);refine oE (pS Rs rfl rfl) (fun R _=>?_);refine oE (cV _ fc CE rfl rfl rfl rfl rfl (by rfl) rfl (by rfl)) (fun _ _=>?_);refine oE (cV _ fc vF rfl rfl rfl rfl rfl (by rfl) rfl (by rfl)) (fun _ _=>?_);refine rn 1 [1,2,3,4,5] rfl<|bG<|cn<|bK<|dG (oG (vs:= [_]) fc Tryz.isAgg24 CE rfl rfl (by rfl) rfl) rfl rfl ?_;refine dG (oG (vs:= [_]) fc Tryz.isAgg27 vF rfl rfl (by rfl) rfl) rfl rfl ?_;refine dG (qt (cs:= [_,_,_]) xc qL rfl rfl (by rfl)) rfl rfl ?_;refine et rfl TC (fun w a=>Ug u x C D w (SF.at_ (SF.own rfl fc) a) (SF.at_ (SF.own (xs:=fl) pV fc) a)) (fun⟨f,q⟩ _=>?_)
 try dsimp only
 refine rn 3 [1,2,4,5,27,28] rfl<|oE (pS Rs rfl rfl) (fun S _=>?_);refine oE (cV _ fc vF rfl rfl rfl rfl rfl (by rfl) rfl (by rfl)) (fun _ _=>?_);refine rn 1 [1,2,4,5,6,7] rfl<|bG<|cn<|bK<|rn 1 [2,4,5,6,7,30] rfl<|dG (qt (cs:= [_,_,_]) xc qL rfl rfl (by rfl)) rfl rfl ?_;refine dG (qt (cs:= [_,_,_]) xc qL rfl rfl (by rfl)) rfl rfl ?_;refine dG (qt (cs:= [_,_,_]) xc qL rfl rfl (by rfl)) rfl rfl ?_;refine dG (qt (cs:= [_,_,_]) xc qL rfl rfl (by rfl)) rfl rfl ?_;refine oE (fq (cs:= [_,_,_,_,_,_,_,_,_,_,_,_]) Tryz.underlying47 Tryz.sizeOf33 qL rfl rfl rfl rfl rfl) (fun T _=>?_);refine et rfl Tryz.call17 (fun w a=>RK _ _ w (SF.at_ (SF.lit gW rfl (aF _) κ rfl (fun w B J I=>L6 w B J I) fc) a) (F _ w a)) (fun⟨⟨K,N⟩,M,O⟩ _=>?_)
 try dsimp only
 refine rn 7 [2,4,5,6,7,8,9,10] rfl<|bG<|cn<|cn<|bK<|rn 3 [4,5,6,7,8,9,10,42] rfl<|bd (t:=42) (v':= .bool false) rfl rfl<|rn 4 [4,6,7,8,9,10,46] rfl<|bd (t:=46) (v':= .bool false) rfl rfl<|rn 4 [4,6,8,9,10,50] rfl<|bd (t:=50) (v':= .bool false) rfl rfl<|rn 4 [4,6,8,9,54] rfl<|bd (t:=54) (v':= .bool false) rfl rfl<|rn 1 [6,8,9,54,55] rfl<|dG (cT fc Fw rfl rfl (by rfl)) rfl rfl ?_;refine dG (lr dF rfl rfl) rfl rfl<|rn 3 [6,8,9,60] rfl<|bd (t:=60) (v':= .bool false) rfl rfl<|rn 1 [6,8,9,60,61] rfl<|dG (cT fc Fw rfl rfl (by rfl)) rfl rfl ?_;refine dG (lr dF rfl rfl) rfl rfl<|rn 3 [6,8,9,66] rfl<|bd (t:=66) (v':= .bool false) rfl rfl<|rn 1 [6,8,9,66,67] rfl<|dG (lr ln rfl rfl) rfl rfl<|rn 3 [6,8,9,71] rfl<|bd (t:=71) (v':= .bool false) rfl rfl<|rn 1 [6,8,9,71,72] rfl<|dG (lr V2 rfl rfl) rfl rfl<|rn 2 [6,8,9,75] rfl<|bG<|cN (t:=75) (v':= .bool false) rfl rfl<|bY rfl<|fk (fh ?_);refine An (v:= ac f 2 q) (L:=vz) fc fun A G r=>?_;obtain⟨d,i,_,p⟩:=r.el 1 (by rw[Hi];decide);rw[QJ] at i p;have s:=r.len.trans Hi;have y:∀H h,cg H (an (ac f 2 q) G) h->∀g,Cw w.heap.size w H g->g.cell? ⟨ab f,ao f+1*6+2,none⟩=some (ac d.Ai 1 d.ci):=fun _ _ j g a=>(SF.hmc (SF.own (α:=fp) (m:=2) s j) (k:=1) κ i) g a 2 _ rfl;have z:∀H h,cg H A h->SF w.heap.size w H d.Ai 1 d.ci [(4:Int)]:=fun _ _ j=>(p _ _ j).2.2.1;clear p i;refine cn<|bK<|rn 1 [8,9,76] rfl<|dG (cT fc Fw rfl rfl (by rfl)) rfl rfl ?_;refine da 1 rfl ((SF.own (α:=fp) (m:=2) s fc)) ?_;refine rn 1 [8,9,79] rfl<|eK rfl (y _ _ fc) ?_;refine oE (fq (cs:= [_]) ay bg fI rfl rfl rfl rfl rfl) (fun U _=>?_);refine fH (fun w l=>bI (α:=Int) (m:=1) [4] rfl (ia κ) rfl κ l) ?_;refine cE rfl qQ (fun w a=>yC d.Ai (some ⟨_,0,none⟩) d.ci 4 w (SF.at_ (z _ _ fc) a) (SF.at_ (SF.own (m:=1) (c:=1) (xs:= [(4:Int)]) rfl fc) a)) ?_;refine rn 1 [8,9,83] rfl<|bd (t:=83) (v':= .bool true) rfl rfl<|rn 1 [9,83,84] rfl<|da 1 rfl ((SF.own (xs:=pg) K0 fc)) ?_;refine eK rfl (SF.str (SF.own (xs:=pg) K0 fc) κ) ?_;refine bd (t:=86) (v':= .string ⟨C9.toArray⟩) rfl (by rw[II]) ?_;refine sE (D7 (b:=C9) rfl rfl rfl) ?_;refine rn 2 [9,89] rfl<|bd (t:=89) (v':= .bool true) rfl rfl<|rn 1 [9,89,90] rfl<|da 2 rfl ((SF.own (xs:=xO) rfl fc)) ?_;refine eK rfl (SF.err (SF.own (xs:=xO) rfl fc) κ) ?_;refine rn 3 [9,95] rfl<|bd (t:=95) (v':= .bool true) rfl rfl<|rn 1 [95,96] rfl<|da 3 rfl ((SF.own (xs:=xO) rfl fc)) ?_;refine eK rfl (SF.err (SF.own (xs:=xO) rfl fc) κ) ?_;refine rn 3 [0] rfl<|bG<|iO<|Gu Tryz.results10 (J4 rfl) ?_;intro w a;exact⟨rfl,a.below⟩
end
section
theorem CR (s:List UInt8) (n:Int) (f g:Option Addr) (h i:Nat) (fs:List aw) (l:List av) (p o z:Int) (T:s.length<=140737488355320) (U:aI z) (w:World) (I:Sl w (ac f fs.length h) fs) (m:Sl w (ac g l.length i) l) (Q:ne l) (V:kZ w) :
  Calls Tryz.prog 6 #[.string ⟨s.toArray⟩,ai n,.agg #[ac f fs.length h],.agg #[ac g l.length i],.agg #[ai p,ai o,ai z]] w fun e w'=>e= .returned (.bool true)/\Below w.heap.size w w':=by
 have:=bA m;have Y:∀H w',Cw w.heap.size w H w'->kZ w':=fun H w' d=>V.cw d;obtain⟨P,W⟩:∃P,fV s n=P:=⟨_,rfl⟩
 have R:=fun w=>yJ s n T w;have S:=fun w=>Kj s n T w;rw[W] at R S;obtain⟨b,k⟩:∃b,iV fs l ⟨p,o,z⟩=b:=⟨_,rfl⟩
 have X:b.1=if b.2=0 then b.1 else []:=by
  split
  ·rfl
  rename_i d;rw[<-k] at d⊢;exact Tn d
 refine enter Tryz.func6 rfl Tryz.ntmps6 rfl<|aj ?_;refine fun ad _=>aj ?_;refine fun al _=>aj ?_;refine fun am _=>aj ?_;refine et rfl VU (fun w a=>R w) (fun⟨⟨q,D⟩,x,A⟩ _=>?_);refine aO ?_;refine fun J _=>aj ?_;refine fun K _=>aj ?_;refine et rfl TC (fun w a=>AP f g h i fs l p o z b k U w (a.ro I) (a.ro m) Q) (fun⟨u,F⟩ _=>?_);refine aO ?_;refine fun L _=>aj ?_;refine et rfl Tryz.call28 (fun w a=>S w) (fun⟨⟨r,E⟩,y,C⟩ _=>?_);refine aO ?_;refine fun M _=>aj ?_;refine fun N _=>aj ?_;refine cE rfl Tryz.call29 (fun w a=>If f g h i fs l w (a.ro I) (a.ro m) Q) ?_;refine aC ?_;refine bG<|aj ?_;refine fun O _=>aj ?_;refine iT (fun _:Option Addr×Nat=>True) (fun j=> [(11,af J),(12,af K),(13,ai P.2),(14,af L),(15,ai b.2),(16,af M),(17,af N),(18,ai P.2),(19,ai b.2),(20,af O)]) (fun j=> [ak O [ac j.1 b.1.length j.2] 27,ag j.1 j.2 b.1,ak J [ac q P.1.1.length D] 24,ak K [ac x P.1.2.length A] 27,ag q D P.1.1,ag x A P.1.2,ak L [ac u b.1.length F] 27,ag u F b.1,ak M [ac r P.1.1.length E] 24,ak N [ac y P.1.2.length C] 27,ag r E P.1.1,ag y C P.1.2]) ?_ ?_
 ·refine eI rfl (fun c=>?_) (fun c=>?_)
  ·have c:du fs l=0:=c;refine aj ?_;refine et rfl Tryz.call30 (fun w a=>Ps f g h i fs l p o z b k U c w (a.ro I) (a.ro m)) (fun⟨v,G⟩ _=>?_);refine aO ?_;refine kw (v,G) trivial
  have c:¬du fs l=0:=c;have e:b=([],du fs l):=by rw[<-k];unfold iV;rw[if_pos c]
  subst e;refine aj ?_;refine bW (none,0) trivial (hh:=(fun w d=>(Cw.nilO av d).msub ms))
 rintro⟨v,G⟩ _;refine aO ?_;refine cE rfl Tryz.call10 (fun w a=>CS w (Y _ w a)) ?_;refine aC ?_;refine aC ?_;refine aC ?_;refine aC ?_;refine aC ?_;refine aC ?_;refine bd (t:=60) (v':= .bool true) rfl (congrArg Value.bool (decide_eq_true rfl))<|aj ?_;refine cE rfl Tryz.call31 (fun w a=>zm q r D E P.1.1 P.1.1 w (SF.at_ (SF.own rfl fc) a) (SF.at_ (SF.own rfl fc) a)) ?_;refine aC ?_;refine aC ?_;refine bd (t:=65) (v':= .bool true) rfl (congrArg Value.bool (decide_eq_true rfl))<|aj ?_;refine cE rfl VW (fun w a=>qC x y _ _ A C P.1.2 P.1.2 w (SF.at_ (SF.own rfl fc) a) (SF.at_ (SF.own rfl fc) a) rfl rfl) ?_;refine aC ?_;refine aC ?_;refine bd (t:=70) (v':= .bool true) rfl (congrArg Value.bool (decide_eq_true rfl))<|aj ?_;refine cE rfl Tryz.call32 (fun w a=>FD u v b.1.length b.1.length F G b.1 b.1 b.2 b.2 rfl X w (SF.at_ (SF.own rfl fc) a) (SF.at_ (SF.own rfl fc) a) rfl rfl)<|aj ?_;intro w a;exact⟨rfl,a.below⟩
end
