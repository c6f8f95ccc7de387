/- Lemmas of one proof. -/
import Derived.Test.YthfkmcbblnbfaaaGreatDoorM90W
import Derived.Test.YthfkmcbblnbfaaaGreatDoorM0W
import Derived.Test.YthfkmcbblnbfaaaGreatDoorM38W
import Derived.Test.YthfkmcbblnbfaaaGreatDoorM23W
import Derived.Test.YthfkmcbblnbfaaaGreatDoorM34W
import Derived.Test.YthfkmcbblnbfaaaGreatDoorM42W

namespace Go.Proofs.YthfkmcbblnbfaaaGreatDoor
set_option maxRecDepth 100000
set_option maxHeartbeats 16000000
open Go.RowKit
section
theorem Or:Tryz.prog.eqGuardType Tryz.prog.depth 159=false:=by kernel_rfl
theorem UI:Tryz.prog.stoodInHeld 159=false:=by kernel_rfl
theorem UB (w:World) (a c:Bool) (b d:Int):(binOp .neq 159 (.agg #[.bool a,.int .i64 b]) (.agg #[.bool c,.int .i64 d])).run Tryz.prog w= .ok (.bool (!(a == c && b == d))) w:=by
 have e:=UI
 by_cases f:a=c <;> by_cases g:b=d <;> simp[go_sem,e,f,g]
theorem UD (x y:Operand) (u v:Array Value) (w:World):(eqGuard .neq 159 x y (.agg u) (.agg v)).run Tryz.prog w= .ok () w:=by
 have a:=Or
 simp[eqGuard,go_sem,a]
theorem Td {v u:aD} :(v.ref == u.ref && v.n == u.n)=decide (v=u):=by
 obtain⟨a,b⟩:=v;obtain⟨c,d⟩:=u
 by_cases e:a=c <;> by_cases f:b=d <;> simp[e,f]
theorem uz {α:Type} {a b:List α} {i:Nat} (d:α) (c:i<a.length) (h2:i<b.length) (h:a.take i=b.take i) (e:a.getD i d=b.getD i d):a.take (i+1)=b.take (i+1):=by
 rw[eF a i d c,eF b i d h2,h,e]
theorem D1 {α:Type} {a b:List α} {i:Nat} (d:α) (e:¬a.getD i d=b.getD i d):¬a=b:=fun c=>e (by rw[c])
theorem tO (g h:Option Addr) (i j:Nat) (a b:List aD) (w:World) (l:Sl w (ac g a.length i) a) (h2:Sl w (ac h b.length j) b) :
  Calls Tryz.prog 69 #[ac g a.length i,ac h b.length j] w fun e w'=>e= .returned (.bool (decide (a=b)))/\Below w.heap.size w w':=by
 have:=bx l;refine enter Tryz.func69 rfl Tryz.ntmps69 rfl<|cU (fun f=>?_) (fun f=>?_)
 ·refine aj ?_;intro w d;exact⟨aY (by rw[decide_eq_false (fun e=>f (by rw[e]))]),d.below⟩
 have f:a.length=b.length:=ω;refine aj ?_;refine cZ (fun c:Nat=>c<=a.length/\a.take c=b.take c) (fun c=>a.length - c) (fun c=> [(0,ac g a.length i),(1,ac h b.length j),(5,ai (c:Int))]) (fun _=> []) 0 (⟨aS _,rfl⟩) ?_;rintro c s;obtain⟨v,p⟩:c<=a.length/\a.take c=b.take c:=s;refine ax (fun t=>?_) (fun t=>?_)
 ·have q:c<a.length:=ω;have r:c<b.length:=ω;refine aj ?_;refine bq [0,3,6,9,12,15,18,21,24] [] rfl<|aj ?_;refine tE rfl (aX (k:=c) aA aM (.ro l) ω rfl rfl rfl) ?_;refine tE rfl (eC (SF.val (SF.ro l) q default) rfl rfl iW aM)<|aj ?_;refine tE rfl (aX (k:=c) aA aM (.ro h2) ω rfl rfl rfl) ?_;refine tE rfl (eC (SF.val (SF.ro h2) r default) rfl rfl iW aM) ?_;refine tE rfl (pY rfl rfl rfl (fun w=>UB w _ _ _ _) (fun w=>UD _ _ _ _ w))<|aj ?_;rw[Td];refine jP rfl (fun o=>?_) (fun o=>?_)
  ·refine aj ?_;intro w d;exact⟨aY (by rw[decide_eq_false (D1 default o)]),d.below⟩
  refine aj ?_;refine cG (c+1) (⟨by show c+1<=_;omega,uz default q r p o⟩) (by show _ - _<_ - _;omega)
 obtain rfl:c=a.length:=ω;rw[aR,f,aR] at p;refine aj ?_;intro w d;exact⟨aY (by rw[decide_eq_true p]),d.below⟩
theorem BC (g h:Option Addr) (i j:Nat) (a b:List (List Int)) (w:World) (l:Sl w (ac g a.length i) a) (h2:Sl w (ac h b.length j) b) :
  Calls Tryz.prog 68 #[ac g a.length i,ac h b.length j] w fun e w'=>e= .returned (.bool (decide (a=b)))/\Below w.heap.size w w':=by
 have:=bx l;refine enter Tryz.func68 rfl Tryz.ntmps68 rfl<|cU (fun f=>?_) (fun f=>?_)
 ·refine aj ?_;intro w d;exact⟨aY (by rw[decide_eq_false (fun e=>f (by rw[e]))]),d.below⟩
 have f:a.length=b.length:=ω;refine aj ?_;refine cZ (fun c:Nat=>c<=a.length/\a.take c=b.take c) (fun c=>a.length - c) (fun c=> [(0,ac g a.length i),(1,ac h b.length j),(5,ai (c:Int))]) (fun _=> []) 0 (⟨aS _,rfl⟩) ?_;rintro c y;obtain⟨G,p⟩:c<=a.length/\a.take c=b.take c:=y;refine ax (fun z=>?_) (fun z=>?_)
 ·have q:c<a.length:=ω;have r:c<b.length:=ω;obtain⟨A,E,s,u⟩:=l.sub q;obtain⟨C,F,t,v⟩:=h2.sub r;refine aj ?_;refine bq [0,3,6,9,12,15,18,21,26,27] [] rfl<|aj ?_;refine tE rfl (aX (k:=c) eI gv (.ro l) ω rfl rfl rfl) ?_;refine tE rfl (bY (u _) rfl rfl gX)<|aj ?_;refine tE rfl (aX (k:=c) eI gv (.ro h2) ω rfl rfl rfl) ?_;refine tE rfl (bY (v _) rfl rfl gX) ?_;refine ls rfl rfl rl (fun w d=>lU _ _ _ _ (a.getD c []) (b.getD c []) w (d.ro s) (d.ro t))<|cU (fun o=>?_) (fun o=>?_)
  ·refine aj ?_;intro w d;exact⟨aY (by rw[decide_eq_false (D1 [] o)]),d.below⟩
  refine aj ?_;refine cG (c+1) (⟨by show c+1<=_;omega,uz [] q r p o⟩) (by show _ - _<_ - _;omega)
 obtain rfl:c=a.length:=ω;rw[aR,f,aR] at p;refine aj ?_;intro w d;exact⟨aY (by rw[decide_eq_true p]),d.below⟩
theorem iD {α:Type} {f:av->α} {a b:av} (h:¬f a=f b):¬a=b:=fun c=>h (by rw[c])
theorem Qs {a b:av} (c:a.S=b.S) (h2:a.T=b.T) (d:a.B=b.B) (e:a.I=b.I) (f:a.out=b.out) (g:a.F=b.F):a=b:=by
 cases a;cases b;simp_all
theorem DI {l1 l2:List aK} {i:Nat} {α:Type} {f:aK->α} (h:¬f (aQ l1 i)=f (aQ l2 i)):¬l1=l2:=fun a=>h (by rw[a])
theorem Tk {x y:aK} (a:x.func=y.func) (h2:x.pc=y.pc) (b:x.L=y.L) (c:x.K=y.K):x=y:=by
 cases x;cases y;simp_all
theorem nD {p:Prop} [Decidable p] (h:(!decide p)=true):¬p:=by simpa using h
theorem mn {p:Prop} [Decidable p] (h:(!decide p)=false):p:=by simpa using h
theorem Eh (a b:MA) (c d:av) (w:World) (j:fV w.heap.size w a c) (h2:fV w.heap.size w b d) :
  Calls Tryz.prog 15 #[.agg #[ac a.Af c.F.length a.cf,ac a.Ab c.B.length a.cb,ac a.Ai c.I.length a.ci,ac a.Ao c.out.length a.co,ai c.S,ai c.T],
   .agg #[ac b.Af d.F.length b.cf,ac b.Ab d.B.length b.cb,ac b.Ai d.I.length b.ci,ac b.Ao d.out.length b.co,ai d.S,ai d.T]] w fun e w'=>e= .returned (.bool (decide (c=d)))/\Below w.heap.size w w':=by
 have:=bx j.f;refine enter Tryz.func15 rfl Tryz.ntmps15 rfl<|aj ?_;refine fun y _=>aj ?_;refine fun z _=>dh 13 (fun l=>?_) (fun l=>?_)
 ·refine aj ?_;refine be rfl<|aj ?_;intro w h;exact⟨aY (by rw[decide_eq_false (iD (f:=av.S) (nD l))]),h.below⟩
 have l:=mn l;refine dh 20 (fun o=>?_) (fun o=>?_)
 ·refine aj ?_;refine be rfl<|aj ?_;intro w h;exact⟨aY (by rw[decide_eq_false (iD (f:=av.T) (nD o))]),h.below⟩
 have o:=mn o;refine aj ?_;refine cO rfl Tryz.call68 (fun w h=>BC _ _ _ _ c.B d.B w (h.ro j.b) (h.ro h2.b))<|dh 28 (fun p=>?_) (fun p=>?_)
 ·refine aj ?_;refine be rfl<|aj ?_;intro w h;exact⟨aY (by rw[decide_eq_false (iD (f:=av.B) (nD p))]),h.below⟩
 have p:=mn p;refine aj ?_;refine cO rfl rl (fun w h=>lU _ _ _ _ c.I d.I w (h.ro j.i) (h.ro h2.i))<|dh 36 (fun q=>?_) (fun q=>?_)
 ·refine aj ?_;refine be rfl<|aj ?_;intro w h;exact⟨aY (by rw[decide_eq_false (iD (f:=av.I) (nD q))]),h.below⟩
 have q:=mn q;refine aj ?_;refine cO rfl rl (fun w h=>lU _ _ _ _ c.out d.out w (h.ro j.o) (h.ro h2.o))<|dh 44 (fun r=>?_) (fun r=>?_)
 ·refine aj ?_;refine be rfl<|aj ?_;intro w h;exact⟨aY (by rw[decide_eq_false (iD (f:=av.out) (nD r))]),h.below⟩
 have r:=mn r;refine cU (fun A=>?_) (fun A=>?_)
 ·refine aj ?_;intro w h;exact⟨aY (by rw[decide_eq_false (iD (f:=fun m=>m.F.length) (fun i=>A (by rw[show c.F.length=d.F.length from i])))]),h.below⟩
 have A:c.F.length=d.F.length:=ω;refine aj ?_;refine cZ (fun g:Nat=>g<=c.F.length/\c.F.take g=d.F.take g) (fun g=>c.F.length - g) (fun g=> [(2,af y),(3,af z),(5,ai (g:Int))]) (fun _=> [ak y (ah a c) 43,ak z (ah b d) 43]) 0 (⟨aS _,rfl⟩) ?_;rintro g V;obtain⟨a1,F⟩:g<=c.F.length/\c.F.take g=d.F.take g:=V;refine ax (fun Y=>?_) (fun Y=>?_)
 ·have G:g<c.F.length:=ω;have I:g<d.F.length:=ω;obtain⟨J,N,K,O,W,Z,am,T⟩:=j.f.fr G;obtain⟨L,R,M,S,X,ad,a0,U⟩:=h2.f.fr I;refine fq (fm ?_);refine cE<|iR<|dG (fun _:Nat×Nat=>True) (fun v=> [(2,af y),(3,af z),(5,ai (g:Int)),(6,af v.1),(7,af v.2)]) (fun v=> [ak y (ah a c) 43,ak z (ah b d) 43,ak v.1 [ai (aQ c.F g).func,ai (aQ c.F g).pc,ac J (aQ c.F g).L.length N,ac K (aQ c.F g).K.length O] 118,ak v.2 [ai (aQ d.F g).func,ai (aQ d.F g).pc,ac L (aQ d.F g).L.length R,ac M (aQ d.F g).K.length S] 118]) ?_ ?_
  ·refine zp (.still 0 (.still 1 (.still 2 (.still 3 (.still 4 (.still 5 (.still 6 (.still 7 (.still 8 (.still 9 (.pick 10 (.pick 11 (.pick 12 (.pick 13 .done .stop) .stop) .stop) (.pick 11 (.pick 10 (.pick 12 (.pick 13 .done .stop) .stop) .stop) .stop)))))))))))) [13] rfl φ φ [ak y (ah a c) 43,ak z (ah b d) 43] ?_;refine aj ?_;refine tE rfl (aX (k:=g) cX dQ (.ro j.f) ω rfl rfl rfl) ?_;refine tE rfl (eC (T _) rfl rfl Vw dQ)<|aj ?_;refine tE rfl (aX (k:=g) cX dQ (.ro h2.f) ω rfl rfl rfl) ?_;refine tE rfl (eC (U _) rfl rfl Vw dQ) ?_;refine dx rfl (mj Tryz.zeroValue118 rfl rfl) rfl rfl (.inr fun _=>ha) (fun C _=>?_) ?_
   ·refine aj ?_;intro D _;refine aj ?_;refine bJ<|bX (C,D) trivial (hh:=(fun _ i=>i.msub ms))
   refine aj ?_;intro D _;refine aj ?_;intro C _;refine aj ?_;refine bJ<|bX (C,D) trivial (hh:=(fun _ i=>i.msub ms))
  rintro⟨C,D⟩ _;dsimp only;refine dh 75 (fun s=>?_) (fun s=>?_)
  ·refine aj ?_;refine be rfl<|aj ?_;intro w h;exact⟨aY (by rw[decide_eq_false (iD (f:=av.F) (DI (i:=g) (f:=aK.func) (nD s)))]),h.below⟩
  have s:=mn s;refine dh 82 (fun t=>?_) (fun t=>?_)
  ·refine aj ?_;refine be rfl<|aj ?_;intro w h;exact⟨aY (by rw[decide_eq_false (iD (f:=av.F) (DI (i:=g) (f:=aK.pc) (nD t)))]),h.below⟩
  have t:=mn t;refine aj ?_;refine cO rfl Tryz.call69 (fun w h=>tO _ _ _ _ (aQ c.F g).L (aQ d.F g).L w (h.ro W) (h.ro X))<|dh 90 (fun u=>?_) (fun u=>?_)
  ·refine aj ?_;refine be rfl<|aj ?_;intro w h;exact⟨aY (by rw[decide_eq_false (iD (f:=av.F) (DI (i:=g) (f:=aK.L) (nD u)))]),h.below⟩
  have u:=mn u;refine aj ?_;refine cO rfl Tryz.call69 (fun w h=>tO _ _ _ _ (aQ c.F g).K (aQ d.F g).K w (h.ro Z) (h.ro ad))<|cU (fun E=>?_) (fun E=>?_)
  ·refine aj ?_;intro w h;exact⟨aY (by rw[decide_eq_false (iD (f:=av.F) (DI (i:=g) (f:=aK.K) E))]),h.below⟩
  refine aj ?_;refine cG (g+1) (⟨by show g+1<=_;omega,uz default G I F (Tk s t u E)⟩) (by show _ - _<_ - _;omega) (hh:=(fun w i=>i.msub ms))
 obtain rfl:g=c.F.length:=ω;rw[aR,A,aR] at F;refine aj ?_;intro w h;exact⟨aY (by rw[decide_eq_true (Qs l o p q r F)]),h.below⟩
end
section
def kT:av:=⟨[⟨0,0,[],[]⟩],[],[],[],0,0⟩
def UW:av:=⟨[⟨0,1,[],[⟨false,3⟩]⟩],[],[],[],0,0⟩
def Vz:av:=⟨[⟨0,0,[],[]⟩],[],[],[],1,0⟩
theorem Jg:dZ sm=0/\tN sm=kT/\jm sm kT=0/\OX sm kT=UW/\jm sm UW=0/\dZ bB=0/\tN bB=kT/\jm bB kT=0/\OX bB kT=Vz:=by
 refine⟨?_,?_,?_,?_,?_,?_,?_,?_,?_⟩ <;> kernel_rfl
theorem If:pF kT.F:=by
 refine⟨κ,fun x a=>?_⟩;have:x=⟨0,0,[],[]⟩:=by simpa [kT] using a
 subst this
 decide
section
variable {fs:List aw} {m:av} {n:Nat}
theorem yr (d:dZ fs=0) (a:tN fs=kT) (b:fs.length=n) (A:Option Addr) (c:Nat) (w:World) (f:Sl w (ac A n c) fs) :
  Calls Tryz.prog 54 #[.agg #[ac A n c]] w fun e w'=> ∃g:MA,True/\
   e= .returned (.tuple #[.agg #[ac g.Af 1 g.cf,ac g.Ab 0 g.cb,ac g.Ai 0 g.ci,ac g.Ao 0 g.co,ai 0,ai 0],ai 0])/\Cw w.heap.size w [an (ac g.Af 1 g.cf) kT.F,an (ac g.Ab 0 g.cb) kT.B,an (ac g.Ai 0 g.ci) kT.I,an (ac g.Ao 0 g.co) kT.out] w':=by
 subst b;have:=Ac A c fs kT a w f;rw[d] at this;exact this
end
section
variable {B:Nat} {w0 w:World} {H H1 H2 H3 H4:List aO}
theorem oT {g:MA} {m:av} {b nb c d:Nat} (a:Cw B w0 H w) (k:cu H (an (ac g.Af b g.cf) m.F) H1) (j:cu H (an (ac g.Ab nb g.cb) m.B) H2) (hi:cu H (an (ac g.Ai c g.ci) m.I) H3) (l:cu H (an (ac g.Ao d g.co) m.out) H4) (e:m.F.length=b) (f:m.B.length=nb) (h:m.I.length=c) (i:m.out.length=d) (o:aI m.S) (p:aI m.T):fV w.heap.size w g m:=by
 subst e f h i;exact⟨SF.at_ (SF.own rfl k) a,SF.at_ (SF.own rfl j) a,SF.at_ (SF.own rfl hi) a,SF.at_ (SF.own rfl l) a,o,p⟩
end
section
variable {P:Program} {n:NF} {B:Nat} {w0:World} {H H':List aO} {Q:Exit->Act->World->Prop} {env:cS} {x:Code}
structure We (B:Nat) (w0:World) (X:aO) (k:Nat) (A:Option Addr) (c:Nat) (fr:List aK) (hs:List aF):Prop where
 el:∀i,i<k->∃Al cl As cs,hs.getD i default=⟨(aQ fr i).func,(aQ fr i).pc,.slice Al (aQ fr i).L.length cl,.slice As (aQ fr i).K.length cs⟩/\
  (∀H H',cu H X H'->SF B w0 H Al (aQ fr i).L.length cl (aQ fr i).L/\SF B w0 H As (aQ fr i).K.length cs (aQ fr i).K)
 len:hs.length=k
 back:∀H H' H'' w,cu H (an (.slice A k c) hs) H'->cu H' X H''->Cw B w0 H w->Cw B w0 (an (.slice A k c) fr::H'') w
theorem SF.hfr {A:Option Addr} {xs:List aF} {m c k:Nat} {h:aF} (b:SF B w0 H A m c xs) (a:k<m) (e:xs.getD k default=h):∀w,Cw B w0 H w->∀j v,([ai h.func,ai h.pc,h.lv,h.sv]:List Value)[j]? =some v->w.cell? ⟨ab A,ao A+k*4+j,none⟩=some v:=fun w f j v d=>SF.cell b a default (by rw[e];exact d) w f
theorem Sq {l:List (aF×aK)} {i:Nat} (hi:i<l.length) {w:World} (h:Cw B w0 (cJ l::H) w):Sl w l[i].1.lv l[i].2.L/\Sl w l[i].1.sv l[i].2.K:=by
 have a:Cw B w0 (an l[i].1.lv l[i].2.L::an l[i].1.sv l[i].2.K::(cJ (l.eraseIdx i)::H)) w:=rZ hi h;obtain⟨d,b,_⟩:=a.rd cu.a;obtain⟨e,c,_⟩:=a.rd (cu.s cu.a);exact⟨da.sl b,da.sl c⟩
end
end
section
theorem Li (a b:Int) (w:World):(Instr.field 86 (.agg #[ai a,ai b]) 0).run Tryz.prog w= .ok (ai a) w:=by kernel_rfl
theorem DZ {fs:List aw} {m:av} {li:List aK} {x:aK} (e:m.F=li++ [x]):aQ m.F li.length=x/\m.F.length=li.length+1/\bd fs m=bH (au fs x.func.toNat).C x.pc.toNat:=by
 refine⟨by rw[e,nJ],by rw[e];simp,?_⟩;unfold bd io;rw[e,Dj]
theorem EO (q:Option Addr) (r:Nat) (fs:List aw) (a:MA) (m:av) (w:World) (k:Sl w (ac q fs.length r) fs) (i:fV w.heap.size w a m) (z:fP fs) (A:bU fs m) (J:m.F≠[]) :
  Calls Tryz.prog 108 #[.agg #[ac q fs.length r],.agg #[ac a.Af m.F.length a.cf,ac a.Ab m.B.length a.cb,ac a.Ai m.I.length a.ci,ac a.Ao m.out.length a.co,ai m.S,ai m.T]] w fun e w'=>e= .returned (.agg #[ai (bd fs m).c,ai (bd fs m).a])/\Below w.heap.size w w':=by
 have:=bx i.f;obtain⟨o,x,e⟩:∃o x,m.F=o++ [x]:=by
  rcases eX m.F with d | ⟨K,L,d⟩
  ·exact absurd d J
  exact⟨K,L,by rw[d];simp⟩
 obtain⟨v,F,j⟩:=DZ (fs:=fs) e;obtain⟨b,I⟩:∃b,o.length=b:=⟨_,rfl⟩
 rw[I] at v F;obtain⟨a2,a4,p,C,a6⟩:=A.top e;obtain⟨a5,u,_⟩:=(z.e x.func.toNat ω).at_ _ _ C;obtain⟨M,V,N,W,d,y,E,s⟩:=i.f.fr (k:=b) ω;rw[v] at d y E s;obtain⟨c,t⟩:∃c:Nat,x.func=c:=⟨x.func.toNat,ω⟩
 obtain⟨f,h⟩:∃f:Nat,x.pc=f:=⟨x.pc.toNat,ω⟩
 rw[t,bu] at u j;rw[h,bu] at j;rw[h] at u;have G:c<fs.length:=ω;have:f<(au fs c).C.length:=ω;obtain⟨O,X,R,Y,a1,g,a0,D⟩:=k.fn G;have:=bx k;have:=bx g;rw[j];refine enter Tryz.func108 rfl Tryz.ntmps108 rfl<|aj ?_;refine fun Z _=>aj ?_;refine fun ad _=>aj ?_;refine fun al _=>aj ?_;refine bj (t:=11) (v':= ai (b:Int)) rfl (congrArg (Value.int .i64) ω) ?_;refine sE (aX (k:=b) cX dQ (.ro i.f) ω rfl rfl rfl) ?_;refine iC rfl (s _)<|aj ?_;refine fun am _=>aj ?_;refine bq [0,3,6,9,12,15,18,21,24,27,30,35] [11] rfl<|aj ?_;refine dr (t:=17) (v':= ai (c:Int)) rfl (congrArg (Value.int .i64) t)<|tE rfl (aX (k:=c) ff fw (.ro k) ω rfl rfl rfl)<|aj ?_;refine tE rfl (bY (fun w l=>D _ w l 3 _ rfl) rfl rfl rF)<|aj ?_;refine dr (t:=22) (v':= ai (f:Int)) rfl (congrArg (Value.int .i64) h)<|tE rfl (aX (k:=f) eH gN (.ro g) ω rfl rfl rfl) ?_;refine tE rfl (eC (cs:= [_,_]) (SF.op (.ro g) ω) rfl rfl zu gN)<|aj ?_;intro w l;exact⟨rfl,l.below⟩
end
section
end
section
theorem JI (c:Int) (w:World):Calls Tryz.prog 158 #[ai c] w fun e w'=>e= .returned (ai (eR c))/\Below w.heap.size w w':=by
 refine enter Tryz.func158 rfl Tryz.ntmps158 rfl<|ax (fun a=>?_) (fun a=>?_)
 ·have a:c=14:=a;refine aj ?_;intro w d;exact⟨by rw[a];rfl,d.below⟩
 have a:¬c=14:=a;refine ax (fun b=>?_) (fun b=>?_)
 ·have b:c=12:=b;refine aj ?_;intro w d;exact⟨by rw[b];rfl,d.below⟩
 have b:¬c=12:=b;refine aj ?_;intro w d;exact⟨by unfold eR;rw[if_neg a,if_neg b],d.below⟩
theorem NV (q:Option Addr) (r:Nat) (fs:List aw) (a:MA) (m:av) (w:World) (k:Sl w (ac q fs.length r) fs) (i:fV w.heap.size w a m) (z:fP fs) (A:bU fs m) (J:m.F≠[]) :
  Calls Tryz.prog 211 #[.agg #[ac q fs.length r],.agg #[ac a.Af m.F.length a.cf,ac a.Ab m.B.length a.cb,ac a.Ai m.I.length a.ci,ac a.Ao m.out.length a.co,ai m.S,ai m.T]] w fun e w'=>e= .returned (.agg #[ai (bd fs m).c,ai (bd fs m).a])/\Below w.heap.size w w':=by
 have:=bx i.f;obtain⟨o,x,e⟩:∃o x,m.F=o++ [x]:=by
  rcases eX m.F with d | ⟨K,L,d⟩
  ·exact absurd d J
  exact⟨K,L,by rw[d];simp⟩
 obtain⟨v,F,j⟩:=DZ (fs:=fs) e;obtain⟨b,I⟩:∃b,o.length=b:=⟨_,rfl⟩
 rw[I] at v F;obtain⟨a2,a4,p,C,a6⟩:=A.top e;obtain⟨a5,u,_⟩:=(z.e x.func.toNat ω).at_ _ _ C;obtain⟨M,V,N,W,d,y,E,s⟩:=i.f.fr (k:=b) ω;rw[v] at d y E s;obtain⟨c,t⟩:∃c:Nat,x.func=c:=⟨x.func.toNat,ω⟩
 obtain⟨f,h⟩:∃f:Nat,x.pc=f:=⟨x.pc.toNat,ω⟩
 rw[t,bu] at u j;rw[h,bu] at j;rw[h] at u;have G:c<fs.length:=ω;have:f<(au fs c).C.length:=ω;obtain⟨O,X,R,Y,a1,g,a0,D⟩:=k.fn G;have:=bx k;have:=bx g;rw[j];refine enter Tryz.func211 rfl Tryz.ntmps211 rfl<|aj ?_;refine fun Z _=>aj ?_;refine fun ad _=>aj ?_;refine fun al _=>aj ?_;refine bj (t:=11) (v':= ai (b:Int)) rfl (congrArg (Value.int .i64) ω) ?_;refine sE (aX (k:=b) cX dQ (.ro i.f) ω rfl rfl rfl) ?_;refine iC rfl (s _)<|aj ?_;refine fun am _=>aj ?_;refine bq [0,3,6,9,12,15,18,21,24,27,30,35] [11] rfl<|aj ?_;refine dr (t:=17) (v':= ai (c:Int)) rfl (congrArg (Value.int .i64) t)<|tE rfl (aX (k:=c) ff fw (.ro k) ω rfl rfl rfl)<|aj ?_;refine tE rfl (bY (fun w l=>D _ w l 3 _ rfl) rfl rfl rF)<|aj ?_;refine dr (t:=22) (v':= ai (f:Int)) rfl (congrArg (Value.int .i64) h)<|tE rfl (aX (k:=f) eH gN (.ro g) ω rfl rfl rfl) ?_;refine tE rfl (eC (cs:= [_,_]) (SF.op (.ro g) ω) rfl rfl zu gN)<|aj ?_;intro w l;exact⟨rfl,l.below⟩
def uT (fs:List aw) (m:av) (k:Int):av×Int:=if iN m then (m,k) else if k<eR (bd fs m).c then (m,k) else (eV fs m,k - eR (bd fs m).c)
def tZ (fs:List aw) (m:av) (k:Int):Prop:= ¬iN m/\eR (bd fs m).c<=k/\(eV fs m).S=0
instance (fs:List aw) (m:av) (k:Int):Decidable (tZ fs m k):=by unfold tZ;infer_instance
theorem yZ {fs:List aw} {m:av} {k:Int} (h:iN m):uT fs m k=(m,k):=if_pos h
theorem EP {fs:List aw} {m:av} {k:Int} (h:¬iN m) (h2:k<eR (bd fs m).c):uT fs m k=(m,k):=(if_neg h).trans (if_pos h2)
theorem yX {fs:List aw} {m:av} {k:Int} (h:¬iN m) (h2:¬k<eR (bd fs m).c):uT fs m k=(eV fs m,k - eR (bd fs m).c):=(if_neg h).trans (if_neg h2)
theorem Hk (fs:List aw) (m:av) (k:Int):fW fs m k=if tZ fs m k then fW fs (uT fs m k).1 (uT fs m k).2 else uT fs m k:=by
 rw[rN]
 by_cases a:iN m
 ·rw[if_pos a,if_neg (show¬tZ fs m k from fun b=>b.1 a),yZ a]
 rw[if_neg a]
 by_cases c:k<eR (bd fs m).c
 ·rw[if_pos c,if_neg (show¬tZ fs m k from fun b=>by have:=b.2.1;omega),EP a c]
 rw[if_neg c,yX a c]
 by_cases d:(eV fs m).S=0
 ·rw[if_pos d,if_pos (show tZ fs m k from⟨a,ω,d⟩)]
 rw[if_neg d,if_neg (show¬tZ fs m k from fun b=>d b.2.2)]
section
variable {B:Nat} {w0:World} {H:List aO}
theorem KH (gd:Nat) (a:MA) (m:av) (k:Int) (q:Option Addr) (r:Nat) (fs:List aw) (y:bO w0 B (ac q fs.length r) fs) (u:fP fs) (f:bU fs m) (L:0<=k/\k<=10000) (p:av×Int) (s:uT fs m k=p) (w:World)
  (b:Cw B w0 (ak gd [ac a.Af m.F.length a.cf,ac a.Ab m.B.length a.cb,ac a.Ai m.I.length a.ci,ac a.Ao m.out.length a.co,ai m.S,ai m.T,ai k] 205::an (ac a.Af m.F.length a.cf) m.F::an (ac a.Ab m.B.length a.cb) m.B::an (ac a.Ai m.I.length a.ci) m.I::an (ac a.Ao m.out.length a.co) m.out::H) w) :
  Calls Tryz.prog 154 #[af gd,.agg #[ac q fs.length r]] w fun e w'=> ∃g:MA,True/\e= .returned (.bool (decide (tZ fs m k)))/\
   Cw B w0 (ak gd [ac g.Af p.1.F.length g.cf,ac g.Ab p.1.B.length g.cb,ac g.Ai p.1.I.length g.ci,ac g.Ao p.1.out.length g.co,ai p.1.S,ai p.1.T,ai p.2] 205::an (ac g.Af p.1.F.length g.cf) p.1.F::an (ac g.Ab p.1.B.length g.cb) p.1.B::an (ac g.Ai p.1.I.length g.ci) p.1.I::an (ac g.Ao p.1.out.length g.co) p.1.out::H) w':=by
 have I:=mt (bd fs m).c;have C:=f.st;have D:aI m.S:=⟨ω,ω⟩
 have E:aI m.T:=by
  rcases Decidable.em (m.S=3) with t | t
  ·have:=f.t3 t;exact⟨ω,ω⟩
  have:=f.t0 t;exact⟨ω,ω⟩
 refine bI Tryz.func154 rfl Tryz.ntmps154 rfl b<|aj ?_;refine fun J _=>dh 13 (fun z=>?_) (fun z=>?_)
 ·have d:iN m:= .inl (bz (by have:=of_decide_eq_true z;omega));have e:p=(m,k):=by rw[<-s,yZ d]
  subst e;refine aj ?_;refine be rfl<|aj ?_;intro w b;exact⟨a,trivial,aY (decide_eq_false (fun c=>c.1 d)).symm,b.msub ms⟩
 have A:m.F≠[]:=fun e=>by have:=of_decide_eq_false z;rw[e] at this;simp at this
 refine ax (fun o=>?_) (fun o=>?_)
 ·have d:iN m:= .inr o;have e:p=(m,k):=by rw[<-s,yZ d]
  subst e;refine aj ?_;intro w b;exact⟨a,trivial,aY (decide_eq_false (fun c=>c.1 d)).symm,b.msub ms⟩
 have o:¬m.S=3:=o;have d:¬iN m:=fun c=>c.elim A o;have:¬(m.S=2\/m.S=3):=(not_congr (zh f)).1 d;obtain⟨j,i⟩:∃j,eR (bd fs m).c=j:=⟨_,rfl⟩
 refine aj ?_;refine bq [0,3,6,9,12,17,18,23,24] [] rfl<|aj ?_;refine ls rfl rfl Tryz.call211 (fun w b=>NV q r fs a m w (b.ro y) (oT b fc fc fc fc rfl rfl rfl rfl D E) u f A) ?_;refine tE rfl (kx (Li _ _) rfl rfl) ?_;refine ls rfl rfl Tryz.call158 (fun w b=>JI _ w)<|aj ?_;rw[i] at I;rw[i];have:=Is (bd fs m).c;refine eK rfl (fun h=>?_) (fun h=>?_)
 ·have h:k<j:=h;have e:p=(m,k):=by rw[<-s,EP d (by rw[i];exact h)]
  subst e;refine aj ?_;intro w b;exact⟨a,trivial,aY (decide_eq_false (fun c=>by have:=c.2.1;omega)).symm,b.msub ms⟩
 have h:¬k<j:=h;obtain⟨l,v⟩:∃l,eV fs m=l:=⟨_,rfl⟩
 have e:p=(l,k - j):=by rw[<-s,yX d (by rw[i];exact h),v,i]
 subst e;have G:tZ fs m k↔l.S=0:=by
  unfold tZ;rw[v,i];exact⟨fun c=>c.2.2,fun c=>⟨d,ω,c⟩⟩
 refine aj ?_;refine bq [0,3,6,9,12,15,20,21,24,29] [9] rfl<|aj ?_;refine jc rfl rfl Tryz.call114 (fun w b=>P4 q r fs a m l v w (b.ro y) (oT b fc fc fc fc rfl rfl rfl rfl D E) (kK u f) (fun C=>Ck y u f C)) (fun F _=>aj ?_);intro w b;exact⟨F,trivial,aY (decide_eq_decide.2 G).symm,b.msub ms⟩
end
end
section
theorem Lf {fs:List aw} (_:fP fs) {m:av} (_:bU fs m) {k:Int} (a:tZ fs m k):uT fs m k=(eV fs m,k - eR (bd fs m).c):=by
 exact yX a.1 (by have:=a.2.1;omega)
theorem NX (l:Option Addr) (o:Nat) (fs:List aw) (a:MA) (m:av) (k:Int) (r:av×Int) (F:fW fs m k=r) (w:World) (G:Sl w (ac l fs.length o) fs) (D:fV w.heap.size w a m) (q:fP fs) (y:bU fs m) (C:0<=k/\k<=10000) :
  Calls Tryz.prog 98 #[.agg #[ac l fs.length o],.agg #[ac a.Af m.F.length a.cf,ac a.Ab m.B.length a.cb,ac a.Ai m.I.length a.ci,ac a.Ao m.out.length a.co,ai m.S,ai m.T],ai k] w fun e w'=> ∃g:MA,True/\
   e= .returned (.tuple #[.agg #[ac g.Af r.1.F.length g.cf,ac g.Ab r.1.B.length g.cb,ac g.Ai r.1.I.length g.ci,ac g.Ao r.1.out.length g.co,ai r.1.S,ai r.1.T],ai r.2])/\Cw w.heap.size w [an (ac g.Af r.1.F.length g.cf) r.1.F,an (ac g.Ab r.1.B.length g.cb) r.1.B,an (ac g.Ai r.1.I.length g.ci) r.1.I,an (ac g.Ao r.1.out.length g.co) r.1.out] w':=by
 refine enter Tryz.func98 rfl Tryz.ntmps98 rfl<|aj ?_;refine fun u _=>aj ?_;refine fun J _=>aj ?_;refine fun v _=>aj ?_;refine eu rfl rH (fun w j=>mX a m w (fV.ro j D) (kK q y)) (fun A _=>aj ?_);refine fun p _=>aj ?_;refine cZ (fun g:(av×Int)×MA=>(bU fs g.1.1/\0<=g.1.2/\g.1.2<=10000)/\fW fs g.1.1 g.1.2=r) (fun g=>g.1.2.toNat) (fun _=> [(3,af u),(6,af v),(8,af p)]) (fun g=> (ak p [ac g.2.Af g.1.1.F.length g.2.cf,ac g.2.Ab g.1.1.B.length g.2.cb,ac g.2.Ai g.1.1.I.length g.2.ci,ac g.2.Ao g.1.1.out.length g.2.co,ai g.1.1.S,ai g.1.1.T,ai g.1.2] 205::ae g.2 g.1.1 [ak u [ac l fs.length o] 24,ak v [ac none 0 0,ac none 0 0,ac none 0 0,ac none 0 0,ai 0,ai 0] 43])) ((m,k),A) (⟨⟨y,C⟩,F⟩) ?_;rintro⟨⟨f,b⟩,g⟩ E
 try dsimp only
 obtain⟨⟨t,I⟩,z⟩:(bU fs f/\0<=b/\b<=10000)/\fW fs f b=r:=E;obtain⟨c,s⟩:∃c,uT fs f b=c:=⟨_,rfl⟩
 refine aj ?_;refine du rfl Tryz.call154 (fun w j=>KH p g f b l o fs G q t I c s w (j.msub (.s fc (.s fc (.s fc (.s fc (.s fc .r))))))) (fun d _=>ax (fun h=>?_) (fun h=>?_))
 ·have h:tZ fs f b:=h;have i:=(Lf q t h).symm.trans s;have:=mt (bd fs f).c;have:=h.2.1;refine aj ?_;refine DM (c,d) (by rw[<-i];exact⟨⟨rm q t,by show 0<=b - _;omega,by show b - _<=_;omega⟩,by show fW fs (eV fs f) _=r;rw[<-z,Hk fs f b,if_pos h,s,<-i]⟩) (by rw[<-i];show (b - _).toNat<b.toNat;omega)
 have h:¬tZ fs f b:=h;have i:c=r:=by rw[<-z,Hk fs f b,if_neg h,s]
 subst i;refine aj ?_;refine eP [0,3,6,9,12,15,18,21,26,27] [] rfl [ak p [ac d.Af c.1.F.length d.cf,ac d.Ab c.1.B.length d.cb,ac d.Ai c.1.I.length d.ci,ac d.Ao c.1.out.length d.co,ai c.1.S,ai c.1.T,ai c.2] 205]<|aj ?_;intro w j;exact⟨d,trivial,rfl,j.msub ms⟩
end
section
theorem lP {fs:List aw} {m:av} (h:bU fs m):aI m.S/\aI m.T:=by
 have:=h.st;refine⟨⟨ω,ω⟩,?_⟩;rcases Decidable.em (m.S=3) with a | a
 ·have:=h.t3 a;exact⟨ω,ω⟩
 have:=h.t0 a;exact⟨ω,ω⟩
end
section
def oI (l:List av):Prop:=l.length*112<=140737488355328/\∀m∈l,pF m.F
def dA (fs:List aw) (l:List av):Int:=
 if dZ fs≠0 then dZ fs else if l.length=0 then 5 else if 4<l.length then 2 else ei (fd fs) l
structure lQ (fs:List aw) (l:List av):Prop where
 p:dZ fs=0
 f:fP fs
 r:∀m∈l,bU fs m
 n0:1<=l.length
 n4:l.length<=4
theorem pO {fs:List aw} {l:List av} (h:dA fs l=0):lQ fs l:=by
 unfold dA at h
 split at h
 ·exact absurd h (by assumption)
 rename_i b;have a:dZ fs=0:=dM b
 split at h
 ·cases h
 split at h
 ·cases h
 exact⟨a,qn a,fun m c=>wz.1 (py h m c),ω,ω⟩
theorem lQ.i64 {fs:List aw} {l:List av} (h:lQ fs l) {k:Nat} (a:k<l.length):aI (ay l k).S/\aI (ay l k).T:=lP (h.r _ (gA a))
theorem rJ {l:List av} {k:Nat} (a:k<l.length):l.take (k+1)=l.take k++ [ay l k]:=eF l k default a
theorem pd (j p:Option Addr) (k q:Nat) (fs:List aw) (l:List av) (w:World) (y:Sl w (ac j fs.length k) fs) (s:Sl w (ac p l.length q) l) (D:oI l) :
  Calls Tryz.prog 20 #[.agg #[ac j fs.length k],.agg #[ac p l.length q]] w fun e w'=>e= .returned (ai (dA fs l))/\Below w.heap.size w w':=by
 have:=bx s;refine enter Tryz.func20 rfl Tryz.ntmps20 rfl<|aj ?_;refine fun u _=>aj ?_;refine fun J _=>aj ?_;refine cO rfl J9 (fun w b=>qC j k fs w (b.ro y))<|cU (fun d=>?_) (fun d=>?_)
 ·have d:¬dZ fs=0:=d;refine aj ?_;intro w b;exact⟨fh (by unfold dA;rw[if_pos d]),b.below⟩
 have d:dZ fs=0:=d;have A:=qn d;refine ax (fun c=>?_) (fun c=>?_)
 ·have c:l.length=0:=by have c:(l.length:Int)=0:=c;omega
  refine aj ?_;intro w b;exact⟨fh (by unfold dA;rw[if_neg (fun o=>o d),if_pos c]),b.below⟩
 have c:¬l.length=0:=by have c:¬(l.length:Int)=0:=c;omega
 refine ax (fun f=>?_) (fun f=>?_)
 ·have f:4<l.length:=by have f:(4:Int)<l.length:=f;omega
  refine aj ?_;intro w b;exact⟨fh (by unfold dA;rw[if_neg (fun o=>o d),if_neg c,if_pos f]),b.below⟩
 have f:¬4<l.length:=by have f:¬(4:Int)<l.length:=f;omega
 have v:dA fs l=ei (fd fs) l:=by unfold dA;rw[if_neg (fun o=>o d),if_neg c,if_neg f]
 refine aj ?_;refine cZ (fun a:Nat=>a<=l.length/\ei (fd fs) (l.take a)=0) (fun a=>l.length - a) (fun a=> [(2,af u),(25,ac p l.length q),(26,ai (l.length:Int)),(27,ai (a:Int))]) (fun _=> [ak u [ac j fs.length k] 24]) 0 (⟨aS _,rfl⟩) ?_;rintro a E;obtain⟨L,t⟩:a<=l.length/\ei (fd fs) (l.take a)=0:=E;refine ax (fun F=>?_) (fun F=>?_)
 ·have r:a<l.length:=ω;obtain⟨z,G,C⟩:=s.mc r;have i:=jp (g:=fd fs) default r t;refine aj ?_;refine cP a rfl (.ro s) ?_;refine iC rfl (C _)<|aj ?_;refine fun K _=>aj ?_;refine cO rfl Wi (fun w b=>uV j k fs z (ay l a) w (b.ro y) (G.ro b) A (D.2 _ (gA r)))<|cU (fun h=>?_) (fun h=>?_)
  ·have h:¬fd fs (ay l a)=0:=h;have i:ei (fd fs) (l.take (a+1))=fd fs (ay l a):=i;refine aj ?_;intro w b;exact⟨fh (by rw[v,nq (k:=a+1) (by rw[i];exact h),i]),b.below⟩
  have h:fd fs (ay l a)=0:=h;have i:ei (fd fs) (l.take (a+1))=fd fs (ay l a):=i;refine aj ?_;refine cG (a+1) (⟨by show a+1<=_;omega,i.trans h⟩) (by show _ - _<_ - _;omega)
 obtain rfl:a=l.length:=ω;rw[aR] at t;refine aj ?_;intro w b;exact⟨fh (by rw[v,t]),b.below⟩
theorem DQ (i:Option Addr) (j:Nat) (fs:List aw) (l:List av) (w:World) (k:Sl w (ac i l.length j) l) (f:lQ fs l) :
  Calls Tryz.prog 96 #[.agg #[ac i l.length j]] w fun e w'=> ∃g:Nat×Option Addr×Nat,True/\e= .returned (af g.1)/\Cw w.heap.size w [ak g.1 [ac g.2.1 l.length g.2.2] 148,an (ac g.2.1 l.length g.2.2) l] w':=by
 have:=bx k;have:=f.n4;refine enter Tryz.func96 rfl Tryz.ntmps96 rfl<|aj ?_;refine fun F _=>aj ?_;refine fun d _=>aj ?_;refine dm (fun w v=>Cw.nilO av v) ?_;refine cZ (fun g:Nat×Option Addr×Nat=>g.1<=l.length) (fun g=>l.length - g.1) (fun g=> [(3,af d),(9,ac i l.length j),(10,ai (l.length:Int)),(11,ai (g.1:Int))]) (fun g=> [ak d [ac g.2.1 (l.take g.1).length g.2.2] 148,ag g.2.1 g.2.2 (l.take g.1)]) (0,none,0) (aS _) ?_;rintro⟨a,p,q⟩ r
 try dsimp only
 have r:a<=l.length:=r;have:(l.take a).length=a:=by rw[aB];omega
 refine ax (fun A=>?_) (fun A=>?_)
 ·have h:a<l.length:=ω;obtain⟨b,C,z⟩:=k.mc h;have y:=f.i64 h;have D:=rJ h;refine aj ?_;refine cP a rfl (.ro k) ?_;refine iC rfl (z _)<|aj ?_;refine fun u _=>aj ?_;refine eP [0,3,6,9,12,15,18,23,26,29,30,33,36,41] [13] rfl [ak d [ac p (l.take a).length q] 148,ak u (ah b (ay l a)) 43]<|aj ?_;refine jc rfl rfl rH (fun w o=>mX b (ay l a) w (C.ro o) (kK f.f (f.r _ (gA h)))) (fun c _=>aj ?_);intro G _;refine pE rfl (cz (α:=av) (bytes:=112) (ay l a) (ae c (ay l a) []) D dz (aU kl) rfl (sT fc fc fc fc fc fc) (nX y) ω ω rfl rfl rfl) (fun⟨s,t⟩ _=>?_);refine aP ?_;refine cG (a+1,s,t) (by show a+1<=_;omega) (by show _ - _<_ - _;omega)
 obtain rfl:a=l.length:=ω;rw[aR];refine aj ?_;intro w o;exact⟨(d,p,q),trivial,rfl,o.msub ms⟩
end
section
theorem RJ {r:Bool} {n t:Int} (h:1<=t/\t<=3):gM ⟨r,n⟩ t=if t=1 then !r else (r && (decide (t=2) || decide (n=0))):=by
 unfold gM;rcases(show t=1\/t=2\/t=3 by omega) with rfl | rfl | rfl <;> cases r <;> simp
theorem Cr (v:aD) (t:Int) (g:1<=t/\t<=3) (w:World):Calls Tryz.prog 198 #[.agg #[.bool v.ref,ai v.n],ai t] w fun e w'=>e= .returned (.bool (gM v t))/\Below w.heap.size w w':=by
 obtain⟨f,n⟩:=v;have d:=RJ (r:=f) (n:=n) g;refine enter Tryz.func198 rfl Tryz.ntmps198 rfl<|aj ?_;refine fun h _=>ax (fun a=>?_) (fun a=>?_)
 ·have a:t=1:=a;rw[if_pos a] at d;refine aj ?_;intro w b;exact⟨aY d.symm,b.below⟩
 have a:¬t=1:=a;rw[if_neg a] at d;refine fq (fm ?_);refine cE<|bQ<|aC ?_;refine dR (df fc xR rfl rfl (by rfl)) rfl rfl ?_;refine aC ?_
 cases f with
 | false=>
  refine bj (t:=12) (v':= .bool false) rfl (rfl)<|aj ?_;intro w b;exact⟨aY (by rw[d];rfl),b.below⟩
 | true=>
  refine bj (t:=12) (v':= .bool true) rfl (rfl)<|dh 15 (fun c=>?_) (fun c=>?_)
  ·have c:t=2:=of_decide_eq_true c;refine aj ?_;intro w b;exact⟨aY (by rw[d];simp[c]),b.below⟩
  have c:¬t=2:=of_decide_eq_false c;refine aj ?_;intro w b;exact⟨aY (by rw[d];simp[c]),b.below⟩
theorem I5 (s:Option Addr) (u:Nat) (fs:List aw) (k:Nat) (pc:Int) (q:Option (List Int)) (D:gh fs (au fs k) pc=q) (w:World) (O:Sl w (ac s fs.length u) fs) (K:k<fs.length) (N:nR fs (au fs k)) (R:sB fs (au fs k)) (M:0<(au fs k).C.length) :
  Calls Tryz.prog 199 #[.agg #[ac s fs.length u],ai (k:Int),ai pc] w fun e w'=> ∃g:Option Addr×Nat,True/\e= .returned (.tuple #[ac g.1 (q.getD []).length g.2,.bool q.isSome])/\
   Cw w.heap.size w [ny (ac g.1 (q.getD []).length g.2) (q.getD [])] w':=by
 refine enter Tryz.func199 rfl Tryz.ntmps199 rfl<|aj ?_;refine fun U _=>aj ?_;refine eu rfl Tryz.call139 (fun w d=>wB s u fs k w (d.ro O) K N R M) (fun⟨⟨z,A⟩,b,t⟩ i=>?_);refine aP ?_;have i:oH b t (cM fs (au fs k)).1:=i;have:=i.len;refine ek (p:=b.length<=140737488355328) (fun w d=>bx (SF.at_ (SF.own (α:=iT) (xs:=b) rfl fc) d)) fun S=>?_;refine cZ (fun a:Nat=>a<=b.length/\∀c,c<a->(hent b c).pc≠pc) (fun a=>b.length - a) (fun a=> [(2,ai pc),(8,ac z b.length A),(10,ai (a:Int))]) (fun _=> [ag z A b,gO t]) 0 (⟨aS _,fun _ o=>absurd o (gu _)⟩) ?_;rintro a J;obtain⟨V,v⟩:a<=b.length/\∀c,c<a->(hent b c).pc≠pc:=J;refine ax (fun L=>?_) (fun L=>?_)
 ·have j:a<b.length:=ω;have C:a<(cM fs (au fs k)).1.length:=ω;obtain⟨G,l⟩:=i.el a j C;refine aj ?_;refine cP a rfl ((SF.own (xs:=b) rfl fc))<|aj ?_;refine ef rfl (fun w d=>SF.hent (SF.own (xs:=b) rfl fc) j w d 0 _ rfl)<|ax (fun f=>?_) (fun f=>?_)
  ·have f:(hent b a).pc=pc:=f;have y:q=some (cM fs (au fs k)).1[a].K:=by
    rw[<-D];unfold gh;rw[Ih C (by rw[<-G,<-oU j];exact f) (fun c r o=>by
     have h:c<b.length:=ω;have:=v c r;rw[oU h,(i.el c h o).1] at this;exact this)]
    rfl
   subst y;rw[<-oU j] at l;refine aj ?_;refine cP a rfl ((SF.own (xs:=b) rfl fc))<|aj ?_;refine ef rfl (fun w d=>SF.hent (SF.own (xs:=b) rfl fc) j w d 1 _ rfl)<|aj ?_;intro w d;obtain⟨E,F,I⟩:=l.form d fc;rw[I] at l⊢;exact⟨(E,F),trivial,rfl,(yS l (d.msub (T:=gO t:: []) ms)).msub ms⟩
  have f:¬(hent b a).pc=pc:=f;refine aj ?_;refine cG (a+1) (⟨by show a+1<=_;omega,fun c r=>(gL c a).elim (v c) (fun o=>by obtain rfl:c=a:=(by omega);exact f)⟩) (by show _ - _<_ - _;omega)
 obtain rfl:a=b.length:=ω;have y:q=none:=by
  rw[<-D];unfold gh;rw[Ig (fun c r=>by
   have h:c<b.length:=ω;have:=v c h;rw[oU h,(i.el c h r).1] at this;exact this)]
  rfl
 subst y;refine aj ?_;intro w d;exact⟨(none,0),trivial,rfl,(sa d).msub ms⟩
end
section
theorem Ot:Tryz.prog.eqGuardType Tryz.prog.depth 86=false:=by kernel_rfl
theorem UJ:Tryz.prog.stoodInHeld 86=false:=by kernel_rfl
theorem UC (w:World) (a b c d:Int):(binOp .neq 86 (.agg #[.int .i64 a,.int .i64 b]) (.agg #[.int .i64 c,.int .i64 d])).run Tryz.prog w= .ok (.bool (!(a == c && b == d))) w:=by
 have e:=UJ
 by_cases f:a=c <;> by_cases g:b=d <;> simp[go_sem,e,f,g]
theorem Tc (x y:Operand) (u v:Array Value) (w:World):(eqGuard .neq 86 x y (.agg u) (.agg v)).run Tryz.prog w= .ok () w:=by
 have a:=Ot
 simp[eqGuard,go_sem,a]
theorem Mo {fs:List aw} (h:fP fs) {a:Nat} (i:a<fs.length) {pc to_:Int} (d:iu (au fs a) pc to_=true) {s:List Int} (p:gh fs (au fs a) (pc - 1)=some s) :
  (0<=to_/\to_<fs.length)/\∃t,gh fs (au fs a) pc=some t/\((au fs to_.toNat).result≠0->1<=t.length):=by
 unfold iu at d;simp only[dC,decide_eq_true_eq] at d;obtain⟨o,b,e⟩:=d;have o:=dL.1 o;obtain⟨_,y,_,_,A,l,j⟩:=(h.e _ i).at_ _ _ p;have k:=(kb h.p i).1.op (pc - 1).toNat ω;generalize bH (au fs a).C (pc - 1).toNat=z at b e l j k;have g:=k.call b;rw[e] at g;obtain⟨t,r,c⟩:=j pc (by simp[dX,b]);obtain⟨u,v,f,_,_,_,rfl⟩:=kv.1 l;simp[tl,b] at f;obtain⟨rfl,rfl⟩:=f;rw[e] at c;refine⟨g,t,r,fun q=>?_⟩;unfold bV at c;rw[if_neg q] at c;have:=(xF c).2.1;omega
theorem Sz {A:Option Addr} {m c k:Nat} {xs:List Int} {B:Nat} {w0 w:World} {H:List aO} (e:k<=m) (h:Cw B w0 (ny (ac A m c) xs::H) w):Cw B w0 (ny (ac (iq A 0 c 1) k (c - 0)) (xs.take k)::H) w:=by
 refine h.upd fun b a _=>⟨b,⟨a.1,fun g f=>?_⟩,rfl,rfl,rfl,aH _,fun _ _ _=>rfl,fun i d=> .inl d⟩
 have:=(a.2 g f).cut 0 k (aS _) e;rw[vE,qt] at this;exact this
theorem P2 {A:Option Addr} {c:Nat} {xs:List Int} {B:Nat} {w0 w:World} {H:List aO} (h:Cw B w0 (ny (ac A xs.length c) xs::H) w):Cw B w0 (ny (ac (iq A 0 c 1) xs.dropLast.length (c - 0)) xs.dropLast::H) w:=by
 have:=Sz (k:=xs.length - 1) ω h;rw[<-vH,<-List.length_dropLast] at this;exact this
theorem I3 (a:MA) (m:av) (C:Option Addr) (D:Nat) (fs:List aw) (i:Nat) (w:World) (N:Sl w (ac C fs.length D) fs) (Z:fV w.heap.size w a m) (a5:fP fs) (c9:pF m.F) (hi:i<m.F.length) (cb:∀x∈m.F,0<=x.func/\x.func<fs.length) (bg:Int) (l:gB fs m.B.length m.F i=bg) :
  Calls Tryz.prog 141 #[.agg #[ac C fs.length D],.agg #[ac a.Af m.F.length a.cf,ac a.Ab m.B.length a.cb,ac a.Ai m.I.length a.ci,ac a.Ao m.out.length a.co,ai m.S,ai m.T],ai (i:Int)] w fun e w'=>e= .returned (ai bg)/\Below w.heap.size w w':=by
 have:=bx Z.f;have:=bx N;have:=bx Z.b;obtain⟨O,U,R,V,a7,ba,c3,bp⟩:=Z.f.fr hi;obtain⟨c4,c5⟩:=c9.2 (aQ m.F i) (fJ hi);have:=cb _ (fJ hi);obtain⟨r,ch⟩:∃r:Nat,(aQ m.F i).func=r:=⟨(aQ m.F i).func.toNat,ω⟩
 have L:r<fs.length:=ω;obtain⟨cq,cl⟩:=kb a5.p L;have cv:=Jw a5.p L;obtain⟨a0,a3,a1,a4,bs,bl,c8,b9⟩:=N.fn L;have dj:(au fs r).L.length<=6:=(cq.op 0 cl).par r L |>.2;have ck:=(lj ((iE a5.p).2.2 _ (jN L))).2.2.2.1;have ca:kh fs m.F i=au fs r:=by unfold kh;rw[ch,bu]
 have hent:∀u f,gh fs (au fs r) u=some f->Ty f:=fun u f k=>((a5.e r L).at_ u f k).2.2.2.1;have b7:∀{u E:Int} (_:iu (au fs r) u E=true) {c1:List Int},gh fs (au fs r) (u - 1)=some c1->(0<=E/\E<fs.length)/\∃f,gh fs (au fs r) u=some f/\((au fs E.toNat).result≠0->1<=f.length):=fun c6 _ c2=>Mo a5 L c6 c2;unfold gB at l;obtain⟨bc,q⟩:∃bc,iX fs m.F i=bc:=⟨_,rfl⟩
 rw[ca,q] at l;unfold iX at q;rw[ca] at q;rw[ch] at bp;have b1:∀u v,gh fs (au fs r) u=v->∀am,Sl am (ac C fs.length D) fs->Calls Tryz.prog 199 #[.agg #[ac C fs.length D],ai (r:Int),ai u] am fun e w'=> ∃o:Option Addr×Nat,True/\e= .returned (.tuple #[ac o.1 (v.getD []).length o.2,.bool v.isSome])/\
   Cw am.heap.size am [ny (ac o.1 (v.getD []).length o.2) (v.getD [])] w':=fun u v k am W=>I5 C D fs r u v k am W L cq cv cl
 generalize au fs r=h at l bs bl c8 b9 dj ck hent b7 q b1;obtain⟨cw,e2⟩:∃cw,m.F=cw:=⟨_,rfl⟩
 generalize e6:aQ m.F i=x at l a7 ba c3 bp c4 c5 q;have:=bx a7;have:=bx ba;have:=bx bl;refine enter Tryz.func141 rfl Tryz.ntmps141 rfl<|aj ?_;refine fun G _=>aj ?_;refine fun I _=>aj ?_;refine cP i rfl (.ro Z.f) ?_;refine iC rfl (bp _)<|aj ?_;refine fun y _=>aj ?_;refine cP r rfl (.ro N) ?_;refine iC rfl (b9 _)<|aj ?_;refine fun J _=>cU (fun W=>?_) (fun W=>?_)
 ·rw[if_pos (show x.L.length≠h.L.length from fun e=>W (by rw[e]))] at l;subst l;refine aj ?_;intro w g;exact⟨rfl,g.below⟩
 have W:x.L.length=h.L.length:=ω;rw[if_neg (fun k=>k W)] at l;have:(x.L++x.K).length=x.L.length+x.K.length:=ar;refine fq (fm ?_);refine dG (fun _:Option Addr×Nat=>True) (fun o=> [(2,ai (i:Int)),(3,af G),(4,af I),(7,af y),(8,af J),(9,ac o.1 (x.L++x.K).length o.2)]) (fun o=> [ag o.1 o.2 (x.L++x.K),ak y [ai (r:Int),ai x.pc,ac O x.L.length U,ac R x.K.length V] 118,ak J [ai h.params,ac a0 h.L.length a3,ai h.result,ac a1 h.C.length a4] 84,ak I (ah a m) 43,ak G [ac C fs.length D] 24]) ?_ ?_
 ·refine bq [3,6,12,15,2,11,20,22] [6,7] rfl ?_;refine aC ?_;refine dO rfl (df fc ed rfl rfl (by rfl)) rfl rfl ha ?_;refine aC ?_;refine dO rfl (df fc ed rfl rfl (by rfl)) rfl rfl ha ?_;refine pE rfl ((fi (cs:= []) aA aM lA rfl rfl rfl rfl rfl).mem (H'':=fun o=>an (ac (some ⟨o,0,none⟩) 0 0) ([]:List aD)::_) fun o w k=>bN (α:=aD) (m:=0) [] rfl σ rfl κ k) (fun ez _=>?_);refine pE rfl (dv (α:=aD) (bytes:=16) (xs:= []) (ys:=x.L) (cB x.L).symm aA (aU dy) rfl fc (.ro a7) (by simp only[aE];omega) (by simp only[aE];omega) rfl rfl rfl) (fun⟨d4,ep⟩ _=>?_)
  try dsimp only
  refine pE rfl (dv (α:=aD) (bytes:=16) (xs:=x.L) (ys:=x.K) rfl aA (aU dy) rfl fc (.ro ba) ω ω rfl rfl rfl) (fun⟨bf,bi⟩ _=>?_);refine aP ?_;refine bJ<|bX (bf,bi) trivial (hh:=(fun _ k=>k.msub ms))
 rintro⟨bf,bi⟩ _;refine aP ?_;refine cZ (fun b:Nat=>b<=(x.L++x.K).length/\∀j,j<b->fA m.B.length ((x.L++x.K).getD j default)=true) (fun b=>(x.L++x.K).length - b) (fun b=> [(2,ai (i:Int)),(3,af G),(4,af I),(7,af y),(8,af J),(9,ac bf (x.L++x.K).length bi),(10,ai (b:Int))]) (fun _=> [ag bf bi (x.L++x.K),ak y [ai (r:Int),ai x.pc,ac O x.L.length U,ac R x.K.length V] 118,ak J [ai h.params,ac a0 h.L.length a3,ai h.result,ac a1 h.C.length a4] 84,ak I (ah a m) 43,ak G [ac C fs.length D] 24]) 0 (⟨aS _,fun _ k=>absurd k (gu _)⟩) ?_;rintro b a6;obtain⟨cg,cm⟩:b<=(x.L++x.K).length/\∀j,j<b->fA m.B.length ((x.L++x.K).getD j default)=true:=a6;refine ax (fun a8=>?_) (fun a8=>?_)
 ·have t:b<(x.L++x.K).length:=ω;obtain⟨al,bb⟩:∃bn,fA m.B.length ((x.L++x.K).getD b default)=bn:=⟨_,rfl⟩
  have X:al=false->bg=3:=fun e=>by rw[e] at bb;rw[if_pos (Iz t bb)] at l;exact l.symm
  have cd:al=true->∀j,j<b+1->fA m.B.length ((x.L++x.K).getD j default)=true:=fun e j cf=>(gL j b).elim (cm j) (fun k=>by obtain rfl:j=b:=(by omega);rw[bb,e]);refine aj ?_;refine bq [0,3,6,9,12,15,18,21,24,27,30,33,36,39,44,45,48,51,54,57,60,63,66,69,72,75,78,81,84,87,92,93,96,99] [] rfl<|aj ?_;refine tE rfl (aX (k:=b) aA aM (SF.own rfl fc) ω rfl rfl rfl)<|aj ?_;refine tE rfl (bY (fun w g=>(SF.val (SF.own rfl fc) t default) w g 0 _ rfl) rfl rfl xR) ?_;refine aC ?_;rcases Bool.eq_false_or_eq_true ((x.L++x.K).getD b default).ref with z | z
  ·have b3:br ((x.L++x.K).getD b default).n 0 m.B.length=al:=by rw[<-bb];unfold fA;rw[if_pos z]
   rw[z];refine dr (t:=54) (v':= .bool true) rfl (rfl)<|aj ?_;refine tE rfl (aX (k:=b) aA aM (SF.own rfl fc) ω rfl rfl rfl)<|aj ?_;refine tE rfl (bY (fun w g=>(SF.val (SF.own rfl fc) t default) w g 1 _ rfl) rfl rfl bF)<|aj ?_;refine ls rfl rfl jC ((fun w g=>fY ((fun w g=>ft _ _ _ w) w g))) ?_;refine aC ?_;refine aC ?_;refine aC ?_;rw[b3]
   cases al
   ·refine dr (t:=66) (v':= .bool true) rfl (rfl)<|aj ?_;refine pU rfl rfl rfl (.inr ha) ?_ ia;refine aj ?_;refine be rfl<|aj ?_;intro w g;exact⟨by rw[X rfl],g.below⟩
   refine dr (t:=66) (v':= .bool false) rfl (rfl)<|aj ?_;refine tE rfl (aX (k:=b) aA aM (SF.own rfl fc) ω rfl rfl rfl)<|aj ?_;refine tE rfl (bY (fun w g=>(SF.val (SF.own rfl fc) t default) w g 0 _ rfl) rfl rfl xR) ?_;refine aC ?_;refine aC ?_;rw[z];refine dr (t:=73) (v':= .bool false) rfl (rfl)<|aj ?_;refine pU rfl rfl rfl (.inr ha) ?_ ia;refine aj ?_;refine cA rfl<|aj ?_;refine cG (b+1) (⟨by show b+1<=_;omega,cd rfl⟩) (by show _ - _<_ - _;omega)
  have b3:bT ((x.L++x.K).getD b default).n=al:=by rw[<-bb];unfold fA;rw[if_neg (by rw[z];decide)]
  rw[z];refine dr (t:=54) (v':= .bool false) rfl (rfl)<|aj ?_;refine pU rfl rfl rfl (.inr ha) ?_ ia;refine aj ?_;refine tE rfl (aX (k:=b) aA aM (SF.own rfl fc) ω rfl rfl rfl)<|aj ?_;refine tE rfl (bY (fun w g=>(SF.val (SF.own rfl fc) t default) w g 0 _ rfl) rfl rfl xR) ?_;refine aC ?_;refine aC ?_;rw[z];refine dr (t:=73) (v':= .bool true) rfl (rfl)<|aj ?_;refine tE rfl (aX (k:=b) aA aM (SF.own rfl fc) ω rfl rfl rfl)<|aj ?_;refine tE rfl (bY (fun w g=>(SF.val (SF.own rfl fc) t default) w g 1 _ rfl) rfl rfl bF) ?_;refine ls rfl rfl Wh ((fun w g=>fY ((fun w g=>nA _ w) w g)))<|aj ?_;rw[b3]
  cases al
  ·refine cT (t:=82) (v':= .bool true) rfl rfl<|be rfl<|aj ?_;intro w g;exact⟨by rw[X rfl],g.below⟩
  refine cT (t:=82) (v':= .bool false) rfl rfl<|cA rfl<|aj ?_;refine cG (b+1) (⟨by show b+1<=_;omega,cd rfl⟩) (by show _ - _<_ - _;omega)
 obtain rfl:b=(x.L++x.K).length:=ω;rw[if_neg (FU cm)] at l;refine aj ?_;refine cZ (fun b:Nat=>b<=x.L.length/\∀j,j<b->gM (x.L.getD j default) (h.L.getD j 0)=true) (fun b=>x.L.length - b) (fun b=> [(2,ai (i:Int)),(3,af G),(4,af I),(7,af y),(8,af J),(11,ai (b:Int))]) (fun _=> [ak y [ai (r:Int),ai x.pc,ac O x.L.length U,ac R x.K.length V] 118,ak J [ai h.params,ac a0 h.L.length a3,ai h.result,ac a1 h.C.length a4] 84,ak I (ah a m) 43,ak G [ac C fs.length D] 24]) 0 (⟨aS _,fun _ k=>absurd k (gu _)⟩) ?_;rintro b a6;obtain⟨cg,co⟩:b<=x.L.length/\∀j,j<b->gM (x.L.getD j default) (h.L.getD j 0)=true:=a6;refine ax (fun a8=>?_) (fun a8=>?_)
 ·have t:b<x.L.length:=ω;have:=ck (h.L.getD b 0) (cL (d:=0) ω);refine aj ?_;refine bq [0,3,6,9,12,15,18,21,24,27,32,33] [] rfl<|aj ?_;refine tE rfl (aX (k:=b) aA aM (.ro a7) ω rfl rfl rfl) ?_;refine tE rfl (eC (SF.val (SF.ro a7) t default) rfl rfl iW aM)<|aj ?_;refine tE rfl (aX (k:=b) az aZ (.ro bs) ω rfl rfl rfl) ?_;refine tE rfl (bY (SF.int (.ro bs) ω) rfl rfl bF) ?_;refine ls rfl rfl Tryz.call198 (fun w g=>Cr (x.L.getD b default) (h.L.getD b 0) ω w)<|aj ?_;refine cc rfl (fun s=>?_) (fun s=>?_)
  ·have s:gM (x.L.getD b default) (h.L.getD b 0)=false:=ψ s;rw[if_pos (xM t s)] at l;subst l;refine aj ?_;intro w g;exact⟨rfl,g.below⟩
  have s:gM (x.L.getD b default) (h.L.getD b 0)=true:=ψ s;refine aj ?_;refine cG (b+1) (⟨by show b+1<=_;omega,fun j cf=>(gL j b).elim (co j) (fun k=>by obtain rfl:j=b:=(by omega);exact s)⟩) (by show _ - _<_ - _;omega)
 obtain rfl:b=x.L.length:=ω;rw[if_neg (by rw[nM.2 co];decide)] at l;obtain⟨v,a9⟩:∃v,gh fs h x.pc=v:=⟨_,rfl⟩
 rw[a9] at q;refine aj ?_;refine eu rfl Tryz.call199 (fun w g=>b1 x.pc v a9 w (g.ro N)) (fun⟨S,F⟩ _=>?_);refine aP ?_;refine jJ (fun o:List Int×(Option Addr×Nat)=>bc=some o.1/\Ty o.1) (fun o=> [(7,af y),(12,ac o.2.1 o.1.length o.2.2)]) (fun o=> [ny (ac o.2.1 o.1.length o.2.2) o.1,ak y [ai (r:Int),ai x.pc,ac O x.L.length U,ac R x.K.length V] 118,ak J [ai h.params,ac a0 h.L.length a3,ai h.result,ac a1 h.C.length a4] 84,ak I (ah a m) 43,ak G [ac C fs.length D] 24]) ?_ ?_
 ·refine eK rfl (fun ds=>?_) (fun ds=>?_)
  ·have ce:i+1<m.F.length:=ω;obtain⟨d2,el,d3,em,_,_,eT,b8⟩:=Z.f.fr (k:=i+1) ce;obtain⟨E,ct⟩:∃f,(aQ m.F (i+1)).func=f:=⟨_,rfl⟩
   have b4:=cb _ (fJ ce);rw[ct] at b4 b8 q;rw[if_neg ω] at q;obtain⟨a2,Y⟩:∃bn,iu h x.pc E=bn:=⟨_,rfl⟩
   have X:a2=false->bg=5:=fun e=>by
    rw[Y,e,if_pos rfl] at q;rw[<-q] at l;exact l.symm
   refine aj ?_;refine bj (t:=120) (v':= ai ((i+1:Nat):Int)) rfl (congrArg (Value.int .i64) ω) ?_;refine sE (aX (k:=i+1) cX dQ (.ro Z.f) ω rfl rfl rfl)<|aj ?_;refine ef rfl (fun w g=>b8 _ w g 0 _ rfl) ?_;refine aC ?_;refine bL<|cE<|cE<|bQ<|aC ?_;refine dR (df fc bF rfl rfl (by rfl)) rfl rfl ?_;refine aC ?_;refine aC ?_
   by_cases cx:x.pc<1
   ·have bo:a2=false:=by rw[<-Y];unfold iu;rw[show br x.pc 1 h.C.length=false from by rw[rc];exact fun k=>by have:=dL.1 k;omega];rfl
    refine bj (t:=127) (v':= .bool true) rfl (congrArg Value.bool (decide_eq_true cx))<|aj ?_;refine be rfl<|aj ?_;intro w g;exact⟨by rw[X bo],g.below⟩
   refine bj (t:=127) (v':= .bool false) rfl (congrArg Value.bool (decide_eq_false cx))<|aC ?_;refine dR (df fc bF rfl rfl (by rfl)) rfl rfl ?_;refine aC ?_;refine dR (df fc rF rfl rfl (by rfl)) rfl rfl ?_;refine dR (lE eH rfl rfl) rfl rfl<|aC ?_;refine aC ?_;refine aC ?_
   by_cases c0:(h.C.length:Int)<x.pc
   ·have bo:a2=false:=by rw[<-Y];unfold iu;rw[show br x.pc 1 h.C.length=false from by rw[rc];exact fun k=>by have:=dL.1 k;omega];rfl
    refine bj (t:=135) (v':= .bool true) rfl (congrArg Value.bool (decide_eq_true c0))<|aj ?_;refine be rfl<|aj ?_;intro w g;exact⟨by rw[X bo],g.below⟩
   obtain⟨ad,ci⟩:∃ad:Nat,x.pc - 1=ad:=⟨(x.pc - 1).toNat,ω⟩
   have c7:((bH h.C ad).c == 12 && (bH h.C ad).a == E)=a2:=by
    rw[<-Y];unfold iu;rw[dL.2 ω,ci,bu,Bool.true_and];rfl
   refine bj (t:=135) (v':= .bool false) rfl (congrArg Value.bool (decide_eq_false c0))<|aj ?_;refine bj (t:=140) (v':= ai (ad:Int)) rfl (congrArg (Value.int .i64) ci)<|sE (aX (k:=ad) eH gN (.ro bl) ω rfl rfl rfl) ?_;refine sE (eC (cs:= [_,_]) (SF.op (.ro bl) ω) rfl rfl zu gN)<|aj ?_;refine sE (pY rfl rfl rfl (fun w=>UC w _ _ _ _) (fun w=>Tc _ _ _ _ w))<|aj ?_;rw[c7]
   cases a2
   ·refine cT (t:=146) (v':= .bool true) rfl rfl<|be rfl<|aj ?_;intro w g;exact⟨by rw[X rfl],g.below⟩
   refine cT (t:=146) (v':= .bool false) rfl rfl<|cA rfl<|aj ?_;rw[Y,if_neg κ] at q;obtain⟨bm,bw⟩:∃bm,gh fs h (x.pc - 1)=bm:=⟨_,rfl⟩
   rw[bw] at q;refine eu rfl Tryz.call199 (fun w g=>b1 (x.pc - 1) bm bw w (g.ro N)) (fun⟨d5,es⟩ _=>?_);refine aP ?_
   cases bm with
   | none=>
    rw[if_pos (show (none:Option (List Int)).isSome=false from rfl)] at q;rw[<-q] at l;refine cT (t:=158) (v':= .bool true) rfl rfl<|be rfl<|aj ?_;intro w g;exact⟨by rw[<-l],g.below⟩
   | some c1=>
    rw[if_neg σ] at q;obtain⟨_,f,cr,b2⟩:=b7 Y bw;rw[a9] at cr;subst cr;obtain⟨M,bv⟩:∃M:Nat,E=M:=⟨E.toNat,ω⟩
    have cj:M<fs.length:=ω;obtain⟨d6,ev,d7,ex,_,_,eN,dn⟩:=N.fn cj;have:=(cv.res M cj).1;have bk:=hent _ _ a9;have q:some (if (au fs M).result≠0 then f.dropLast else f)=bc:=by
     rw[<-q];unfold kh;rw[ct,bv,bu];rfl
    rw[bv,bu] at b2;refine cT (t:=158) (v':= .bool false) rfl rfl<|cA rfl<|aj ?_;refine bj (t:=161) (v':= ai (M:Int)) rfl (congrArg (Value.int .i64) bv)<|sE (aX (k:=M) ff fw (.ro N) ω rfl rfl rfl)<|aj ?_;refine ef rfl (fun w g=>dn _ w g 2 _ rfl)<|ax (fun z=>?_) (fun z=>?_)
    ·have z:0<(au fs M).result:=z;rw[if_pos ω] at q;have b2:=b2 ω;have:((some f).getD []).length=f.length:=rfl;refine ek (p:=f.length<=140737488355328/\f.length<=F) (fun w g=>⟨bx (SF.at_ (SF.rd (xs:=f) (m:=f.length) (A:=S) (c:=F) rfl fc) g),(SF.at_ (SF.rd (xs:=f) (m:=f.length) (A:=S) (c:=F) rfl fc) g).cap⟩) fun⟨e7,e8⟩=>?_;refine aj ?_;refine bj (t:=169) (v':= ai ((f.length - 1:Nat):Int)) rfl (congrArg (Value.int .i64) ω) ?_;refine sE (sS (lo:=0) (hi:=f.length - 1) (k:=f.dropLast.length) az aZ ⟨ω,ω⟩ (by rw[List.length_dropLast];rfl) rfl rfl rfl rfl)<|aj ?_;refine lq (f.dropLast,(iq S 0 F 1,F - 0)) (⟨q.symm,fun d1 b4=>bk d1 (List.dropLast_subset f b4)⟩) (hh:=(fun w k=>(P2 (k.msub (T:= [ny (ac S f.length F) f,ak y [ai (r:Int),ai x.pc,ac O x.L.length U,ac R x.K.length V] 118,ak J [ai h.params,ac a0 h.L.length a3,ai h.result,ac a1 h.C.length a4] 84,ak I (ah a m) 43,ak G [ac C fs.length D] 24]) ms)).msub ms))
    rw[if_neg ω] at q;refine aj ?_;refine bX (f,(S,F)) (⟨q.symm,bk⟩) (hh:=(fun w k=>k.msub ms))
  rw[if_pos ω] at q;subst q;refine aj ?_
  cases v with
  | none=>
   refine cT (t:=172) (v':= .bool true) rfl rfl<|be rfl<|aj ?_;intro w g;exact⟨by rw[<-l],g.below⟩
  | some f=>
   refine cT (t:=172) (v':= .bool false) rfl rfl<|cA rfl<|aj ?_;refine bX (f,(S,F)) (⟨rfl,hent _ _ a9⟩) (hh:=(fun w k=>k.msub ms))
 rintro⟨f,⟨b5,b6⟩⟩ b0;obtain⟨b0,bk⟩:bc=some f/\Ty f:=b0;subst b0;dsimp only at l;refine aP ?_;refine jP rfl (fun K=>?_) (fun K=>?_)
 ·have K:¬(f.length:Int)=x.K.length:=K;rw[if_pos (show f.length≠x.K.length from fun e=>K (by rw[e]))] at l;subst l;refine aj ?_;intro w g;exact⟨rfl,g.below⟩
 have K:(f.length:Int)=x.K.length:=K;have K:f.length=x.K.length:=ω;rw[if_neg (fun k=>k K)] at l;refine aj ?_;refine cZ (fun b:Nat=>b<=f.length/\∀j,j<b->gM (x.K.getD j default) (f.getD j 0)=true) (fun b=>f.length - b) (fun b=> [(7,af y),(12,ac b5 f.length b6),(17,ai (b:Int))]) (fun _=> [ny (ac b5 f.length b6) f,ak y [ai (r:Int),ai x.pc,ac O x.L.length U,ac R x.K.length V] 118]) 0 (⟨aS _,fun _ k=>absurd k (gu _)⟩) ?_;rintro b a6;obtain⟨cg,cp⟩:b<=f.length/\∀j,j<b->gM (x.K.getD j default) (f.getD j 0)=true:=a6;refine ax (fun a8=>?_) (fun a8=>?_)
 ·have t:b<f.length:=ω;have d0:b<x.K.length:=ω;refine aj ?_;refine bq [0,3,6,9,12,15,18,21,24,29,30] [] rfl<|aj ?_;refine tE rfl (aX (k:=b) aA aM (.ro ba) ω rfl rfl rfl) ?_;refine tE rfl (eC (SF.val (SF.ro ba) d0 default) rfl rfl iW aM)<|aj ?_;refine tE rfl (aX (k:=b) az aZ (SF.rd (xs:=f) rfl fc) ω rfl rfl rfl) ?_;refine tE rfl (bY (SF.int (SF.rd (xs:=f) rfl fc) ω) rfl rfl bF) ?_;refine ls rfl rfl Tryz.call198 (fun w g=>Cr (x.K.getD b default) (f.getD b 0) (bk _ (cL (d:=0) t)) w)<|aj ?_;refine cc rfl (fun s=>?_) (fun s=>?_)
  ·have s:gM (x.K.getD b default) (f.getD b 0)=false:=ψ s;rw[if_pos (xM t s)] at l;subst l;refine aj ?_;intro w g;exact⟨rfl,g.below⟩
  have s:gM (x.K.getD b default) (f.getD b 0)=true:=ψ s;refine aj ?_;refine cG (b+1) (⟨by show b+1<=_;omega,fun j cf=>(gL j b).elim (cp j) (fun k=>by obtain rfl:j=b:=(by omega);exact s)⟩) (by show _ - _<_ - _;omega)
 obtain rfl:b=f.length:=ω;rw[if_neg (by rw[nM.2 cp];decide)] at l;subst l;refine aj ?_;intro w g;exact⟨rfl,g.below⟩
end
