/- Lemmas of one proof. -/
import Derived.Test.YthfkmcbblnbfaaaGreatDoorM90W
import Derived.Test.YthfkmcbblnbfaaaGreatDoorM0W
import Derived.Lib.LazyBuf
import Derived.Test.YthfkmcbblnbfaaaGreatDoorM29W

namespace Go.Proofs.YthfkmcbblnbfaaaGreatDoor
set_option maxRecDepth 100000
set_option maxHeartbeats 16000000
open Go.RowKit
section
theorem ED {P:Program} {n:NF} {B:Nat} {w0:World} {a:cS} {H:List aO} {o:Oper} {i:Operand} {t u e:TypeId} {A:Option Addr} {m c:Nat} (f:P.underlying t=some (.slice e)) (d:o.op= .binOp .eql t i (.const (ac none 0 0)) u) (hi:opv a i=some (ac A m c)):QS P n B w0 o a H (.bool A.isNone):=
 NI (e:=e) (fun b=>Lib.run_eql_slice_nil b t e A m c 0 0 f) d hi fun b=>by unfold eqGuard;simp
theorem Bd (A:Option Addr) (c:Nat) (l:List Int) (w:World) (f:Sl w (ac A l.length c) l) (k:l.length<=1000000) :
  Calls Tryz.prog 126 #[ac A l.length c] w fun e w'=> ∃u,e= .returned u/\Below w.heap.size w w'/\eU w' w.heap.size u l:=by
 refine enter Tryz.func126 rfl Tryz.ntmps126 rfl<|aj ?_;refine sE (ED az rfl rfl)<|aj ?_;refine cc rfl (fun b=>?_) (fun b=>?_)
 ·have a:l= []:=by
   rcases ig l.length with a | a
   ·exact bz a
   obtain⟨h,n,e⟩:=f.addr a;subst e
   cases b
  subst a;refine aj ?_;intro w d;exact⟨_,rfl,mE d⟩
 refine aj ?_;refine fun j _=>aj ?_;refine fF (fun w b=>bN (α:=Int) (m:=0) [] rfl σ rfl κ b) ?_;refine oE (dv (α:=Int) (bytes:=8) (xs:= []) (ys:=l) rfl az (aU cW) rfl fc (.ro f) (by simp only[aE];omega) (by simp only[aE];omega) rfl rfl rfl) (fun⟨g,i⟩ _=>?_);refine aP ?_;intro w d;exact⟨_,rfl,mD d⟩
theorem D2 {a b:List Int} {i:Nat} (c:i<a.length) (h2:i<b.length) (h:a.take i=b.take i) (e:a.getD i 0=b.getD i 0):a.take (i+1)=b.take (i+1):=by
 rw[ap,aq c,ap,aq h2,sF,sF] at e;rw[dI c,dI h2,h,e]
theorem JC (g h:Option Addr) (i j:Nat) (a b:List Int) (w:World) (k:Sl w (ac g a.length i) a) (h2:Sl w (ac h b.length j) b) :
  Calls Tryz.prog 221 #[ac g a.length i,ac h b.length j] w fun e w'=>e= .returned (.bool (decide (a=b)))/\Below w.heap.size w w':=by
 have:=bx k;refine enter Tryz.func221 rfl Tryz.ntmps221 rfl<|cU (fun f=>?_) (fun f=>?_)
 ·refine aj ?_;intro w d;exact⟨aY (by rw[decide_eq_false (fun e=>f (by rw[e]))]),d.below⟩
 have f:a.length=b.length:=ω;refine aj ?_;refine cZ (fun c:Nat=>c<=a.length/\a.take c=b.take c) (fun c=>a.length - c) (fun c=> [(0,ac g a.length i),(1,ac h b.length j),(12,ai (a.length:Int)),(13,ai (c:Int))]) (fun _=> []) 0 (⟨aS _,rfl⟩) ?_;rintro c o;obtain⟨r,l⟩:c<=a.length/\a.take c=b.take c:=o;refine ax (fun p=>?_) (fun p=>?_)
 ·have n:c<a.length:=ω;refine aj ?_;refine bq [0,3,6,9,12,15,18,21,24] [] rfl<|aj ?_;refine tE rfl (aX az aZ (.ro k) ω rfl rfl rfl) ?_;refine tE rfl (bY (SF.int (.ro k) ω) rfl rfl bF)<|aj ?_;refine tE rfl (aX az aZ (.ro h2) ω rfl rfl rfl) ?_;refine tE rfl (bY (SF.int (.ro h2) ω) rfl rfl bF)<|cU (fun m=>?_) (fun m=>?_)
  ·refine aj ?_;intro w d;exact⟨aY (by rw[decide_eq_false (fun e=>m (by rw[e]))]),d.below⟩
  refine aj ?_;refine cG (c+1) (⟨n,D2 n ω l (ψ m)⟩) (by show _ - _<_ - _;omega)
 obtain rfl:c=a.length:=ω;rw[aR,f,aR] at l;refine aj ?_;intro w d;exact⟨aY (by rw[decide_eq_true l]),d.below⟩
section
variable {B:Nat} {w0:World}
theorem LE {γ:Type} (Φ:Nat->γ->Prop) (Ψ:γ->Prop) (h:γ->List aO) (A:Option Addr) (c:Nat) (l:List Int) (f:FuncId) (cap:Array Value) (t:∀a w,(callFunc f a).run Tryz.prog w= .ok (.enter f a) w) (r:∀g,SF B w0 (h g) A l.length c l) (z:l.length<=1000000)
  (u:∀k g,k<l.length->Φ k g->∀w,Cw B w0 (h g) w->Calls Tryz.prog f ([Value.int .i64 (l.getD k 0)]++cap.toList).toArray w fun e w'=> ∃p:Bool×γ,(if p.1 then Ψ p.2 else Φ (k+1) p.2)/\e= .returned (.bool p.1)/\Cw B w0 (h p.2) w')
  (m:γ) (s:Φ 0 m) (w:World) (d:Cw B w0 (h m) w) :
  Calls Tryz.prog 185 #[.slice A l.length c,.func (.func f) #[] cap] w fun e w'=> ∃p:Int×γ,(if 0<=p.1 then Ψ p.2 else Φ l.length p.2)/\e= .returned (.int .i64 p.1)/\Cw B w0 (h p.2) w':=by
 refine bI Tryz.func185 rfl Tryz.ntmps185 rfl d<|aj ?_;refine cZ (fun p:Nat×γ=>p.1<=l.length/\Φ p.1 p.2) (fun p=>l.length - p.1) (fun p=> [(0,.slice A l.length c),(1,.func (.func f) #[] cap),(7,.int .i64 (l.length:Int)),(8,.int .i64 (p.1:Int))]) (fun p=>h p.2) (0,m) (⟨aS _,s⟩) ?_;rintro⟨k,g⟩ v
 try dsimp only
 obtain⟨y,q⟩:k<=l.length/\Φ k g:=v;refine aP ?_;refine eK rfl (fun x=>?_) (fun x=>?_)
 ·have o:k<l.length:=by omega
  refine aj ?_;refine cP _ rfl (r g) ?_;refine nj rfl (r g) ?_;refine oE (gF rfl rfl rfl t (fun w d=>u k g o q w d)) (fun⟨n,j⟩ i=>?_);refine aP ?_;refine cc rfl (fun b=>?_) (fun b=>?_)
  ·have b:n=true:=b;subst b;have i:Ψ j:=i;refine aj ?_;intro w d;exact⟨((k:Int),j),by rw[if_pos (show (0:Int)<=(k:Int) from by omega)];exact i,rfl,d⟩
  have b:n=false:=b;subst b;have i:Φ (k+1) j:=by simpa using i
  refine aj ?_;refine cG (k+1,j) (⟨o,i⟩) (by show _ - _<_ - _;omega)
 obtain rfl:k=l.length:=by omega
 refine aj ?_;intro w d;exact⟨(-1,g),by rw[if_neg (show¬(0:Int)<= -1 from by decide)];exact q,rfl,d⟩
theorem Fy {γ:Type} (Φ:Nat->γ->Prop) (Ψ:γ->Prop) (b:γ->List aO) (A:Option Addr) (c:Nat) (l:List Int) (f:FuncId) (cap:Array Value) (q:∀a w,(callFunc f a).run Tryz.prog w= .ok (.enter f a) w) (t:∀g,SF B w0 (b g) A l.length c l) (s:l.length<=1000000)
  (r:∀k g,k<l.length->Φ k g->∀w,Cw B w0 (b g) w->Calls Tryz.prog f ([Value.int .i64 (l.getD k 0)]++cap.toList).toArray w fun e w'=> ∃p:Bool×γ,(if p.1 then Ψ p.2 else Φ (k+1) p.2)/\e= .returned (.bool p.1)/\Cw B w0 (b p.2) w')
  (j:γ) (o:Φ 0 j) (w:World) (h:Cw B w0 (b j) w) :
  Calls Tryz.prog 133 #[.slice A l.length c,.func (.func f) #[] cap] w fun e w'=> ∃p:Bool×γ,(if p.1 then Ψ p.2 else Φ l.length p.2)/\e= .returned (.bool p.1)/\Cw B w0 (b p.2) w':=by
 refine bI Tryz.func133 rfl Tryz.ntmps133 rfl h<|aj ?_;refine du rfl Tryz.call185 (fun w h=>LE Φ Ψ b A c l f cap q t s r j o w h) (fun⟨n,m⟩ d=>?_);refine aP ?_;intro w h;refine⟨(decide (0<=n),m),?_,rfl,h⟩;have d:if 0<=n then Ψ m else Φ l.length m:=d
 by_cases i:0<=n
 ·rw[if_pos i] at d;rw[decide_eq_true i];exact d
 rw[if_neg i] at d;rw[decide_eq_false i];simpa using d
end
end
section
structure eE where
 at_:List (List Int)
 met:List Bool
 todo:List Int
def dK (n:Nat) (s:eE) (k:Nat) (l:List Int):Bool×eE:=
 if k=n then (false,s) else if s.met.getD k false=true then
  (match cy (s.at_.getD k []) l with
  | none=>(false,s)
  | some j=>if j=s.at_.getD k [] then (true,s) else (true,⟨s.at_.set k j,s.met.set k true,s.todo++ [(k:Int)]⟩))
 else (true,⟨s.at_.set k l,s.met.set k true,s.todo++ [(k:Int)]⟩)
structure FC where
 gx:Nat
 fs:List aw
 f:aw
 Ap:Option Addr
 cp:Nat
 A1:Option Addr
 c1:Nat
 A2:Option Addr
 c2:Nat
 Aa:Option Addr
 ca:Nat
 Am:Option Addr
 cm:Nat
abbrev kH (C:FC) (s:eE) (hd:List jA) (L:List (Value×List Int)) (At:Option Addr) (ct:Nat):List aO:=
 [ak C.gx [.slice C.Ap C.fs.length C.cp,.int .i64 C.f.params,.slice C.A1 C.f.L.length C.c1,.int .i64 C.f.result,.slice C.A2 C.f.C.length C.c2,.slice C.Aa C.f.C.length C.ca,.slice C.Am C.f.C.length C.cm,.slice At s.todo.length ct] 224,
  an (.slice C.Aa C.f.C.length C.ca) hd,an (.slice C.Am C.f.C.length C.cm) s.met,an (.slice At s.todo.length ct) s.todo,gO L]
structure jU (n:Nat) (hd:List jA) (L:List (Value×List Int)) (at_:List (List Int)):Prop where
 hl:hd.length=n
 al:at_.length=n
 el:∀i,i<n->lR L (hd.getD i mo).v (at_.getD i [])
theorem jg {α:Type} {l:List α} {k i:Nat} {x d:α} (c:k<l.length):(l.set k x).getD i d=if i=k then x else l.getD i d:=by
 rw[ap,ap,ra]
 by_cases a:k=i
 ·subst a;rw[if_pos rfl,if_pos c,if_pos rfl];rfl
 rw[if_neg a,if_neg (fun b=>a b.symm)]
theorem jU.cons {n:Nat} {hd:List jA} {L:List (Value×List Int)} {at_:List (List Int)} (h:jU n hd L at_) (p:Value×List Int):jU n hd (p::L) at_:=⟨h.hl,h.al,fun i hi=>(h.el i hi).cons⟩
theorem jU.set {n:Nat} {hd:List jA} {L:List (Value×List Int)} {at_:List (List Int)} (h:jU n hd L at_) {k:Nat} (hk:k<n) {v:Value} {l:List Int} (hp:lR L v l):jU n (hd.set k ⟨v⟩) L (at_.set k l):=
 ⟨by rw[bS,h.hl],by rw[bS,h.al],fun i hi=>by
  rw[jg (by rw[h.hl];exact hk),jg (by rw[h.al];exact hk)]
  split
  ·exact hp
  exact h.el i hi⟩
theorem FD {B:Nat} {w0:World} {H:List aO} (C:FC) (s:eE) (n:List jA) (L:List (Value×List Int)) (f:Option Addr) (h:Nat) (k:Nat) (bf:k<=C.f.C.length) (bg:C.f.C.length<=40) (l:List Int) (R:Option Addr) (W:Nat) (am:lR L (ac R l.length W) l)
  (v:jU C.f.C.length n L s.at_) (ad:s.met.length=C.f.C.length) (bc:s.todo.length<=10000) (a2:∀i,(s.at_.getD i []).length<=1000) (w:World) (j:Cw B w0 (kH C s n L f h++H) w) :
  Calls Tryz.prog 169 #[af C.gx,ai (k:Int),ac R l.length W] w fun e w'=> ∃g:List jA×List (Value×List Int)×Option Addr×Nat,jU C.f.C.length g.1 g.2.1 (dK C.f.C.length s k l).2.at_/\
   e= .returned (.bool (dK C.f.C.length s k l).1)/\Cw B w0 (kH C (dK C.f.C.length s k l).2 g.1 g.2.1 g.2.2.1 g.2.2.2++H) w':=by
 obtain⟨z,M,a,F,K,D,I,E,J,p,r,q,u⟩:=C;obtain⟨c,d,b⟩:=s;dsimp only[kH,eQ,cB] at *;refine bI Tryz.func169 rfl Tryz.ntmps169 rfl j<|ax (fun a7=>?_) (fun a7=>?_)
 ·have x:dK a.C.length ⟨c,d,b⟩ k l=(false,⟨c,d,b⟩):=by unfold dK;rw[if_pos ω]
  rw[x];refine aj ?_;intro w j;exact⟨(n,L,f,h),v,rfl,j⟩
 have A:k<a.C.length:=ω;refine fq (fm ?_);refine cE<|bQ<|aC ?_;refine aC ?_;refine bL<|dG (fun g:List Int×List (Value×List Int)×Option Addr×Nat=>(lR g.2.1 (ac g.2.2.1 g.1.length g.2.2.2) g.1/\jU a.C.length n g.2.1 c)/\dK a.C.length ⟨c,d,b⟩ k l=(true,⟨c.set k g.1,d.set k true,b++ [(k:Int)]⟩)) (fun g=> [(0,af z),(1,ai (k:Int)),(7,ac g.2.2.1 g.1.length g.2.2.2)]) (fun g=> [ak z [ac F M.length K,ai a.params,ac D a.L.length I,ai a.result,ac E a.C.length J,ac p a.C.length r,ac q a.C.length u,ac f b.length h] 224,an (ac p a.C.length r) n,an (ac q a.C.length u) d,ag f h b,gO g.2.1]++H) ?_ ?_
 ·refine aj ?_;refine cP _ rfl (SF.own ad fc) ?_;refine ef rfl (SF.bool (SF.own ad fc) ω)<|aj ?_;refine cc rfl (fun O=>?_) (fun O=>?_)
  ·have Y:=v.el k A;refine aj ?_;refine cP _ rfl (SF.own v.hl fc) ?_;refine ef rfl (SF.hdr (SF.own v.hl fc) A)<|aj ?_;refine rL (fun w m=>Y.form m fc) ?_;rintro⟨P,U,al⟩;rw[al] at Y;refine bj (t:=33) (v':= ac P (c.getD k []).length U) rfl al<|oE (fl rfl rfl rfl Tryz.call160 (fun w j=>Jj P R U W (c.getD k []) l w (Y.sl j fc) (am.sl j fc) (by have:=a2 k;omega))) (fun⟨Q,V⟩ _=>?_);refine aP ?_;refine cc rfl (fun y=>?_) (fun y=>?_)
   ·have y:cy (c.getD k []) l=none:=by
     cases e:cy (c.getD k []) l with
     | none=>rfl
     | some o=>rw[e] at y;cases y
    have x:dK a.C.length ⟨c,d,b⟩ k l=(false,⟨c,d,b⟩):=by
     unfold dK;rw[if_neg ω,if_pos O];simp only[y]
    rw[x];refine aj ?_;intro w j;exact⟨(n,L,f,h),v,rfl,j.msub ms⟩
   obtain⟨o,y⟩:∃o,cy (c.getD k []) l=some o:=by
    cases e:cy (c.getD k []) l with
    | none=>rw[e] at y;cases y
    | some o=>exact⟨o,rfl⟩
   rw[y,sF];refine aj ?_;refine cP _ rfl (SF.own v.hl fc) ?_;refine ef rfl (SF.hdr (SF.own v.hl fc) A) ?_;refine bj (t:=47) (v':= ac P (c.getD k []).length U) rfl al<|cO rfl Tryz.call221 (fun w j=>JC Q P V U o (c.getD k []) w (SF.at_ (SF.own rfl fc) j) (Y.sl j fc))<|ax (fun Z=>?_) (fun Z=>?_)
   ·have x:dK a.C.length ⟨c,d,b⟩ k l=(true,⟨c,d,b⟩):=by
     unfold dK;rw[if_neg ω,if_pos O];simp only[y];rw[if_pos Z]
    rw[x];refine aj ?_;intro w j;exact⟨(n,L,f,h),v,rfl,j.msub ms⟩
   have x:dK a.C.length ⟨c,d,b⟩ k l=(true,⟨c.set k o,d.set k true,b++ [(k:Int)]⟩):=by
    unfold dK;rw[if_neg ω,if_pos O];simp only[y];rw[if_neg Z]
   refine dm (fun w m=>uP (m.msub (T:=ag Q V o::gO L::([ak z [ac F M.length K,ai a.params,ac D a.L.length I,ai a.result,ac E a.C.length J,ac p a.C.length r,ac q a.C.length u,ac f b.length h] 224,an (ac p a.C.length r) n,an (ac q a.C.length u) d,ag f h b]++H)) ms))<|aj ?_;refine lq (o,(ac Q o.length V,o)::L,Q,V) (⟨⟨.new,v.cons _⟩,x⟩) (hh:=(fun _ m=>m.msub ms))
  have x:dK a.C.length ⟨c,d,b⟩ k l=(true,⟨c.set k l,d.set k true,b++ [(k:Int)]⟩):=by
   unfold dK;rw[if_neg ω,if_neg (by rw[O];decide)]
  refine aj ?_;refine bX (l,L,R,W) (⟨⟨am,v⟩,x⟩) (hh:=(fun _ m=>m.msub ms))
 rintro⟨N,G,S,X⟩ a6;obtain⟨⟨a8,a5⟩,x⟩:(lR G (ac S N.length X) N/\jU a.C.length n G c)/\dK a.C.length ⟨c,d,b⟩ k l=(true,⟨c.set k N,d.set k true,b++ [(k:Int)]⟩):=a6;rw[x]
 try dsimp only[eQ,cB]
 refine ek (fun w m=>SF.addr (SF.own v.hl (H:= [ak z [ac F M.length K,ai a.params,ac D a.L.length I,ai a.result,ac E a.C.length J,ac p a.C.length r,ac q a.C.length u,ac f b.length h] 224,an (ac p a.C.length r) n,an (ac q a.C.length u) d,ag f h b,gO G]++H) fc) ω m) ?_;rintro⟨a9,bi,a3⟩;refine ek (fun w m=>SF.addr (SF.own ad (H:= [ak z [ac F M.length K,ai a.params,ac D a.L.length I,ai a.result,ac E a.C.length J,ac p a.C.length r,ac q a.C.length u,ac f b.length h] 224,an (ac p a.C.length r) n,an (ac q a.C.length u) d,ag f h b,gO G]++H) fc) ω m) ?_;rintro⟨ba,bk,a4⟩;refine dG (fun _:Unit=>True) (fun _=> [(0,af z),(1,ai (k:Int))]) (fun _=> [ak z [ac F M.length K,ai a.params,ac D a.L.length I,ai a.result,ac E a.C.length J,ac p a.C.length r,ac q a.C.length u,ac f b.length h] 224,an (ac p a.C.length r) (n.set k ⟨ac S N.length X⟩),an (ac q a.C.length u) (d.set k true),ag f h b,gO G]++H) ?_ ?_
 ·refine eP [0,3,6,9,12,15,18,21,24,27,30,33,38,39,44] [14] rfl [ak z [ac F M.length K,ai a.params,ac D a.L.length I,ai a.result,ac E a.C.length J,ac p a.C.length r,ac q a.C.length u,ac f b.length h] 224]<|aj ?_;refine tE rfl (jG eI gv a3 A rfl rfl rfl) ?_;refine pE rfl (fZ (α:=jA) ⟨ac S N.length X⟩ mo rfl fc A rfl gv rfl rfl rfl rfl rfl rfl rfl rfl) (fun _ _=>?_);refine tE rfl (jG oY ur a4 A rfl rfl rfl) ?_;refine pE rfl (fZ (α:=Bool) true false rfl fc A trivial ur rfl rfl rfl rfl rfl rfl rfl rfl) (fun _ _=>?_);refine bJ<|bX () trivial (hh:=(fun _ m=>m.msub ms))
 rintro _ _;refine aj ?_;intro bb _;refine oE (cz (α:=Int) (bytes:=8) (k:Int) [] rfl az (aU cW) rfl (eG fc fc) (dt ⟨ω,ω⟩) ω ω rfl rfl rfl) (fun⟨a0,a1⟩ _=>?_);refine aP ?_;intro w j;exact⟨(n.set k ⟨ac S N.length X⟩,G,a0,a1),a5.set A a8,rfl,j.msub ms⟩
end
