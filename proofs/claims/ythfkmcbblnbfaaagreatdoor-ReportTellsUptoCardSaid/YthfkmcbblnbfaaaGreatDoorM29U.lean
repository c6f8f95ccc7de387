/- Texts of one proof, one behind the other: lemmas alone. -/
import Derived.Test.YthfkmcbblnbfaaaGreatDoorM0U
import Derived.Lib.LazyBuf
import Derived.Test.YthfkmcbblnbfaaaGreatDoorM28U
import Derived.Test.YthfkmcbblnbfaaaGreatDoorM17U
import Derived.Test.YthfkmcbblnbfaaaGreatDoorM18U

namespace Go.Proofs.YthfkmcbblnbfaaaGreatDoor
set_option maxRecDepth 100000
set_option maxHeartbeats 16000000
open Go.RowKit
section
theorem s8 {P:Program} {n:NF} {B:Nat} {w0:World} {env:aZ} {H:List ar} {o:Oper} {i:Operand} {t u e:TypeId} {A:Option Addr} {m c:Nat} (hu:P.underlying t=some (.slice e)) (hop:o.op= .binOp .eql t i (.const (.slice none 0 0)) u) (hi:opv env i=some (.slice A m c)):QS P n B w0 o env H (.bool A.isNone):=
 An (e:=e) (fun w=>Lib.run_eql_slice_nil w t e A m c 0 0 hu) hop hi fun w=>by unfold eqGuard;simp
theorem qg (A:Option Addr) (c:Nat) (l:List Int) (w:World) (hs:Sl w (.slice A l.length c) l) (hl:l.length<=1000000) :
  Calls Tryz.prog 126 #[.slice A l.length c] w fun e w'=> ∃u,e= .returned u/\Below w.heap.size w w'/\dx w' w.heap.size u l:=by
 refine enter Tryz.func126 rfl Tryz.ntmps126 rfl<|aa ?_
 refine sE (s8 ap rfl rfl)<|aa ?_
 refine aO rfl (fun h=>?_) (fun h=>?_)
 ·have h0:l= []:=by
   rcases eH l.length with h0 | h0
   ·exact aN h0
   obtain⟨b,o,e⟩:=hs.addr h0
   subst e
   cases h
  subst h0
  refine aa ?_
  intro w hw
  exact⟨_,rfl,hZ hw⟩
 refine aa ?_
 refine fun g1 _=>aa ?_
 refine lp (fun w h=>bW (α:=Int) (m:=0) [] rfl (by simp) rfl (by decide) h) ?_
 refine oE (gE (α:=Int) (bytes:=8) (xs:= []) (ys:=l) rfl ap (bP dA) rfl fc (.ro hs) (by simp only[aH];omega) (by simp only[aH];omega) rfl rfl rfl) (fun⟨A5,c5⟩ _=>?_)
 refine a7 ?_
 intro w hw
 exact⟨_,rfl,jD hw⟩
theorem sx {a b:List Int} {i:Nat} (h1:i<a.length) (h2:i<b.length) (h:a.take i=b.take i) (e:a.getD i 0=b.getD i 0):a.take (i+1)=b.take (i+1):=by
 rw[ac,ae h1,ac,ae h2,lK,lK] at e
 rw[dM h1,dM h2,h,e]
theorem w9 (A1 A2:Option Addr) (c1 c2:Nat) (a b:List Int) (w:World) (h1:Sl w (.slice A1 a.length c1) a) (h2:Sl w (.slice A2 b.length c2) b) :
  Calls Tryz.prog 221 #[.slice A1 a.length c1,.slice A2 b.length c2] w fun e w'=>e= .returned (.bool (decide (a=b)))/\Below w.heap.size w w':=by
 have b1:=be h1
 refine enter Tryz.func221 rfl Tryz.ntmps221 rfl<|cq (fun hl=>?_) (fun hl=>?_)
 ·refine aa ?_
  intro w hw
  exact⟨aS (by rw[decide_eq_false (fun e=>hl (by rw[e]))]),hw.below⟩
 have hl:a.length=b.length:=by omega
 refine aa ?_
 refine cN (fun i:Nat=>i<=a.length/\a.take i=b.take i) (fun i=>a.length - i) (fun i=> [(0,.slice A1 a.length c1),(1,.slice A2 b.length c2),(12,.int .i64 (a.length:Int)),(13,.int .i64 (i:Int))]) (fun _=> []) 0 (⟨aC _,rfl⟩) ?_
 rintro i hi'
 obtain⟨hi,hj⟩:i<=a.length/\a.take i=b.take i:=hi'
 refine ak (fun hlt=>?_) (fun hlt=>?_)
 ·have hil:i<a.length:=by omega
  refine aa ?_
  refine bF [0,3,6,9,12,15,18,21,24] [] rfl<|aa ?_
  refine tE rfl (bt ap bJ (.ro h1) (by omega) rfl rfl rfl) ?_
  refine tE rfl (bT (SF.int (.ro h1) (by omega)) rfl rfl bd)<|aa ?_
  refine tE rfl (bt ap bJ (.ro h2) (by omega) rfl rfl rfl) ?_
  refine tE rfl (bT (SF.int (.ro h2) (by omega)) rfl rfl bd)<|cq (fun hne=>?_) (fun hne=>?_)
  ·refine aa ?_
   intro w hw
   exact⟨aS (by rw[decide_eq_false (fun e=>hne (by rw[e]))]),hw.below⟩
  refine aa ?_
  refine bN (i+1) (⟨hil,sx hil (by omega) hj (by simpa using hne)⟩) (by show _ - _<_ - _;omega)
 obtain rfl:i=a.length:=by omega
 rw[bh,hl,bh] at hj
 refine aa ?_
 intro w hw
 exact⟨aS (by rw[decide_eq_true hj]),hw.below⟩
section
variable {B:Nat} {w0:World}
theorem yD {γ:Type} (Φ:Nat->γ->Prop) (Ψ:γ->Prop) (Hg:γ->List ar) (A:Option Addr) (c:Nat) (l:List Int) (f:FuncId) (cap:Array Value) (hcall:∀a w,(callFunc f a).run Tryz.prog w= .ok (.enter f a) w) (hs:∀g,SF B w0 (Hg g) A l.length c l) (hll:l.length<=1000000)
  (hf:∀k g,k<l.length->Φ k g->∀w,Cw B w0 (Hg g) w->Calls Tryz.prog f ([Value.int .i64 (l.getD k 0)]++cap.toList).toArray w fun e w'=> ∃p:Bool×γ,(if p.1 then Ψ p.2 else Φ (k+1) p.2)/\e= .returned (.bool p.1)/\Cw B w0 (Hg p.2) w')
  (g0:γ) (h0:Φ 0 g0) (w:World) (hw:Cw B w0 (Hg g0) w) :
  Calls Tryz.prog 185 #[.slice A l.length c,.func (.func f) #[] cap] w fun e w'=> ∃p:Int×γ,(if 0<=p.1 then Ψ p.2 else Φ l.length p.2)/\e= .returned (.int .i64 p.1)/\Cw B w0 (Hg p.2) w':=by
 refine bX Tryz.func185 rfl Tryz.ntmps185 rfl hw<|aa ?_
 refine cN (fun p:Nat×γ=>p.1<=l.length/\Φ p.1 p.2) (fun p=>l.length - p.1) (fun p=> [(0,.slice A l.length c),(1,.func (.func f) #[] cap),(7,.int .i64 (l.length:Int)),(8,.int .i64 (p.1:Int))]) (fun p=>Hg p.2) (0,g0) (⟨aC _,h0⟩) ?_
 rintro⟨k,g⟩ hk'
 try dsimp only
 obtain⟨hk,hp⟩:k<=l.length/\Φ k g:=hk'
 refine a7 ?_
 refine ec rfl (fun hlt=>?_) (fun hlt=>?_)
 ·have hkl:k<l.length:=by omega
  refine aa ?_
  refine cQ (_) rfl ((hs g)) ?_
  refine jG rfl ((hs g)) ?_
  refine oE (gN rfl rfl rfl hcall (fun w hw=>hf k g hkl hp w hw)) (fun⟨b,g2⟩ hb=>?_)
  refine a7 ?_
  refine aO rfl (fun hbb=>?_) (fun hbb=>?_)
  ·have hbb:b=true:=hbb
   subst hbb
   have hb:Ψ g2:=hb
   refine aa ?_
   intro w hw
   exact⟨((k:Int),g2),by rw[if_pos (show (0:Int)<=(k:Int) from by omega)];exact hb,rfl,hw⟩
  have hbb:b=false:=hbb
  subst hbb
  have hb:Φ (k+1) g2:=by simpa using hb
  refine aa ?_
  refine bN (k+1,g2) (⟨hkl,hb⟩) (by show _ - _<_ - _;omega)
 obtain rfl:k=l.length:=by omega
 refine aa ?_
 intro w hw
 exact⟨(-1,g),by rw[if_neg (show¬(0:Int)<= -1 from by decide)];exact hp,rfl,hw⟩
theorem ua {γ:Type} (Φ:Nat->γ->Prop) (Ψ:γ->Prop) (Hg:γ->List ar) (A:Option Addr) (c:Nat) (l:List Int) (f:FuncId) (cap:Array Value) (hcall:∀a w,(callFunc f a).run Tryz.prog w= .ok (.enter f a) w) (hs:∀g,SF B w0 (Hg g) A l.length c l) (hll:l.length<=1000000)
  (hf:∀k g,k<l.length->Φ k g->∀w,Cw B w0 (Hg g) w->Calls Tryz.prog f ([Value.int .i64 (l.getD k 0)]++cap.toList).toArray w fun e w'=> ∃p:Bool×γ,(if p.1 then Ψ p.2 else Φ (k+1) p.2)/\e= .returned (.bool p.1)/\Cw B w0 (Hg p.2) w')
  (g0:γ) (h0:Φ 0 g0) (w:World) (hw:Cw B w0 (Hg g0) w) :
  Calls Tryz.prog 133 #[.slice A l.length c,.func (.func f) #[] cap] w fun e w'=> ∃p:Bool×γ,(if p.1 then Ψ p.2 else Φ l.length p.2)/\e= .returned (.bool p.1)/\Cw B w0 (Hg p.2) w':=by
 refine bX Tryz.func133 rfl Tryz.ntmps133 rfl hw<|aa ?_
 refine ei rfl Tryz.call185 (fun w hw=>yD Φ Ψ Hg A c l f cap hcall hs hll hf g0 h0 w hw) (fun⟨r,g2⟩ hr=>?_)
 refine a7 ?_
 intro w hw
 refine⟨(decide (0<=r),g2),?_,rfl,hw⟩
 have hr:if 0<=r then Ψ g2 else Φ l.length g2:=hr
 by_cases h:0<=r
 ·rw[if_pos h] at hr
  rw[decide_eq_true h]
  exact hr
 rw[if_neg h] at hr
 rw[decide_eq_false h]
 simpa using hr
end
end
section
structure cy where
 at_:List (List Int)
 met:List Bool
 todo:List Int
def bG (n:Nat) (s:cy) (k:Nat) (l:List Int):Bool×cy:=
 if k=n then (false,s) else if s.met.getD k false=true then
  (match aL (s.at_.getD k []) l with
  | none=>(false,s)
  | some j=>if j=s.at_.getD k [] then (true,s) else (true,⟨s.at_.set k j,s.met.set k true,s.todo++ [(k:Int)]⟩))
 else (true,⟨s.at_.set k l,s.met.set k true,s.todo++ [(k:Int)]⟩)
structure FC where
 gx:Nat
 fs:List ah
 f:ah
 Ap:Option Addr
 cp:Nat
 A1:Option Addr
 c1:Nat
 A2:Option Addr
 c2:Nat
 Aa:Option Addr
 ca:Nat
 Am:Option Addr
 cm:Nat
abbrev fR (C:FC) (s:cy) (hd:List fp) (L:List (Value×List Int)) (At:Option Addr) (ct:Nat):List ar:=
 [af C.gx [.slice C.Ap C.fs.length C.cp,.int .i64 C.f.params,.slice C.A1 C.f.locals.length C.c1,.int .i64 C.f.result,.slice C.A2 C.f.code.length C.c2,.slice C.Aa C.f.code.length C.ca,.slice C.Am C.f.code.length C.cm,.slice At s.todo.length ct] 224,
  aj (.slice C.Aa C.f.code.length C.ca) hd,aj (.slice C.Am C.f.code.length C.cm) s.met,aj (.slice At s.todo.length ct) s.todo,dI L]
structure fx (n:Nat) (hd:List fp) (L:List (Value×List Int)) (at_:List (List Int)):Prop where
 hl:hd.length=n
 al:at_.length=n
 el:∀i,i<n->gH L (hd.getD i gO).v (at_.getD i [])
theorem eV {α:Type} {l:List α} {k i:Nat} {x d:α} (hk:k<l.length):(l.set k x).getD i d=if i=k then x else l.getD i d:=by
 rw[ac,ac,List.getElem?_set]
 by_cases h:k=i
 ·subst h;rw[if_pos rfl,if_pos hk,if_pos rfl];rfl
 rw[if_neg h,if_neg (fun e=>h e.symm)]
theorem fx.cons {n:Nat} {hd:List fp} {L:List (Value×List Int)} {at_:List (List Int)} (h:fx n hd L at_) (p:Value×List Int):fx n hd (p::L) at_:=⟨h.hl,h.al,fun i hi=>(h.el i hi).cons⟩
theorem fx.set {n:Nat} {hd:List fp} {L:List (Value×List Int)} {at_:List (List Int)} (h:fx n hd L at_) {k:Nat} (hk:k<n) {v:Value} {l:List Int} (hp:gH L v l):fx n (hd.set k ⟨v⟩) L (at_.set k l):=
 ⟨by rw[jx,h.hl],by rw[jx,h.al],fun i hi=>by
  rw[eV (by rw[h.hl];exact hk),eV (by rw[h.al];exact hk)]
  split
  ·exact hp
  exact h.el i hi⟩
theorem uf {B:Nat} {w0:World} {H:List ar} (C:FC) (s:cy) (hd:List fp) (L:List (Value×List Int)) (At:Option Addr) (ct:Nat) (k:Nat) (hk:k<=C.f.code.length) (hn:C.f.code.length<=40) (l:List Int) (Al:Option Addr) (cl:Nat) (hl:gH L (.slice Al l.length cl) l)
  (hR:fx C.f.code.length hd L s.at_) (hm:s.met.length=C.f.code.length) (hT:s.todo.length<=10000) (h8:∀i,(s.at_.getD i []).length<=1000) (w:World) (hw:Cw B w0 (fR C s hd L At ct++H) w) :
  Calls Tryz.prog 169 #[.pointer (some ⟨C.gx,0,none⟩),.int .i64 (k:Int),.slice Al l.length cl] w fun e w'=> ∃g:List fp×List (Value×List Int)×Option Addr×Nat,fx C.f.code.length g.1 g.2.1 (bG C.f.code.length s k l).2.at_/\
   e= .returned (.bool (bG C.f.code.length s k l).1)/\Cw B w0 (fR C (bG C.f.code.length s k l).2 g.1 g.2.1 g.2.2.1 g.2.2.2++H) w':=by
 obtain⟨gx,fs,f,Ap,cp,A1,c1,A2,c2,Aa,ca,Am,cm⟩:=C
 obtain⟨at_,met,todo⟩:=s
 dsimp only[fR,dE,e9] at *
 refine bX Tryz.func169 rfl Tryz.ntmps169 rfl hw<|ak (fun hkn=>?_) (fun hkn=>?_)
 ·have hc:bG f.code.length ⟨at_,met,todo⟩ k l=(false,⟨at_,met,todo⟩):=by unfold bG;rw[if_pos (by omega)]
  rw[hc]
  refine aa ?_
  intro w hw
  exact⟨(hd,L,At,ct),hR,rfl,hw⟩
 have hkl:k<f.code.length:=by omega
 refine fU (eR ?_)
 refine cV<|cz<|aw ?_
 refine aw ?_
 refine bV<|dw (fun g:List Int×List (Value×List Int)×Option Addr×Nat=>(gH g.2.1 (.slice g.2.2.1 g.1.length g.2.2.2) g.1/\fx f.code.length hd g.2.1 at_)/\bG f.code.length ⟨at_,met,todo⟩ k l=(true,⟨at_.set k g.1,met.set k true,todo++ [(k:Int)]⟩)) (fun g=> [(0,.pointer (some ⟨gx,0,none⟩)),(1,.int .i64 (k:Int)),(7,.slice g.2.2.1 g.1.length g.2.2.2)]) (fun g=> [af gx [.slice Ap fs.length cp,.int .i64 f.params,.slice A1 f.locals.length c1,.int .i64 f.result,.slice A2 f.code.length c2,.slice Aa f.code.length ca,.slice Am f.code.length cm,.slice At todo.length ct] 224,aj (.slice Aa f.code.length ca) hd,aj (.slice Am f.code.length cm) met,aj (.slice At todo.length ct) todo,dI g.2.1]++H) ?_ ?_
 ·refine aa ?_
  refine cQ (_) rfl ((SF.own hm fc)) ?_
  refine dQ rfl (SF.bool (SF.own hm fc) (by omega))<|aa ?_
  refine aO rfl (fun hmet=>?_) (fun hmet=>?_)
  ·have hin:=hR.el k hkl
   refine aa ?_
   refine cQ (_) rfl ((SF.own hR.hl fc)) ?_
   refine dQ rfl (SF.hdr (SF.own hR.hl fc) hkl)<|aa ?_
   refine lh (fun w h=>hin.form h fc) ?_
   rintro⟨A3,c3,hv⟩
   rw[hv] at hin
   refine bq (t:=33) (v':= .slice A3 (at_.getD k []).length c3) rfl (hv) ?_
   refine oE (eO rfl rfl rfl Tryz.call160 (fun w hw=>wS A3 Al c3 cl (at_.getD k []) l w (hin.sl hw fc) (hl.sl hw fc) (by have:=h8 k;omega))) (fun⟨A4,c4⟩ _=>?_)
   refine a7 ?_
   refine aO rfl (fun hj=>?_) (fun hj=>?_)
   ·have hj:aL (at_.getD k []) l=none:=by
     cases e:aL (at_.getD k []) l with
     | none=>rfl
     | some j=>rw[e] at hj;cases hj
    have hc:bG f.code.length ⟨at_,met,todo⟩ k l=(false,⟨at_,met,todo⟩):=by
     unfold bG
     rw[if_neg (by omega),if_pos hmet]
     simp only[hj]
    rw[hc]
    refine aa ?_
    intro w hw
    exact⟨(hd,L,At,ct),hR,rfl,hw.msub ms⟩
   obtain⟨j,hj⟩:∃j,aL (at_.getD k []) l=some j:=by
    cases e:aL (at_.getD k []) l with
    | none=>rw[e] at hj;cases hj
    | some j=>exact⟨j,rfl⟩
   rw[hj,lK]
   refine aa ?_
   refine cQ (_) rfl ((SF.own hR.hl fc)) ?_
   refine dQ rfl (SF.hdr (SF.own hR.hl fc) hkl) ?_
   refine bq (t:=47) (v':= .slice A3 (at_.getD k []).length c3) rfl (hv) ?_
   refine bw rfl Tryz.call221 (fun w hw=>w9 A4 A3 c4 c3 j (at_.getD k []) w (SF.at_ (SF.own rfl fc) hw) (hin.sl hw fc))<|ak (fun he=>?_) (fun he=>?_)
   ·have hc:bG f.code.length ⟨at_,met,todo⟩ k l=(true,⟨at_,met,todo⟩):=by
     unfold bG
     rw[if_neg (by omega),if_pos hmet]
     simp only[hj]
     rw[if_pos he]
    rw[hc]
    refine aa ?_
    intro w hw
    exact⟨(hd,L,At,ct),hR,rfl,hw.msub ms⟩
   have hc:bG f.code.length ⟨at_,met,todo⟩ k l=(true,⟨at_.set k j,met.set k true,todo++ [(k:Int)]⟩):=by
    unfold bG
    rw[if_neg (by omega),if_pos hmet]
    simp only[hj]
    rw[if_neg he]
   refine dg (fun w h=>mG (pT (h.msub (T:=aj (.slice A4 j.length c4) j::dI L::([af gx [.slice Ap fs.length cp,.int .i64 f.params,.slice A1 f.locals.length c1,.int .i64 f.result,.slice A2 f.code.length c2,.slice Aa f.code.length ca,.slice Am f.code.length cm,.slice At todo.length ct] 224,aj (.slice Aa f.code.length ca) hd,aj (.slice Am f.code.length cm) met,aj (.slice At todo.length ct) todo]++H)) ms)))<|aa ?_
   refine lO (j,(.slice A4 j.length c4,j)::L,A4,c4) (⟨⟨.new,hR.cons _⟩,hc⟩) (hh:=(fun _ h=>h.msub ms))
  have hc:bG f.code.length ⟨at_,met,todo⟩ k l=(true,⟨at_.set k l,met.set k true,todo++ [(k:Int)]⟩):=by
   unfold bG
   rw[if_neg (by omega),if_neg (by rw[hmet];decide)]
  refine aa ?_
  refine cG (l,L,Al,cl) (⟨⟨hl,hR⟩,hc⟩) (hh:=(fun _ h=>h.msub ms))
 rintro⟨wl,L2,Aw,cw⟩ hg
 obtain⟨⟨hwl,hR2⟩,hc⟩:(gH L2 (.slice Aw wl.length cw) wl/\fx f.code.length hd L2 at_)/\bG f.code.length ⟨at_,met,todo⟩ k l=(true,⟨at_.set k wl,met.set k true,todo++ [(k:Int)]⟩):=hg
 rw[hc]
 try dsimp only[dE,e9]
 refine ia (fun w h=>SF.addr (SF.own hR.hl (H:= [af gx [.slice Ap fs.length cp,.int .i64 f.params,.slice A1 f.locals.length c1,.int .i64 f.result,.slice A2 f.code.length c2,.slice Aa f.code.length ca,.slice Am f.code.length cm,.slice At todo.length ct] 224,aj (.slice Aa f.code.length ca) hd,aj (.slice Am f.code.length cm) met,aj (.slice At todo.length ct) todo,dI L2]++H) fc) (by omega) h) ?_
 rintro⟨ba,oa,hAa⟩
 refine ia (fun w h=>SF.addr (SF.own hm (H:= [af gx [.slice Ap fs.length cp,.int .i64 f.params,.slice A1 f.locals.length c1,.int .i64 f.result,.slice A2 f.code.length c2,.slice Aa f.code.length ca,.slice Am f.code.length cm,.slice At todo.length ct] 224,aj (.slice Aa f.code.length ca) hd,aj (.slice Am f.code.length cm) met,aj (.slice At todo.length ct) todo,dI L2]++H) fc) (by omega) h) ?_
 rintro⟨bm,om,hAm⟩
 refine dw (fun _:Unit=>True) (fun _=> [(0,.pointer (some ⟨gx,0,none⟩)),(1,.int .i64 (k:Int))]) (fun _=> [af gx [.slice Ap fs.length cp,.int .i64 f.params,.slice A1 f.locals.length c1,.int .i64 f.result,.slice A2 f.code.length c2,.slice Aa f.code.length ca,.slice Am f.code.length cm,.slice At todo.length ct] 224,aj (.slice Aa f.code.length ca) (hd.set k ⟨.slice Aw wl.length cw⟩),aj (.slice Am f.code.length cm) (met.set k true),aj (.slice At todo.length ct) todo,dI L2]++H) ?_ ?_
 ·refine iG [0,3,6,9,12,15,18,21,24,27,30,33,38,39,44] [14] rfl [af gx [.slice Ap fs.length cp,.int .i64 f.params,.slice A1 f.locals.length c1,.int .i64 f.result,.slice A2 f.code.length c2,.slice Aa f.code.length ca,.slice Am f.code.length cm,.slice At todo.length ct] 224]<|aa ?_
  refine tE rfl (fT fI i8 hAa hkl rfl rfl rfl) ?_
  refine pE rfl (kc (α:=fp) ⟨.slice Aw wl.length cw⟩ gO rfl fc hkl rfl i8 rfl rfl rfl rfl rfl rfl rfl rfl) (fun _ _=>?_)
  refine tE rfl (fT jM pi hAm hkl rfl rfl rfl) ?_
  refine pE rfl (kc (α:=Bool) true false rfl fc hkl trivial pi rfl rfl rfl rfl rfl rfl rfl rfl) (fun _ _=>?_)
  refine eS<|cG () (trivial) (hh:=(fun _ h=>h.msub ms))
 rintro _ _
 refine aa ?_
 intro g1 _
 refine oE (cZ (α:=Int) (bytes:=8) (k:Int) [] rfl ap (bP dA) rfl (eM fc fc) (du ⟨by omega,by omega⟩) (by omega) (by omega) rfl rfl rfl) (fun⟨A5,c5⟩ _=>?_)
 refine a7 ?_
 intro w hw
 exact⟨(hd.set k ⟨.slice Aw wl.length cw⟩,L2,A5,c5),hR2.set hkl hwl,rfl,hw.msub ms⟩
end
end Go.Proofs.YthfkmcbblnbfaaaGreatDoor
