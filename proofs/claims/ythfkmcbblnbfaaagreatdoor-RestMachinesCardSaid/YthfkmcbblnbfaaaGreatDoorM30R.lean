/- Lemmas of one proof. -/
import Derived.Test.YthfkmcbblnbfaaaGreatDoorM0R
import Derived.Lib.LazyBuf
import Derived.Test.YthfkmcbblnbfaaaGreatDoorM29R

namespace Go.Proofs.YthfkmcbblnbfaaaGreatDoor
set_option maxRecDepth 100000
set_option maxHeartbeats 16000000
open Go.RowKit
section
theorem Cc {P:Program} {n:NF} {B:Nat} {w0:World} {env:cy} {H:List aJ} {o:Oper} {i:Operand} {t u e:TypeId} {A:Option Addr} {m c:Nat} (hu:P.underlying t=some (.slice e)) (hop:o.op= .binOp .eql t i (.const (.slice none 0 0)) u) (hi:opv env i=some (.slice A m c)):QS P n B w0 o env H (.bool A.isNone):=
 Ka (e:=e) (fun w=>Lib.run_eql_slice_nil w t e A m c 0 0 hu) hop hi fun w=>by unfold eqGuard;simp
theorem ym (A:Option Addr) (c:Nat) (l:List Int) (w:World) (hs:Sl w (.slice A l.length c) l) (hl:l.length<=1000000) :
  Calls Tryz.prog 126 #[.slice A l.length c] w fun e w'=> ∃u,e= .returned u/\Below w.heap.size w w'/\ef w' w.heap.size u l:=by
 refine enter Tryz.func126 rfl Tryz.ntmps126 rfl<|aj ?_
 refine sE (Cc aw rfl rfl)<|aj ?_
 refine bT rfl (fun h=>?_) (fun h=>?_)
 ·have h0:l= []:=by
   rcases gj l.length with h0 | h0
   ·exact aY h0
   obtain⟨b,o,e⟩:=hs.addr h0
   subst e
   cases h
  subst h0
  refine aj ?_
  intro w hw
  exact⟨_,rfl,iN hw⟩
 refine aj ?_
 refine fun g1 _=>aj ?_
 refine ee (fun w h=>bt (α:=Int) (m:=0) [] rfl (by simp) rfl (by decide) h) ?_
 refine oE (di (α:=Int) (bytes:=8) (xs:= []) (ys:=l) rfl aw (aV cO) rfl fc (.ro hs) (by simp only[aD];omega) (by simp only[aD];omega) rfl rfl rfl) (fun⟨A5,c5⟩ _=>?_)
 refine aO ?_
 intro w hw
 exact⟨_,rfl,kX hw⟩
theorem BE {a b:List Int} {i:Nat} (h1:i<a.length) (h2:i<b.length) (h:a.take i=b.take i) (e:a.getD i 0=b.getD i 0):a.take (i+1)=b.take (i+1):=by
 rw[an,ap h1,an,ap h2,qv,qv] at e
 rw[dh h1,dh h2,h,e]
theorem Gl (A1 A2:Option Addr) (c1 c2:Nat) (a b:List Int) (w:World) (h1:Sl w (.slice A1 a.length c1) a) (h2:Sl w (.slice A2 b.length c2) b) :
  Calls Tryz.prog 221 #[.slice A1 a.length c1,.slice A2 b.length c2] w fun e w'=>e= .returned (.bool (decide (a=b)))/\Below w.heap.size w w':=by
 have b1:=bE h1
 refine enter Tryz.func221 rfl Tryz.ntmps221 rfl<|cQ (fun hl=>?_) (fun hl=>?_)
 ·refine aj ?_
  intro w hw
  exact⟨aS (by rw[decide_eq_false (fun e=>hl (by rw[e]))]),hw.below⟩
 have hl:a.length=b.length:=by omega
 refine aj ?_
 refine dA (fun i:Nat=>i<=a.length/\a.take i=b.take i) (fun i=>a.length - i) (fun i=> [(0,.slice A1 a.length c1),(1,.slice A2 b.length c2),(12,.int .i64 (a.length:Int)),(13,.int .i64 (i:Int))]) (fun _=> []) 0 (⟨aX _,rfl⟩) ?_
 rintro i hi'
 obtain⟨hi,hj⟩:i<=a.length/\a.take i=b.take i:=hi'
 refine av (fun hlt=>?_) (fun hlt=>?_)
 ·have hil:i<a.length:=by omega
  refine aj ?_
  refine bz [0,3,6,9,12,15,18,21,24] [] rfl<|aj ?_
  refine tE rfl (bg aw bj (.ro h1) (by omega) rfl rfl rfl) ?_
  refine tE rfl (bQ (SF.int (.ro h1) (by omega)) rfl rfl be)<|aj ?_
  refine tE rfl (bg aw bj (.ro h2) (by omega) rfl rfl rfl) ?_
  refine tE rfl (bQ (SF.int (.ro h2) (by omega)) rfl rfl be)<|cQ (fun hne=>?_) (fun hne=>?_)
  ·refine aj ?_
   intro w hw
   exact⟨aS (by rw[decide_eq_false (fun e=>hne (by rw[e]))]),hw.below⟩
  refine aj ?_
  refine cU (i+1) (⟨hil,BE hil (by omega) hj (by simpa using hne)⟩) (by show _ - _<_ - _;omega)
 obtain rfl:i=a.length:=by omega
 rw[aT,hl,aT] at hj
 refine aj ?_
 intro w hw
 exact⟨aS (by rw[decide_eq_true hj]),hw.below⟩
section
variable {B:Nat} {w0:World}
theorem Im {γ:Type} (Φ:Nat->γ->Prop) (Ψ:γ->Prop) (Hg:γ->List aJ) (A:Option Addr) (c:Nat) (l:List Int) (f:FuncId) (cap:Array Value) (hcall:∀a w,(callFunc f a).run Tryz.prog w= .ok (.enter f a) w) (hs:∀g,SF B w0 (Hg g) A l.length c l) (hll:l.length<=1000000)
  (hf:∀k g,k<l.length->Φ k g->∀w,Cw B w0 (Hg g) w->Calls Tryz.prog f ([Value.int .i64 (l.getD k 0)]++cap.toList).toArray w fun e w'=> ∃p:Bool×γ,(if p.1 then Ψ p.2 else Φ (k+1) p.2)/\e= .returned (.bool p.1)/\Cw B w0 (Hg p.2) w')
  (g0:γ) (h0:Φ 0 g0) (w:World) (hw:Cw B w0 (Hg g0) w) :
  Calls Tryz.prog 185 #[.slice A l.length c,.func (.func f) #[] cap] w fun e w'=> ∃p:Int×γ,(if 0<=p.1 then Ψ p.2 else Φ l.length p.2)/\e= .returned (.int .i64 p.1)/\Cw B w0 (Hg p.2) w':=by
 refine bG Tryz.func185 rfl Tryz.ntmps185 rfl hw<|aj ?_
 refine dA (fun p:Nat×γ=>p.1<=l.length/\Φ p.1 p.2) (fun p=>l.length - p.1) (fun p=> [(0,.slice A l.length c),(1,.func (.func f) #[] cap),(7,.int .i64 (l.length:Int)),(8,.int .i64 (p.1:Int))]) (fun p=>Hg p.2) (0,g0) (⟨aX _,h0⟩) ?_
 rintro⟨k,g⟩ hk'
 try dsimp only
 obtain⟨hk,hp⟩:k<=l.length/\Φ k g:=hk'
 refine aO ?_
 refine eo rfl (fun hlt=>?_) (fun hlt=>?_)
 ·have hkl:k<l.length:=by omega
  refine aj ?_
  refine cS (_) rfl ((hs g)) ?_
  refine ma rfl ((hs g)) ?_
  refine oE (fN rfl rfl rfl hcall (fun w hw=>hf k g hkl hp w hw)) (fun⟨b,g2⟩ hb=>?_)
  refine aO ?_
  refine bT rfl (fun hbb=>?_) (fun hbb=>?_)
  ·have hbb:b=true:=hbb
   subst hbb
   have hb:Ψ g2:=hb
   refine aj ?_
   intro w hw
   exact⟨((k:Int),g2),by rw[if_pos (show (0:Int)<=(k:Int) from by omega)];exact hb,rfl,hw⟩
  have hbb:b=false:=hbb
  subst hbb
  have hb:Φ (k+1) g2:=by simpa using hb
  refine aj ?_
  refine cU (k+1,g2) (⟨hkl,hb⟩) (by show _ - _<_ - _;omega)
 obtain rfl:k=l.length:=by omega
 refine aj ?_
 intro w hw
 exact⟨(-1,g),by rw[if_neg (show¬(0:Int)<= -1 from by decide)];exact hp,rfl,hw⟩
theorem CU {γ:Type} (Φ:Nat->γ->Prop) (Ψ:γ->Prop) (Hg:γ->List aJ) (A:Option Addr) (c:Nat) (l:List Int) (f:FuncId) (cap:Array Value) (hcall:∀a w,(callFunc f a).run Tryz.prog w= .ok (.enter f a) w) (hs:∀g,SF B w0 (Hg g) A l.length c l) (hll:l.length<=1000000)
  (hf:∀k g,k<l.length->Φ k g->∀w,Cw B w0 (Hg g) w->Calls Tryz.prog f ([Value.int .i64 (l.getD k 0)]++cap.toList).toArray w fun e w'=> ∃p:Bool×γ,(if p.1 then Ψ p.2 else Φ (k+1) p.2)/\e= .returned (.bool p.1)/\Cw B w0 (Hg p.2) w')
  (g0:γ) (h0:Φ 0 g0) (w:World) (hw:Cw B w0 (Hg g0) w) :
  Calls Tryz.prog 133 #[.slice A l.length c,.func (.func f) #[] cap] w fun e w'=> ∃p:Bool×γ,(if p.1 then Ψ p.2 else Φ l.length p.2)/\e= .returned (.bool p.1)/\Cw B w0 (Hg p.2) w':=by
 refine bG Tryz.func133 rfl Tryz.ntmps133 rfl hw<|aj ?_
 refine cT rfl Tryz.call185 (fun w hw=>Im Φ Ψ Hg A c l f cap hcall hs hll hf g0 h0 w hw) (fun⟨r,g2⟩ hr=>?_)
 refine aO ?_
 intro w hw
 refine⟨(decide (0<=r),g2),?_,rfl,hw⟩
 have hr:if 0<=r then Ψ g2 else Φ l.length g2:=hr
 by_cases h:0<=r
 ·rw[if_pos h] at hr
  rw[decide_eq_true h]
  exact hr
 rw[if_neg h] at hr
 rw[decide_eq_false h]
 simpa using hr
end
end
section
structure dV where
 at_:List (List Int)
 met:List Bool
 todo:List Int
def dp (n:Nat) (s:dV) (k:Nat) (l:List Int):Bool×dV:=
 if k=n then (false,s) else if s.met.getD k false=true then
  (match bK (s.at_.getD k []) l with
  | none=>(false,s)
  | some j=>if j=s.at_.getD k [] then (true,s) else (true,⟨s.at_.set k j,s.met.set k true,s.todo++ [(k:Int)]⟩))
 else (true,⟨s.at_.set k l,s.met.set k true,s.todo++ [(k:Int)]⟩)
structure FC where
 gx:Nat
 fs:List au
 f:au
 Ap:Option Addr
 cp:Nat
 A1:Option Addr
 c1:Nat
 A2:Option Addr
 c2:Nat
 Aa:Option Addr
 ca:Nat
 Am:Option Addr
 cm:Nat
abbrev jx (C:FC) (s:dV) (hd:List gO) (L:List (Value×List Int)) (At:Option Addr) (ct:Nat):List aJ:=
 [am C.gx [.slice C.Ap C.fs.length C.cp,.int .i64 C.f.params,.slice C.A1 C.f.L.length C.c1,.int .i64 C.f.result,.slice C.A2 C.f.C.length C.c2,.slice C.Aa C.f.C.length C.ca,.slice C.Am C.f.C.length C.cm,.slice At s.todo.length ct] 224,
  ak (.slice C.Aa C.f.C.length C.ca) hd,ak (.slice C.Am C.f.C.length C.cm) s.met,ak (.slice At s.todo.length ct) s.todo,fa L]
structure iZ (n:Nat) (hd:List gO) (L:List (Value×List Int)) (at_:List (List Int)):Prop where
 hl:hd.length=n
 al:at_.length=n
 el:∀i,i<n->iH L (hd.getD i ku).v (at_.getD i [])
theorem ip {α:Type} {l:List α} {k i:Nat} {x d:α} (hk:k<l.length):(l.set k x).getD i d=if i=k then x else l.getD i d:=by
 rw[an,an,List.getElem?_set]
 by_cases h:k=i
 ·subst h;rw[if_pos rfl,if_pos hk,if_pos rfl];rfl
 rw[if_neg h,if_neg (fun e=>h e.symm)]
theorem iZ.cons {n:Nat} {hd:List gO} {L:List (Value×List Int)} {at_:List (List Int)} (h:iZ n hd L at_) (p:Value×List Int):iZ n hd (p::L) at_:=⟨h.hl,h.al,fun i hi=>(h.el i hi).cons⟩
theorem iZ.set {n:Nat} {hd:List gO} {L:List (Value×List Int)} {at_:List (List Int)} (h:iZ n hd L at_) {k:Nat} (hk:k<n) {v:Value} {l:List Int} (hp:iH L v l):iZ n (hd.set k ⟨v⟩) L (at_.set k l):=
 ⟨by rw[ea,h.hl],by rw[ea,h.al],fun i hi=>by
  rw[ip (by rw[h.hl];exact hk),ip (by rw[h.al];exact hk)]
  split
  ·exact hp
  exact h.el i hi⟩
theorem CZ {B:Nat} {w0:World} {H:List aJ} (C:FC) (s:dV) (hd:List gO) (L:List (Value×List Int)) (At:Option Addr) (ct:Nat) (k:Nat) (hk:k<=C.f.C.length) (hn:C.f.C.length<=40) (l:List Int) (Al:Option Addr) (cl:Nat) (hl:iH L (.slice Al l.length cl) l)
  (hR:iZ C.f.C.length hd L s.at_) (hm:s.met.length=C.f.C.length) (hT:s.todo.length<=10000) (h8:∀i,(s.at_.getD i []).length<=1000) (w:World) (hw:Cw B w0 (jx C s hd L At ct++H) w) :
  Calls Tryz.prog 169 #[.pointer (some ⟨C.gx,0,none⟩),.int .i64 (k:Int),.slice Al l.length cl] w fun e w'=> ∃g:List gO×List (Value×List Int)×Option Addr×Nat,iZ C.f.C.length g.1 g.2.1 (dp C.f.C.length s k l).2.at_/\
   e= .returned (.bool (dp C.f.C.length s k l).1)/\Cw B w0 (jx C (dp C.f.C.length s k l).2 g.1 g.2.1 g.2.2.1 g.2.2.2++H) w':=by
 obtain⟨gx,fs,f,Ap,cp,A1,c1,A2,c2,Aa,ca,Am,cm⟩:=C
 obtain⟨at_,met,todo⟩:=s
 dsimp only[jx,fY,bU] at *
 refine bG Tryz.func169 rfl Tryz.ntmps169 rfl hw<|av (fun hkn=>?_) (fun hkn=>?_)
 ·have hc:dp f.C.length ⟨at_,met,todo⟩ k l=(false,⟨at_,met,todo⟩):=by unfold dp;rw[if_pos (by omega)]
  rw[hc]
  refine aj ?_
  intro w hw
  exact⟨(hd,L,At,ct),hR,rfl,hw⟩
 have hkl:k<f.C.length:=by omega
 refine gI (gF ?_)
 refine cc<|bO<|ay ?_
 refine ay ?_
 refine bH<|eh (fun g:List Int×List (Value×List Int)×Option Addr×Nat=>(iH g.2.1 (.slice g.2.2.1 g.1.length g.2.2.2) g.1/\iZ f.C.length hd g.2.1 at_)/\dp f.C.length ⟨at_,met,todo⟩ k l=(true,⟨at_.set k g.1,met.set k true,todo++ [(k:Int)]⟩)) (fun g=> [(0,.pointer (some ⟨gx,0,none⟩)),(1,.int .i64 (k:Int)),(7,.slice g.2.2.1 g.1.length g.2.2.2)]) (fun g=> [am gx [.slice Ap fs.length cp,.int .i64 f.params,.slice A1 f.L.length c1,.int .i64 f.result,.slice A2 f.C.length c2,.slice Aa f.C.length ca,.slice Am f.C.length cm,.slice At todo.length ct] 224,ak (.slice Aa f.C.length ca) hd,ak (.slice Am f.C.length cm) met,ak (.slice At todo.length ct) todo,fa g.2.1]++H) ?_ ?_
 ·refine aj ?_
  refine cS (_) rfl ((SF.own hm fc)) ?_
  refine eH rfl (SF.bool (SF.own hm fc) (by omega))<|aj ?_
  refine bT rfl (fun hmet=>?_) (fun hmet=>?_)
  ·have hin:=hR.el k hkl
   refine aj ?_
   refine cS (_) rfl ((SF.own hR.hl fc)) ?_
   refine eH rfl (SF.hdr (SF.own hR.hl fc) hkl)<|aj ?_
   refine nT (fun w h=>hin.form h fc) ?_
   rintro⟨A3,c3,hv⟩
   rw[hv] at hin
   refine bh (t:=33) (v':= .slice A3 (at_.getD k []).length c3) rfl (hv) ?_
   refine oE (eR rfl rfl rfl Tryz.call160 (fun w hw=>xN A3 Al c3 cl (at_.getD k []) l w (hin.sl hw fc) (hl.sl hw fc) (by have:=h8 k;omega))) (fun⟨A4,c4⟩ _=>?_)
   refine aO ?_
   refine bT rfl (fun hj=>?_) (fun hj=>?_)
   ·have hj:bK (at_.getD k []) l=none:=by
     cases e:bK (at_.getD k []) l with
     | none=>rfl
     | some j=>rw[e] at hj;cases hj
    have hc:dp f.C.length ⟨at_,met,todo⟩ k l=(false,⟨at_,met,todo⟩):=by
     unfold dp
     rw[if_neg (by omega),if_pos hmet]
     simp only[hj]
    rw[hc]
    refine aj ?_
    intro w hw
    exact⟨(hd,L,At,ct),hR,rfl,hw.msub ms⟩
   obtain⟨j,hj⟩:∃j,bK (at_.getD k []) l=some j:=by
    cases e:bK (at_.getD k []) l with
    | none=>rw[e] at hj;cases hj
    | some j=>exact⟨j,rfl⟩
   rw[hj,qv]
   refine aj ?_
   refine cS (_) rfl ((SF.own hR.hl fc)) ?_
   refine eH rfl (SF.hdr (SF.own hR.hl fc) hkl) ?_
   refine bh (t:=47) (v':= .slice A3 (at_.getD k []).length c3) rfl (hv) ?_
   refine bX rfl Tryz.call221 (fun w hw=>Gl A4 A3 c4 c3 j (at_.getD k []) w (SF.at_ (SF.own rfl fc) hw) (hin.sl hw fc))<|av (fun he=>?_) (fun he=>?_)
   ·have hc:dp f.C.length ⟨at_,met,todo⟩ k l=(true,⟨at_,met,todo⟩):=by
     unfold dp
     rw[if_neg (by omega),if_pos hmet]
     simp only[hj]
     rw[if_pos he]
    rw[hc]
    refine aj ?_
    intro w hw
    exact⟨(hd,L,At,ct),hR,rfl,hw.msub ms⟩
   have hc:dp f.C.length ⟨at_,met,todo⟩ k l=(true,⟨at_.set k j,met.set k true,todo++ [(k:Int)]⟩):=by
    unfold dp
    rw[if_neg (by omega),if_pos hmet]
    simp only[hj]
    rw[if_neg he]
   refine dK (fun w h=>sn (h.msub (T:=ak (.slice A4 j.length c4) j::fa L::([am gx [.slice Ap fs.length cp,.int .i64 f.params,.slice A1 f.L.length c1,.int .i64 f.result,.slice A2 f.C.length c2,.slice Aa f.C.length ca,.slice Am f.C.length cm,.slice At todo.length ct] 224,ak (.slice Aa f.C.length ca) hd,ak (.slice Am f.C.length cm) met,ak (.slice At todo.length ct) todo]++H)) ms))<|aj ?_
   refine tp (j,(.slice A4 j.length c4,j)::L,A4,c4) (⟨⟨.new,hR.cons _⟩,hc⟩) (hh:=(fun _ h=>h.msub ms))
  have hc:dp f.C.length ⟨at_,met,todo⟩ k l=(true,⟨at_.set k l,met.set k true,todo++ [(k:Int)]⟩):=by
   unfold dp
   rw[if_neg (by omega),if_neg (by rw[hmet];decide)]
  refine aj ?_
  refine bS (l,L,Al,cl) (⟨⟨hl,hR⟩,hc⟩) (hh:=(fun _ h=>h.msub ms))
 rintro⟨wl,L2,Aw,cw⟩ hg
 obtain⟨⟨hwl,hR2⟩,hc⟩:(iH L2 (.slice Aw wl.length cw) wl/\iZ f.C.length hd L2 at_)/\dp f.C.length ⟨at_,met,todo⟩ k l=(true,⟨at_.set k wl,met.set k true,todo++ [(k:Int)]⟩):=hg
 rw[hc]
 try dsimp only[fY,bU]
 refine dY (fun w h=>SF.addr (SF.own hR.hl (H:= [am gx [.slice Ap fs.length cp,.int .i64 f.params,.slice A1 f.L.length c1,.int .i64 f.result,.slice A2 f.C.length c2,.slice Aa f.C.length ca,.slice Am f.C.length cm,.slice At todo.length ct] 224,ak (.slice Aa f.C.length ca) hd,ak (.slice Am f.C.length cm) met,ak (.slice At todo.length ct) todo,fa L2]++H) fc) (by omega) h) ?_
 rintro⟨ba,oa,hAa⟩
 refine dY (fun w h=>SF.addr (SF.own hm (H:= [am gx [.slice Ap fs.length cp,.int .i64 f.params,.slice A1 f.L.length c1,.int .i64 f.result,.slice A2 f.C.length c2,.slice Aa f.C.length ca,.slice Am f.C.length cm,.slice At todo.length ct] 224,ak (.slice Aa f.C.length ca) hd,ak (.slice Am f.C.length cm) met,ak (.slice At todo.length ct) todo,fa L2]++H) fc) (by omega) h) ?_
 rintro⟨bm,om,hAm⟩
 refine eh (fun _:Unit=>True) (fun _=> [(0,.pointer (some ⟨gx,0,none⟩)),(1,.int .i64 (k:Int))]) (fun _=> [am gx [.slice Ap fs.length cp,.int .i64 f.params,.slice A1 f.L.length c1,.int .i64 f.result,.slice A2 f.C.length c2,.slice Aa f.C.length ca,.slice Am f.C.length cm,.slice At todo.length ct] 224,ak (.slice Aa f.C.length ca) (hd.set k ⟨.slice Aw wl.length cw⟩),ak (.slice Am f.C.length cm) (met.set k true),ak (.slice At todo.length ct) todo,fa L2]++H) ?_ ?_
 ·refine fx [0,3,6,9,12,15,18,21,24,27,30,33,38,39,44] [14] rfl [am gx [.slice Ap fs.length cp,.int .i64 f.params,.slice A1 f.L.length c1,.int .i64 f.result,.slice A2 f.C.length c2,.slice Aa f.C.length ca,.slice Am f.C.length cm,.slice At todo.length ct] 224]<|aj ?_
  refine tE rfl (jy dX iJ hAa hkl rfl rfl rfl) ?_
  refine pE rfl (fS (α:=gO) ⟨.slice Aw wl.length cw⟩ ku rfl fc hkl rfl iJ rfl rfl rfl rfl rfl rfl rfl rfl) (fun _ _=>?_)
  refine tE rfl (jy nj rO hAm hkl rfl rfl rfl) ?_
  refine pE rfl (fS (α:=Bool) true false rfl fc hkl trivial rO rfl rfl rfl rfl rfl rfl rfl rfl) (fun _ _=>?_)
  refine bu<|bS () (trivial) (hh:=(fun _ h=>h.msub ms))
 rintro _ _
 refine aj ?_
 intro g1 _
 refine oE (cH (α:=Int) (bytes:=8) (k:Int) [] rfl aw (aV cO) rfl (eD fc fc) (dm ⟨by omega,by omega⟩) (by omega) (by omega) rfl rfl rfl) (fun⟨A5,c5⟩ _=>?_)
 refine aO ?_
 intro w hw
 exact⟨(hd.set k ⟨.slice Aw wl.length cw⟩,L2,A5,c5),hR2.set hkl hwl,rfl,hw.msub ms⟩
end
