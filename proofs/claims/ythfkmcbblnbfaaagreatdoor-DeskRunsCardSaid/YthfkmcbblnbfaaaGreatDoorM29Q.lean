/- Lemmas of one proof. -/
import Derived.Test.YthfkmcbblnbfaaaGreatDoorM0Q
import Derived.Lib.LazyBuf
import Derived.Test.YthfkmcbblnbfaaaGreatDoorM28Q

namespace Go.Proofs.YthfkmcbblnbfaaaGreatDoor
set_option maxRecDepth 100000
set_option maxHeartbeats 16000000
open Go.RowKit
section
theorem AG {P:Program} {n:NF} {B:Nat} {w0:World} {env:bJ} {H:List aC} {o:Oper} {i:Operand} {t u e:TypeId} {A:Option Addr} {m c:Nat} (hu:P.underlying t=some (.slice e)) (hop:o.op= .binOp .eql t i (.const (.slice none 0 0)) u) (hi:opv env i=some (.slice A m c)):QS P n B w0 o env H (.bool A.isNone):=
 Jo (e:=e) (fun w=>Lib.run_eql_slice_nil w t e A m c 0 0 hu) hop hi fun w=>by unfold eqGuard;simp
theorem wB (A:Option Addr) (c:Nat) (l:List Int) (w:World) (hs:Sl w (.slice A l.length c) l) (hl:l.length<=1000000) :
  Calls Tryz.prog 126 #[.slice A l.length c] w fun e w'=> ∃u,e= .returned u/\Below w.heap.size w w'/\eo w' w.heap.size u l:=by
 refine enter Tryz.func126 rfl Tryz.ntmps126 rfl<|aj ?_
 refine sE (AG aV rfl rfl)<|aj ?_
 refine cB rfl (fun h=>?_) (fun h=>?_)
 ·have h0:l= []:=by
   rcases fy l.length with h0 | h0
   ·exact aS h0
   obtain⟨b,o,e⟩:=hs.addr h0
   subst e
   cases h
  subst h0
  refine aj ?_
  intro w hw
  exact⟨_,rfl,lT hw⟩
 refine aj ?_
 refine fun g1 _=>aj ?_
 refine eA (fun w h=>bI (α:=Int) (m:=0) [] rfl (by simp) rfl (by decide) h) ?_
 refine oE (ju (α:=Int) (bytes:=8) (xs:= []) (ys:=l) rfl aV (bM ge) rfl fc (.ro hs) (by simp only[aZ];omega) (by simp only[aZ];omega) rfl rfl rfl) (fun⟨A5,c5⟩ _=>?_)
 refine aJ ?_
 intro w hw
 exact⟨_,rfl,ot hw⟩
theorem zF {a b:List Int} {i:Nat} (h1:i<a.length) (h2:i<b.length) (h:a.take i=b.take i) (e:a.getD i 0=b.getD i 0):a.take (i+1)=b.take (i+1):=by
 rw[ak,ap h1,ak,ap h2,uv,uv] at e
 rw[cO h1,cO h2,h,e]
theorem EW (A1 A2:Option Addr) (c1 c2:Nat) (a b:List Int) (w:World) (h1:Sl w (.slice A1 a.length c1) a) (h2:Sl w (.slice A2 b.length c2) b) :
  Calls Tryz.prog 221 #[.slice A1 a.length c1,.slice A2 b.length c2] w fun e w'=>e= .returned (.bool (decide (a=b)))/\Below w.heap.size w w':=by
 have b1:=bx h1
 refine enter Tryz.func221 rfl Tryz.ntmps221 rfl<|bV (fun hl=>?_) (fun hl=>?_)
 ·refine aj ?_
  intro w hw
  exact⟨aM (by rw[decide_eq_false (fun e=>hl (by rw[e]))]),hw.below⟩
 have hl:a.length=b.length:=by omega
 refine aj ?_
 refine dG (fun i:Nat=>i<=a.length/\a.take i=b.take i) (fun i=>a.length - i) (fun i=> [(0,.slice A1 a.length c1),(1,.slice A2 b.length c2),(12,.int .i64 (a.length:Int)),(13,.int .i64 (i:Int))]) (fun _=> []) 0 (⟨bi _,rfl⟩) ?_
 rintro i hi'
 obtain⟨hi,hj⟩:i<=a.length/\a.take i=b.take i:=hi'
 refine az (fun hlt=>?_) (fun hlt=>?_)
 ·have hil:i<a.length:=by omega
  refine aj ?_
  refine bU [0,3,6,9,12,15,18,21,24] [] rfl<|aj ?_
  refine tE rfl (bZ aV cJ (.ro h1) (by omega) rfl rfl rfl) ?_
  refine tE rfl (dT (SF.int (.ro h1) (by omega)) rfl rfl du)<|aj ?_
  refine tE rfl (bZ aV cJ (.ro h2) (by omega) rfl rfl rfl) ?_
  refine tE rfl (dT (SF.int (.ro h2) (by omega)) rfl rfl du)<|bV (fun hne=>?_) (fun hne=>?_)
  ·refine aj ?_
   intro w hw
   exact⟨aM (by rw[decide_eq_false (fun e=>hne (by rw[e]))]),hw.below⟩
  refine aj ?_
  refine dv (i+1) (⟨hil,zF hil (by omega) hj (by simpa using hne)⟩) (by show _ - _<_ - _;omega)
 obtain rfl:i=a.length:=by omega
 rw[aQ,hl,aQ] at hj
 refine aj ?_
 intro w hw
 exact⟨aM (by rw[decide_eq_true hj]),hw.below⟩
section
variable {B:Nat} {w0:World}
theorem G8 {γ:Type} (Φ:Nat->γ->Prop) (Ψ:γ->Prop) (Hg:γ->List aC) (A:Option Addr) (c:Nat) (l:List Int) (f:FuncId) (cap:Array Value) (hcall:∀a w,(callFunc f a).run Tryz.prog w= .ok (.enter f a) w) (hs:∀g,SF B w0 (Hg g) A l.length c l) (hll:l.length<=1000000)
  (hf:∀k g,k<l.length->Φ k g->∀w,Cw B w0 (Hg g) w->Calls Tryz.prog f ([Value.int .i64 (l.getD k 0)]++cap.toList).toArray w fun e w'=> ∃p:Bool×γ,(if p.1 then Ψ p.2 else Φ (k+1) p.2)/\e= .returned (.bool p.1)/\Cw B w0 (Hg p.2) w')
  (g0:γ) (h0:Φ 0 g0) (w:World) (hw:Cw B w0 (Hg g0) w) :
  Calls Tryz.prog 185 #[.slice A l.length c,.func (.func f) #[] cap] w fun e w'=> ∃p:Int×γ,(if 0<=p.1 then Ψ p.2 else Φ l.length p.2)/\e= .returned (.int .i64 p.1)/\Cw B w0 (Hg p.2) w':=by
 refine aY Tryz.func185 rfl Tryz.ntmps185 rfl hw<|aj ?_
 refine dG (fun p:Nat×γ=>p.1<=l.length/\Φ p.1 p.2) (fun p=>l.length - p.1) (fun p=> [(0,.slice A l.length c),(1,.func (.func f) #[] cap),(7,.int .i64 (l.length:Int)),(8,.int .i64 (p.1:Int))]) (fun p=>Hg p.2) (0,g0) (⟨bi _,h0⟩) ?_
 rintro⟨k,g⟩ hk'
 try dsimp only
 obtain⟨hk,hp⟩:k<=l.length/\Φ k g:=hk'
 refine aJ ?_
 refine gJ rfl (fun hlt=>?_) (fun hlt=>?_)
 ·have hkl:k<l.length:=by omega
  refine aj ?_
  refine dA (_) rfl ((hs g)) ?_
  refine oN rfl ((hs g)) ?_
  refine oE (fU rfl rfl rfl hcall (fun w hw=>hf k g hkl hp w hw)) (fun⟨b,g2⟩ hb=>?_)
  refine aJ ?_
  refine cB rfl (fun hbb=>?_) (fun hbb=>?_)
  ·have hbb:b=true:=hbb
   subst hbb
   have hb:Ψ g2:=hb
   refine aj ?_
   intro w hw
   exact⟨((k:Int),g2),by rw[if_pos (show (0:Int)<=(k:Int) from by omega)];exact hb,rfl,hw⟩
  have hbb:b=false:=hbb
  subst hbb
  have hb:Φ (k+1) g2:=by simpa using hb
  refine aj ?_
  refine dv (k+1,g2) (⟨hkl,hb⟩) (by show _ - _<_ - _;omega)
 obtain rfl:k=l.length:=by omega
 refine aj ?_
 intro w hw
 exact⟨(-1,g),by rw[if_neg (show¬(0:Int)<= -1 from by decide)];exact hp,rfl,hw⟩
theorem BM {γ:Type} (Φ:Nat->γ->Prop) (Ψ:γ->Prop) (Hg:γ->List aC) (A:Option Addr) (c:Nat) (l:List Int) (f:FuncId) (cap:Array Value) (hcall:∀a w,(callFunc f a).run Tryz.prog w= .ok (.enter f a) w) (hs:∀g,SF B w0 (Hg g) A l.length c l) (hll:l.length<=1000000)
  (hf:∀k g,k<l.length->Φ k g->∀w,Cw B w0 (Hg g) w->Calls Tryz.prog f ([Value.int .i64 (l.getD k 0)]++cap.toList).toArray w fun e w'=> ∃p:Bool×γ,(if p.1 then Ψ p.2 else Φ (k+1) p.2)/\e= .returned (.bool p.1)/\Cw B w0 (Hg p.2) w')
  (g0:γ) (h0:Φ 0 g0) (w:World) (hw:Cw B w0 (Hg g0) w) :
  Calls Tryz.prog 133 #[.slice A l.length c,.func (.func f) #[] cap] w fun e w'=> ∃p:Bool×γ,(if p.1 then Ψ p.2 else Φ l.length p.2)/\e= .returned (.bool p.1)/\Cw B w0 (Hg p.2) w':=by
 refine aY Tryz.func133 rfl Tryz.ntmps133 rfl hw<|aj ?_
 refine cz rfl Tryz.call185 (fun w hw=>G8 Φ Ψ Hg A c l f cap hcall hs hll hf g0 h0 w hw) (fun⟨r,g2⟩ hr=>?_)
 refine aJ ?_
 intro w hw
 refine⟨(decide (0<=r),g2),?_,rfl,hw⟩
 have hr:if 0<=r then Ψ g2 else Φ l.length g2:=hr
 by_cases h:0<=r
 ·rw[if_pos h] at hr
  rw[decide_eq_true h]
  exact hr
 rw[if_neg h] at hr
 rw[decide_eq_false h]
 simpa using hr
end
end
section
structure ew where
 at_:List (List Int)
 met:List Bool
 todo:List Int
def dq (n:Nat) (s:ew) (k:Nat) (l:List Int):Bool×ew:=
 if k=n then (false,s) else if s.met.getD k false=true then
  (match bu (s.at_.getD k []) l with
  | none=>(false,s)
  | some j=>if j=s.at_.getD k [] then (true,s) else (true,⟨s.at_.set k j,s.met.set k true,s.todo++ [(k:Int)]⟩))
 else (true,⟨s.at_.set k l,s.met.set k true,s.todo++ [(k:Int)]⟩)
structure FC where
 gx:Nat
 fs:List au
 f:au
 Ap:Option Addr
 cp:Nat
 A1:Option Addr
 c1:Nat
 A2:Option Addr
 c2:Nat
 Aa:Option Addr
 ca:Nat
 Am:Option Addr
 cm:Nat
abbrev iO (C:FC) (s:ew) (hd:List jB) (L:List (Value×List Int)) (At:Option Addr) (ct:Nat):List aC:=
 [am C.gx [.slice C.Ap C.fs.length C.cp,.int .i64 C.f.params,.slice C.A1 C.f.L.length C.c1,.int .i64 C.f.result,.slice C.A2 C.f.C.length C.c2,.slice C.Aa C.f.C.length C.ca,.slice C.Am C.f.C.length C.cm,.slice At s.todo.length ct] 224,
  an (.slice C.Aa C.f.C.length C.ca) hd,an (.slice C.Am C.f.C.length C.cm) s.met,an (.slice At s.todo.length ct) s.todo,iI L]
structure kh (n:Nat) (hd:List jB) (L:List (Value×List Int)) (at_:List (List Int)):Prop where
 hl:hd.length=n
 al:at_.length=n
 el:∀i,i<n->kY L (hd.getD i nG).v (at_.getD i [])
theorem ig {α:Type} {l:List α} {k i:Nat} {x d:α} (hk:k<l.length):(l.set k x).getD i d=if i=k then x else l.getD i d:=by
 rw[ak,ak,nN]
 by_cases h:k=i
 ·subst h;rw[if_pos rfl,if_pos hk,if_pos rfl];rfl
 rw[if_neg h,if_neg (fun e=>h e.symm)]
theorem kh.cons {n:Nat} {hd:List jB} {L:List (Value×List Int)} {at_:List (List Int)} (h:kh n hd L at_) (p:Value×List Int):kh n hd (p::L) at_:=⟨h.hl,h.al,fun i hi=>(h.el i hi).cons⟩
theorem kh.set {n:Nat} {hd:List jB} {L:List (Value×List Int)} {at_:List (List Int)} (h:kh n hd L at_) {k:Nat} (hk:k<n) {v:Value} {l:List Int} (hp:kY L v l):kh n (hd.set k ⟨v⟩) L (at_.set k l):=
 ⟨by rw[dt,h.hl],by rw[dt,h.al],fun i hi=>by
  rw[ig (by rw[h.hl];exact hk),ig (by rw[h.al];exact hk)]
  split
  ·exact hp
  exact h.el i hi⟩
theorem BQ {B:Nat} {w0:World} {H:List aC} (C:FC) (s:ew) (hd:List jB) (L:List (Value×List Int)) (At:Option Addr) (ct:Nat) (k:Nat) (hk:k<=C.f.C.length) (hn:C.f.C.length<=40) (l:List Int) (Al:Option Addr) (cl:Nat) (hl:kY L (.slice Al l.length cl) l)
  (hR:kh C.f.C.length hd L s.at_) (hm:s.met.length=C.f.C.length) (hT:s.todo.length<=10000) (h8:∀i,(s.at_.getD i []).length<=1000) (w:World) (hw:Cw B w0 (iO C s hd L At ct++H) w) :
  Calls Tryz.prog 169 #[.pointer (some ⟨C.gx,0,none⟩),.int .i64 (k:Int),.slice Al l.length cl] w fun e w'=> ∃g:List jB×List (Value×List Int)×Option Addr×Nat,kh C.f.C.length g.1 g.2.1 (dq C.f.C.length s k l).2.at_/\
   e= .returned (.bool (dq C.f.C.length s k l).1)/\Cw B w0 (iO C (dq C.f.C.length s k l).2 g.1 g.2.1 g.2.2.1 g.2.2.2++H) w':=by
 obtain⟨gx,fs,f,Ap,cp,A1,c1,A2,c2,Aa,ca,Am,cm⟩:=C
 obtain⟨at_,met,todo⟩:=s
 dsimp only[iO,dy,jk] at *
 refine aY Tryz.func169 rfl Tryz.ntmps169 rfl hw<|az (fun hkn=>?_) (fun hkn=>?_)
 ·have hc:dq f.C.length ⟨at_,met,todo⟩ k l=(false,⟨at_,met,todo⟩):=by unfold dq;rw[if_pos (by omega)]
  rw[hc]
  refine aj ?_
  intro w hw
  exact⟨(hd,L,At,ct),hR,rfl,hw⟩
 have hkl:k<f.C.length:=by omega
 refine fx (fw ?_)
 refine cu<|bG<|aD ?_
 refine aD ?_
 refine bK<|dx (fun g:List Int×List (Value×List Int)×Option Addr×Nat=>(kY g.2.1 (.slice g.2.2.1 g.1.length g.2.2.2) g.1/\kh f.C.length hd g.2.1 at_)/\dq f.C.length ⟨at_,met,todo⟩ k l=(true,⟨at_.set k g.1,met.set k true,todo++ [(k:Int)]⟩)) (fun g=> [(0,.pointer (some ⟨gx,0,none⟩)),(1,.int .i64 (k:Int)),(7,.slice g.2.2.1 g.1.length g.2.2.2)]) (fun g=> [am gx [.slice Ap fs.length cp,.int .i64 f.params,.slice A1 f.L.length c1,.int .i64 f.result,.slice A2 f.C.length c2,.slice Aa f.C.length ca,.slice Am f.C.length cm,.slice At todo.length ct] 224,an (.slice Aa f.C.length ca) hd,an (.slice Am f.C.length cm) met,an (.slice At todo.length ct) todo,iI g.2.1]++H) ?_ ?_
 ·refine aj ?_
  refine dA (_) rfl ((SF.own hm fc)) ?_
  refine eM rfl (SF.bool (SF.own hm fc) (by omega))<|aj ?_
  refine cB rfl (fun hmet=>?_) (fun hmet=>?_)
  ·have hin:=hR.el k hkl
   refine aj ?_
   refine dA (_) rfl ((SF.own hR.hl fc)) ?_
   refine eM rfl (SF.hdr (SF.own hR.hl fc) hkl)<|aj ?_
   refine qa (fun w h=>hin.form h fc) ?_
   rintro⟨A3,c3,hv⟩
   rw[hv] at hin
   refine bW (t:=33) (v':= .slice A3 (at_.getD k []).length c3) rfl (hv) ?_
   refine oE (fI rfl rfl rfl Tryz.call160 (fun w hw=>EI A3 Al c3 cl (at_.getD k []) l w (hin.sl hw fc) (hl.sl hw fc) (by have:=h8 k;omega))) (fun⟨A4,c4⟩ _=>?_)
   refine aJ ?_
   refine cB rfl (fun hj=>?_) (fun hj=>?_)
   ·have hj:bu (at_.getD k []) l=none:=by
     cases e:bu (at_.getD k []) l with
     | none=>rfl
     | some j=>rw[e] at hj;cases hj
    have hc:dq f.C.length ⟨at_,met,todo⟩ k l=(false,⟨at_,met,todo⟩):=by
     unfold dq
     rw[if_neg (by omega),if_pos hmet]
     simp only[hj]
    rw[hc]
    refine aj ?_
    intro w hw
    exact⟨(hd,L,At,ct),hR,rfl,hw.msub ms⟩
   obtain⟨j,hj⟩:∃j,bu (at_.getD k []) l=some j:=by
    cases e:bu (at_.getD k []) l with
    | none=>rw[e] at hj;cases hj
    | some j=>exact⟨j,rfl⟩
   rw[hj,uv]
   refine aj ?_
   refine dA (_) rfl ((SF.own hR.hl fc)) ?_
   refine eM rfl (SF.hdr (SF.own hR.hl fc) hkl) ?_
   refine bW (t:=47) (v':= .slice A3 (at_.getD k []).length c3) rfl (hv) ?_
   refine cA rfl Tryz.call221 (fun w hw=>EW A4 A3 c4 c3 j (at_.getD k []) w (SF.at_ (SF.own rfl fc) hw) (hin.sl hw fc))<|az (fun he=>?_) (fun he=>?_)
   ·have hc:dq f.C.length ⟨at_,met,todo⟩ k l=(true,⟨at_,met,todo⟩):=by
     unfold dq
     rw[if_neg (by omega),if_pos hmet]
     simp only[hj]
     rw[if_pos he]
    rw[hc]
    refine aj ?_
    intro w hw
    exact⟨(hd,L,At,ct),hR,rfl,hw.msub ms⟩
   have hc:dq f.C.length ⟨at_,met,todo⟩ k l=(true,⟨at_.set k j,met.set k true,todo++ [(k:Int)]⟩):=by
    unfold dq
    rw[if_neg (by omega),if_pos hmet]
    simp only[hj]
    rw[if_neg he]
   refine dJ (fun w h=>AN (Hr (h.msub (T:=an (.slice A4 j.length c4) j::iI L::([am gx [.slice Ap fs.length cp,.int .i64 f.params,.slice A1 f.L.length c1,.int .i64 f.result,.slice A2 f.C.length c2,.slice Aa f.C.length ca,.slice Am f.C.length cm,.slice At todo.length ct] 224,an (.slice Aa f.C.length ca) hd,an (.slice Am f.C.length cm) met,an (.slice At todo.length ct) todo]++H)) ms)))<|aj ?_
   refine nv (j,(.slice A4 j.length c4,j)::L,A4,c4) (⟨⟨.new,hR.cons _⟩,hc⟩) (hh:=(fun _ h=>h.msub ms))
  have hc:dq f.C.length ⟨at_,met,todo⟩ k l=(true,⟨at_.set k l,met.set k true,todo++ [(k:Int)]⟩):=by
   unfold dq
   rw[if_neg (by omega),if_neg (by rw[hmet];decide)]
  refine aj ?_
  refine dg (l,L,Al,cl) (⟨⟨hl,hR⟩,hc⟩) (hh:=(fun _ h=>h.msub ms))
 rintro⟨wl,L2,Aw,cw⟩ hg
 obtain⟨⟨hwl,hR2⟩,hc⟩:(kY L2 (.slice Aw wl.length cw) wl/\kh f.C.length hd L2 at_)/\dq f.C.length ⟨at_,met,todo⟩ k l=(true,⟨at_.set k wl,met.set k true,todo++ [(k:Int)]⟩):=hg
 rw[hc]
 try dsimp only[dy,jk]
 refine gI (fun w h=>SF.addr (SF.own hR.hl (H:= [am gx [.slice Ap fs.length cp,.int .i64 f.params,.slice A1 f.L.length c1,.int .i64 f.result,.slice A2 f.C.length c2,.slice Aa f.C.length ca,.slice Am f.C.length cm,.slice At todo.length ct] 224,an (.slice Aa f.C.length ca) hd,an (.slice Am f.C.length cm) met,an (.slice At todo.length ct) todo,iI L2]++H) fc) (by omega) h) ?_
 rintro⟨ba,oa,hAa⟩
 refine gI (fun w h=>SF.addr (SF.own hm (H:= [am gx [.slice Ap fs.length cp,.int .i64 f.params,.slice A1 f.L.length c1,.int .i64 f.result,.slice A2 f.C.length c2,.slice Aa f.C.length ca,.slice Am f.C.length cm,.slice At todo.length ct] 224,an (.slice Aa f.C.length ca) hd,an (.slice Am f.C.length cm) met,an (.slice At todo.length ct) todo,iI L2]++H) fc) (by omega) h) ?_
 rintro⟨bm,om,hAm⟩
 refine dx (fun _:Unit=>True) (fun _=> [(0,.pointer (some ⟨gx,0,none⟩)),(1,.int .i64 (k:Int))]) (fun _=> [am gx [.slice Ap fs.length cp,.int .i64 f.params,.slice A1 f.L.length c1,.int .i64 f.result,.slice A2 f.C.length c2,.slice Aa f.C.length ca,.slice Am f.C.length cm,.slice At todo.length ct] 224,an (.slice Aa f.C.length ca) (hd.set k ⟨.slice Aw wl.length cw⟩),an (.slice Am f.C.length cm) (met.set k true),an (.slice At todo.length ct) todo,iI L2]++H) ?_ ?_
 ·refine dP [0,3,6,9,12,15,18,21,24,27,30,33,38,39,44] [14] rfl [am gx [.slice Ap fs.length cp,.int .i64 f.params,.slice A1 f.L.length c1,.int .i64 f.result,.slice A2 f.C.length c2,.slice Aa f.C.length ca,.slice Am f.C.length cm,.slice At todo.length ct] 224]<|aj ?_
  refine tE rfl (lQ ix lb hAa hkl rfl rfl rfl) ?_
  refine pE rfl (qn (α:=jB) ⟨.slice Aw wl.length cw⟩ nG rfl fc hkl rfl lb rfl rfl rfl rfl rfl rfl rfl rfl) (fun _ _=>?_)
  refine tE rfl (lQ Is Q3 hAm hkl rfl rfl rfl) ?_
  refine pE rfl (qn (α:=Bool) true false rfl fc hkl trivial Q3 rfl rfl rfl rfl rfl rfl rfl rfl) (fun _ _=>?_)
  refine cg<|dg () (trivial) (hh:=(fun _ h=>h.msub ms))
 rintro _ _
 refine aj ?_
 intro g1 _
 refine oE (cV (α:=Int) (bytes:=8) (k:Int) [] rfl aV (bM ge) rfl (fT fc fc) (eJ ⟨by omega,by omega⟩) (by omega) (by omega) rfl rfl rfl) (fun⟨A5,c5⟩ _=>?_)
 refine aJ ?_
 intro w hw
 exact⟨(hd.set k ⟨.slice Aw wl.length cw⟩,L2,A5,c5),hR2.set hkl hwl,rfl,hw.msub ms⟩
end
