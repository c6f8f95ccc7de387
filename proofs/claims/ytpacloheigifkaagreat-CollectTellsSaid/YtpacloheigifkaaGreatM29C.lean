/- Texts of one proof, one behind the other: lemmas alone. -/
import Derived.Test.YtpacloheigifkaaGreatM0C
import Derived.Lib.LazyBuf
import Derived.Test.YtpacloheigifkaaGreatM28C
import Derived.Test.YtpacloheigifkaaGreatM17C

namespace Go.Proofs.YtpacloheigifkaaGreat
open Go.RowKit
section
theorem rl {P:Program} {n:NF} {B:Nat} {w0:World} {env:cM} {H:List a4} {o:Oper} {i:Operand} {t u e:TypeId} {A:Option Addr} {m c:Nat} (hu:P.underlying t=some (.slice e)) (hop:o.op= .binOp .eql t i (.const (.slice none 0 0)) u) (hi:opv env i=some (.slice A m c)):QS P n B w0 o env H (.bool A.isNone):=
 yh (e:=e) (fun w=>Lib.run_eql_slice_nil w t e A m c 0 0 hu) hop hi fun w=>by unfold eqGuard;simp
set_option maxRecDepth 100000 in
theorem pj (A:Option Addr) (c:Nat) (l:List Int) (w:World) (hs:Sl w (.slice A l.length c) l) (hl:l.length≤1000000) :
  Calls Tryz.prog 148 #[.slice A l.length c] w fun e w'=> ∃u,e= .returned u∧Below w.heap.size w w'∧dB w' w.heap.size u l:=by
 refine enter Tryz.func148 rfl Tryz.ntmps148 rfl ?_
 refine ac<|aa<|rn 1 [0] rfl<|ae<|ac<|ac<|aa<|rn 1 [0,3] rfl<|af (rl ag rfl rfl) rfl rfl<|ae<|b9 rfl (fun h=>?_) (fun h=>?_)
 ·have h0:l= []:=by
   rcases Nat.eq_zero_or_pos l.length with h0 | h0
   ·exact List.eq_nil_of_length_eq_zero h0
   obtain⟨b,o,e⟩:=hs.addr h0
   subst e
   cases h
  subst h0
  refine ac<|aa<|rn 1 [2] rfl<|ae<|ap (ah ?_)
  refine au Tryz.results148 (am rfl) ?_
  intro w hw
  exact⟨_,rfl,kD hw⟩
 refine aq (ak ?_)
 refine ac<|aa<|ai (a8 (cs:= []) ag aF aV rfl rfl rfl rfl rfl) rfl rfl (fun g1 _=>?_)
 refine rn 1 [5,6] rfl<|jg (fun w h=>bW (α:=Int) (m:=0) [] rfl (by simp) rfl (by decide) h) ?_
 refine ai (cT (α:=Int) (bytes:=8) (xs:= []) (ys:=l) rfl ag (bN cJ) rfl fc (.ro hs) (by simp only[List.length_nil];omega) (by simp only[List.length_nil];omega) rfl rfl rfl) rfl rfl (fun⟨A5,c5⟩ _=>?_)
 try dsimp only
 refine rn 1 [2] rfl<|ae<|ap<|au Tryz.results148 (am rfl) ?_
 intro w hw
 exact⟨_,rfl,i6 hw⟩
theorem qU {a b:List Int} {i:Nat} (h1:i<a.length) (h2:i<b.length) (h:a.take i=b.take i) (e:a.getD i 0=b.getD i 0):a.take (i+1)=b.take (i+1):=by
 rw[List.getD_eq_getElem?_getD,List.getElem?_eq_getElem h1,List.getD_eq_getElem?_getD,List.getElem?_eq_getElem h2,Option.getD_some,Option.getD_some] at e
 rw[List.take_succ_eq_append_getElem h1,List.take_succ_eq_append_getElem h2,h,e]
set_option maxRecDepth 100000 in
theorem u6 (A1 A2:Option Addr) (c1 c2:Nat) (a b:List Int) (w:World) (h1:Sl w (.slice A1 a.length c1) a) (h2:Sl w (.slice A2 b.length c2) b) :
  Calls Tryz.prog 166 #[.slice A1 a.length c1,.slice A2 b.length c2] w fun e w'=>e= .returned (.bool (decide (a=b)))∧Below w.heap.size w w':=by
 have b1:=bR h1
 refine enter Tryz.func166 rfl Tryz.ntmps166 rfl ?_
 refine ac<|aa<|rn 1 [0,1] rfl<|ae<|ac<|ac<|aa<|rn 1 [0,1,6] rfl<|af (aL ag rfl rfl) rfl rfl<|rn 1 [0,1,7,8] rfl<|af (aL ag rfl rfl) rfl rfl<|rn 1 [0,1,10] rfl<|ae<|bX rfl (fun hl=>?_) (fun hl=>?_)
 ·refine ac<|aa<|rn 1 [4] rfl<|ae<|ap (ah ?_)
  refine au Cu (am rfl) ?_
  intro w hw
  exact⟨bh (by rw[decide_eq_false (fun e=>hl (by rw[e]))]),hw.below⟩
 have hl:a.length=b.length:=by omega
 refine aq (ak ?_)
 refine ac<|ac<|aa<|rn 1 [0,1,11] rfl<|af (aL ag rfl rfl) rfl rfl<|rn 1 [0,1,12,13] rfl<|ae<|aE (bD (fun i:Nat=>i≤a.length∧a.take i=b.take i) (fun i=>a.length - i) (fun i=> [(0,.slice A1 a.length c1),(1,.slice A2 b.length c2),(12,.int .i64 (a.length:Int)),(13,.int .i64 (i:Int))]) (fun _=> []) 0 (⟨Nat.zero_le _,rfl⟩) ⟨rfl,rfl,rfl,rfl,trivial⟩ me ?_)
 rintro i hi'
 obtain⟨hi,hj⟩:i≤a.length∧a.take i=b.take i:=hi'
 refine ac<|aa<|rn 1 [0,1,12,13,14] rfl<|ae<|ac<|ar rfl (fun hlt=>?_) (fun hlt=>?_)
 ·have hil:i<a.length:=by omega
  refine aq (ak ?_)
  refine ac<|aE<|ac<|aa<|rn 2 [0,1,5,12,13] rfl<|ae<|ac<|bV (.still 0 (.still 1 (.still 2 (.still 3 (.still 4 (.still 5 (.still 6 (.still 7 (.still 8 .done))))))))) [] rfl (by kernel_rfl) (by kernel_rfl) ?_
  refine aS ha 2 [0,1,5,12,13,16,17] rfl<|av rfl (aQ ag aF (.ro h1) (by omega) rfl rfl rfl) rfl rfl ha ?_
  refine av rfl (aZ (SF.int (.ro h1) (by omega)) rfl rfl aw) rfl rfl ha ?_
  refine aS ha 2 [0,1,12,13,19,20,21] rfl<|av rfl (aQ ag aF (.ro h2) (by omega) rfl rfl rfl) rfl rfl ha ?_
  refine av rfl (aZ (SF.int (.ro h2) (by omega)) rfl rfl aw) rfl rfl ha ?_
  refine aS ha 1 [0,1,12,13,24] rfl<|cu<|bX rfl (fun hne=>?_) (fun hne=>?_)
  ·refine ac<|aa<|rn 1 [4] rfl<|ae<|ap (aC (ah (ah (aC (ah ?_)))))
   refine au Cu (am rfl) ?_
   intro w hw
   exact⟨bh (by rw[decide_eq_false (fun e=>hne (by rw[e]))]),hw.below⟩
  refine aq (aH (ak ?_))
  refine aa<|af (a6 rfl rfl rfl (by omega)) rfl rfl<|rn 1 [0,1,12,13] rfl<|aX (i+1) (⟨hil,qU hil (by omega) hj (by simpa using hne)⟩) (by show _ - _<_ - _;omega) ⟨rfl,rfl,rfl,rfl,trivial⟩ me
 obtain rfl:i=a.length:=by omega
 rw[List.take_length,hl,List.take_length] at hj
 refine bz (aG (aG (bO (ak ?_))))
 refine ac<|aa<|rn 1 [4] rfl<|ae<|ap<|au Cu (am rfl) ?_
 intro w hw
 exact⟨bh (by rw[decide_eq_true hj]),hw.below⟩
section
variable {B:Nat} {w0:World}
set_option maxRecDepth 100000 in
theorem wN {γ:Type} (Φ:Nat→γ→Prop) (Ψ:γ→Prop) (Hg:γ→List a4) (A:Option Addr) (c:Nat) (l:List Int) (f:FuncId) (cap:Array Value) (hcall:∀a w,(callFunc f a).run Tryz.prog w= .ok (.enter f a) w) (hs:∀g,SF B w0 (Hg g) A l.length c l) (hll:l.length≤1000000)
  (hf:∀k g,k<l.length→Φ k g→∀w,Cw B w0 (Hg g) w→Calls Tryz.prog f ([Value.int .i64 (l.getD k 0)]++cap.toList).toArray w fun e w'=> ∃p:Bool×γ,(if p.1 then Ψ p.2 else Φ (k+1) p.2)∧e= .returned (.bool p.1)∧Cw B w0 (Hg p.2) w')
  (g0:γ) (h0:Φ 0 g0) (w:World) (hw:Cw B w0 (Hg g0) w) :
  Calls Tryz.prog 203 #[.slice A l.length c,.func (.func f) #[] cap] w fun e w'=> ∃p:Int×γ,(if 0≤p.1 then Ψ p.2 else Φ l.length p.2)∧e= .returned (.int .i64 p.1)∧Cw B w0 (Hg p.2) w':=by
 refine cB Tryz.func203 rfl Tryz.ntmps203 rfl hw ?_
 refine ac<|aa<|rn 1 [0,1] rfl<|ae<|ac<|ac<|aa<|rn 1 [0,1,6] rfl<|af (aL ag rfl rfl) rfl rfl<|rn 1 [0,1,7,8] rfl<|ae<|aE (bD (fun p:Nat×γ=>p.1≤l.length∧Φ p.1 p.2) (fun p=>l.length - p.1) (fun p=> [(0,.slice A l.length c),(1,.func (.func f) #[] cap),(7,.int .i64 (l.length:Int)),(8,.int .i64 (p.1:Int))]) (fun p=>Hg p.2) (0,g0) (⟨Nat.zero_le _,h0⟩) ⟨rfl,rfl,rfl,rfl,trivial⟩ me ?_)
 rintro⟨k,g⟩ hk'
 try dsimp only
 obtain⟨hk,hp⟩:k≤l.length∧Φ k g:=hk'
 try dsimp only
 refine ac<|aa<|rn 1 [0,1,7,8,9] rfl<|ae<|ac<|ar rfl (fun hlt=>?_) (fun hlt=>?_)
 ·have hkl:k<l.length:=by omega
  refine aq (ak ?_)
  refine ac<|aE<|ac<|aa<|rn 2 [0,1,5,7,8] rfl<|ae<|ac<|aa<|rn 3 [0,1,5,7,8,11,12,13] rfl<|af (aQ ag aF (hs g) (by omega) rfl rfl rfl) rfl rfl<|af (aZ (SF.int (hs g) (by omega)) rfl rfl aw) rfl rfl<|ai (iV rfl rfl rfl hcall (fun w hw=>hf k g hkl hp w hw)) rfl rfl (fun⟨b,g2⟩ hb=>?_)
  try dsimp only
  refine ae<|b9 rfl (fun hbb=>?_) (fun hbb=>?_)
  ·have hbb:b=true:=hbb
   subst hbb
   have hb:Ψ g2:=hb
   refine ac<|aa<|rn 2 [4] rfl<|ae<|ap (aC (ah (ah (aC (ah ?_)))))
   refine au sG (am rfl) ?_
   intro w hw
   exact⟨((k:Int),g2),by rw[if_pos (show (0:Int)≤(k:Int) from by omega)];exact hb,rfl,hw⟩
  have hbb:b=false:=hbb
  subst hbb
  have hb:Φ (k+1) g2:=by simpa using hb
  refine aq (aH (ak ?_))
  refine aa<|af (a6 rfl rfl rfl (by omega)) rfl rfl<|rn 1 [0,1,7,8] rfl<|aX (k+1,g2) (⟨hkl,hb⟩) (by show _ - _<_ - _;omega) ⟨rfl,rfl,rfl,rfl,trivial⟩ me
 obtain rfl:k=l.length:=by omega
 refine bz (aG (aG (bO (ak ?_))))
 refine ac<|aa<|rn 1 [4] rfl<|ae<|ap<|au sG (am rfl) ?_
 intro w hw
 exact⟨(-1,g),by rw[if_neg (show¬(0:Int)≤ -1 from by decide)];exact hp,rfl,hw⟩
set_option maxRecDepth 100000 in
theorem r8 {γ:Type} (Φ:Nat→γ→Prop) (Ψ:γ→Prop) (Hg:γ→List a4) (A:Option Addr) (c:Nat) (l:List Int) (f:FuncId) (cap:Array Value) (hcall:∀a w,(callFunc f a).run Tryz.prog w= .ok (.enter f a) w) (hs:∀g,SF B w0 (Hg g) A l.length c l) (hll:l.length≤1000000)
  (hf:∀k g,k<l.length→Φ k g→∀w,Cw B w0 (Hg g) w→Calls Tryz.prog f ([Value.int .i64 (l.getD k 0)]++cap.toList).toArray w fun e w'=> ∃p:Bool×γ,(if p.1 then Ψ p.2 else Φ (k+1) p.2)∧e= .returned (.bool p.1)∧Cw B w0 (Hg p.2) w')
  (g0:γ) (h0:Φ 0 g0) (w:World) (hw:Cw B w0 (Hg g0) w) :
  Calls Tryz.prog 159 #[.slice A l.length c,.func (.func f) #[] cap] w fun e w'=> ∃p:Bool×γ,(if p.1 then Ψ p.2 else Φ l.length p.2)∧e= .returned (.bool p.1)∧Cw B w0 (Hg p.2) w':=by
 refine cB Tryz.func159 rfl Tryz.ntmps159 rfl hw ?_
 refine ac<|aa<|rn 1 [0,1] rfl<|ae<|ac<|aa<|rn 2 [5,6] rfl<|ai (bg rfl rfl rfl Tryz.call203 (fun w hw=>wN Φ Ψ Hg A c l f cap hcall hs hll hf g0 h0 w hw)) rfl rfl (fun⟨r,g2⟩ hr=>?_)
 try dsimp only
 refine rn 2 [4] rfl<|ae<|ap<|au Tryz.results159 (am rfl) ?_
 intro w hw
 refine⟨(decide (0≤r),g2),?_,rfl,hw⟩
 have hr:if 0≤r then Ψ g2 else Φ l.length g2:=hr
 by_cases h:0≤r
 ·rw[if_pos h] at hr
  rw[decide_eq_true h]
  exact hr
 rw[if_neg h] at hr
 rw[decide_eq_false h]
 simpa using hr
end
end
section
structure FSt where
 at_:List (List Int)
 met:List Bool
 todo:List Int
def cI (n:Nat) (s:FSt) (k:Nat) (l:List Int):Bool×FSt:=
 if k=n then (false,s) else if s.met.getD k false=true then
  (match bI (s.at_.getD k []) l with
  | none=>(false,s)
  | some j=>if j=s.at_.getD k [] then (true,s) else (true,⟨s.at_.set k j,s.met.set k true,s.todo++ [(k:Int)]⟩))
 else (true,⟨s.at_.set k l,s.met.set k true,s.todo++ [(k:Int)]⟩)
structure FC where
 gx:Nat
 fs:List aA
 f:aA
 Ap:Option Addr
 cp:Nat
 A1:Option Addr
 c1:Nat
 A2:Option Addr
 c2:Nat
 Aa:Option Addr
 ca:Nat
 Am:Option Addr
 cm:Nat
abbrev fU (C:FC) (s:FSt) (hd:List fE) (L:List (Value×List Int)) (At:Option Addr) (ct:Nat):List a4:=
 [az C.gx [.slice C.Ap C.fs.length C.cp,.int .i64 C.f.params,.slice C.A1 C.f.locals.length C.c1,.int .i64 C.f.result,.slice C.A2 C.f.code.length C.c2,.slice C.Aa C.f.code.length C.ca,.slice C.Am C.f.code.length C.cm,.slice At s.todo.length ct] 178,
  an (.slice C.Aa C.f.code.length C.ca) hd,an (.slice C.Am C.f.code.length C.cm) s.met,an (.slice At s.todo.length ct) s.todo,eD L]
structure fD (n:Nat) (hd:List fE) (L:List (Value×List Int)) (at_:List (List Int)):Prop where
 hl:hd.length=n
 al:at_.length=n
 el:∀i,i<n→gB L (hd.getD i gG).v (at_.getD i [])
theorem fg {α:Type} {l:List α} {k i:Nat} {x d:α} (hk:k<l.length):(l.set k x).getD i d=if i=k then x else l.getD i d:=by
 rw[List.getD_eq_getElem?_getD,List.getD_eq_getElem?_getD,List.getElem?_set]
 by_cases h:k=i
 ·subst h;rw[if_pos rfl,if_pos hk,if_pos rfl];rfl
 rw[if_neg h,if_neg (fun e=>h e.symm)]
theorem fD.cons {n:Nat} {hd:List fE} {L:List (Value×List Int)} {at_:List (List Int)} (h:fD n hd L at_) (p:Value×List Int):fD n hd (p::L) at_:=⟨h.hl,h.al,fun i hi=>(h.el i hi).cons⟩
theorem fD.set {n:Nat} {hd:List fE} {L:List (Value×List Int)} {at_:List (List Int)} (h:fD n hd L at_) {k:Nat} (hk:k<n) {v:Value} {l:List Int} (hp:gB L v l):fD n (hd.set k ⟨v⟩) L (at_.set k l):=
 ⟨by rw[List.length_set,h.hl],by rw[List.length_set,h.al],fun i hi=>by
  rw[fg (by rw[h.hl];exact hk),fg (by rw[h.al];exact hk)]
  split
  ·exact hp
  exact h.el i hi⟩
set_option maxRecDepth 100000 in
set_option maxHeartbeats 2000000 in
theorem sd {B:Nat} {w0:World} {H:List a4} (C:FC) (s:FSt) (hd:List fE) (L:List (Value×List Int)) (At:Option Addr) (ct:Nat) (k:Nat) (hk:k≤C.f.code.length) (hn:C.f.code.length≤40) (l:List Int) (Al:Option Addr) (cl:Nat) (hl:gB L (.slice Al l.length cl) l)
  (hR:fD C.f.code.length hd L s.at_) (hm:s.met.length=C.f.code.length) (hT:s.todo.length≤10000) (h8:∀i,(s.at_.getD i []).length≤1000) (w:World) (hw:Cw B w0 (fU C s hd L At ct++H) w) :
  Calls Tryz.prog 131 #[.pointer (some ⟨C.gx,0,none⟩),.int .i64 (k:Int),.slice Al l.length cl] w fun e w'=> ∃g:List fE×List (Value×List Int)×Option Addr×Nat,fD C.f.code.length g.1 g.2.1 (cI C.f.code.length s k l).2.at_∧
   e= .returned (.bool (cI C.f.code.length s k l).1)∧Cw B w0 (fU C (cI C.f.code.length s k l).2 g.1 g.2.1 g.2.2.1 g.2.2.2++H) w':=by
 obtain⟨gx,fs,f,Ap,cp,A1,c1,A2,c2,Aa,ca,Am,cm⟩:=C
 obtain⟨at_,met,todo⟩:=s
 dsimp only[fU,List.cons_append,List.nil_append] at *
 refine cB Tryz.func131 rfl Tryz.ntmps131 rfl hw ?_
 refine ac<|aa<|rn 1 [0,1,2] rfl<|ae<|ac<|ac<|aa<|rn 5 [0,1,2,10,14] rfl<|af (aj fc dk rfl rfl (by rfl)) rfl rfl ?_
 refine af (aL bt rfl rfl) rfl rfl<|rn 1 [0,1,2,17] rfl<|ae<|ar rfl (fun hkn=>?_) (fun hkn=>?_)
 ·have hc:cI f.code.length ⟨at_,met,todo⟩ k l=(false,⟨at_,met,todo⟩):=by unfold cI;rw[if_pos (by omega)]
  rw[hc]
  refine ac<|aa<|rn 1 [6] rfl<|ae<|ap (ah ?_)
  refine au sJ (am rfl) ?_
  intro w hw
  exact⟨(hd,L,At,ct),hR,rfl,hw⟩
 have hkl:k<f.code.length:=by omega
 refine aq (ak ?_)
 refine ac<|aa<|rn 2 [0,1,2,7] rfl<|ae<|eo (fun g:List Int×List (Value×List Int)×Option Addr×Nat=>(gB g.2.1 (.slice g.2.2.1 g.1.length g.2.2.2) g.1∧fD f.code.length hd g.2.1 at_)∧cI f.code.length ⟨at_,met,todo⟩ k l=(true,⟨at_.set k g.1,met.set k true,todo++ [(k:Int)]⟩)) (fun g=> [(0,.pointer (some ⟨gx,0,none⟩)),(1,.int .i64 (k:Int)),(7,.slice g.2.2.1 g.1.length g.2.2.2)]) (fun g=> [az gx [.slice Ap fs.length cp,.int .i64 f.params,.slice A1 f.locals.length c1,.int .i64 f.result,.slice A2 f.code.length c2,.slice Aa f.code.length ca,.slice Am f.code.length cm,.slice At todo.length ct] 178,an (.slice Aa f.code.length ca) hd,an (.slice Am f.code.length cm) met,an (.slice At todo.length ct) todo,eD g.2.1]++H) ?_ ?_
 ·refine ac<|aa<|rn 3 [0,1,2,7,21] rfl<|af (aj fc Dq rfl rfl (by rfl)) rfl rfl ?_
  refine rn 1 [0,1,2,7,22,23] rfl<|af (aQ eB eG (SF.own hm fc) (by omega) rfl rfl rfl) rfl rfl ?_
  refine af (aZ (SF.bool (SF.own hm fc) (by omega)) rfl rfl eh) rfl rfl ?_
  refine ae<|b9 rfl (fun hmet=>?_) (fun hmet=>?_)
  ·have hin:=hR.el k hkl
   refine ac<|aa<|rn 3 [0,1,2,29] rfl<|af (aj fc dp rfl rfl (by rfl)) rfl rfl ?_
   refine rn 1 [0,1,2,30,31] rfl<|af (aQ bj bJ (SF.own hR.hl fc) (by omega) rfl rfl rfl) rfl rfl ?_
   refine af (aZ (SF.hdr (SF.own hR.hl fc) hkl) rfl rfl aW) rfl rfl ?_
   refine rn 1 [0,1,33,34] rfl<|kB (fun w h=>hin.form h fc) ?_
   rintro⟨A3,c3,hv⟩
   rw[hv] at hin
   refine bU (t:=33) (v':= .slice A3 (at_.getD k []).length c3) rfl (hv) ?_
   refine ai (d9 rfl rfl rfl Tryz.call165 (fun w hw=>uM A3 Al c3 cl (at_.getD k []) l w (hin.sl hw fc) (hl.sl hw fc) (by have:=h8 k;omega))) rfl rfl (fun⟨A4,c4⟩ _=>?_)
   try dsimp only
   refine rn 5 [0,1,8,9] rfl<|ae<|ac<|ac<|aa<|rn 2 [0,1,8,39] rfl<|ae<|b9 rfl (fun hj=>?_) (fun hj=>?_)
   ·have hj:bI (at_.getD k []) l=none:=by
     cases e:bI (at_.getD k []) l with
     | none=>rfl
     | some j=>rw[e] at hj;cases hj
    have hc:cI f.code.length ⟨at_,met,todo⟩ k l=(false,⟨at_,met,todo⟩):=by
     unfold cI
     rw[if_neg (by omega),if_pos hmet]
     simp only[hj]
    rw[hc]
    refine ac<|aa<|rn 1 [6] rfl<|ae<|ap (ah (ah ?_))
    refine au sJ (am rfl) ?_
    intro w hw
    exact⟨(hd,L,At,ct),hR,rfl,hw.msub ms⟩
   obtain⟨j,hj⟩:∃j,bI (at_.getD k []) l=some j:=by
    cases e:bI (at_.getD k []) l with
    | none=>rw[e] at hj;cases hj
    | some j=>exact⟨j,rfl⟩
   rw[hj,Option.getD_some]
   refine aq (ak ?_)
   refine ac<|ac<|aa<|rn 4 [0,1,8,40,43] rfl<|af (aj fc dp rfl rfl (by rfl)) rfl rfl ?_
   refine rn 1 [0,1,8,40,44,45] rfl<|af (aQ bj bJ (SF.own hR.hl fc) (by omega) rfl rfl rfl) rfl rfl ?_
   refine af (aZ (SF.hdr (SF.own hR.hl fc) hkl) rfl rfl aW) rfl rfl ?_
   refine bU (t:=47) (v':= .slice A3 (at_.getD k []).length c3) rfl (hv) ?_
   refine ai (bB rfl rfl rfl Tryz.call166 (fun w hw=>u6 A4 A3 c4 c3 j (at_.getD k []) w (SF.at_ (SF.own rfl fc) hw) (hin.sl hw fc))) rfl rfl (fun _ _=>?_)
   refine ae<|ar rfl (fun he=>?_) (fun he=>?_)
   ·have hc:cI f.code.length ⟨at_,met,todo⟩ k l=(true,⟨at_,met,todo⟩):=by
     unfold cI
     rw[if_neg (by omega),if_pos hmet]
     simp only[hj]
     rw[if_pos he]
    rw[hc]
    refine ac<|aa<|rn 1 [6] rfl<|ae<|ap (ah (ah ?_))
    refine au sJ (am rfl) ?_
    intro w hw
    exact⟨(hd,L,At,ct),hR,rfl,hw.msub ms⟩
   have hc:cI f.code.length ⟨at_,met,todo⟩ k l=(true,⟨at_.set k j,met.set k true,todo++ [(k:Int)]⟩):=by
    unfold cI
    rw[if_neg (by omega),if_pos hmet]
    simp only[hj]
    rw[if_neg he]
   refine dx (fun w h=>l8 (oY (h.msub (T:=an (.slice A4 j.length c4) j::eD L::([az gx [.slice Ap fs.length cp,.int .i64 f.params,.slice A1 f.locals.length c1,.int .i64 f.result,.slice A2 f.code.length c2,.slice Aa f.code.length ca,.slice Am f.code.length cm,.slice At todo.length ct] 178,an (.slice Aa f.code.length ca) hd,an (.slice Am f.code.length cm) met,an (.slice At todo.length ct) todo]++H)) ms))) ?_
   refine aq (ak ?_)
   refine aa<|rn 2 [0,1,7] rfl<|iq (j,(.slice A4 j.length c4,j)::L,A4,c4) (⟨⟨.new,hR.cons _⟩,hc⟩) ⟨rfl,rfl,rfl,trivial⟩ (fun _ h=>h.msub ms)
  have hc:cI f.code.length ⟨at_,met,todo⟩ k l=(true,⟨at_.set k l,met.set k true,todo++ [(k:Int)]⟩):=by
   unfold cI
   rw[if_neg (by omega),if_neg (by rw[hmet];decide)]
  refine aq<|be (l,L,Al,cl) (⟨⟨hl,hR⟩,hc⟩) ⟨rfl,rfl,rfl,trivial⟩ (fun _ h=>h.msub ms)
 rintro⟨wl,L2,Aw,cw⟩ hg
 obtain⟨⟨hwl,hR2⟩,hc⟩:(gB L2 (.slice Aw wl.length cw) wl∧fD f.code.length hd L2 at_)∧cI f.code.length ⟨at_,met,todo⟩ k l=(true,⟨at_.set k wl,met.set k true,todo++ [(k:Int)]⟩):=hg
 rw[hc]
 try dsimp only[List.cons_append,List.nil_append]
 refine fa (fun w h=>SF.addr (SF.own hR.hl (H:= [az gx [.slice Ap fs.length cp,.int .i64 f.params,.slice A1 f.locals.length c1,.int .i64 f.result,.slice A2 f.code.length c2,.slice Aa f.code.length ca,.slice Am f.code.length cm,.slice At todo.length ct] 178,an (.slice Aa f.code.length ca) hd,an (.slice Am f.code.length cm) met,an (.slice At todo.length ct) todo,eD L2]++H) fc) (by omega) h) ?_
 rintro⟨ba,oa,hAa⟩
 refine fa (fun w h=>SF.addr (SF.own hm (H:= [az gx [.slice Ap fs.length cp,.int .i64 f.params,.slice A1 f.locals.length c1,.int .i64 f.result,.slice A2 f.code.length c2,.slice Aa f.code.length ca,.slice Am f.code.length cm,.slice At todo.length ct] 178,an (.slice Aa f.code.length ca) hd,an (.slice Am f.code.length cm) met,an (.slice At todo.length ct) todo,eD L2]++H) fc) (by omega) h) ?_
 rintro⟨bm,om,hAm⟩
 refine eo (fun _:Unit=>True) (fun _=> [(0,.pointer (some ⟨gx,0,none⟩)),(1,.int .i64 (k:Int))]) (fun _=> [az gx [.slice Ap fs.length cp,.int .i64 f.params,.slice A1 f.locals.length c1,.int .i64 f.result,.slice A2 f.code.length c2,.slice Aa f.code.length ca,.slice Am f.code.length cm,.slice At todo.length ct] 178,an (.slice Aa f.code.length ca) (hd.set k ⟨.slice Aw wl.length cw⟩),an (.slice Am f.code.length cm) (met.set k true),an (.slice At todo.length ct) todo,eD L2]++H) ?_ ?_
 ·refine fB (.still 0 (.still 1 (.still 2 (.still 3 (.still 4 (.still 5 (.still 6 (.still 7 (.still 8 (.still 9 (.still 10 (.still 11 (.pick 12 (.still 13 (.pick 14 .done .stop)) .stop))))))))))))) [14] rfl (by kernel_rfl) (by kernel_rfl) [az gx [.slice Ap fs.length cp,.int .i64 f.params,.slice A1 f.locals.length c1,.int .i64 f.result,.slice A2 f.code.length c2,.slice Aa f.code.length ca,.slice Am f.code.length cm,.slice At todo.length ct] 178] ?_
  refine aS ha 3 [0,1,7,52] rfl<|av rfl (aj fc dp rfl rfl (by rfl)) rfl rfl ha ?_
  refine aS ha 4 [0,1,7,53,54,57] rfl<|av rfl (aj fc Dq rfl rfl (by rfl)) rfl rfl ha ?_
  refine aS ha 2 [0,1,53,54,58,59,60] rfl<|av rfl (fV bj bJ hAa hkl rfl rfl rfl) rfl rfl ha ?_
  refine aB rfl (ir (α:=fE) ⟨.slice Aw wl.length cw⟩ gG rfl fc hkl rfl bJ rfl rfl rfl rfl rfl rfl rfl rfl) rfl rfl (.inr fun _=>ha) (fun _ _=>?_) ay
  refine av rfl (fV eB eG hAm hkl rfl rfl rfl) rfl rfl ha ?_
  refine aB rfl (ir (α:=Bool) true false rfl fc hkl trivial eG rfl rfl rfl rfl rfl rfl rfl rfl) rfl rfl (.inl rfl) (fun _ _=>?_) ay
  refine cD<|be () (trivial) ⟨rfl,rfl,trivial⟩ (fun _ h=>h.msub ms)
 rintro _ _
 refine ac<|aa<|rn 4 [1,63,66] rfl<|af (aj fc aW rfl rfl (by rfl)) rfl rfl ?_
 refine rn 1 [63,67,68] rfl<|ai (a8 (cs:= [_]) ag aF aV rfl rfl rfl rfl rfl) rfl rfl (fun g1 _=>?_)
 refine ai (dM (α:=Int) (bytes:=8) (k:Int) [] rfl ag (bN cJ) rfl (fH fc fc) (eI ⟨by omega,by omega⟩) (by omega) (by omega) rfl rfl rfl) rfl rfl (fun⟨A5,c5⟩ _=>?_)
 try dsimp only
 refine rn 2 [70,72] rfl<|ai (aM _ fc bJ rfl rfl rfl rfl rfl (by rfl) rfl (by rfl)) rfl rfl (fun _ _=>?_)
 refine ae<|ac<|aa<|rn 1 [6] rfl<|ae<|ap<|au sJ (am rfl) ?_
 intro w hw
 exact⟨(hd.set k ⟨.slice Aw wl.length cw⟩,L2,A5,c5),hR2.set hkl hwl,rfl,hw.msub ms⟩
end
end Go.Proofs.YtpacloheigifkaaGreat
