/- Texts of one proof, one behind the other: lemmas alone. -/
import Derived.Test.YtpacloheigifkaaGreatM0I
import Derived.Lib.LazyBuf
import Derived.Test.YtpacloheigifkaaGreatM28I
import Derived.Test.YtpacloheigifkaaGreatM17I

namespace Go.Proofs.YtpacloheigifkaaGreat
open Go.RowKit
section
theorem vv {P:Program} {n:NF} {B:Nat} {w0:World} {env:cK} {H:List a7} {o:Oper} {i:Operand} {t u e:TypeId} {A:Option Addr} {m c:Nat} (hu:P.underlying t=some (.slice e)) (hop:o.op= .binOp .eql t i (.const (.slice none 0 0)) u) (hi:opv env i=some (.slice A m c)):QS P n B w0 o env H (.bool A.isNone):=
 CJ (e:=e) (fun w=>Lib.run_eql_slice_nil w t e A m c 0 0 hu) hop hi fun w=>by unfold eqGuard;simp
set_option maxRecDepth 100000 in
theorem sH (A:Option Addr) (c:Nat) (l:List Int) (w:World) (hs:Sl w (.slice A l.length c) l) (hl:l.length≤1000000) :
  Calls Tryz.prog 148 #[.slice A l.length c] w fun e w'=> ∃u,e= .returned u∧Below w.heap.size w w'∧ev w' w.heap.size u l:=by
 refine enter Tryz.func148 rfl Tryz.ntmps148 rfl ?_
 refine ac<|aa<|rn 1 [0] rfl<|ae<|ac<|ac<|aa<|rn 1 [0,3] rfl<|af (vv ah rfl rfl) rfl rfl<|ae<|cg rfl (fun h=>?_) (fun h=>?_)
 ·have h0:l= []:=by
   rcases Nat.eq_zero_or_pos l.length with h0 | h0
   ·exact List.eq_nil_of_length_eq_zero h0
   obtain⟨b,o,e⟩:=hs.addr h0
   subst e
   cases h
  subst h0
  refine ac<|aa<|rn 1 [2] rfl<|ae<|aq (ai ?_)
  refine av Tryz.results148 (an rfl) ?_
  intro w hw
  exact⟨_,rfl,mt hw⟩
 refine ar (am ?_)
 refine ac<|aa<|ag (bu (cs:= []) ah aF a6 rfl rfl rfl rfl rfl) rfl rfl (fun g1 _=>?_)
 refine rn 1 [5,6] rfl<|fl (fun w h=>cE (α:=Int) (m:=0) [] rfl (by simp) rfl (by decide) h) ?_
 refine ag (iP (α:=Int) (bytes:=8) (xs:= []) (ys:=l) rfl ah (cU eE) rfl fc (.ro hs) (by simp only[List.length_nil];omega) (by simp only[List.length_nil];omega) rfl rfl rfl) rfl rfl (fun⟨A5,c5⟩ _=>?_)
 try dsimp only
 refine rn 1 [2] rfl<|ae<|aq<|av Tryz.results148 (an rfl) ?_
 intro w hw
 exact⟨_,rfl,ll hw⟩
theorem u4 {a b:List Int} {i:Nat} (h1:i<a.length) (h2:i<b.length) (h:a.take i=b.take i) (e:a.getD i 0=b.getD i 0):a.take (i+1)=b.take (i+1):=by
 rw[List.getD_eq_getElem?_getD,List.getElem?_eq_getElem h1,List.getD_eq_getElem?_getD,List.getElem?_eq_getElem h2,Option.getD_some,Option.getD_some] at e
 rw[List.take_succ_eq_append_getElem h1,List.take_succ_eq_append_getElem h2,h,e]
set_option maxRecDepth 100000 in
theorem zj (A1 A2:Option Addr) (c1 c2:Nat) (a b:List Int) (w:World) (h1:Sl w (.slice A1 a.length c1) a) (h2:Sl w (.slice A2 b.length c2) b) :
  Calls Tryz.prog 166 #[.slice A1 a.length c1,.slice A2 b.length c2] w fun e w'=>e= .returned (.bool (decide (a=b)))∧Below w.heap.size w w':=by
 have b1:=cn h1
 refine enter Tryz.func166 rfl Tryz.ntmps166 rfl ?_
 refine ac<|aa<|rn 1 [0,1] rfl<|ae<|ac<|ac<|aa<|rn 1 [0,1,6] rfl<|af (aM ah rfl rfl) rfl rfl<|rn 1 [0,1,7,8] rfl<|af (aM ah rfl rfl) rfl rfl<|rn 1 [0,1,10] rfl<|ae<|bY rfl (fun hl=>?_) (fun hl=>?_)
 ·refine ac<|aa<|rn 1 [4] rfl<|ae<|aq (ai ?_)
  refine av GM (an rfl) ?_
  intro w hw
  exact⟨bE (by rw[decide_eq_false (fun e=>hl (by rw[e]))]),hw.below⟩
 have hl:a.length=b.length:=by omega
 refine ar (am ?_)
 refine ac<|ac<|aa<|rn 1 [0,1,11] rfl<|af (aM ah rfl rfl) rfl rfl<|rn 1 [0,1,12,13] rfl<|ae<|aB (bI (fun i:Nat=>i≤a.length∧a.take i=b.take i) (fun i=>a.length - i) (fun i=> [(0,.slice A1 a.length c1),(1,.slice A2 b.length c2),(12,.int .i64 (a.length:Int)),(13,.int .i64 (i:Int))]) (fun _=> []) 0 (⟨Nat.zero_le _,rfl⟩) ⟨rfl,rfl,rfl,rfl,trivial⟩ me ?_)
 rintro i hi'
 obtain⟨hi,hj⟩:i≤a.length∧a.take i=b.take i:=hi'
 refine ac<|aa<|rn 1 [0,1,12,13,14] rfl<|ae<|ac<|aw rfl (fun hlt=>?_) (fun hlt=>?_)
 ·have hil:i<a.length:=by omega
  refine ar (am ?_)
  refine ac<|aB<|ac<|aa<|rn 2 [0,1,5,12,13] rfl<|ae<|ac<|cD (.still 0 (.still 1 (.still 2 (.still 3 (.still 4 (.still 5 (.still 6 (.still 7 (.still 8 .done))))))))) [] rfl (by kernel_rfl) (by kernel_rfl) ?_
  refine aU ha 2 [0,1,5,12,13,16,17] rfl<|ax rfl (aQ ah aF (.ro h1) (by omega) rfl rfl rfl) rfl rfl ha ?_
  refine ax rfl (a8 (SF.int (.ro h1) (by omega)) rfl rfl au) rfl rfl ha ?_
  refine aU ha 2 [0,1,12,13,19,20,21] rfl<|ax rfl (aQ ah aF (.ro h2) (by omega) rfl rfl rfl) rfl rfl ha ?_
  refine ax rfl (a8 (SF.int (.ro h2) (by omega)) rfl rfl au) rfl rfl ha ?_
  refine aU ha 1 [0,1,12,13,24] rfl<|cT<|bY rfl (fun hne=>?_) (fun hne=>?_)
  ·refine ac<|aa<|rn 1 [4] rfl<|ae<|aq (aC (ai (ai (aC (ai ?_)))))
   refine av GM (an rfl) ?_
   intro w hw
   exact⟨bE (by rw[decide_eq_false (fun e=>hne (by rw[e]))]),hw.below⟩
  refine ar (aH (am ?_))
  refine aa<|af (br rfl rfl rfl (by omega)) rfl rfl<|rn 1 [0,1,12,13] rfl<|a5 (i+1) (⟨hil,u4 hil (by omega) hj (by simpa using hne)⟩) (by show _ - _<_ - _;omega) ⟨rfl,rfl,rfl,rfl,trivial⟩ me
 obtain rfl:i=a.length:=by omega
 rw[List.take_length,hl,List.take_length] at hj
 refine bz (aD (aD (bO (am ?_))))
 refine ac<|aa<|rn 1 [4] rfl<|ae<|aq<|av GM (an rfl) ?_
 intro w hw
 exact⟨bE (by rw[decide_eq_true hj]),hw.below⟩
section
variable {B:Nat} {w0:World}
set_option maxRecDepth 100000 in
theorem Bj {γ:Type} (Φ:Nat→γ→Prop) (Ψ:γ→Prop) (Hg:γ→List a7) (A:Option Addr) (c:Nat) (l:List Int) (f:FuncId) (cap:Array Value) (hcall:∀a w,(callFunc f a).run Tryz.prog w= .ok (.enter f a) w) (hs:∀g,SF B w0 (Hg g) A l.length c l) (hll:l.length≤1000000)
  (hf:∀k g,k<l.length→Φ k g→∀w,Cw B w0 (Hg g) w→Calls Tryz.prog f ([Value.int .i64 (l.getD k 0)]++cap.toList).toArray w fun e w'=> ∃p:Bool×γ,(if p.1 then Ψ p.2 else Φ (k+1) p.2)∧e= .returned (.bool p.1)∧Cw B w0 (Hg p.2) w')
  (g0:γ) (h0:Φ 0 g0) (w:World) (hw:Cw B w0 (Hg g0) w) :
  Calls Tryz.prog 203 #[.slice A l.length c,.func (.func f) #[] cap] w fun e w'=> ∃p:Int×γ,(if 0≤p.1 then Ψ p.2 else Φ l.length p.2)∧e= .returned (.int .i64 p.1)∧Cw B w0 (Hg p.2) w':=by
 refine bS Tryz.func203 rfl Tryz.ntmps203 rfl hw ?_
 refine ac<|aa<|rn 1 [0,1] rfl<|ae<|ac<|ac<|aa<|rn 1 [0,1,6] rfl<|af (aM ah rfl rfl) rfl rfl<|rn 1 [0,1,7,8] rfl<|ae<|aB (bI (fun p:Nat×γ=>p.1≤l.length∧Φ p.1 p.2) (fun p=>l.length - p.1) (fun p=> [(0,.slice A l.length c),(1,.func (.func f) #[] cap),(7,.int .i64 (l.length:Int)),(8,.int .i64 (p.1:Int))]) (fun p=>Hg p.2) (0,g0) (⟨Nat.zero_le _,h0⟩) ⟨rfl,rfl,rfl,rfl,trivial⟩ me ?_)
 rintro⟨k,g⟩ hk'
 try dsimp only
 obtain⟨hk,hp⟩:k≤l.length∧Φ k g:=hk'
 try dsimp only
 refine ac<|aa<|rn 1 [0,1,7,8,9] rfl<|ae<|ac<|aw rfl (fun hlt=>?_) (fun hlt=>?_)
 ·have hkl:k<l.length:=by omega
  refine ar (am ?_)
  refine ac<|aB<|ac<|aa<|rn 2 [0,1,5,7,8] rfl<|ae<|ac<|aa<|rn 3 [0,1,5,7,8,11,12,13] rfl<|af (aQ ah aF (hs g) (by omega) rfl rfl rfl) rfl rfl<|af (a8 (SF.int (hs g) (by omega)) rfl rfl au) rfl rfl<|ag (dL rfl rfl rfl hcall (fun w hw=>hf k g hkl hp w hw)) rfl rfl (fun⟨b,g2⟩ hb=>?_)
  try dsimp only
  refine ae<|cg rfl (fun hbb=>?_) (fun hbb=>?_)
  ·have hbb:b=true:=hbb
   subst hbb
   have hb:Ψ g2:=hb
   refine ac<|aa<|rn 2 [4] rfl<|ae<|aq (aC (ai (ai (aC (ai ?_)))))
   refine av wN (an rfl) ?_
   intro w hw
   exact⟨((k:Int),g2),by rw[if_pos (show (0:Int)≤(k:Int) from by omega)];exact hb,rfl,hw⟩
  have hbb:b=false:=hbb
  subst hbb
  have hb:Φ (k+1) g2:=by simpa using hb
  refine ar (aH (am ?_))
  refine aa<|af (br rfl rfl rfl (by omega)) rfl rfl<|rn 1 [0,1,7,8] rfl<|a5 (k+1,g2) (⟨hkl,hb⟩) (by show _ - _<_ - _;omega) ⟨rfl,rfl,rfl,rfl,trivial⟩ me
 obtain rfl:k=l.length:=by omega
 refine bz (aD (aD (bO (am ?_))))
 refine ac<|aa<|rn 1 [4] rfl<|ae<|aq<|av wN (an rfl) ?_
 intro w hw
 exact⟨(-1,g),by rw[if_neg (show¬(0:Int)≤ -1 from by decide)];exact hp,rfl,hw⟩
set_option maxRecDepth 100000 in
theorem wi {γ:Type} (Φ:Nat→γ→Prop) (Ψ:γ→Prop) (Hg:γ→List a7) (A:Option Addr) (c:Nat) (l:List Int) (f:FuncId) (cap:Array Value) (hcall:∀a w,(callFunc f a).run Tryz.prog w= .ok (.enter f a) w) (hs:∀g,SF B w0 (Hg g) A l.length c l) (hll:l.length≤1000000)
  (hf:∀k g,k<l.length→Φ k g→∀w,Cw B w0 (Hg g) w→Calls Tryz.prog f ([Value.int .i64 (l.getD k 0)]++cap.toList).toArray w fun e w'=> ∃p:Bool×γ,(if p.1 then Ψ p.2 else Φ (k+1) p.2)∧e= .returned (.bool p.1)∧Cw B w0 (Hg p.2) w')
  (g0:γ) (h0:Φ 0 g0) (w:World) (hw:Cw B w0 (Hg g0) w) :
  Calls Tryz.prog 159 #[.slice A l.length c,.func (.func f) #[] cap] w fun e w'=> ∃p:Bool×γ,(if p.1 then Ψ p.2 else Φ l.length p.2)∧e= .returned (.bool p.1)∧Cw B w0 (Hg p.2) w':=by
 refine bS Tryz.func159 rfl Tryz.ntmps159 rfl hw ?_
 refine ac<|aa<|rn 1 [0,1] rfl<|ae<|ac<|aa<|rn 2 [5,6] rfl<|ag (bg rfl rfl rfl Tryz.call203 (fun w hw=>Bj Φ Ψ Hg A c l f cap hcall hs hll hf g0 h0 w hw)) rfl rfl (fun⟨r,g2⟩ hr=>?_)
 try dsimp only
 refine rn 2 [4] rfl<|ae<|aq<|av Tryz.results159 (an rfl) ?_
 intro w hw
 refine⟨(decide (0≤r),g2),?_,rfl,hw⟩
 have hr:if 0≤r then Ψ g2 else Φ l.length g2:=hr
 by_cases h:0≤r
 ·rw[if_pos h] at hr
  rw[decide_eq_true h]
  exact hr
 rw[if_neg h] at hr
 rw[decide_eq_false h]
 simpa using hr
end
end
section
structure FSt where
 at_:List (List Int)
 met:List Bool
 todo:List Int
def cX (n:Nat) (s:FSt) (k:Nat) (l:List Int):Bool×FSt:=
 if k=n then (false,s) else if s.met.getD k false=true then
  (match bT (s.at_.getD k []) l with
  | none=>(false,s)
  | some j=>if j=s.at_.getD k [] then (true,s) else (true,⟨s.at_.set k j,s.met.set k true,s.todo++ [(k:Int)]⟩))
 else (true,⟨s.at_.set k l,s.met.set k true,s.todo++ [(k:Int)]⟩)
structure FC where
 gx:Nat
 fs:List aA
 f:aA
 Ap:Option Addr
 cp:Nat
 A1:Option Addr
 c1:Nat
 A2:Option Addr
 c2:Nat
 Aa:Option Addr
 ca:Nat
 Am:Option Addr
 cm:Nat
abbrev ip (C:FC) (s:FSt) (hd:List gP) (L:List (Value×List Int)) (At:Option Addr) (ct:Nat):List a7:=
 [ak C.gx [.slice C.Ap C.fs.length C.cp,.int .i64 C.f.params,.slice C.A1 C.f.locals.length C.c1,.int .i64 C.f.result,.slice C.A2 C.f.code.length C.c2,.slice C.Aa C.f.code.length C.ca,.slice C.Am C.f.code.length C.cm,.slice At s.todo.length ct] 178,
  ap (.slice C.Aa C.f.code.length C.ca) hd,ap (.slice C.Am C.f.code.length C.cm) s.met,ap (.slice At s.todo.length ct) s.todo,fi L]
structure gM (n:Nat) (hd:List gP) (L:List (Value×List Int)) (at_:List (List Int)):Prop where
 hl:hd.length=n
 al:at_.length=n
 el:∀i,i<n→iU L (hd.getD i iY).v (at_.getD i [])
theorem fU {α:Type} {l:List α} {k i:Nat} {x d:α} (hk:k<l.length):(l.set k x).getD i d=if i=k then x else l.getD i d:=by
 rw[List.getD_eq_getElem?_getD,List.getD_eq_getElem?_getD,List.getElem?_set]
 by_cases h:k=i
 ·subst h;rw[if_pos rfl,if_pos hk,if_pos rfl];rfl
 rw[if_neg h,if_neg (fun e=>h e.symm)]
theorem gM.cons {n:Nat} {hd:List gP} {L:List (Value×List Int)} {at_:List (List Int)} (h:gM n hd L at_) (p:Value×List Int):gM n hd (p::L) at_:=⟨h.hl,h.al,fun i hi=>(h.el i hi).cons⟩
theorem gM.set {n:Nat} {hd:List gP} {L:List (Value×List Int)} {at_:List (List Int)} (h:gM n hd L at_) {k:Nat} (hk:k<n) {v:Value} {l:List Int} (hp:iU L v l):gM n (hd.set k ⟨v⟩) L (at_.set k l):=
 ⟨by rw[List.length_set,h.hl],by rw[List.length_set,h.al],fun i hi=>by
  rw[fU (by rw[h.hl];exact hk),fU (by rw[h.al];exact hk)]
  split
  ·exact hp
  exact h.el i hi⟩
set_option maxRecDepth 100000 in
set_option maxHeartbeats 2000000 in
theorem wn {B:Nat} {w0:World} {H:List a7} (C:FC) (s:FSt) (hd:List gP) (L:List (Value×List Int)) (At:Option Addr) (ct:Nat) (k:Nat) (hk:k≤C.f.code.length) (hn:C.f.code.length≤40) (l:List Int) (Al:Option Addr) (cl:Nat) (hl:iU L (.slice Al l.length cl) l)
  (hR:gM C.f.code.length hd L s.at_) (hm:s.met.length=C.f.code.length) (hT:s.todo.length≤10000) (h8:∀i,(s.at_.getD i []).length≤1000) (w:World) (hw:Cw B w0 (ip C s hd L At ct++H) w) :
  Calls Tryz.prog 131 #[.pointer (some ⟨C.gx,0,none⟩),.int .i64 (k:Int),.slice Al l.length cl] w fun e w'=> ∃g:List gP×List (Value×List Int)×Option Addr×Nat,gM C.f.code.length g.1 g.2.1 (cX C.f.code.length s k l).2.at_∧
   e= .returned (.bool (cX C.f.code.length s k l).1)∧Cw B w0 (ip C (cX C.f.code.length s k l).2 g.1 g.2.1 g.2.2.1 g.2.2.2++H) w':=by
 obtain⟨gx,fs,f,Ap,cp,A1,c1,A2,c2,Aa,ca,Am,cm⟩:=C
 obtain⟨at_,met,todo⟩:=s
 dsimp only[ip,List.cons_append,List.nil_append] at *
 refine bS Tryz.func131 rfl Tryz.ntmps131 rfl hw ?_
 refine ac<|aa<|rn 1 [0,1,2] rfl<|ae<|ac<|ac<|aa<|rn 5 [0,1,2,10,14] rfl<|af (aj fc dB rfl rfl (by rfl)) rfl rfl ?_
 refine af (aM bw rfl rfl) rfl rfl<|rn 1 [0,1,2,17] rfl<|ae<|aw rfl (fun hkn=>?_) (fun hkn=>?_)
 ·have hc:cX f.code.length ⟨at_,met,todo⟩ k l=(false,⟨at_,met,todo⟩):=by unfold cX;rw[if_pos (by omega)]
  rw[hc]
  refine ac<|aa<|rn 1 [6] rfl<|ae<|aq (ai ?_)
  refine av wP (an rfl) ?_
  intro w hw
  exact⟨(hd,L,At,ct),hR,rfl,hw⟩
 have hkl:k<f.code.length:=by omega
 refine ar (am ?_)
 refine ac<|aa<|rn 2 [0,1,2,7] rfl<|ae<|eb (fun g:List Int×List (Value×List Int)×Option Addr×Nat=>(iU g.2.1 (.slice g.2.2.1 g.1.length g.2.2.2) g.1∧gM f.code.length hd g.2.1 at_)∧cX f.code.length ⟨at_,met,todo⟩ k l=(true,⟨at_.set k g.1,met.set k true,todo++ [(k:Int)]⟩)) (fun g=> [(0,.pointer (some ⟨gx,0,none⟩)),(1,.int .i64 (k:Int)),(7,.slice g.2.2.1 g.1.length g.2.2.2)]) (fun g=> [ak gx [.slice Ap fs.length cp,.int .i64 f.params,.slice A1 f.locals.length c1,.int .i64 f.result,.slice A2 f.code.length c2,.slice Aa f.code.length ca,.slice Am f.code.length cm,.slice At todo.length ct] 178,ap (.slice Aa f.code.length ca) hd,ap (.slice Am f.code.length cm) met,ap (.slice At todo.length ct) todo,fi g.2.1]++H) ?_ ?_
 ·refine ac<|aa<|rn 3 [0,1,2,7,21] rfl<|af (aj fc H0 rfl rfl (by rfl)) rfl rfl ?_
  refine rn 1 [0,1,2,7,22,23] rfl<|af (aQ fb dK (SF.own hm fc) (by omega) rfl rfl rfl) rfl rfl ?_
  refine af (a8 (SF.bool (SF.own hm fc) (by omega)) rfl rfl dx) rfl rfl ?_
  refine ae<|cg rfl (fun hmet=>?_) (fun hmet=>?_)
  ·have hin:=hR.el k hkl
   refine ac<|aa<|rn 3 [0,1,2,29] rfl<|af (aj fc dS rfl rfl (by rfl)) rfl rfl ?_
   refine rn 1 [0,1,2,30,31] rfl<|af (aQ bF cC (SF.own hR.hl fc) (by omega) rfl rfl rfl) rfl rfl ?_
   refine af (a8 (SF.hdr (SF.own hR.hl fc) hkl) rfl rfl aW) rfl rfl ?_
   refine rn 1 [0,1,33,34] rfl<|mn (fun w h=>hin.form h fc) ?_
   rintro⟨A3,c3,hv⟩
   rw[hv] at hin
   refine bV (t:=33) (v':= .slice A3 (at_.getD k []).length c3) rfl (hv) ?_
   refine ag (fR rfl rfl rfl Tryz.call165 (fun w hw=>yW A3 Al c3 cl (at_.getD k []) l w (hin.sl hw fc) (hl.sl hw fc) (by have:=h8 k;omega))) rfl rfl (fun⟨A4,c4⟩ _=>?_)
   try dsimp only
   refine rn 5 [0,1,8,9] rfl<|ae<|ac<|ac<|aa<|rn 2 [0,1,8,39] rfl<|ae<|cg rfl (fun hj=>?_) (fun hj=>?_)
   ·have hj:bT (at_.getD k []) l=none:=by
     cases e:bT (at_.getD k []) l with
     | none=>rfl
     | some j=>rw[e] at hj;cases hj
    have hc:cX f.code.length ⟨at_,met,todo⟩ k l=(false,⟨at_,met,todo⟩):=by
     unfold cX
     rw[if_neg (by omega),if_pos hmet]
     simp only[hj]
    rw[hc]
    refine ac<|aa<|rn 1 [6] rfl<|ae<|aq (ai (ai ?_))
    refine av wP (an rfl) ?_
    intro w hw
    exact⟨(hd,L,At,ct),hR,rfl,hw.msub ms⟩
   obtain⟨j,hj⟩:∃j,bT (at_.getD k []) l=some j:=by
    cases e:bT (at_.getD k []) l with
    | none=>rw[e] at hj;cases hj
    | some j=>exact⟨j,rfl⟩
   rw[hj,Option.getD_some]
   refine ar (am ?_)
   refine ac<|ac<|aa<|rn 4 [0,1,8,40,43] rfl<|af (aj fc dS rfl rfl (by rfl)) rfl rfl ?_
   refine rn 1 [0,1,8,40,44,45] rfl<|af (aQ bF cC (SF.own hR.hl fc) (by omega) rfl rfl rfl) rfl rfl ?_
   refine af (a8 (SF.hdr (SF.own hR.hl fc) hkl) rfl rfl aW) rfl rfl ?_
   refine bV (t:=47) (v':= .slice A3 (at_.getD k []).length c3) rfl (hv) ?_
   refine ag (aY rfl rfl rfl Tryz.call166 (fun w hw=>zj A4 A3 c4 c3 j (at_.getD k []) w (SF.at_ (SF.own rfl fc) hw) (hin.sl hw fc))) rfl rfl (fun _ _=>?_)
   refine ae<|aw rfl (fun he=>?_) (fun he=>?_)
   ·have hc:cX f.code.length ⟨at_,met,todo⟩ k l=(true,⟨at_,met,todo⟩):=by
     unfold cX
     rw[if_neg (by omega),if_pos hmet]
     simp only[hj]
     rw[if_pos he]
    rw[hc]
    refine ac<|aa<|rn 1 [6] rfl<|ae<|aq (ai (ai ?_))
    refine av wP (an rfl) ?_
    intro w hw
    exact⟨(hd,L,At,ct),hR,rfl,hw.msub ms⟩
   have hc:cX f.code.length ⟨at_,met,todo⟩ k l=(true,⟨at_.set k j,met.set k true,todo++ [(k:Int)]⟩):=by
    unfold cX
    rw[if_neg (by omega),if_pos hmet]
    simp only[hj]
    rw[if_neg he]
   refine dA (fun w h=>oE (sk (h.msub (T:=ap (.slice A4 j.length c4) j::fi L::([ak gx [.slice Ap fs.length cp,.int .i64 f.params,.slice A1 f.locals.length c1,.int .i64 f.result,.slice A2 f.code.length c2,.slice Aa f.code.length ca,.slice Am f.code.length cm,.slice At todo.length ct] 178,ap (.slice Aa f.code.length ca) hd,ap (.slice Am f.code.length cm) met,ap (.slice At todo.length ct) todo]++H)) ms))) ?_
   refine ar (am ?_)
   refine aa<|rn 2 [0,1,7] rfl<|gC (j,(.slice A4 j.length c4,j)::L,A4,c4) (⟨⟨.new,hR.cons _⟩,hc⟩) ⟨rfl,rfl,rfl,trivial⟩ (fun _ h=>h.msub ms)
  have hc:cX f.code.length ⟨at_,met,todo⟩ k l=(true,⟨at_.set k l,met.set k true,todo++ [(k:Int)]⟩):=by
   unfold cX
   rw[if_neg (by omega),if_neg (by rw[hmet];decide)]
  refine ar<|bq (l,L,Al,cl) (⟨⟨hl,hR⟩,hc⟩) ⟨rfl,rfl,rfl,trivial⟩ (fun _ h=>h.msub ms)
 rintro⟨wl,L2,Aw,cw⟩ hg
 obtain⟨⟨hwl,hR2⟩,hc⟩:(iU L2 (.slice Aw wl.length cw) wl∧gM f.code.length hd L2 at_)∧cX f.code.length ⟨at_,met,todo⟩ k l=(true,⟨at_.set k wl,met.set k true,todo++ [(k:Int)]⟩):=hg
 rw[hc]
 try dsimp only[List.cons_append,List.nil_append]
 refine fO (fun w h=>SF.addr (SF.own hR.hl (H:= [ak gx [.slice Ap fs.length cp,.int .i64 f.params,.slice A1 f.locals.length c1,.int .i64 f.result,.slice A2 f.code.length c2,.slice Aa f.code.length ca,.slice Am f.code.length cm,.slice At todo.length ct] 178,ap (.slice Aa f.code.length ca) hd,ap (.slice Am f.code.length cm) met,ap (.slice At todo.length ct) todo,fi L2]++H) fc) (by omega) h) ?_
 rintro⟨ba,oa,hAa⟩
 refine fO (fun w h=>SF.addr (SF.own hm (H:= [ak gx [.slice Ap fs.length cp,.int .i64 f.params,.slice A1 f.locals.length c1,.int .i64 f.result,.slice A2 f.code.length c2,.slice Aa f.code.length ca,.slice Am f.code.length cm,.slice At todo.length ct] 178,ap (.slice Aa f.code.length ca) hd,ap (.slice Am f.code.length cm) met,ap (.slice At todo.length ct) todo,fi L2]++H) fc) (by omega) h) ?_
 rintro⟨bm,om,hAm⟩
 refine eb (fun _:Unit=>True) (fun _=> [(0,.pointer (some ⟨gx,0,none⟩)),(1,.int .i64 (k:Int))]) (fun _=> [ak gx [.slice Ap fs.length cp,.int .i64 f.params,.slice A1 f.locals.length c1,.int .i64 f.result,.slice A2 f.code.length c2,.slice Aa f.code.length ca,.slice Am f.code.length cm,.slice At todo.length ct] 178,ap (.slice Aa f.code.length ca) (hd.set k ⟨.slice Aw wl.length cw⟩),ap (.slice Am f.code.length cm) (met.set k true),ap (.slice At todo.length ct) todo,fi L2]++H) ?_ ?_
 ·refine fL (.still 0 (.still 1 (.still 2 (.still 3 (.still 4 (.still 5 (.still 6 (.still 7 (.still 8 (.still 9 (.still 10 (.still 11 (.pick 12 (.still 13 (.pick 14 .done .stop)) .stop))))))))))))) [14] rfl (by kernel_rfl) (by kernel_rfl) [ak gx [.slice Ap fs.length cp,.int .i64 f.params,.slice A1 f.locals.length c1,.int .i64 f.result,.slice A2 f.code.length c2,.slice Aa f.code.length ca,.slice Am f.code.length cm,.slice At todo.length ct] 178] ?_
  refine aU ha 3 [0,1,7,52] rfl<|ax rfl (aj fc dS rfl rfl (by rfl)) rfl rfl ha ?_
  refine aU ha 4 [0,1,7,53,54,57] rfl<|ax rfl (aj fc H0 rfl rfl (by rfl)) rfl rfl ha ?_
  refine aU ha 2 [0,1,53,54,58,59,60] rfl<|ax rfl (iq bF cC hAa hkl rfl rfl rfl) rfl rfl ha ?_
  refine aK rfl (jG (α:=gP) ⟨.slice Aw wl.length cw⟩ iY rfl fc hkl rfl cC rfl rfl rfl rfl rfl rfl rfl rfl) rfl rfl (.inr fun _=>ha) (fun _ _=>?_) aE
  refine ax rfl (iq fb dK hAm hkl rfl rfl rfl) rfl rfl ha ?_
  refine aK rfl (jG (α:=Bool) true false rfl fc hkl trivial dK rfl rfl rfl rfl rfl rfl rfl rfl) rfl rfl (.inl rfl) (fun _ _=>?_) aE
  refine df<|bq () (trivial) ⟨rfl,rfl,trivial⟩ (fun _ h=>h.msub ms)
 rintro _ _
 refine ac<|aa<|rn 4 [1,63,66] rfl<|af (aj fc aW rfl rfl (by rfl)) rfl rfl ?_
 refine rn 1 [63,67,68] rfl<|ag (bu (cs:= [_]) ah aF a6 rfl rfl rfl rfl rfl) rfl rfl (fun g1 _=>?_)
 refine ag (dJ (α:=Int) (bytes:=8) (k:Int) [] rfl ah (cU eE) rfl (fV fc fc) (eD ⟨by omega,by omega⟩) (by omega) (by omega) rfl rfl rfl) rfl rfl (fun⟨A5,c5⟩ _=>?_)
 try dsimp only
 refine rn 2 [70,72] rfl<|ag (aJ _ fc cC rfl rfl rfl rfl rfl (by rfl) rfl (by rfl)) rfl rfl (fun _ _=>?_)
 refine ae<|ac<|aa<|rn 1 [6] rfl<|ae<|aq<|av wP (an rfl) ?_
 intro w hw
 exact⟨(hd.set k ⟨.slice Aw wl.length cw⟩,L2,A5,c5),hR2.set hkl hwl,rfl,hw.msub ms⟩
end
end Go.Proofs.YtpacloheigifkaaGreat
