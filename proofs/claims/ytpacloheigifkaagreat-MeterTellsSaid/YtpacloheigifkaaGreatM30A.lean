/- Texts of one proof, one behind the other: lemmas alone. -/
import Derived.Test.YtpacloheigifkaaGreatM0A
import Derived.Test.YtpacloheigifkaaGreatM26A
import Derived.Test.YtpacloheigifkaaGreatM24A

namespace Go.Proofs.YtpacloheigifkaaGreat
open Go.RowKit
section
theorem xQ {o:bT} (pc:Int) (h:o.c=13):cW o pc= []:=by unfold cW;rw[if_pos h]
theorem vY {o:bT} (pc:Int) (h1:¬o.c=13) (h:o.c=10):cW o pc= [o.a]:=by unfold cW;rw[if_neg h1,if_pos h]
theorem vX {o:bT} (pc:Int) (h1:¬o.c=13) (h2:¬o.c=10) (h:o.c=11):cW o pc=Lib.compact (pt [pc+1,o.a]):=by
 obtain⟨k1,k2⟩:=vN (wv [pc+1,o.a])
 refine nr (nM _ _) k1 fun a=>?_
 rw[k2,pr,lO]
 unfold eY
 rw[if_neg h1,if_neg h2,if_pos h]
 simp
theorem vZ {o:bT} (pc:Int) (h1:¬o.c=13) (h2:¬o.c=10) (h:¬o.c=11):cW o pc= [pc+1]:=by unfold cW;rw[if_neg h1,if_neg h2,if_neg h]
set_option maxRecDepth 100000 in
theorem xR (A:Option Addr) (c:Nat) (l:List bT) (pc:Nat) (w:World) (hs:Sl w (.slice A l.length c) l) (hp:pc<l.length) :
  Calls Tryz.prog 168 #[.slice A l.length c,.int .i64 (pc:Int)] w fun e w'=> ∃g:Option Addr×Nat,True∧e= .returned (.slice g.1 (cW (bx l pc) pc).length g.2)∧Cw w.heap.size w [ak (.slice g.1 (cW (bx l pc) pc).length g.2) (cW (bx l pc) pc)] w':=by
 have b1:=bV hs
 have ho:=r9 hs hp
 have i1:aX ((pc:Int)+1):=by unfold aX;omega
 refine enter Tryz.func168 rfl Tryz.ntmps168 rfl ?_
 refine ac<|aa<|rn 1 [0,1] rfl<|ae<|ac<|aa<|rn 2 [1,7,8] rfl<|af (aQ bu b8 (.ro hs) (by omega) rfl rfl rfl) rfl rfl<|af (cu (cs:= [_,_]) (SF.op (.ro hs) (by omega)) rfl rfl eS b8) rfl rfl<|ag (aZ cr rfl rfl) rfl rfl (fun g1 _=>?_)
 refine ag (aG _ fc b8 rfl rfl rfl rfl rfl (by rfl) rfl (by rfl)) rfl rfl (fun _ _=>?_)
 refine ae<|ac<|ac<|aa<|rn 1 [1,5,11] rfl<|af (ai fc aq rfl rfl (by rfl)) rfl rfl ?_
 refine ae<|aP<|ac<|aa<|rn 2 [1,5,12,13] rfl<|ae<|ay rfl (fun h1=>?_) (fun h1=>?_)
 ·have e:=xQ (o:=bx l pc) pc h1
  refine ac<|aa<|rn 1 [4] rfl<|ae<|av (aF (aj ?_))
  refine aB tp (ap rfl) ?_
  intro w hw
  refine⟨(none,0),trivial,by rw[e];rfl,?_⟩
  rw[e]
  exact(Cw.nilO Int hw).msub ms
 refine ac<|aa<|rn 2 [1,5,12,15] rfl<|ae<|ay rfl (fun h2=>?_) (fun h2=>?_)
 ·have e:=vY (o:=bx l pc) pc h1 h2
  refine ac<|aa<|rn 1 [17] rfl<|af (ai fc aq rfl rfl (by rfl)) rfl rfl ?_
  refine ag (bh (cs:= [_]) ah aH a8 rfl rfl rfl rfl rfl) rfl rfl (fun g2 _=>?_)
  refine rn 1 [4] rfl<|ae<|dP (fun w h=>cc (α:=Int) (m:=1) [(bx l pc).a] rfl (jq ho.2) rfl (by decide) h) ?_
  refine av (aF (aj ?_))
  refine aB tp (ap rfl) ?_
  intro w hw
  refine⟨(_,_),trivial,by rw[e];rfl,?_⟩
  rw[e]
  exact hw.msub ms
 refine ac<|aa<|rn 2 [1,5,20] rfl<|ae<|ay rfl (fun h3=>?_) (fun h3=>?_)
 ·have e:=vX (o:=bx l pc) pc h1 h2 h3
  refine ac<|aa<|rn 1 [5,22] rfl<|af (bR rfl rfl rfl (by omega)) rfl rfl<|rn 1 [23,24] rfl<|af (ai fc aq rfl rfl (by rfl)) rfl rfl ?_
  refine ag (bh (cs:= [_,_]) ah aH a8 rfl rfl rfl rfl rfl) rfl rfl (fun g3 _=>?_)
  refine rn 1 [6] rfl<|ae<|dP (fun w h=>cc (α:=Int) (m:=2) [(pc:Int)+1,(bx l pc).a] rfl (kS i1 ho.2) rfl (by decide) h) ?_
  have h2i:∀x∈[(pc:Int)+1,(bx l pc).a],aX x:=kS i1 ho.2
  refine ac<|aa<|rn 1 [6,27] rfl<|ag (bC rfl rfl rfl Tryz.call124 (fun w hw=>yf hw (by omega) h2i)) rfl rfl (fun _ _=>?_)
  refine ae<|ac<|aa<|rn 1 [29] rfl<|ag (bC rfl rfl rfl Tryz.call125 (fun w hw=>tZ hw (by omega) (fun x hx=>h2i x (pr.1 hx)))) rfl rfl (fun _ _=>?_)
  refine rn 1 [4] rfl<|ae<|av (aF (aj ?_))
  refine aB tp (ap rfl) ?_
  intro w hw
  refine⟨(_,_),trivial,by rw[e],?_⟩
  rw[e]
  exact hw.msub ms
 have e:=vZ (o:=bx l pc) pc h1 h2 h3
 refine az (aI (au ?_))
 refine ac<|aa<|rn 1 [31] rfl<|af (bR rfl rfl rfl (by omega)) rfl rfl<|ag (bh (cs:= [_]) ah aH a8 rfl rfl rfl rfl rfl) rfl rfl (fun g4 _=>?_)
 refine rn 1 [4] rfl<|ae<|dP (fun w h=>cc (α:=Int) (m:=1) [(pc:Int)+1] rfl (jq i1) rfl (by decide) h) ?_
 refine av<|aB tp (ap rfl) ?_
 intro w hw
 refine⟨(_,_),trivial,by rw[e];rfl,?_⟩
 rw[e]
 exact hw.msub ms
set_option maxRecDepth 100000 in
theorem vC (A:Option Addr) (c:Nat) (l:List bT) (pc:Nat) (to_:Int) (w:World) (hs:Sl w (.slice A l.length c) l) (hp:pc<l.length) :
  Calls Tryz.prog 146 #[.slice A l.length c,.int .i64 (pc:Int),.int .i64 to_] w fun e w'=>e= .returned (.bool (eY (bx l pc) pc to_))∧Below w.heap.size w w':=by
 have b1:=bV hs
 refine enter Tryz.func146 rfl Tryz.ntmps146 rfl ?_
 refine ac<|aa<|rn 1 [0,1,2] rfl<|ae<|ac<|ac<|aa<|rn 2 [0,1,2,7,8] rfl<|af (aQ bu b8 (.ro hs) (by omega) rfl rfl rfl) rfl rfl<|rn 1 [0,1,2,10] rfl<|af (a9 (SF.opc (.ro hs) (by omega)) rfl rfl aq) rfl rfl<|ae<|aP<|ac<|aa<|rn 2 [0,1,2,11,12] rfl<|ae<|ay rfl (fun h1=>?_) (fun h1=>?_)
 ·refine ac<|aa<|rn 1 [6] rfl<|ae<|av (aF (aj ?_))
  refine aB oo (ap rfl) ?_
  intro w hw
  exact⟨bz (by unfold eY;rw[if_pos h1]),hw.below⟩
 refine ac<|aa<|rn 2 [0,1,2,11,14] rfl<|ae<|ay rfl (fun h2=>?_) (fun h2=>?_)
 ·refine ac<|aa<|rn 3 [16,17,18] rfl<|af (aQ bu b8 (.ro hs) (by omega) rfl rfl rfl) rfl rfl<|rn 1 [16,20] rfl<|af (a9 (SF.opa (.ro hs) (by omega)) rfl rfl aq) rfl rfl<|rn 2 [6] rfl<|ae<|av (aF (aj ?_))
  refine aB oo (ap rfl) ?_
  intro w hw
  exact⟨bz (by unfold eY;rw[if_neg h1,if_pos h2]),hw.below⟩
 refine ac<|aa<|rn 2 [0,1,2,23] rfl<|ae<|ay rfl (fun h3=>?_) (fun h3=>?_)
 ·refine ac<|aa<|rn 2 [0,1,2,25,26] rfl<|af (bR rfl rfl rfl (by omega)) rfl rfl<|rn 2 [0,1,2,29] rfl<|bK (t:=29) rfl (fun h4=>?_) (fun h4=>?_)
  ·refine rn 9 [6] rfl<|ae<|av (aF (aj ?_))
   refine aB oo (ap rfl) ?_
   intro w hw
   exact⟨bz (by unfold eY;rw[if_neg h1,if_neg h2,if_pos h3,h4];rfl),hw.below⟩
  refine rn 3 [29,30,31,32] rfl<|af (aQ bu b8 (.ro hs) (by omega) rfl rfl rfl) rfl rfl<|rn 1 [29,30,34] rfl<|af (a9 (SF.opa (.ro hs) (by omega)) rfl rfl aq) rfl rfl<|rn 3 [6] rfl<|ae<|av (aF (aj ?_))
  refine aB oo (ap rfl) ?_
  intro w hw
  exact⟨bz (by unfold eY;rw[if_neg h1,if_neg h2,if_pos h3,h4];rfl),hw.below⟩
 refine az (aI (au ?_))
 refine ac<|aa<|rn 2 [38,39] rfl<|af (bR rfl rfl rfl (by omega)) rfl rfl<|rn 2 [6] rfl<|ae<|av<|aB oo (ap rfl) ?_
 intro w hw
 exact⟨bz (by unfold eY;rw[if_neg h1,if_neg h2,if_neg h3]),hw.below⟩
set_option maxRecDepth 100000 in
theorem zX (A:Option Addr) (c:Nat) (l:List bT) (pc:Nat) (w:World) (hs:Sl w (.slice A l.length c) l) (hp:pc<l.length) (h40:l.length≤40) :
  Calls Tryz.prog 109 #[.slice A l.length c,.int .i64 (pc:Int)] w fun e w'=> ∃g:Option Addr×Nat,True∧e= .returned (.slice g.1 (n4 l pc).length g.2)∧Cw w.heap.size w [ak (.slice g.1 (n4 l pc).length g.2) (n4 l pc)] w':=by
 have b1:=bV hs
 refine enter Tryz.func109 rfl Tryz.ntmps109 rfl ?_
 refine ac<|aa<|rn 1 [0,1] rfl<|ae<|ac<|aa<|rn 1 [0,1,5] rfl<|ae<|ac<|ac<|aa<|rn 1 [0,1,5,6] rfl<|ae<|dP (fun w h=>Cw.nilO Int h) ?_
 refine aP (cn (fun g:Nat×Option Addr×Nat=>g.1≤l.length+1) (fun g=>l.length+1 - g.1) (fun g=> [(0,.slice A l.length c),(1,.int .i64 (pc:Int)),(5,.slice g.2.1 ((fZ g.1).filter (eY (bx l pc) (pc:Int))).length g.2.2),(6,.int .i64 (g.1:Int))]) (fun g=> [ak (.slice g.2.1 ((fZ g.1).filter (eY (bx l pc) (pc:Int))).length g.2.2) ((fZ g.1).filter (eY (bx l pc) (pc:Int)))]) (0,none,0) (Nat.zero_le _) ⟨rfl,rfl,rfl,rfl,trivial⟩ me ?_)
 rintro⟨k,A1,c1⟩ hk'
 try dsimp only
 have hk:k≤l.length+1:=hk'
 have hfl:=vH (eY (bx l pc) (pc:Int)) k
 refine ac<|ac<|aa<|rn 2 [0,1,5,6,7,8] rfl<|af (aS bu rfl rfl) rfl rfl<|rn 1 [0,1,5,6,10] rfl<|ae<|ay rfl (fun hlt=>?_) (fun hlt=>?_)
 ·refine az (au ?_)
  refine ac<|aP<|ac<|aa<|rn 3 [0,1,5,6,13,14,15] rfl<|ag (br rfl rfl rfl Tryz.call146 (fun w hw=>vC A c l pc (k:Int) w (hw.ro hs) hp)) rfl rfl (fun _ _=>?_)
  refine ae<|cB rfl (fun hg=>?_) (fun hg=>?_)
  ·have hg:(eY (bx l pc) (pc:Int)) (k:Int)=true:=hg
   refine aa<|rn 2 [0,1,6,17,18] rfl<|ag (bh (cs:= [_]) ah aH a8 rfl rfl rfl rfl rfl) rfl rfl (fun g1 _=>?_)
   refine ag (dv (α:=Int) (bytes:=8) (k:Int) [] (vG hg) ah (bO cX) rfl (eu fc fc) (uG (by unfold aX;omega)) (by omega) (by omega) rfl rfl rfl) rfl rfl (fun⟨A4,c4⟩ _=>?_)
   try dsimp only
   refine rn 1 [0,1,5,6] rfl<|bB (aI (au ?_))
   refine aa<|rn 1 [0,1,5,11] rfl<|af (bR rfl rfl rfl (by omega)) rfl rfl<|rn 1 [0,1,5,6] rfl<|bD (k+1,A4,c4) (by show k+1≤_;omega) (by show _ - _<_ - _;omega) ⟨rfl,rfl,rfl,rfl,trivial⟩ me
  have hg:¬(eY (bx l pc) (pc:Int)) (k:Int)=true:=by rw[hg];decide
  refine az (aI (au ?_))
  refine aa<|rn 1 [0,1,5,11] rfl<|af (bR rfl rfl rfl (by omega)) rfl rfl<|rn 1 [0,1,5,6] rfl ?_
  rw[←xu hg]
  refine bD (k+1,A1,c1) (by show k+1≤_;omega) (by show _ - _<_ - _;omega) ⟨rfl,rfl,rfl,rfl,trivial⟩ me
 obtain rfl:k=l.length+1:=by omega
 refine bY (aU (aU (cz (au ?_))))
 refine ac<|aa<|rn 2 [4] rfl<|ae<|av<|aB Tryz.results109 (ap rfl) ?_
 intro w hw
 exact⟨(A1,c1),trivial,rfl,hw⟩
end
end Go.Proofs.YtpacloheigifkaaGreat
