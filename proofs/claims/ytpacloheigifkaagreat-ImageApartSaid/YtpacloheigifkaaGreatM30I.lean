/- Texts of one proof, one behind the other: lemmas alone. -/
import Derived.Test.YtpacloheigifkaaGreatM0I
import Derived.Test.YtpacloheigifkaaGreatM26I
import Derived.Test.YtpacloheigifkaaGreatM24I

namespace Go.Proofs.YtpacloheigifkaaGreat
open Go.RowKit
section
theorem B5 {o:cc} (pc:Int) (h:o.c=13):dd o pc= []:=by unfold dd;rw[if_pos h]
theorem zw {o:cc} (pc:Int) (h1:¬o.c=13) (h:o.c=10):dd o pc= [o.a]:=by unfold dd;rw[if_neg h1,if_pos h]
theorem zv {o:cc} (pc:Int) (h1:¬o.c=13) (h2:¬o.c=10) (h:o.c=11):dd o pc=Lib.compact (jT [pc+1,o.a]):=by
 obtain⟨k1,k2⟩:=sB (tM [pc+1,o.a])
 refine mX (pS _ _) k1 fun a=>?_
 rw[k2,rI,m9]
 unfold fJ
 rw[if_neg h1,if_neg h2,if_pos h]
 simp
theorem zx {o:cc} (pc:Int) (h1:¬o.c=13) (h2:¬o.c=10) (h:¬o.c=11):dd o pc= [pc+1]:=by unfold dd;rw[if_neg h1,if_neg h2,if_neg h]
set_option maxRecDepth 100000 in
theorem B6 (A:Option Addr) (c:Nat) (l:List cc) (pc:Nat) (w:World) (hs:Sl w (.slice A l.length c) l) (hp:pc<l.length) :
  Calls Tryz.prog 168 #[.slice A l.length c,.int .i64 (pc:Int)] w fun e w'=> ∃g:Option Addr×Nat,True∧e= .returned (.slice g.1 (dd (bG l pc) pc).length g.2)∧Cw w.heap.size w [ap (.slice g.1 (dd (bG l pc) pc).length g.2) (dd (bG l pc) pc)] w':=by
 have b1:=cn hs
 have ho:=vH hs hp
 have i1:be ((pc:Int)+1):=by unfold be;omega
 refine enter Tryz.func168 rfl Tryz.ntmps168 rfl ?_
 refine ac<|aa<|rn 1 [0,1] rfl<|ae<|ac<|aa<|rn 2 [1,7,8] rfl<|af (aQ bw cG (.ro hs) (by omega) rfl rfl rfl) rfl rfl<|af (cY (cs:= [_,_]) (SF.op (.ro hs) (by omega)) rfl rfl iJ cG) rfl rfl<|ag (aS bL rfl rfl) rfl rfl (fun g1 _=>?_)
 refine ag (aJ _ fc cG rfl rfl rfl rfl rfl (by rfl) rfl (by rfl)) rfl rfl (fun _ _=>?_)
 refine ae<|ac<|ac<|aa<|rn 1 [1,5,11] rfl<|af (aj fc au rfl rfl (by rfl)) rfl rfl ?_
 refine ae<|aB<|ac<|aa<|rn 2 [1,5,12,13] rfl<|ae<|aw rfl (fun h1=>?_) (fun h1=>?_)
 ·have e:=B5 (o:=bG l pc) pc h1
  refine ac<|aa<|rn 1 [4] rfl<|ae<|aq (aC (ai ?_))
  refine av wO (an rfl) ?_
  intro w hw
  refine⟨(none,0),trivial,by rw[e];rfl,?_⟩
  rw[e]
  exact(Cw.nilO Int hw).msub ms
 refine ac<|aa<|rn 2 [1,5,12,15] rfl<|ae<|aw rfl (fun h2=>?_) (fun h2=>?_)
 ·have e:=zw (o:=bG l pc) pc h1 h2
  refine ac<|aa<|rn 1 [17] rfl<|af (aj fc au rfl rfl (by rfl)) rfl rfl ?_
  refine ag (bu (cs:= [_]) ah aF a6 rfl rfl rfl rfl rfl) rfl rfl (fun g2 _=>?_)
  refine rn 1 [4] rfl<|ae<|dA (fun w h=>cE (α:=Int) (m:=1) [(bG l pc).a] rfl (gD ho.2) rfl (by decide) h) ?_
  refine aq (aC (ai ?_))
  refine av wO (an rfl) ?_
  intro w hw
  refine⟨(_,_),trivial,by rw[e];rfl,?_⟩
  rw[e]
  exact hw.msub ms
 refine ac<|aa<|rn 2 [1,5,20] rfl<|ae<|aw rfl (fun h3=>?_) (fun h3=>?_)
 ·have e:=zv (o:=bG l pc) pc h1 h2 h3
  refine ac<|aa<|rn 1 [5,22] rfl<|af (br rfl rfl rfl (by omega)) rfl rfl<|rn 1 [23,24] rfl<|af (aj fc au rfl rfl (by rfl)) rfl rfl ?_
  refine ag (bu (cs:= [_,_]) ah aF a6 rfl rfl rfl rfl rfl) rfl rfl (fun g3 _=>?_)
  refine rn 1 [6] rfl<|ae<|dA (fun w h=>cE (α:=Int) (m:=2) [(pc:Int)+1,(bG l pc).a] rfl (kl i1 ho.2) rfl (by decide) h) ?_
  have h2i:∀x∈[(pc:Int)+1,(bG l pc).a],be x:=kl i1 ho.2
  refine ac<|aa<|rn 1 [6,27] rfl<|ag (bg rfl rfl rfl IB (fun w hw=>u7 hw (by omega) h2i)) rfl rfl (fun _ _=>?_)
  refine ae<|ac<|aa<|rn 1 [29] rfl<|ag (bg rfl rfl rfl IA (fun w hw=>qI hw (by omega) (fun x hx=>h2i x (rI.1 hx)))) rfl rfl (fun _ _=>?_)
  refine rn 1 [4] rfl<|ae<|aq (aC (ai ?_))
  refine av wO (an rfl) ?_
  intro w hw
  refine⟨(_,_),trivial,by rw[e],?_⟩
  rw[e]
  exact hw.msub ms
 have e:=zx (o:=bG l pc) pc h1 h2 h3
 refine ar (aH (am ?_))
 refine ac<|aa<|rn 1 [31] rfl<|af (br rfl rfl rfl (by omega)) rfl rfl<|ag (bu (cs:= [_]) ah aF a6 rfl rfl rfl rfl rfl) rfl rfl (fun g4 _=>?_)
 refine rn 1 [4] rfl<|ae<|dA (fun w h=>cE (α:=Int) (m:=1) [(pc:Int)+1] rfl (gD i1) rfl (by decide) h) ?_
 refine aq<|av wO (an rfl) ?_
 intro w hw
 refine⟨(_,_),trivial,by rw[e];rfl,?_⟩
 rw[e]
 exact hw.msub ms
set_option maxRecDepth 100000 in
theorem zc (A:Option Addr) (c:Nat) (l:List cc) (pc:Nat) (to_:Int) (w:World) (hs:Sl w (.slice A l.length c) l) (hp:pc<l.length) :
  Calls Tryz.prog 146 #[.slice A l.length c,.int .i64 (pc:Int),.int .i64 to_] w fun e w'=>e= .returned (.bool (fJ (bG l pc) pc to_))∧Below w.heap.size w w':=by
 have b1:=cn hs
 refine enter Tryz.func146 rfl Tryz.ntmps146 rfl ?_
 refine ac<|aa<|rn 1 [0,1,2] rfl<|ae<|ac<|ac<|aa<|rn 2 [0,1,2,7,8] rfl<|af (aQ bw cG (.ro hs) (by omega) rfl rfl rfl) rfl rfl<|rn 1 [0,1,2,10] rfl<|af (a8 (SF.opc (.ro hs) (by omega)) rfl rfl au) rfl rfl<|ae<|aB<|ac<|aa<|rn 2 [0,1,2,11,12] rfl<|ae<|aw rfl (fun h1=>?_) (fun h1=>?_)
 ·refine ac<|aa<|rn 1 [6] rfl<|ae<|aq (aC (ai ?_))
  refine av qu (an rfl) ?_
  intro w hw
  exact⟨bE (by unfold fJ;rw[if_pos h1]),hw.below⟩
 refine ac<|aa<|rn 2 [0,1,2,11,14] rfl<|ae<|aw rfl (fun h2=>?_) (fun h2=>?_)
 ·refine ac<|aa<|rn 3 [16,17,18] rfl<|af (aQ bw cG (.ro hs) (by omega) rfl rfl rfl) rfl rfl<|rn 1 [16,20] rfl<|af (a8 (SF.opa (.ro hs) (by omega)) rfl rfl au) rfl rfl<|rn 2 [6] rfl<|ae<|aq (aC (ai ?_))
  refine av qu (an rfl) ?_
  intro w hw
  exact⟨bE (by unfold fJ;rw[if_neg h1,if_pos h2]),hw.below⟩
 refine ac<|aa<|rn 2 [0,1,2,23] rfl<|ae<|aw rfl (fun h3=>?_) (fun h3=>?_)
 ·refine ac<|aa<|rn 2 [0,1,2,25,26] rfl<|af (br rfl rfl rfl (by omega)) rfl rfl<|rn 2 [0,1,2,29] rfl<|bM (t:=29) rfl (fun h4=>?_) (fun h4=>?_)
  ·refine rn 9 [6] rfl<|ae<|aq (aC (ai ?_))
   refine av qu (an rfl) ?_
   intro w hw
   exact⟨bE (by unfold fJ;rw[if_neg h1,if_neg h2,if_pos h3,h4];rfl),hw.below⟩
  refine rn 3 [29,30,31,32] rfl<|af (aQ bw cG (.ro hs) (by omega) rfl rfl rfl) rfl rfl<|rn 1 [29,30,34] rfl<|af (a8 (SF.opa (.ro hs) (by omega)) rfl rfl au) rfl rfl<|rn 3 [6] rfl<|ae<|aq (aC (ai ?_))
  refine av qu (an rfl) ?_
  intro w hw
  exact⟨bE (by unfold fJ;rw[if_neg h1,if_neg h2,if_pos h3,h4];rfl),hw.below⟩
 refine ar (aH (am ?_))
 refine ac<|aa<|rn 2 [38,39] rfl<|af (br rfl rfl rfl (by omega)) rfl rfl<|rn 2 [6] rfl<|ae<|aq<|av qu (an rfl) ?_
 intro w hw
 exact⟨bE (by unfold fJ;rw[if_neg h1,if_neg h2,if_neg h3]),hw.below⟩
set_option maxRecDepth 100000 in
theorem Ek (A:Option Addr) (c:Nat) (l:List cc) (pc:Nat) (w:World) (hs:Sl w (.slice A l.length c) l) (hp:pc<l.length) (h40:l.length≤40) :
  Calls Tryz.prog 109 #[.slice A l.length c,.int .i64 (pc:Int)] w fun e w'=> ∃g:Option Addr×Nat,True∧e= .returned (.slice g.1 (qd l pc).length g.2)∧Cw w.heap.size w [ap (.slice g.1 (qd l pc).length g.2) (qd l pc)] w':=by
 have b1:=cn hs
 refine enter Tryz.func109 rfl Tryz.ntmps109 rfl ?_
 refine ac<|aa<|rn 1 [0,1] rfl<|ae<|ac<|aa<|rn 1 [0,1,5] rfl<|ae<|ac<|ac<|aa<|rn 1 [0,1,5,6] rfl<|ae<|dA (fun w h=>Cw.nilO Int h) ?_
 refine aB (bI (fun g:Nat×Option Addr×Nat=>g.1≤l.length+1) (fun g=>l.length+1 - g.1) (fun g=> [(0,.slice A l.length c),(1,.int .i64 (pc:Int)),(5,.slice g.2.1 ((hJ g.1).filter (fJ (bG l pc) (pc:Int))).length g.2.2),(6,.int .i64 (g.1:Int))]) (fun g=> [ap (.slice g.2.1 ((hJ g.1).filter (fJ (bG l pc) (pc:Int))).length g.2.2) ((hJ g.1).filter (fJ (bG l pc) (pc:Int)))]) (0,none,0) (Nat.zero_le _) ⟨rfl,rfl,rfl,rfl,trivial⟩ me ?_)
 rintro⟨k,A1,c1⟩ hk'
 try dsimp only
 have hk:k≤l.length+1:=hk'
 have hfl:=zi (fJ (bG l pc) (pc:Int)) k
 refine ac<|ac<|aa<|rn 2 [0,1,5,6,7,8] rfl<|af (aM bw rfl rfl) rfl rfl<|rn 1 [0,1,5,6,10] rfl<|ae<|aw rfl (fun hlt=>?_) (fun hlt=>?_)
 ·refine ar (am ?_)
  refine ac<|aB<|ac<|aa<|rn 3 [0,1,5,6,13,14,15] rfl<|ag (aY rfl rfl rfl Tryz.call146 (fun w hw=>zc A c l pc (k:Int) w (hw.ro hs) hp)) rfl rfl (fun _ _=>?_)
  refine ae<|cg rfl (fun hg=>?_) (fun hg=>?_)
  ·have hg:(fJ (bG l pc) (pc:Int)) (k:Int)=true:=hg
   refine aa<|rn 2 [0,1,6,17,18] rfl<|ag (bu (cs:= [_]) ah aF a6 rfl rfl rfl rfl rfl) rfl rfl (fun g1 _=>?_)
   refine ag (dJ (α:=Int) (bytes:=8) (k:Int) [] (zh hg) ah (cU eE) rfl (fV fc fc) (tC (by unfold be;omega)) (by omega) (by omega) rfl rfl rfl) rfl rfl (fun⟨A4,c4⟩ _=>?_)
   try dsimp only
   refine rn 1 [0,1,5,6] rfl<|bC (aH (am ?_))
   refine aa<|rn 1 [0,1,5,11] rfl<|af (br rfl rfl rfl (by omega)) rfl rfl<|rn 1 [0,1,5,6] rfl<|a5 (k+1,A4,c4) (by show k+1≤_;omega) (by show _ - _<_ - _;omega) ⟨rfl,rfl,rfl,rfl,trivial⟩ me
  have hg:¬(fJ (bG l pc) (pc:Int)) (k:Int)=true:=by rw[hg];decide
  refine ar (aH (am ?_))
  refine aa<|rn 1 [0,1,5,11] rfl<|af (br rfl rfl rfl (by omega)) rfl rfl<|rn 1 [0,1,5,6] rfl ?_
  rw[←BB hg]
  refine a5 (k+1,A1,c1) (by show k+1≤_;omega) (by show _ - _<_ - _;omega) ⟨rfl,rfl,rfl,rfl,trivial⟩ me
 obtain rfl:k=l.length+1:=by omega
 refine bz (aD (aD (bO (am ?_))))
 refine ac<|aa<|rn 2 [4] rfl<|ae<|aq<|av Tryz.results109 (an rfl) ?_
 intro w hw
 exact⟨(A1,c1),trivial,rfl,hw⟩
end
end Go.Proofs.YtpacloheigifkaaGreat
