/- Texts of one proof, one behind the other: lemmas alone. -/
import Derived.Test.YtpacloheigifkaaGreatM0C
import Derived.Test.YtpacloheigifkaaGreatM26C
import Derived.Test.YtpacloheigifkaaGreatM24C

namespace Go.Proofs.YtpacloheigifkaaGreat
open Go.RowKit
section
theorem xB {o:bT} (pc:Int) (h:o.c=13):cQ o pc= []:=by unfold cQ;rw[if_pos h]
theorem vp {o:bT} (pc:Int) (h1:¬o.c=13) (h:o.c=10):cQ o pc= [o.a]:=by unfold cQ;rw[if_neg h1,if_pos h]
theorem vo {o:bT} (pc:Int) (h1:¬o.c=13) (h2:¬o.c=10) (h:o.c=11):cQ o pc=Lib.compact (iF [pc+1,o.a]):=by
 obtain⟨k1,k2⟩:=pd (pX [pc+1,o.a])
 refine j3 (m9 _ _) k1 fun a=>?_
 rw[k2,oG,lm]
 unfold eW
 rw[if_neg h1,if_neg h2,if_pos h]
 simp
theorem vq {o:bT} (pc:Int) (h1:¬o.c=13) (h2:¬o.c=10) (h:¬o.c=11):cQ o pc= [pc+1]:=by unfold cQ;rw[if_neg h1,if_neg h2,if_neg h]
set_option maxRecDepth 100000 in
theorem xC (A:Option Addr) (c:Nat) (l:List bT) (pc:Nat) (w:World) (hs:Sl w (.slice A l.length c) l) (hp:pc<l.length) :
  Calls Tryz.prog 168 #[.slice A l.length c,.int .i64 (pc:Int)] w fun e w'=> ∃g:Option Addr×Nat,True∧e= .returned (.slice g.1 (cQ (bn l pc) pc).length g.2)∧Cw w.heap.size w [an (.slice g.1 (cQ (bn l pc) pc).length g.2) (cQ (bn l pc) pc)] w':=by
 have b1:=bR hs
 have ho:=ru hs hp
 have i1:a5 ((pc:Int)+1):=by unfold a5;omega
 refine enter Tryz.func168 rfl Tryz.ntmps168 rfl ?_
 refine ac<|aa<|rn 1 [0,1] rfl<|ae<|ac<|aa<|rn 2 [1,7,8] rfl<|af (aQ bt cE (.ro hs) (by omega) rfl rfl rfl) rfl rfl<|af (cL (cs:= [_,_]) (SF.op (.ro hs) (by omega)) rfl rfl gT cE) rfl rfl<|ai (a9 dv rfl rfl) rfl rfl (fun g1 _=>?_)
 refine ai (aM _ fc cE rfl rfl rfl rfl rfl (by rfl) rfl (by rfl)) rfl rfl (fun _ _=>?_)
 refine ae<|ac<|ac<|aa<|rn 1 [1,5,11] rfl<|af (aj fc aw rfl rfl (by rfl)) rfl rfl ?_
 refine ae<|aE<|ac<|aa<|rn 2 [1,5,12,13] rfl<|ae<|ar rfl (fun h1=>?_) (fun h1=>?_)
 ·have e:=xB (o:=bn l pc) pc h1
  refine ac<|aa<|rn 1 [4] rfl<|ae<|ap (aC (ah ?_))
  refine au sH (am rfl) ?_
  intro w hw
  refine⟨(none,0),trivial,by rw[e];rfl,?_⟩
  rw[e]
  exact(Cw.nilO Int hw).msub ms
 refine ac<|aa<|rn 2 [1,5,12,15] rfl<|ae<|ar rfl (fun h2=>?_) (fun h2=>?_)
 ·have e:=vp (o:=bn l pc) pc h1 h2
  refine ac<|aa<|rn 1 [17] rfl<|af (aj fc aw rfl rfl (by rfl)) rfl rfl ?_
  refine ai (a8 (cs:= [_]) ag aF aV rfl rfl rfl rfl rfl) rfl rfl (fun g2 _=>?_)
  refine rn 1 [4] rfl<|ae<|dx (fun w h=>bW (α:=Int) (m:=1) [(bn l pc).a] rfl (is ho.2) rfl (by decide) h) ?_
  refine ap (aC (ah ?_))
  refine au sH (am rfl) ?_
  intro w hw
  refine⟨(_,_),trivial,by rw[e];rfl,?_⟩
  rw[e]
  exact hw.msub ms
 refine ac<|aa<|rn 2 [1,5,20] rfl<|ae<|ar rfl (fun h3=>?_) (fun h3=>?_)
 ·have e:=vo (o:=bn l pc) pc h1 h2 h3
  refine ac<|aa<|rn 1 [5,22] rfl<|af (a6 rfl rfl rfl (by omega)) rfl rfl<|rn 1 [23,24] rfl<|af (aj fc aw rfl rfl (by rfl)) rfl rfl ?_
  refine ai (a8 (cs:= [_,_]) ag aF aV rfl rfl rfl rfl rfl) rfl rfl (fun g3 _=>?_)
  refine rn 1 [6] rfl<|ae<|dx (fun w h=>bW (α:=Int) (m:=2) [(pc:Int)+1,(bn l pc).a] rfl (kA i1 ho.2) rfl (by decide) h) ?_
  have h2i:∀x∈[(pc:Int)+1,(bn l pc).a],a5 x:=kA i1 ho.2
  refine ac<|aa<|rn 1 [6,27] rfl<|ai (bg rfl rfl rfl DW (fun w hw=>qZ hw (by omega) h2i)) rfl rfl (fun _ _=>?_)
  refine ae<|ac<|aa<|rn 1 [29] rfl<|ai (bg rfl rfl rfl DV (fun w hw=>nM hw (by omega) (fun x hx=>h2i x (oG.1 hx)))) rfl rfl (fun _ _=>?_)
  refine rn 1 [4] rfl<|ae<|ap (aC (ah ?_))
  refine au sH (am rfl) ?_
  intro w hw
  refine⟨(_,_),trivial,by rw[e],?_⟩
  rw[e]
  exact hw.msub ms
 have e:=vq (o:=bn l pc) pc h1 h2 h3
 refine aq (aH (ak ?_))
 refine ac<|aa<|rn 1 [31] rfl<|af (a6 rfl rfl rfl (by omega)) rfl rfl<|ai (a8 (cs:= [_]) ag aF aV rfl rfl rfl rfl rfl) rfl rfl (fun g4 _=>?_)
 refine rn 1 [4] rfl<|ae<|dx (fun w h=>bW (α:=Int) (m:=1) [(pc:Int)+1] rfl (is i1) rfl (by decide) h) ?_
 refine ap<|au sH (am rfl) ?_
 intro w hw
 refine⟨(_,_),trivial,by rw[e];rfl,?_⟩
 rw[e]
 exact hw.msub ms
set_option maxRecDepth 100000 in
theorem uV (A:Option Addr) (c:Nat) (l:List bT) (pc:Nat) (to_:Int) (w:World) (hs:Sl w (.slice A l.length c) l) (hp:pc<l.length) :
  Calls Tryz.prog 146 #[.slice A l.length c,.int .i64 (pc:Int),.int .i64 to_] w fun e w'=>e= .returned (.bool (eW (bn l pc) pc to_))∧Below w.heap.size w w':=by
 have b1:=bR hs
 refine enter Tryz.func146 rfl Tryz.ntmps146 rfl ?_
 refine ac<|aa<|rn 1 [0,1,2] rfl<|ae<|ac<|ac<|aa<|rn 2 [0,1,2,7,8] rfl<|af (aQ bt cE (.ro hs) (by omega) rfl rfl rfl) rfl rfl<|rn 1 [0,1,2,10] rfl<|af (aZ (SF.opc (.ro hs) (by omega)) rfl rfl aw) rfl rfl<|ae<|aE<|ac<|aa<|rn 2 [0,1,2,11,12] rfl<|ae<|ar rfl (fun h1=>?_) (fun h1=>?_)
 ·refine ac<|aa<|rn 1 [6] rfl<|ae<|ap (aC (ah ?_))
  refine au nD (am rfl) ?_
  intro w hw
  exact⟨bh (by unfold eW;rw[if_pos h1]),hw.below⟩
 refine ac<|aa<|rn 2 [0,1,2,11,14] rfl<|ae<|ar rfl (fun h2=>?_) (fun h2=>?_)
 ·refine ac<|aa<|rn 3 [16,17,18] rfl<|af (aQ bt cE (.ro hs) (by omega) rfl rfl rfl) rfl rfl<|rn 1 [16,20] rfl<|af (aZ (SF.opa (.ro hs) (by omega)) rfl rfl aw) rfl rfl<|rn 2 [6] rfl<|ae<|ap (aC (ah ?_))
  refine au nD (am rfl) ?_
  intro w hw
  exact⟨bh (by unfold eW;rw[if_neg h1,if_pos h2]),hw.below⟩
 refine ac<|aa<|rn 2 [0,1,2,23] rfl<|ae<|ar rfl (fun h3=>?_) (fun h3=>?_)
 ·refine ac<|aa<|rn 2 [0,1,2,25,26] rfl<|af (a6 rfl rfl rfl (by omega)) rfl rfl<|rn 2 [0,1,2,29] rfl<|bL (t:=29) rfl (fun h4=>?_) (fun h4=>?_)
  ·refine rn 9 [6] rfl<|ae<|ap (aC (ah ?_))
   refine au nD (am rfl) ?_
   intro w hw
   exact⟨bh (by unfold eW;rw[if_neg h1,if_neg h2,if_pos h3,h4];rfl),hw.below⟩
  refine rn 3 [29,30,31,32] rfl<|af (aQ bt cE (.ro hs) (by omega) rfl rfl rfl) rfl rfl<|rn 1 [29,30,34] rfl<|af (aZ (SF.opa (.ro hs) (by omega)) rfl rfl aw) rfl rfl<|rn 3 [6] rfl<|ae<|ap (aC (ah ?_))
  refine au nD (am rfl) ?_
  intro w hw
  exact⟨bh (by unfold eW;rw[if_neg h1,if_neg h2,if_pos h3,h4];rfl),hw.below⟩
 refine aq (aH (ak ?_))
 refine ac<|aa<|rn 2 [38,39] rfl<|af (a6 rfl rfl rfl (by omega)) rfl rfl<|rn 2 [6] rfl<|ae<|ap<|au nD (am rfl) ?_
 intro w hw
 exact⟨bh (by unfold eW;rw[if_neg h1,if_neg h2,if_neg h3]),hw.below⟩
set_option maxRecDepth 100000 in
theorem zS (A:Option Addr) (c:Nat) (l:List bT) (pc:Nat) (w:World) (hs:Sl w (.slice A l.length c) l) (hp:pc<l.length) (h40:l.length≤40) :
  Calls Tryz.prog 109 #[.slice A l.length c,.int .i64 (pc:Int)] w fun e w'=> ∃g:Option Addr×Nat,True∧e= .returned (.slice g.1 (ns l pc).length g.2)∧Cw w.heap.size w [an (.slice g.1 (ns l pc).length g.2) (ns l pc)] w':=by
 have b1:=bR hs
 refine enter Tryz.func109 rfl Tryz.ntmps109 rfl ?_
 refine ac<|aa<|rn 1 [0,1] rfl<|ae<|ac<|aa<|rn 1 [0,1,5] rfl<|ae<|ac<|ac<|aa<|rn 1 [0,1,5,6] rfl<|ae<|dx (fun w h=>Cw.nilO Int h) ?_
 refine aE (bD (fun g:Nat×Option Addr×Nat=>g.1≤l.length+1) (fun g=>l.length+1 - g.1) (fun g=> [(0,.slice A l.length c),(1,.int .i64 (pc:Int)),(5,.slice g.2.1 ((fP g.1).filter (eW (bn l pc) (pc:Int))).length g.2.2),(6,.int .i64 (g.1:Int))]) (fun g=> [an (.slice g.2.1 ((fP g.1).filter (eW (bn l pc) (pc:Int))).length g.2.2) ((fP g.1).filter (eW (bn l pc) (pc:Int)))]) (0,none,0) (Nat.zero_le _) ⟨rfl,rfl,rfl,rfl,trivial⟩ me ?_)
 rintro⟨k,A1,c1⟩ hk'
 try dsimp only
 have hk:k≤l.length+1:=hk'
 have hfl:=u5 (eW (bn l pc) (pc:Int)) k
 refine ac<|ac<|aa<|rn 2 [0,1,5,6,7,8] rfl<|af (aL bt rfl rfl) rfl rfl<|rn 1 [0,1,5,6,10] rfl<|ae<|ar rfl (fun hlt=>?_) (fun hlt=>?_)
 ·refine aq (ak ?_)
  refine ac<|aE<|ac<|aa<|rn 3 [0,1,5,6,13,14,15] rfl<|ai (bB rfl rfl rfl Tryz.call146 (fun w hw=>uV A c l pc (k:Int) w (hw.ro hs) hp)) rfl rfl (fun _ _=>?_)
  refine ae<|b9 rfl (fun hg=>?_) (fun hg=>?_)
  ·have hg:(eW (bn l pc) (pc:Int)) (k:Int)=true:=hg
   refine aa<|rn 2 [0,1,6,17,18] rfl<|ai (a8 (cs:= [_]) ag aF aV rfl rfl rfl rfl rfl) rfl rfl (fun g1 _=>?_)
   refine ai (dM (α:=Int) (bytes:=8) (k:Int) [] (u4 hg) ag (bN cJ) rfl (fH fc fc) (nz (by unfold a5;omega)) (by omega) (by omega) rfl rfl rfl) rfl rfl (fun⟨A4,c4⟩ _=>?_)
   try dsimp only
   refine rn 1 [0,1,5,6] rfl<|bu (aH (ak ?_))
   refine aa<|rn 1 [0,1,5,11] rfl<|af (a6 rfl rfl rfl (by omega)) rfl rfl<|rn 1 [0,1,5,6] rfl<|aX (k+1,A4,c4) (by show k+1≤_;omega) (by show _ - _<_ - _;omega) ⟨rfl,rfl,rfl,rfl,trivial⟩ me
  have hg:¬(eW (bn l pc) (pc:Int)) (k:Int)=true:=by rw[hg];decide
  refine aq (aH (ak ?_))
  refine aa<|rn 1 [0,1,5,11] rfl<|af (a6 rfl rfl rfl (by omega)) rfl rfl<|rn 1 [0,1,5,6] rfl ?_
  rw[←w9 hg]
  refine aX (k+1,A1,c1) (by show k+1≤_;omega) (by show _ - _<_ - _;omega) ⟨rfl,rfl,rfl,rfl,trivial⟩ me
 obtain rfl:k=l.length+1:=by omega
 refine bz (aG (aG (bO (ak ?_))))
 refine ac<|aa<|rn 2 [4] rfl<|ae<|ap<|au Tryz.results109 (am rfl) ?_
 intro w hw
 exact⟨(A1,c1),trivial,rfl,hw⟩
end
end Go.Proofs.YtpacloheigifkaaGreat
