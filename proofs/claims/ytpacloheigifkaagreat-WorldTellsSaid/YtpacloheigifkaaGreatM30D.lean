/- Texts of one proof, one behind the other: lemmas alone. -/
import Derived.Test.YtpacloheigifkaaGreatM0D
import Derived.Test.YtpacloheigifkaaGreatM26D
import Derived.Test.YtpacloheigifkaaGreatM24D

namespace Go.Proofs.YtpacloheigifkaaGreat
open Go.RowKit
section
theorem zt {o:cn} (pc:Int) (h:o.c=13):di o pc= []:=by unfold di;rw[if_pos h]
theorem xr {o:cn} (pc:Int) (h1:¬o.c=13) (h:o.c=10):di o pc= [o.a]:=by unfold di;rw[if_neg h1,if_pos h]
theorem xq {o:cn} (pc:Int) (h1:¬o.c=13) (h2:¬o.c=10) (h:o.c=11):di o pc=Lib.compact (qk [pc+1,o.a]):=by
 obtain⟨k1,k2⟩:=xd (xR [pc+1,o.a])
 refine oq (oP _ _) k1 fun a=>?_
 rw[k2,qj,my]
 unfold fq
 rw[if_neg h1,if_neg h2,if_pos h]
 simp
theorem xt {o:cn} (pc:Int) (h1:¬o.c=13) (h2:¬o.c=10) (h:¬o.c=11):di o pc= [pc+1]:=by unfold di;rw[if_neg h1,if_neg h2,if_neg h]
set_option maxRecDepth 100000 in
theorem zu (A:Option Addr) (c:Nat) (l:List cn) (pc:Nat) (w:World) (hs:Sl w (.slice A l.length c) l) (hp:pc<l.length) :
  Calls Tryz.prog 168 #[.slice A l.length c,.int .i64 (pc:Int)] w fun e w'=> ∃g:Option Addr×Nat,True∧e= .returned (.slice g.1 (di (bB l pc) pc).length g.2)∧Cw w.heap.size w [aj (.slice g.1 (di (bB l pc) pc).length g.2) (di (bB l pc) pc)] w':=by
 have b1:=bO hs
 have ho:=tB hs hp
 have i1:aX ((pc:Int)+1):=by unfold aX;omega
 refine enter Tryz.func168 rfl Tryz.ntmps168 rfl ?_
 refine ac<|aa<|rn 1 [0,1] rfl<|ae<|ac<|aa<|rn 2 [1,7,8] rfl<|af (aO bz cG (.ro hs) (by omega) rfl rfl rfl) rfl rfl<|af (cr (cs:= [_,_]) (SF.op (.ro hs) (by omega)) rfl rfl gK cG) rfl rfl<|ag (aZ dP rfl rfl) rfl rfl (fun g1 _=>?_)
 refine ag (aH _ fc cG rfl rfl rfl rfl rfl (by rfl) rfl (by rfl)) rfl rfl (fun _ _=>?_)
 refine ae<|ac<|ac<|aa<|rn 1 [1,5,11] rfl<|af (ai fc ar rfl rfl (by rfl)) rfl rfl ?_
 refine ae<|aL<|ac<|aa<|rn 2 [1,5,12,13] rfl<|ae<|aw rfl (fun h1=>?_) (fun h1=>?_)
 ·have e:=zt (o:=bB l pc) pc h1
  refine ac<|aa<|rn 1 [4] rfl<|ae<|au (aG (ak ?_))
  refine aA uC (aq rfl) ?_
  intro w hw
  refine⟨(none,0),trivial,by rw[e];rfl,?_⟩
  rw[e]
  exact(Cw.nilO Int hw).msub ms
 refine ac<|aa<|rn 2 [1,5,12,15] rfl<|ae<|aw rfl (fun h2=>?_) (fun h2=>?_)
 ·have e:=xr (o:=bB l pc) pc h1 h2
  refine ac<|aa<|rn 1 [17] rfl<|af (ai fc ar rfl rfl (by rfl)) rfl rfl ?_
  refine ag (bh (cs:= [_]) ah aI a7 rfl rfl rfl rfl rfl) rfl rfl (fun g2 _=>?_)
  refine rn 1 [4] rfl<|ae<|dO (fun w h=>cA (α:=Int) (m:=1) [(bB l pc).a] rfl (iH ho.2) rfl (by decide) h) ?_
  refine au (aG (ak ?_))
  refine aA uC (aq rfl) ?_
  intro w hw
  refine⟨(_,_),trivial,by rw[e];rfl,?_⟩
  rw[e]
  exact hw.msub ms
 refine ac<|aa<|rn 2 [1,5,20] rfl<|ae<|aw rfl (fun h3=>?_) (fun h3=>?_)
 ·have e:=xq (o:=bB l pc) pc h1 h2 h3
  refine ac<|aa<|rn 1 [5,22] rfl<|af (bH rfl rfl rfl (by omega)) rfl rfl<|rn 1 [23,24] rfl<|af (ai fc ar rfl rfl (by rfl)) rfl rfl ?_
  refine ag (bh (cs:= [_,_]) ah aI a7 rfl rfl rfl rfl rfl) rfl rfl (fun g3 _=>?_)
  refine rn 1 [6] rfl<|ae<|dO (fun w h=>cA (α:=Int) (m:=2) [(pc:Int)+1,(bB l pc).a] rfl (lD i1 ho.2) rfl (by decide) h) ?_
  have h2i:∀x∈[(pc:Int)+1,(bB l pc).a],aX x:=lD i1 ho.2
  refine ac<|aa<|rn 1 [6,27] rfl<|ag (bC rfl rfl rfl Tryz.call124 (fun w hw=>zS hw (by omega) h2i)) rfl rfl (fun _ _=>?_)
  refine ae<|ac<|aa<|rn 1 [29] rfl<|ag (bC rfl rfl rfl Tryz.call125 (fun w hw=>ve hw (by omega) (fun x hx=>h2i x (qj.1 hx)))) rfl rfl (fun _ _=>?_)
  refine rn 1 [4] rfl<|ae<|au (aG (ak ?_))
  refine aA uC (aq rfl) ?_
  intro w hw
  refine⟨(_,_),trivial,by rw[e],?_⟩
  rw[e]
  exact hw.msub ms
 have e:=xt (o:=bB l pc) pc h1 h2 h3
 refine ax (aK (ap ?_))
 refine ac<|aa<|rn 1 [31] rfl<|af (bH rfl rfl rfl (by omega)) rfl rfl<|ag (bh (cs:= [_]) ah aI a7 rfl rfl rfl rfl rfl) rfl rfl (fun g4 _=>?_)
 refine rn 1 [4] rfl<|ae<|dO (fun w h=>cA (α:=Int) (m:=1) [(pc:Int)+1] rfl (iH i1) rfl (by decide) h) ?_
 refine au<|aA uC (aq rfl) ?_
 intro w hw
 refine⟨(_,_),trivial,by rw[e];rfl,?_⟩
 rw[e]
 exact hw.msub ms
set_option maxRecDepth 100000 in
theorem wY (A:Option Addr) (c:Nat) (l:List cn) (pc:Nat) (to_:Int) (w:World) (hs:Sl w (.slice A l.length c) l) (hp:pc<l.length) :
  Calls Tryz.prog 146 #[.slice A l.length c,.int .i64 (pc:Int),.int .i64 to_] w fun e w'=>e= .returned (.bool (fq (bB l pc) pc to_))∧Below w.heap.size w w':=by
 have b1:=bO hs
 refine enter Tryz.func146 rfl Tryz.ntmps146 rfl ?_
 refine ac<|aa<|rn 1 [0,1,2] rfl<|ae<|ac<|ac<|aa<|rn 2 [0,1,2,7,8] rfl<|af (aO bz cG (.ro hs) (by omega) rfl rfl rfl) rfl rfl<|rn 1 [0,1,2,10] rfl<|af (a8 (SF.opc (.ro hs) (by omega)) rfl rfl ar) rfl rfl<|ae<|aL<|ac<|aa<|rn 2 [0,1,2,11,12] rfl<|ae<|aw rfl (fun h1=>?_) (fun h1=>?_)
 ·refine ac<|aa<|rn 1 [6] rfl<|ae<|au (aG (ak ?_))
  refine aA pm (aq rfl) ?_
  intro w hw
  exact⟨bt (by unfold fq;rw[if_pos h1]),hw.below⟩
 refine ac<|aa<|rn 2 [0,1,2,11,14] rfl<|ae<|aw rfl (fun h2=>?_) (fun h2=>?_)
 ·refine ac<|aa<|rn 3 [16,17,18] rfl<|af (aO bz cG (.ro hs) (by omega) rfl rfl rfl) rfl rfl<|rn 1 [16,20] rfl<|af (a8 (SF.opa (.ro hs) (by omega)) rfl rfl ar) rfl rfl<|rn 2 [6] rfl<|ae<|au (aG (ak ?_))
  refine aA pm (aq rfl) ?_
  intro w hw
  exact⟨bt (by unfold fq;rw[if_neg h1,if_pos h2]),hw.below⟩
 refine ac<|aa<|rn 2 [0,1,2,23] rfl<|ae<|aw rfl (fun h3=>?_) (fun h3=>?_)
 ·refine ac<|aa<|rn 2 [0,1,2,25,26] rfl<|af (bH rfl rfl rfl (by omega)) rfl rfl<|rn 2 [0,1,2,29] rfl<|bw (t:=29) rfl (fun h4=>?_) (fun h4=>?_)
  ·refine rn 9 [6] rfl<|ae<|au (aG (ak ?_))
   refine aA pm (aq rfl) ?_
   intro w hw
   exact⟨bt (by unfold fq;rw[if_neg h1,if_neg h2,if_pos h3,h4];rfl),hw.below⟩
  refine rn 3 [29,30,31,32] rfl<|af (aO bz cG (.ro hs) (by omega) rfl rfl rfl) rfl rfl<|rn 1 [29,30,34] rfl<|af (a8 (SF.opa (.ro hs) (by omega)) rfl rfl ar) rfl rfl<|rn 3 [6] rfl<|ae<|au (aG (ak ?_))
  refine aA pm (aq rfl) ?_
  intro w hw
  exact⟨bt (by unfold fq;rw[if_neg h1,if_neg h2,if_pos h3,h4];rfl),hw.below⟩
 refine ax (aK (ap ?_))
 refine ac<|aa<|rn 2 [38,39] rfl<|af (bH rfl rfl rfl (by omega)) rfl rfl<|rn 2 [6] rfl<|ae<|au<|aA pm (aq rfl) ?_
 intro w hw
 exact⟨bt (by unfold fq;rw[if_neg h1,if_neg h2,if_neg h3]),hw.below⟩
set_option maxRecDepth 100000 in
theorem BW (A:Option Addr) (c:Nat) (l:List cn) (pc:Nat) (w:World) (hs:Sl w (.slice A l.length c) l) (hp:pc<l.length) (h40:l.length≤40) :
  Calls Tryz.prog 109 #[.slice A l.length c,.int .i64 (pc:Int)] w fun e w'=> ∃g:Option Addr×Nat,True∧e= .returned (.slice g.1 (o7 l pc).length g.2)∧Cw w.heap.size w [aj (.slice g.1 (o7 l pc).length g.2) (o7 l pc)] w':=by
 have b1:=bO hs
 refine enter Tryz.func109 rfl Tryz.ntmps109 rfl ?_
 refine ac<|aa<|rn 1 [0,1] rfl<|ae<|ac<|aa<|rn 1 [0,1,5] rfl<|ae<|ac<|ac<|aa<|rn 1 [0,1,5,6] rfl<|ae<|dO (fun w h=>Cw.nilO Int h) ?_
 refine aL (b8 (fun g:Nat×Option Addr×Nat=>g.1≤l.length+1) (fun g=>l.length+1 - g.1) (fun g=> [(0,.slice A l.length c),(1,.int .i64 (pc:Int)),(5,.slice g.2.1 ((gF g.1).filter (fq (bB l pc) (pc:Int))).length g.2.2),(6,.int .i64 (g.1:Int))]) (fun g=> [aj (.slice g.2.1 ((gF g.1).filter (fq (bB l pc) (pc:Int))).length g.2.2) ((gF g.1).filter (fq (bB l pc) (pc:Int)))]) (0,none,0) (Nat.zero_le _) ⟨rfl,rfl,rfl,rfl,trivial⟩ me ?_)
 rintro⟨k,A1,c1⟩ hk'
 try dsimp only
 have hk:k≤l.length+1:=hk'
 have hfl:=w6 (fq (bB l pc) (pc:Int)) k
 refine ac<|ac<|aa<|rn 2 [0,1,5,6,7,8] rfl<|af (aN bz rfl rfl) rfl rfl<|rn 1 [0,1,5,6,10] rfl<|ae<|aw rfl (fun hlt=>?_) (fun hlt=>?_)
 ·refine ax (ap ?_)
  refine ac<|aL<|ac<|aa<|rn 3 [0,1,5,6,13,14,15] rfl<|ag (bK rfl rfl rfl Tryz.call146 (fun w hw=>wY A c l pc (k:Int) w (hw.ro hs) hp)) rfl rfl (fun _ _=>?_)
  refine ae<|cH rfl (fun hg=>?_) (fun hg=>?_)
  ·have hg:(fq (bB l pc) (pc:Int)) (k:Int)=true:=hg
   refine aa<|rn 2 [0,1,6,17,18] rfl<|ag (bh (cs:= [_]) ah aI a7 rfl rfl rfl rfl rfl) rfl rfl (fun g1 _=>?_)
   refine ag (dm (α:=Int) (bytes:=8) (k:Int) [] (w5 hg) ah (bM da) rfl (eA fc fc) (pe (by unfold aX;omega)) (by omega) (by omega) rfl rfl rfl) rfl rfl (fun⟨A4,c4⟩ _=>?_)
   try dsimp only
   refine rn 1 [0,1,5,6] rfl<|bE (aK (ap ?_))
   refine aa<|rn 1 [0,1,5,11] rfl<|af (bH rfl rfl rfl (by omega)) rfl rfl<|rn 1 [0,1,5,6] rfl<|br (k+1,A4,c4) (by show k+1≤_;omega) (by show _ - _<_ - _;omega) ⟨rfl,rfl,rfl,rfl,trivial⟩ me
  have hg:¬(fq (bB l pc) (pc:Int)) (k:Int)=true:=by rw[hg];decide
  refine ax (aK (ap ?_))
  refine aa<|rn 1 [0,1,5,11] rfl<|af (bH rfl rfl rfl (by omega)) rfl rfl<|rn 1 [0,1,5,6] rfl ?_
  rw[←yX hg]
  refine br (k+1,A1,c1) (by show k+1≤_;omega) (by show _ - _<_ - _;omega) ⟨rfl,rfl,rfl,rfl,trivial⟩ me
 obtain rfl:k=l.length+1:=by omega
 refine bN (aM (aM (cc (ap ?_))))
 refine ac<|aa<|rn 2 [4] rfl<|ae<|au<|aA Tryz.results109 (aq rfl) ?_
 intro w hw
 exact⟨(A1,c1),trivial,rfl,hw⟩
end
end Go.Proofs.YtpacloheigifkaaGreat
