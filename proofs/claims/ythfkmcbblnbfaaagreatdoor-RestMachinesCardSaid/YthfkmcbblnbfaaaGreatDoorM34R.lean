/- Lemmas of one proof. -/
import Derived.Test.YthfkmcbblnbfaaaGreatDoorM0R
import Derived.Test.YthfkmcbblnbfaaaGreatDoorM33R

namespace Go.Proofs.YthfkmcbblnbfaaaGreatDoor
set_option maxRecDepth 100000
set_option maxHeartbeats 16000000
open Go.RowKit
section
theorem tq {c:Int} (h8:¬c=8) (h9:¬c=9) (x:Int):kR x (dk c).1=(cn c).1/\kR x (dk c).2=(cn c).2:=by
 unfold dk cn
 by_cases h1:c=1\/c=21
 ·rw[if_pos h1,if_pos h1];exact⟨rfl,rfl⟩
 rw[if_neg h1,if_neg h1]
 by_cases h2:c=5\/c=6\/c=7
 ·rw[if_pos h2,if_pos h2];exact⟨rfl,rfl⟩
 rw[if_neg h2,if_neg h2,if_neg h8,if_neg h9]
 by_cases h3:c=11\/c=20
 ·rw[if_pos h3,if_pos h3];exact⟨rfl,rfl⟩
 rw[if_neg h3,if_neg h3]
 by_cases h4:c=14
 ·rw[if_pos h4,if_pos h4];exact⟨rfl,rfl⟩
 rw[if_neg h4,if_neg h4]
 by_cases h5:c=15
 ·rw[if_pos h5,if_pos h5];exact⟨rfl,rfl⟩
 rw[if_neg h5,if_neg h5]
 by_cases h6:c=16
 ·rw[if_pos h6,if_pos h6];exact⟨rfl,rfl⟩
 rw[if_neg h6,if_neg h6]
 by_cases h7:c=17\/c=19
 ·rw[if_pos h7,if_pos h7];exact⟨rfl,rfl⟩
 rw[if_neg h7,if_neg h7]
 by_cases h10:c=18
 ·rw[if_pos h10,if_pos h10];exact⟨rfl,rfl⟩
 rw[if_neg h10,if_neg h10]
 exact⟨rfl,rfl⟩
theorem DL (c:Int):(dk c).1.length<=3/\(dk c).2.length<=3:=by
 unfold dk
 repeat (first | split | decide)
def jd (f:au) (o:bC):Int:=if o.c=8\/o.c=9 then f.L.getD o.a.toNat 0 else 0
theorem Fv {fs:List au} {f:au} {o:bC} {s:List Int} (h2:¬o.c=2) (h3:¬o.c=3) (h4:¬o.c=4) (h12:¬o.c=12) (h13:¬o.c=13):tl fs f o s=some (kR (jd f o) (dk o.c).1,kR (jd f o) (dk o.c).2):=by
 unfold tl jd
 rw[if_neg h2,if_neg h3,if_neg h4,if_neg h12,if_neg h13]
 by_cases h8:o.c=8
 ·rw[if_pos h8,if_pos (.inl h8),h8];rfl
 rw[if_neg h8]
 by_cases h9:o.c=9
 ·rw[if_pos h9,if_pos (.inr h9),h9];rfl
 rw[if_neg h9,if_neg (by omega),(tq h8 h9 0).1,(tq h8 h9 0).2]
theorem tI {fs:List au} {f:au} {o:bC} {s:List Int} (h:tl fs f o s=none):gk fs f o s=none:=by rw[En,h]
theorem vR {fs:List au} {f:au} {o:bC} {s T V:List Int} (h:tl fs f o s=some (T,V)) (hn:¬(T.length<=s.length/\(s.take (s.length - T.length)++V).length<=8/\Le (s.drop (s.length - T.length)) T)):gk fs f o s=none:=by
 cases e:gk fs f o s with
 | none=>rfl
 | some v=>
  obtain⟨T',V',h1,h2,h3,h4,_⟩:=jm.1 e
  rw[h] at h1
  cases h1
  exact absurd ⟨h2,h3,h4⟩ hn
theorem JY (fs:List au) (f:au) (o:bC) (s:List Int) (Ap A1 A2 As:Option Addr) (cp c1 c2 cs:Nat) (w:World) (hp:Sl w (.slice Ap fs.length cp) fs) (hlo:Sl w (.slice A1 f.L.length c1) f.L) (hs:Sl w (.slice As s.length cs) s)
  (hok:GM fs f o) (hres:∀k,k<fs.length->0<=(aq fs k).result) (hrf:0<=f.result) (hl:s.length<=1000) :
  Calls Tryz.prog 195 #[.agg #[.slice Ap fs.length cp],.agg #[.int .i64 f.params,.slice A1 f.L.length c1,.int .i64 f.result,.slice A2 f.C.length c2],.agg #[.int .i64 o.c,.int .i64 o.a],.slice As s.length cs] w fun e w'=>
   ∃g:(Option Addr×Nat)×List Int,(∀v,gk fs f o s=some v->g.2=v)/\e= .returned (.tuple #[.slice g.1.1 g.2.length g.1.2,.bool (gk fs f o s).isSome])/\Cw w.heap.size w [ak (.slice g.1.1 g.2.length g.1.2) g.2] w':=by
 have hcapS:=bJ.cap hs
 refine enter Tryz.func195 rfl Tryz.ntmps195 rfl<|aj ?_
 refine fun g1 _=>aj ?_
 refine fun g2 _=>aj ?_
 intro g3 _
 refine ay ?_
 refine ay ?_
 refine bH<|cc<|bO<|ay ?_
 refine dT (kT aw rfl rfl) rfl rfl<|ay ?_
 refine bH<|cc<|bO<|ay ?_
 refine ay ?_
 refine bH<|eh (fun g:List Int×List Int×(Option Addr×Nat)×(Option Addr×Nat)=>tl fs f o s=some (g.1,g.2.1)/\(g.1.length<=1000/\g.2.1.length<=1000)) (fun g=> [(3,.slice As s.length cs),(10,.int .i64 (s.length:Int)),(11,.slice g.2.2.1.1 g.1.length g.2.2.1.2),(12,.slice g.2.2.2.1 g.2.1.length g.2.2.2.2)]) (fun g=> [uI w.heap.size w (.slice g.2.2.1.1 g.1.length g.2.2.1.2) g.1,uI w.heap.size w (.slice g.2.2.2.1 g.2.1.length g.2.2.2.2) g.2.1]) ?_ ?_
 ·have hpar:=hok.par
  refine aj ?_
  refine iQ (fun _:Unit=>True) (fun _=> [(3,.slice As s.length cs),(4,.pointer (some ⟨g1,0,none⟩)),(5,.pointer (some ⟨g2,0,none⟩)),(6,.pointer (some ⟨g3,0,none⟩)),(10,.int .i64 (s.length:Int)),(11,.slice none 0 0),(12,.slice none 0 0),(22,.int .i64 o.c),(49,.bool (decide (o.c=2\/o.c=3)))]) (fun _=> [am g1 [.slice Ap fs.length cp] 24,am g2 [.int .i64 f.params,.slice A1 f.L.length c1,.int .i64 f.result,.slice A2 f.C.length c2] 84,am g3 [.int .i64 o.c,.int .i64 o.a] 86]) ?_ ?_
  ·refine eo rfl (fun k2=>?_) (fun k2=>?_)
   ·rw[decide_eq_true (.inl k2)]
    refine cK (t:=49) (v':= .bool true) rfl (by rw[decide_eq_true k2])<|aj ?_
    refine bS () (trivial)
   rw[show decide (o.c=2\/o.c=3)=decide (o.c=3) from decide_eq_decide.2 ⟨fun h=>h.resolve_left k2,.inr⟩]
   refine aj ?_
   refine tp () (trivial)
  rintro _ _
  refine eo rfl (fun k23=>?_) (fun k23=>?_)
  ·refine av (fun hn=>?_) (fun hn=>?_)
   ·have hno:=tI (show tl fs f o s=none from by
     unfold tl
     rcases k23 with k | k
     ·rw[if_pos k,if_pos (by omega)]
     rw[if_neg (by omega),if_pos k,if_pos (by omega)])
    refine aj ?_
    intro w hw
    exact⟨((none,0),[]),fun v hv=>(by rw[hno] at hv;cases hv),by rw[hno];rfl,Cw.nilO Int (hw.msub (T:= []) ms)⟩
   have hcut:=bJ.cut hs (s.length - 1) s.length (by omega) (aK _)
   have hdl:(s.drop (s.length - 1)).length=s.length - (s.length - 1):=aL
   rw[bA (by omega),<-hdl] at hcut
   refine aj ?_
   refine bh (t:=56) (v':= .int .i64 ((s.length - 1:Nat):Int)) rfl (by congr 1;omega) ?_
   refine sE (nV (lo:=s.length - 1) (hi:=s.length) aw bj ⟨by omega,by omega⟩ rfl rfl rfl rfl) ?_
   refine ay ?_
   refine bH<|cK (t:=11) (v':= .slice (iU As (s.length - 1) cs 1) (s.drop (s.length - 1)).length (cs - (s.length - 1))) rfl (by rw[hdl])<|av (fun h3=>?_) (fun h3=>?_)
   ·have htl:tl fs f o s=some (s.drop (s.length - 1),[s.getD (s.length - 1) 0,s.getD (s.length - 1) 0]):=by unfold tl;rw[if_neg (by omega),if_pos h3,if_neg (by omega)]
    have i1:=kx hs (k:=s.length - 1) (by omega)
    have ez:((s.length:Int) - 1).toNat=s.length - 1:=by omega
    refine bz [0,3,6,9,12,15,18,21,24,27,32,34] [10,11] rfl<|aj ?_
    refine tE rfl (lO aw bj (.ro hs) (by omega) rfl rfl rfl) ?_
    refine tE rfl (bQ (SF.int (.ro hs) (by omega)) rfl rfl be)<|aj ?_
    refine tE rfl (lO aw bj (.ro hs) (by omega) rfl rfl rfl) ?_
    refine tE rfl (bQ (SF.int (.ro hs) (by omega)) rfl rfl be)<|aj ?_
    refine fun g4 _=>aj ?_
    rw[ez]
    refine bS (s.drop (s.length - 1),[s.getD (s.length - 1) 0,s.getD (s.length - 1) 0],(iU As (s.length - 1) cs 1,cs - (s.length - 1)),(some ⟨g4,0,none⟩,2)) (⟨htl,by show (s.drop (s.length - 1)).length<=1000;omega,by show 2<=1000;decide⟩) (hh:=(fun w h=>(po hcut (rq (bt (α:=Int) (m:=2) [s.getD (s.length - 1) 0,s.getD (s.length - 1) 0] rfl (io i1 i1) rfl (by decide) (h.msub (T:= [am g4 _ _]) ms)))).msub ms))
   have htl:tl fs f o s=some (s.drop (s.length - 1),[]):=by unfold tl;rw[if_pos (by omega),if_neg (by omega)]
   refine aj ?_
   refine bS (s.drop (s.length - 1),[],(iU As (s.length - 1) cs 1,cs - (s.length - 1)),(none,0)) (⟨htl,by show (s.drop (s.length - 1)).length<=1000;omega,by show 0<=1000;decide⟩) (hh:=(fun w h=>(po hcut (po (bJ.nil_ (α:=Int)) h)).msub ms))
  have n2:¬o.c=2:=fun e=>k23 (.inl e)
  have n3:¬o.c=3:=fun e=>k23 (.inr e)
  refine av (fun h4=>?_) (fun h4=>?_)
  ·refine av (fun hn=>?_) (fun hn=>?_)
   ·have hno:=tI (show tl fs f o s=none from by unfold tl;rw[if_neg n2,if_neg n3,if_pos h4,if_pos (by omega)])
    refine aj ?_
    intro w hw
    exact⟨((none,0),[]),fun v hv=>(by rw[hno] at hv;cases hv),by rw[hno];rfl,Cw.nilO Int (hw.msub (T:= []) ms)⟩
   have htl:tl fs f o s=some (s.drop (s.length - 2),[s.getD (s.length - 1) 0,s.getD (s.length - 2) 0]):=by unfold tl;rw[if_neg n2,if_neg n3,if_pos h4,if_neg (by omega)]
   have hcut:=bJ.cut hs (s.length - 2) s.length (by omega) (aK _)
   have hdl:(s.drop (s.length - 2)).length=s.length - (s.length - 2):=aL
   rw[bA (by omega),<-hdl] at hcut
   have i1:=kx hs (k:=s.length - 1) (by omega)
   have i2:=kx hs (k:=s.length - 2) (by omega)
   have ez:((s.length:Int) - 1).toNat=s.length - 1:=by omega
   have ez2:((s.length:Int) - 2).toNat=s.length - 2:=by omega
   refine aj ?_
   refine bz [0,3,6,9,12,15,18,21,24,27,30,33,36,39,45,44,48] [] rfl<|aj ?_
   refine cC (t:=78) (v':= .int .i64 ((s.length - 2:Nat):Int)) rfl (by congr 1;omega) ?_
   refine tE rfl (nV (lo:=s.length - 2) (hi:=s.length) aw bj ⟨by omega,by omega⟩ rfl rfl rfl rfl)<|aj ?_
   refine tE rfl (lO aw bj (.ro hs) (by omega) rfl rfl rfl) ?_
   refine tE rfl (bQ (SF.int (.ro hs) (by omega)) rfl rfl be)<|aj ?_
   refine tE rfl (lO aw bj (.ro hs) (by omega) rfl rfl rfl) ?_
   refine tE rfl (bQ (SF.int (.ro hs) (by omega)) rfl rfl be)<|aj ?_
   refine fun g5 _=>aj ?_
   rw[ez,ez2,<-hdl]
   refine bS (s.drop (s.length - 2),[s.getD (s.length - 1) 0,s.getD (s.length - 2) 0],(iU As (s.length - 2) cs 1,cs - (s.length - 2)),(some ⟨g5,0,none⟩,2)) (⟨htl,by show (s.drop (s.length - 2)).length<=1000;omega,by show 2<=1000;decide⟩) (hh:=(fun w h=>(po hcut (rq (bt (α:=Int) (m:=2) [s.getD (s.length - 1) 0,s.getD (s.length - 2) 0] rfl (io i1 i2) rfl (by decide) (h.msub (T:= [am g5 _ _]) ms)))).msub ms))
  refine av (fun h12=>?_) (fun h12=>?_)
  ·have ⟨ha0,hal⟩:=hok.call h12
   have hkl:o.a.toNat<fs.length:=by omega
   obtain⟨B1,d1,B2,d2,hBl,hBc,hBi,hcell⟩:=bJ.fn hp hkl
   have hpk:=hpar o.a.toNat hkl
   have hrk:=hres o.a.toNat hkl
   have htl:tl fs f o s=some (eZ (aq fs o.a.toNat),bL (aq fs o.a.toNat)):=by unfold tl;rw[if_neg n2,if_neg n3,if_neg h4,if_neg (by omega),if_neg (by omega),if_pos h12]
   have hcl:(eZ (aq fs o.a.toNat)).length=(aq fs o.a.toNat).params.toNat:=by unfold eZ;rw[aA];omega
   have hkp:(aq fs o.a.toNat).params.toNat<=(aq fs o.a.toNat).L.length:=by omega
   have hto:Sl w (.slice B1 (eZ (aq fs o.a.toNat)).length d1) (eZ (aq fs o.a.toNat)):=by
    rw[hcl]
    exact bJ.to hBl hkp
   have hBcap:=bJ.cap hBl
   refine aj ?_
   refine sF rfl ((.ro hp)) ?_
   refine iY rfl (hcell _)<|aj ?_
   refine fun g6 _=>aj ?_
   refine bh (t:=102) (v':= .int .i64 ((((aq fs o.a.toNat).params.toNat:Nat)):Int)) rfl (by congr 1;omega) ?_
   refine sE (ij (k:=(aq fs o.a.toNat).params.toNat) aw bj (eE hkp hBcap) rfl rfl rfl)<|aj ?_
   refine cK (t:=11) (v':= .slice B1 (eZ (aq fs o.a.toNat)).length d1) rfl (by rw[hcl]) ?_
   refine eo rfl (fun hr0=>?_) (fun hr0=>?_)
   ·have er:bL (aq fs o.a.toNat)= [(aq fs o.a.toNat).result]:=by unfold bL;rw[if_neg (by omega)]
    refine aj ?_
    refine fun g7 _=>aj ?_
    refine bS (eZ (aq fs o.a.toNat),[(aq fs o.a.toNat).result],(B1,d1),(some ⟨g7,0,none⟩,1)) (⟨er▸htl,by show (eZ (aq fs o.a.toNat)).length<=1000;omega,by show 1<=1000;decide⟩) (hh:=(fun w h=>(po hto (rq (bt (α:=Int) (m:=1) [(aq fs o.a.toNat).result] rfl (fT hBi.2) rfl (by decide) (h.msub (T:= [am g7 _ _]) ms)))).msub ms))
   have er:bL (aq fs o.a.toNat)= []:=by unfold bL;rw[if_pos (by omega)]
   refine aj ?_
   refine bS (eZ (aq fs o.a.toNat),[],(B1,d1),(none,0)) (⟨er▸htl,by show (eZ (aq fs o.a.toNat)).length<=1000;omega,by show 0<=1000;decide⟩) (hh:=(fun w h=>(po hto (po (bJ.nil_ (α:=Int)) h)).msub ms))
  refine av (fun h13=>?_) (fun h13=>?_)
  ·refine aj ?_
   refine iQ (fun _:Option Addr×Nat=>True) (fun g=> [(3,.slice As s.length cs),(10,.int .i64 (s.length:Int)),(11,.slice g.1 (bL f).length g.2),(12,.slice none 0 0)]) (fun g=> [uI w.heap.size w (.slice g.1 (bL f).length g.2) (bL f)]) ?_ ?_
   ·refine eo rfl (fun hr0=>?_) (fun hr0=>?_)
    ·have er:bL f= [f.result]:=by unfold bL;rw[if_neg (by omega)]
     rw[er]
     refine aj ?_
     refine fun g8 _=>aj ?_
     refine tp (some ⟨g8,0,none⟩,1) (trivial) (hh:=(fun w h=>(rq (bt (α:=Int) (m:=1) [f.result] rfl (fT hok.res) rfl (by decide) (h.msub (T:= [am g8 _ _]) ms))).msub ms))
    have er:bL f= []:=by unfold bL;rw[if_pos (by omega)]
    rw[er]
    refine aj ?_
    refine bS (none,0) (trivial) (hh:=(fun w h=>(po (bJ.nil_ (α:=Int)) h).msub ms))
   rintro⟨A4,c4⟩ _
   try dsimp only
   have hrl:(bL f).length<=1:=by unfold bL;split <;> simp
   refine cQ (fun hne=>?_) (fun hne=>?_)
   ·have hno:=tI (show tl fs f o s=none from by unfold tl;rw[if_neg n2,if_neg n3,if_neg h4,if_neg (by omega),if_neg (by omega),if_neg h12,if_pos h13,if_pos (by omega)])
    refine aj ?_
    intro w hw
    exact⟨((none,0),[]),fun v hv=>(by rw[hno] at hv;cases hv),by rw[hno];rfl,Cw.nilO Int (hw.msub (T:= []) ms)⟩
   have htl:tl fs f o s=some (bL f,[]):=by unfold tl;rw[if_neg n2,if_neg n3,if_neg h4,if_neg (by omega),if_neg (by omega),if_neg h12,if_pos h13,if_neg (by omega)]
   refine aj ?_
   refine bS (bL f,[],(A4,c4),(none,0)) (⟨htl,by show (bL f).length<=1000;omega,by show 0<=1000;decide⟩) (hh:=(fun w h=>(po (bJ.nil_ (α:=Int)) h).msub ms))
  have htl:=Fv (fs:=fs) (f:=f) (o:=o) (s:=s) n2 n3 h4 h12 h13
  have hll:=DL o.c
  have h1l:=uM (jd f o) (dk o.c).1
  have h2l:=uM (jd f o) (dk o.c).2
  have hxi:aH (jd f o):=by
   unfold jd
   split
   ·rename_i k
    have:=hok.loc k
    exact kx hlo (k:=o.a.toNat) (by omega)
   decide
  refine cc<|bO<|ay ?_
  refine bH<|eh (fun _:Unit=>True) (fun _=> [(3,.slice As s.length cs),(6,.pointer (some ⟨g3,0,none⟩)),(10,.int .i64 (s.length:Int)),(14,.int .i64 (jd f o))]) (fun _=> [am g1 [.slice Ap fs.length cp] 24,am g2 [.int .i64 f.params,.slice A1 f.L.length c1,.int .i64 f.result,.slice A2 f.C.length c2] 84,am g3 [.int .i64 o.c,.int .i64 o.a] 86]) ?_ ?_
  ·refine dG 26 (fun h8=>?_) (fun h8=>?_)
   ·have h8:o.c=8:=of_decide_eq_true h8
    have el:jd f o=f.L.getD o.a.toNat 0:=by unfold jd;rw[if_pos (.inl h8)]
    have hlk:=hok.loc (.inl h8)
    rw[el]
    refine aj ?_
    refine aU rfl<|aj ?_
    refine sF rfl ((.ro hlo)) ?_
    refine ma rfl ((.ro hlo))<|aj ?_
    refine tp () (trivial)
   have h8:¬o.c=8:=of_decide_eq_false h8
   refine av (fun h9=>?_) (fun h9=>?_)
   ·have el:jd f o=f.L.getD o.a.toNat 0:=by unfold jd;rw[if_pos (.inr h9)]
    have hlk:=hok.loc (.inr h9)
    rw[el]
    refine aj ?_
    refine sF rfl ((.ro hlo)) ?_
    refine ma rfl ((.ro hlo))<|aj ?_
    refine tp () (trivial)
   have el:jd f o=0:=by unfold jd;rw[if_neg (fun h=>h.elim h8 h9)]
   rw[el]
   refine aj ?_
   refine bS () (trivial)
  rintro _ _
  refine aj ?_
  refine bX rfl Tryz.call247 (fun w hw=>FH o.c w)<|aj ?_
  refine oE (eR rfl rfl rfl Tryz.call248 (fun w hw=>xc (dk o.c).1 (jd f o) hxi w (by omega))) (fun⟨A7,c7⟩ _=>?_)
  refine aO ?_
  refine oE (eR rfl rfl rfl Tryz.call248 (fun w hw=>xc (dk o.c).2 (jd f o) hxi w (by omega))) (fun⟨A8,c8⟩ _=>?_)
  refine aO ?_
  refine bS (kR (jd f o) (dk o.c).1,kR (jd f o) (dk o.c).2,(A7,c7),(A8,c8)) (⟨htl,by show (kR (jd f o) (dk o.c).1).length<=1000;omega,by show (kR (jd f o) (dk o.c).2).length<=1000;omega⟩) (hh:=(fun w' h=>(rq ((rq h).msub (T:= [ak (.slice A7 (kR (jd f o) (dk o.c).1).length c7) (kR (jd f o) (dk o.c).1),uI w.heap.size w (.slice A8 (kR (jd f o) (dk o.c).2).length c8) (kR (jd f o) (dk o.c).2)]) ms)).msub ms))
 rintro⟨T,V,⟨At,ct⟩,Av,cv⟩ hg
 obtain⟨htl,hT,hV⟩:tl fs f o s=some (T,V)/\(T.length<=1000/\V.length<=1000):=hg
 refine aO ?_
 refine eo rfl (fun h1=>?_) (fun h1=>?_)
 ·have hno:=vR htl (fun h=>by have:=h.1;omega)
  refine aj ?_
  intro w hw
  exact⟨((none,0),[]),fun v hv=>(by rw[hno] at hv;cases hv),by rw[hno];rfl,Cw.nilO Int (hw.msub (T:= []) ms)⟩
 have hTs:T.length<=s.length:=by omega
 refine aj ?_
 refine iQ (fun _:Unit=>Le (s.drop (s.length - T.length)) T) (fun _=> [(3,.slice As s.length cs),(10,.int .i64 (s.length:Int)),(11,.slice At T.length ct),(12,.slice Av V.length cv)]) (fun _=> [uI w.heap.size w (.slice At T.length ct) T,uI w.heap.size w (.slice Av V.length cv) V]) ?_ ?_
 ·refine dA (fun i:Nat=>i<=T.length/\∀j,j<i->bV (s.getD (s.length - T.length+j) 0) (T.getD j 0)=true) (fun i=>T.length - i) (fun i=> [(3,.slice As s.length cs),(10,.int .i64 (s.length:Int)),(11,.slice At T.length ct),(12,.slice Av V.length cv),(17,.int .i64 (i:Int))]) (fun _=> [uI w.heap.size w (.slice At T.length ct) T,uI w.heap.size w (.slice Av V.length cv) V]) 0 (⟨aX _,by omega⟩) ?_
  rintro i hi'
  obtain⟨hi,hall⟩:i<=T.length/\∀j,j<i->bV (s.getD (s.length - T.length+j) 0) (T.getD j 0)=true:=hi'
  refine av (fun hlt=>?_) (fun hlt=>?_)
  ·have hil:i<T.length:=by omega
   refine aj ?_
   refine bz [0,3,6,9,12,15,18,21,24,27,30,33,36,41,42] [] rfl<|aj ?_
   refine tE rfl (lO aw bj (.ro hs) (by omega) rfl rfl rfl) ?_
   refine tE rfl (bQ (SF.int (.ro hs) (by omega)) rfl rfl be)<|aj ?_
   refine tE rfl (bg aw bj (SF.rb rfl fc) (by omega) rfl rfl rfl) ?_
   refine tE rfl (bQ (SF.int (SF.rb rfl fc) (by omega)) rfl rfl be) ?_
   refine cC (t:=140) (v':= .int .i64 (s.getD (s.length - T.length+i) 0)) rfl (by rw[show ((s.length:Int) - (T.length:Int)+(i:Int)).toNat=s.length - T.length+i from by omega]) ?_
   refine km rfl rfl Ry (fun w hw=>qM (s.getD (s.length - T.length+i) 0) (T.getD i 0) w)<|aj ?_
   refine bT rfl (fun hb=>?_) (fun hb=>?_)
   ·have hb:bV (s.getD (s.length - T.length+i) 0) (T.getD i 0)=false:=by simpa using hb
    have hno:=vR htl (fun h=>by
     have:=h.2.2.2 i (by rw[aL];omega)
     rw[jh,hb] at this
     cases this)
    refine aj ?_
    intro w hw
    exact⟨((none,0),[]),fun v hv=>(by rw[hno] at hv;cases hv),by rw[hno];rfl,Cw.nilO Int (hw.msub (T:= []) ms)⟩
   have hb:bV (s.getD (s.length - T.length+i) 0) (T.getD i 0)=true:=by simpa using hb
   refine aj ?_
   refine cU (i+1) (⟨hil,fun j hj=>by by_cases e:j=i;(· rw[e];exact hb);(· exact hall j (by omega))⟩) (by show _ - _<_ - _;omega)
  obtain rfl:i=T.length:=by omega
  refine aj ?_
  refine bS () (⟨by rw[aL];omega,fun j hj=>by rw[aL] at hj;rw[jh];exact hall j (by omega)⟩)
 rintro _ hLe
 refine aj ?_
 refine fun g9 _=>aj ?_
 refine ee (fun w h=>bt (α:=Int) (m:=0) [] rfl (by simp) rfl (by decide) h) ?_
 refine bh (t:=152) (v':= .int .i64 ((s.length - T.length:Nat):Int)) rfl (by congr 1;omega) ?_
 refine sE (ij (k:=s.length - T.length) aw bj (by omega) rfl rfl rfl) ?_
 have hto:=bJ.to hs (k:=s.length - T.length) (by omega)
 have htl2:(s.take (s.length - T.length)).length=s.length - T.length:=by rw[aA];omega
 refine oE (di (α:=Int) (bytes:=8) (xs:= []) (ys:=s.take (s.length - T.length)) rfl aw (aV cO) rfl fc (.ro hto) (by simp only[aD];omega) (by simp only[aD];omega) rfl rfl rfl) (fun⟨A5,c5⟩ _=>?_)
 refine aO ?_
 rw[bU]
 refine oE (di (α:=Int) (bytes:=8) (xs:=s.take (s.length - T.length)) (ys:=V) rfl aw (aV cO) rfl fc (SF.rb rfl fc) (by omega) (by omega) rfl rfl rfl) (fun⟨A6,c6⟩ _=>?_)
 refine aO ?_
 intro w hw
 by_cases h8:(s.take (s.length - T.length)++V).length<=8
 ·have hso:gk fs f o s=some (s.take (s.length - T.length)++V):=jm.2 ⟨T,V,htl,hTs,h8,hLe,rfl⟩
  refine⟨((A6,c6),s.take (s.length - T.length)++V),fun v hv=>by rw[hso] at hv;exact eq hv,?_,hw.msub ms⟩
  rw[hso,decide_eq_true (by omega)]
  rfl
 have hno:=vR htl (fun h=>h8 h.2.1)
 refine⟨((A6,c6),s.take (s.length - T.length)++V),fun v hv=>(by rw[hno] at hv;cases hv),?_,hw.msub ms⟩
 rw[hno,decide_eq_false (by omega)]
 rfl
end
section
theorem Eb {l:List bC} {pc:Nat} (hb:∀q∈dy (bx l pc) pc,0<=q/\q<=l.length):dy (bx l pc) pc=uS l pc:=by
 refine qC (uA _ _) ((Dz _).filter _) fun a=>?_
 unfold uS
 rw[qK,List.mem_filter,JG]
 constructor
 ·intro hg
  have:=hb a ((qK _ _ _).2 hg)
  exact⟨by omega,hg⟩
 exact fun hg=>hg.2
theorem tY (A:Option Addr) (c:Nat) (fs:List au) (k:Nat) (w:World) (hs:Sl w (.slice A fs.length c) fs) (hk:k<fs.length) (hok:mm fs (aq fs k)) (hty:qr fs (aq fs k)) (hn0:0<(aq fs k).C.length) :
  Calls Tryz.prog 139 #[.agg #[.slice A fs.length c],.int .i64 (k:Int)] w fun e w'=> ∃g:(Option Addr×Nat)×List fJ×List (Value×List Int),jW g.2.1 g.2.2 (bZ fs (aq fs k)).1/\e= .returned (.tuple #[.slice g.1.1 g.2.1.length g.1.2,.bool (bZ fs (aq fs k)).2])/\
   Cw w.heap.size w [ak (.slice g.1.1 g.2.1.length g.1.2) g.2.1,fa g.2.2] w':=by
 obtain⟨A1,c1,A2,c2,hl,hc,hi,hcell⟩:=hs.fn hk
 have hrf:=(hty.res k hk).1
 have hres:∀j,j<fs.length->0<=(aq fs j).result:=fun j hj=>(hty.res j hj).1
 generalize aq fs k=f at hl hc hi hcell hok hty hn0 hrf⊢
 have hn40:=hok.n40
 have h0:=Oe (fs:=fs) hn0
 have hR0:iZ f.C.length (List.replicate f.C.length ku) [] (vu f.C.length).at_:=⟨by simp,by simp[vu],fun i _=>by
  show iH [] ((List.replicate f.C.length ku).getD i ku).v ((List.replicate f.C.length ([]:List Int)).getD i [])
  rw[kE,kE]
  exact .nil_⟩
 refine enter Tryz.func139 rfl Tryz.ntmps139 rfl<|aj ?_
 refine fun g1 _=>aj ?_
 refine cS (k) rfl ((.ro hs))<|aj ?_
 refine eH rfl (fun w hw=>hcell _ w hw 3 _ rfl)<|aj ?_
 refine oE (mU (α:=gO) ku dX oF rfl (fun w=>⟨⟨rfl,rfl⟩,fun _ h=>h⟩) rfl (by omega) rfl rfl rfl) (fun ga _=>aj ?_)
 refine oE (mU (α:=Bool) false nj wK rfl (fun w=>⟨rfl,fun _ h=>h⟩) rfl (by omega) rfl rfl rfl) (fun gm _=>aj ?_)
 refine sE (jy (k:=0) nj rO rfl hn0 rfl rfl rfl) ?_
 refine oE (fS (α:=Bool) true false rfl fc hn0 trivial rO rfl rfl rfl rfl rfl rfl rfl rfl) (fun _ _=>aj ?_)
 refine dK (fun w h=>kH h) ?_
 refine iQ (fun g:dV×List gO×List (Value×List Int)=>(bZ fs f=(lj g.1 f.C.length,true)/\fF f.C.length g.1)/\iZ f.C.length g.2.1 g.2.2 g.1.at_) (fun g=> [(6,.slice A2 f.C.length c2),(7,.slice (some ⟨ga,0,none⟩) f.C.length f.C.length),(8,.slice (some ⟨gm,0,none⟩) f.C.length f.C.length)]) (fun g=> [am g1 [.slice A fs.length c] 24,ak (.slice (some ⟨ga,0,none⟩) f.C.length f.C.length) g.2.1,ak (.slice (some ⟨gm,0,none⟩) f.C.length f.C.length) g.1.met,fa g.2.2]) ?_ ?_
 ·refine dA (fun g:Bool×dV×List gO×List (Value×List Int)=>((fF f.C.length g.2.1/\nH fs f g.2.1)/\g.2.1.todo= []/\(g.1=false->∀i:Nat,g.2.1.met.getD i false=true->Dn fs f g.2.1 i))/\iZ f.C.length g.2.2.1 g.2.2.2 g.2.1.at_) (fun g=>2*ru f.C.length g.2.1+g.1.toNat) (fun g=> [(1,.int .i64 (k:Int)),(2,.pointer (some ⟨g1,0,none⟩)),(6,.slice A2 f.C.length c2),(7,.slice (some ⟨ga,0,none⟩) f.C.length f.C.length),(8,.slice (some ⟨gm,0,none⟩) f.C.length f.C.length),(9,.bool g.1)]) (fun g=> [am g1 [.slice A fs.length c] 24,ak (.slice (some ⟨ga,0,none⟩) f.C.length f.C.length) g.2.2.1,ak (.slice (some ⟨gm,0,none⟩) f.C.length f.C.length) g.2.1.met,fa g.2.2.2]) (true,vu f.C.length,List.replicate f.C.length ku,[]) (⟨⟨h0,rfl,fun h=>(by cases h)⟩,hR0⟩) ?_ (hh:=(fun _ h=>h.msub ms))
  rintro⟨more,s0,hd,L⟩ hj
  try dsimp only
  obtain⟨⟨⟨hF0,hI0⟩,hT0,hD0⟩,hR⟩:((fF f.C.length s0/\nH fs f s0)/\s0.todo= []/\(more=false->∀i:Nat,s0.met.getD i false=true->Dn fs f s0 i))/\iZ f.C.length hd L s0.at_:=hj
  refine aj ?_
  refine bT rfl (fun hmore=>?_) (fun hmore=>?_)
  ·have hmore:more=true:=hmore
   subst hmore
   refine aj ?_
   refine dA (fun g:Nat×Bool×dV×List gO×List (Value×List Int)=>((g.1<=f.C.length/\g.2.1=decide (0<g.2.2.1.todo.length))/\Sw fs f s0 g.1 g.2.2.1)/\iZ f.C.length g.2.2.2.1 g.2.2.2.2 g.2.2.1.at_) (fun g=>f.C.length - g.1) (fun g=> [(1,.int .i64 (k:Int)),(2,.pointer (some ⟨g1,0,none⟩)),(6,.slice A2 f.C.length c2),(7,.slice (some ⟨ga,0,none⟩) f.C.length f.C.length),(8,.slice (some ⟨gm,0,none⟩) f.C.length f.C.length),(9,.bool g.2.1),(10,.int .i64 (g.1:Int))]) (fun g=> [am g1 [.slice A fs.length c] 24,ak (.slice (some ⟨ga,0,none⟩) f.C.length f.C.length) g.2.2.2.1,ak (.slice (some ⟨gm,0,none⟩) f.C.length f.C.length) g.2.2.1.met,fa g.2.2.2.2]) (0,false,s0,hd,L) (⟨⟨⟨aX _,by rw[hT0];rfl⟩,.start hF0 hI0⟩,hR⟩) ?_ (hh:=(fun _ h=>h.msub ms))
   rintro⟨i,b,s,hd,L⟩ hj
   try dsimp only
   obtain⟨⟨⟨hi0,hb⟩,hS⟩,hR2⟩:((i<=f.C.length/\b=decide (0<s.todo.length))/\Sw fs f s0 i s)/\iZ f.C.length hd L s.at_:=hj
   have hF:=hS.ok
   have hT36:=hS.todo hF0 hT0 hn40
   refine av (fun hlt=>?_) (fun hlt=>?_)
   ·have hil:i<f.C.length:=by omega
    refine aj ?_
    refine cS (_) rfl ((SF.own hF.ml fc)) ?_
    refine eH rfl (SF.bool (SF.own hF.ml fc) (by omega))<|aj ?_
    refine bT rfl (fun hm=>?_) (fun hm=>?_)
    ·have hm:¬s.met.getD i false=true:=by simpa using hm
     refine aj ?_
     refine cU (i+1,b,s,hd,L) (⟨⟨⟨hil,hb⟩,hS.skip hm⟩,hR2⟩) (by show _ - _<_ - _;omega) (hh:=(fun _ h=>h.msub ms))
    have hm:s.met.getD i false=true:=by simpa using hm
    have hin:=hR2.el i hil
    refine dY (fun w h=>hin.form h fc) ?_
    rintro⟨A3,c3,hv⟩
    rw[hv] at hin
    have h8:=hF.st i
    refine aj ?_
    refine bz [0,3,6,9,12,15,18,21,24,27,30,33,36,39,44,45,48,51,54,57] [] rfl<|aj ?_
    refine tE rfl (bg (k:=k) eC eK (.ro hs) (by omega) rfl rfl rfl) ?_
    refine tE rfl (eF (hcell _) rfl rfl wN eK)<|aj ?_
    refine tE rfl (bg dW fM (.ro hc) (by omega) rfl rfl rfl) ?_
    refine tE rfl (eF (cs:= [_,_]) (SF.op (.ro hc) (by omega)) rfl rfl wM fM)<|aj ?_
    refine tE rfl (bg dX iJ (SF.own hR2.hl fc) (by omega) rfl rfl rfl) ?_
    refine tE rfl (bQ (v:= .slice A3 (s.at_.getD i []).length c3) (by rw[<-hv];exact SF.hdr (SF.own hR2.hl fc) hil) rfl rfl gv) ?_
    refine ia rfl rfl Tryz.call195 (fun w hw=>JY fs f (bx f.C i) (s.at_.getD i []) A A1 A2 A3 c c1 c2 c3 w (hw.ro hs) (hw.ro hl) (hin.sl hw fc) (hok.op i hil) hres hrf (by omega)) (fun⟨⟨A4,c4⟩,T⟩ hT=>?_)
    refine aO ?_
    refine bT rfl (fun hok1=>?_) (fun hok1=>?_)
    ·have hv0:gk fs f (bx f.C i) (s.at_.getD i [])=none:=by
      cases e:gk fs f (bx f.C i) (s.at_.getD i []) with
      | none=>rfl
      | some v=>rw[e] at hok1;cases hok1
     rw[Az hok hty hn0 (hS.bad hm hv0)]
     refine aj ?_
     intro w hw
     exact⟨((none,0),[],[]),.nil_,rfl,Cw.nilO fJ (kH (hw.msub (T:= []) ms))⟩
    obtain⟨v,hv0⟩:∃v,gk fs f (bx f.C i) (s.at_.getD i [])=some v:=by
     cases e:gk fs f (bx f.C i) (s.at_.getD i []) with
     | none=>rw[e] at hok1;cases hok1
     | some v=>exact⟨v,rfl⟩
    have hTv:T=v:=hT v hv0
    subst hTv
    have hT8:=nQ hv0
    have hTty:=yF hty (hok.op i hil) (hS.inv.ty i hm) hv0
    refine dK (fun w h=>sn (h.msub (T:=ak (.slice A4 T.length c4) T::fa L:: [am g1 [.slice A fs.length c] 24,ak (.slice (some ⟨ga,0,none⟩) f.C.length f.C.length) hd,ak (.slice (some ⟨gm,0,none⟩) f.C.length f.C.length) s.met]) ms)) ?_
    have hinT:iH ((.slice A4 T.length c4,T)::L) (.slice A4 T.length c4) T:= .new
    have hR3:=hR2.cons (.slice A4 T.length c4,T)
    generalize (.slice A4 T.length c4,T)::L=L3 at hinT hR3⊢
    obtain⟨LL,hLL⟩:∃LL,dy (bx f.C i) i=LL:=⟨_,rfl⟩
    have hto:=hok.to_ i hil
    have hl2:=nG (bx f.C i) i
    have hcs:=fun(K:List Int) (h1:∀q∈K,q∈dy (bx f.C i) i) (h2:K.length<=4)=>hS.comes hok hty hF0 hT0 hil hm hv0 (L:=K) h1 h2
    have hnx:=Eb (l:=f.C) (pc:=i) (fun q hq=>hto q hq)
    have hstp:=fun s'=>hS.step (s':=s') hok hty hF0 hT0 hil hm hv0
    rw[hLL] at hto hl2 hcs hnx hstp
    have hnext:∀w1,Sl w1 (.slice A2 f.C.length c2) f.C->Calls Tryz.prog 196 #[.slice A2 f.C.length c2,.int .i64 (i:Int)] w1 fun e w'=> ∃g:Option Addr×Nat,True/\e= .returned (.slice g.1 LL.length g.2)/\Cw w1.heap.size w1 [ak (.slice g.1 LL.length g.2) LL] w':=fun w1 h=>by
     rw[hnx]
     exact Mm A2 c2 f.C i w1 h hil hn40
    refine aj ?_
    refine eb rfl Tryz.call196 (fun w hw=>hnext w (hw.ro hc)) (fun⟨A7,c7⟩ _=>?_)
    refine aO ?_
    refine dA (fun g:Nat×Bool×dV×List gO×List (Value×List Int)=>(((g.1<=LL.length/\g.2.1=decide (0<g.2.2.1.todo.length))/\fF f.C.length g.2.2.1/\g.2.2.1.todo.length<=s.todo.length+g.1)/\dB f.C.length s (LL.take g.1) T=some g.2.2.1/\iH g.2.2.2.2 (.slice A4 T.length c4) T)/\iZ f.C.length g.2.2.2.1 g.2.2.2.2 g.2.2.1.at_) (fun g=>LL.length - g.1) (fun g=> [(1,.int .i64 (k:Int)),(2,.pointer (some ⟨g1,0,none⟩)),(6,.slice A2 f.C.length c2),(7,.slice (some ⟨ga,0,none⟩) f.C.length f.C.length),(8,.slice (some ⟨gm,0,none⟩) f.C.length f.C.length),(9,.bool g.2.1),(10,.int .i64 (i:Int)),(11,.slice A4 T.length c4),(13,.slice A7 LL.length c7),(14,.int .i64 (g.1:Int))]) (fun g=> [am g1 [.slice A fs.length c] 24,ak (.slice (some ⟨ga,0,none⟩) f.C.length f.C.length) g.2.2.2.1,ak (.slice (some ⟨gm,0,none⟩) f.C.length f.C.length) g.2.2.1.met,fa g.2.2.2.2,ak (.slice A7 LL.length c7) LL]) (0,b,s,hd,L3) (⟨⟨⟨⟨aX _,hb⟩,hF,aK _⟩,rfl,hinT⟩,hR3⟩) ?_ (hh:=(fun _ h=>h.msub ms))
    rintro⟨j,b,s',hd,L⟩ hj
    try dsimp only
    obtain⟨⟨⟨⟨hj0,hb2⟩,hF2,htd2⟩,hco,hinT2⟩,hR4⟩:(((j<=LL.length/\b=decide (0<s'.todo.length))/\fF f.C.length s'/\s'.todo.length<=s.todo.length+j)/\dB f.C.length s (LL.take j) T=some s'/\iH L (.slice A4 T.length c4) T)/\iZ f.C.length hd L s'.at_:=hj
    refine av (fun hjl=>?_) (fun hjl=>?_)
    ·have hjl:j<LL.length:=by omega
     have hmem:LL.getD j 0∈LL:=by rw[an,ap hjl];exact da _
     obtain⟨q,hq⟩:∃q:Nat,LL.getD j 0=(q:Int):=⟨(LL.getD j 0).toNat,by have:=hto _ hmem;omega⟩
     have hqn:q<=f.C.length:=by have:=hto _ hmem;omega
     have hsn:=qR hjl hco
     rw[hq,bw] at hsn
     have hco2:=mP hF2 hqn hT8 (by omega)
     refine aj ?_
     refine cS (_) rfl ((SF.own rfl fc)) ?_
     refine ma rfl ((SF.own rfl fc))<|aj ?_
     refine cK (t:=15) (v':= .int .i64 (q:Int)) rfl (by rw[hq]) ?_
     have hfail:(dp f.C.length s' q T).1=false->bZ fs f=([],false):=fun h=>Az hok hty hn0 ((hcs LL (fun q h=>h) (by omega)).2 (qS (k:=j+1) (by rw[hsn,h];rfl)))
     refine eo rfl (fun hqe=>?_) (fun hqe=>?_)
     ·rw[hfail (by unfold dp;rw[if_pos (by omega)])]
      refine aj ?_
      intro w hw
      exact⟨((none,0),[],[]),.nil_,rfl,Cw.nilO fJ (kH (hw.msub (T:= []) ms))⟩
     have hql:q<f.C.length:=by omega
     refine aj ?_
     refine cS (_) rfl ((SF.own hF2.ml fc)) ?_
     refine eH rfl (SF.bool (SF.own hF2.ml fc) (by omega))<|aj ?_
     refine bT rfl (fun hmq=>?_) (fun hmq=>?_)
     ·have hmq:¬s'.met.getD q false=true:=by simpa using hmq
      have hc1:dp f.C.length s' q T=(true,⟨s'.at_.set q T,s'.met.set q true,s'.todo++ [(q:Int)]⟩):=by unfold dp;rw[if_neg (by omega),if_neg hmq]
      rw[hc1] at hco2 hsn
      refine aj ?_
      refine sE (jy dX iJ rfl hql rfl rfl rfl) ?_
      refine oE (fS (α:=gO) ⟨.slice A4 T.length c4⟩ ku rfl fc hql rfl iJ rfl rfl rfl rfl rfl rfl rfl rfl) (fun _ _=>?_)
      refine sE (jy nj rO rfl hql rfl rfl rfl) ?_
      refine oE (fS (α:=Bool) true false rfl fc hql trivial rO rfl rfl rfl rfl rfl rfl rfl rfl) (fun _ _=>aj ?_)
      refine cU (j+1,true,⟨s'.at_.set q T,s'.met.set q true,s'.todo++ [(q:Int)]⟩,hd.set q ⟨.slice A4 T.length c4⟩,L) (⟨⟨⟨⟨hjl,by simp⟩,hco2.1,by show (s'.todo++ [(q:Int)]).length<=s.todo.length+(j+1);rw[ar,aP];omega⟩,hsn,hinT2⟩,hR4.set hql hinT2⟩) (by show _ - _<_ - _;omega) (hh:=(fun _ h=>h.msub ms))
     have hmq:s'.met.getD q false=true:=by simpa using hmq
     have hI2:=((hcs (LL.take j) (fun q h=>iV h) (by rw[aA];omega)).1 s' hco).1
     have hin5:=hR4.el q hql
     have h85:=hF2.st q
     refine dY (fun w h=>hin5.form h fc) ?_
     rintro⟨A5,c5,hv5⟩
     rw[hv5] at hin5
     refine aj ?_
     refine cS (_) rfl ((SF.own hR4.hl fc)) ?_
     refine sE (bQ (v:= .slice A5 (s'.at_.getD q []).length c5) (by rw[<-hv5];exact SF.hdr (SF.own hR4.hl fc) hql) rfl rfl gv)<|aj ?_
     refine oE (eR rfl rfl rfl Tryz.call197 (fun w hw=>DC A5 A4 c5 c4 (s'.at_.getD q []) T w (hin5.sl hw fc) (hinT2.sl hw fc) (hI2.ty q hmq) hTty (by omega))) (fun⟨A6,c6⟩ _=>?_)
     refine aO ?_
     refine bT rfl (fun hjo=>?_) (fun hjo=>?_)
     ·have hjn:bK (s'.at_.getD q []) T=none:=by
       cases e:bK (s'.at_.getD q []) T with
       | none=>rfl
       | some v=>rw[e] at hjo;cases hjo
      rw[hfail (by unfold dp;rw[if_neg (by omega),if_pos hmq,hjn])]
      refine aj ?_
      intro w hw
      exact⟨((none,0),[],[]),.nil_,rfl,Cw.nilO fJ (kH (hw.msub (T:= []) ms))⟩
     obtain⟨jn,hjn⟩:∃v,bK (s'.at_.getD q []) T=some v:=by
      cases e:bK (s'.at_.getD q []) T with
      | none=>rw[e] at hjo;cases hjo
      | some v=>exact⟨v,rfl⟩
     rw[hjn,qv]
     refine aj ?_
     refine cS (_) rfl ((SF.own hR4.hl fc)) ?_
     refine sE (bQ (v:= .slice A5 (s'.at_.getD q []).length c5) (by rw[<-hv5];exact SF.hdr (SF.own hR4.hl fc) hql) rfl rfl gv) ?_
     refine bX rfl nJ (fun w hw=>is A6 A5 c6 c5 jn (s'.at_.getD q []) w (SF.at_ (SF.own rfl fc) hw) (hin5.sl hw fc))<|aj ?_
     refine bT rfl (fun he=>?_) (fun he=>?_)
     ·have he:¬jn=s'.at_.getD q []:=by simpa using he
      have hset:s'.met.set q true=s'.met:=by
       refine List.ext_getElem (by simp) fun n h1 h2=>?_
       rw[List.getElem_set]
       split
       ·rename_i e
        subst e
        rw[an,ap h2] at hmq
        exact hmq.symm
       rfl
      have hc1:dp f.C.length s' q T=(true,⟨s'.at_.set q jn,s'.met,s'.todo++ [(q:Int)]⟩):=by
       unfold dp
       rw[if_neg (by omega),if_pos hmq,hjn]
       simp only[]
       rw[if_neg he,hset]
      rw[hc1] at hco2 hsn
      refine dK (fun w h=>sn (h.msub (T:=ak (.slice A6 jn.length c6) jn::fa L:: [am g1 [.slice A fs.length c] 24,ak (.slice (some ⟨ga,0,none⟩) f.C.length f.C.length) hd,ak (.slice (some ⟨gm,0,none⟩) f.C.length f.C.length) s'.met,ak (.slice A7 LL.length c7) LL]) ms))<|aj ?_
      refine sE (jy dX iJ rfl hql rfl rfl rfl) ?_
      refine oE (fS (α:=gO) ⟨.slice A6 jn.length c6⟩ ku rfl fc hql rfl iJ rfl rfl rfl rfl rfl rfl rfl rfl) (fun _ _=>aj ?_)
      refine cU (j+1,true,⟨s'.at_.set q jn,s'.met,s'.todo++ [(q:Int)]⟩,hd.set q ⟨.slice A6 jn.length c6⟩,(.slice A6 jn.length c6,jn)::L) (⟨⟨⟨⟨hjl,by simp⟩,hco2.1,by show (s'.todo++ [(q:Int)]).length<=s.todo.length+(j+1);rw[ar,aP];omega⟩,hsn,hinT2.cons⟩,(hR4.cons _).set hql .new⟩) (by show _ - _<_ - _;omega) (hh:=(fun _ h=>h.msub ms))
     have he:jn=s'.at_.getD q []:=by simpa using he
     have hc1:dp f.C.length s' q T=(true,s'):=by
      unfold dp
      rw[if_neg (by omega),if_pos hmq,hjn]
      simp only[]
      rw[if_pos he]
     rw[hc1] at hco2 hsn
     refine aj ?_
     refine cU (j+1,b,s',hd,L) (⟨⟨⟨⟨hjl,hb2⟩,hF2,by show s'.todo.length<=s.todo.length+(j+1);omega⟩,hsn,hinT2⟩,hR4⟩) (by show _ - _<_ - _;omega) (hh:=(fun _ h=>h.msub ms))
    obtain rfl:j=LL.length:=by omega
    rw[aT] at hco
    have hS2:=hstp s' hco
    refine aj ?_
    refine cU (i+1,b,s',hd,L) (⟨⟨⟨hil,hb2⟩,hS2⟩,hR4⟩) (by show _ - _<_ - _;omega) (hh:=(fun _ h=>h.msub ms))
   obtain rfl:i=f.C.length:=by omega
   refine aj ?_
   by_cases hne:s.todo= []
   ·obtain⟨rfl,hdn⟩:=hS.dn hne
    refine Lt (b,s,hd,L) (⟨⟨⟨hF,hS.inv⟩,hne,fun _ j hj=>hdn j (xE hF hj) hj⟩,hR2⟩) ((by rw[hb,hne];exact Nat.lt_succ_self _)) (hh:=(fun _ h=>h.msub ms))
   obtain⟨a1,a2,a3⟩:=hS.again hT0 hne
   refine Lt (b,⟨s.at_,s.met,[]⟩,hd,L) (⟨⟨⟨a1,a2⟩,rfl,fun h=>absurd (List.length_pos_iff.2 hne) (by rw[hb] at h;simpa using h)⟩,hR2⟩) ((by cases b;(· show 2*ru f.C.length ⟨s.at_,s.met,[]⟩+0<2*ru f.C.length s0+1;omega);(· show 2*ru f.C.length ⟨s.at_,s.met,[]⟩+1<2*ru f.C.length s0+1;omega))) (hh:=(fun _ h=>h.msub ms))
  have hmore:more=false:=by simpa using hmore
  have hd0:=IG hok hty hn0 hF0 hI0 (hD0 hmore)
  refine aj ?_
  refine bS (s0,hd,L) (⟨⟨hd0,hF0⟩,hR⟩) (hh:=(fun _ h=>h.msub ms))
 rintro⟨s,hd,L⟩ hj
 obtain⟨⟨hent,hF⟩,hR⟩:(bZ fs f=(lj s f.C.length,true)/\fF f.C.length s)/\iZ f.C.length hd L s.at_:=hj
 rw[hent]
 try dsimp only
 refine dK (fun w h=>Cw.nilO fJ h)<|aj ?_
 refine dA (fun g:Nat×List fJ×Option Addr×Nat=>g.1<=f.C.length/\jW g.2.1 L (lj s g.1)) (fun g=>f.C.length - g.1) (fun g=> [(6,.slice A2 f.C.length c2),(7,.slice (some ⟨ga,0,none⟩) f.C.length f.C.length),(8,.slice (some ⟨gm,0,none⟩) f.C.length f.C.length),(18,.slice g.2.2.1 g.2.1.length g.2.2.2),(19,.int .i64 (g.1:Int))]) (fun g=> [ak (.slice g.2.2.1 g.2.1.length g.2.2.2) g.2.1,ak (.slice (some ⟨ga,0,none⟩) f.C.length f.C.length) hd,ak (.slice (some ⟨gm,0,none⟩) f.C.length f.C.length) s.met,fa L]) (0,[],none,0) (⟨aX _,.nil_⟩) ?_
 rintro⟨i,es,Ae,ce⟩ hi'
 try dsimp only
 obtain⟨hi1,hre⟩:i<=f.C.length/\jW es L (lj s i):=hi'
 have hel:=hre.len
 have hul:=CM s i
 refine av (fun hlt=>?_) (fun hlt=>?_)
 ·have hil:i<f.C.length:=by omega
  have hsu:=um s i
  refine aj ?_
  refine cS (_) rfl ((SF.own hF.ml fc)) ?_
  refine eH rfl (SF.bool (SF.own hF.ml fc) (by omega))<|aj ?_
  refine bT rfl (fun hm=>?_) (fun hm=>?_)
  ·rw[if_pos hm] at hsu
   have hin:=hR.el i hil
   refine aj ?_
   refine cS (_) rfl ((SF.own hR.hl fc)) ?_
   refine nT (fun w h=>hin.form h fc) ?_
   rintro⟨A3,c3,hv⟩
   rw[hv] at hin
   refine sE (bQ (v:= .slice A3 (s.at_.getD i []).length c3) (by rw[<-hv];exact SF.hdr (SF.own hR.hl fc) hil) rfl rfl gv)<|aj ?_
   intro g2 _
   refine oE (cH (α:=fJ) (bytes:=32) ⟨i,.slice A3 (s.at_.getD i []).length c3⟩ [] rfl LK (aV yv) rfl (eD fc fc) (dm ⟨⟨by show (-9223372036854775808:Int)<=(i:Int);omega,by show (i:Int)<=9223372036854775807;omega⟩,rfl⟩) (by omega) (by omega) rfl rfl rfl) (fun⟨A5,c5⟩ _=>?_)
   refine aO ?_
   refine cU (i+1,es++ [⟨i,.slice A3 (s.at_.getD i []).length c3⟩],A5,c5) (⟨hil,by rw[hsu];exact hre.snoc rfl hin⟩) (by show _ - _<_ - _;omega)
  rw[if_neg (by rw[hm];decide)] at hsu
  refine aj ?_
  refine cU (i+1,es,Ae,ce) (⟨hil,by rw[hsu];exact hre⟩) (by show _ - _<_ - _;omega)
 obtain rfl:i=f.C.length:=by omega
 refine aj ?_
 intro w hw
 exact⟨((Ae,ce),es,L),hre,rfl,hw.msub ms⟩
end
section
def nD (fs:List au) (i:Nat):Int:=if cW fs≠0 then cW fs else if (fs.take i).all (fun f=>(bZ fs f).2)=true then 0 else 4
theorem KU {fs:List au} {i:Nat} (h:nD fs i≠0):nD fs i=fl fs:=by
 unfold nD at h⊢
 unfold fl
 by_cases h0:cW fs≠0
 ·rw[if_pos h0,if_pos h0]
 rw[if_neg h0] at h⊢
 rw[if_neg h0]
 by_cases h1:(fs.take i).all (fun f=>(bZ fs f).2)=true
 ·rw[if_pos h1] at h;exact absurd rfl h
 rw[if_neg h1,if_neg]
 intro h2
 apply h1
 rw[qw] at h2⊢
 exact fun x hx=>h2 x (iV hx)
theorem KS {fs:List au} :nD fs fs.length=fl fs:=by unfold nD fl;rw[aT]
theorem IA {fs:List au} {i:Nat} (h:nD fs i=0):cW fs=0/\(fs.take i).all (fun f=>(bZ fs f).2)=true:=by
 unfold nD at h
 by_cases h0:cW fs≠0
 ·rw[if_pos h0] at h;exact absurd h h0
 rw[if_neg h0] at h
 refine⟨by simpa using h0,?_⟩
 split at h
 ·assumption
 cases h
theorem yP (A:Option Addr) (c:Nat) (fs:List au) (w:World) (hs:Sl w (.slice A fs.length c) fs) :
  Calls Tryz.prog 78 #[.agg #[.slice A fs.length c]] w fun e w'=>e= .returned (.int .i64 (fl fs))/\Below w.heap.size w w':=by
 have b1:=bE hs
 refine enter Tryz.func78 rfl Tryz.ntmps78 rfl<|aj ?_
 refine fun g1 _=>aj ?_
 refine bX rfl Tryz.call138 (fun w hw=>DG A c fs w (hw.ro hs))<|aj ?_
 refine iQ (fun e:Int=>e=fl fs) (fun e=> [(3,.int .i64 e)]) (fun _=> []) ?_ ?_
 ·refine dA (fun g:Nat×Int=>g.1<=fs.length/\g.2=nD fs g.1) (fun g=>fs.length - g.1) (fun g=> [(1,.pointer (some ⟨g1,0,none⟩)),(3,.int .i64 g.2),(4,.int .i64 (g.1:Int))]) (fun _=> [am g1 [.slice A fs.length c] 24]) (0,cW fs) (⟨aX _,by show cW fs=nD fs 0;unfold nD;rw[List.take_zero];by_cases h:cW fs≠0;(· rw[if_pos h]);(· rw[if_neg h,List.all_nil,if_pos rfl];simpa using h)⟩) ?_
  rintro⟨i,e⟩ hj
  try dsimp only
  obtain⟨hi,he⟩:i<=fs.length/\e=nD fs i:=hj
  refine dG 14 (fun h1=>?_) (fun h1=>?_)
  ·have h1:=of_decide_eq_true h1
   have hil:i<fs.length:=by omega
   refine av (fun h2=>?_) (fun h2=>?_)
   ·have hz:nD fs i=0:=by omega
    obtain⟨hc0,hall⟩:=IA hz
    obtain⟨hok,hn0⟩:=jM hc0 hil
    have hty:=Gg hc0 hil
    have hsn:=tw (p:=fun f=>(bZ fs f).2) (default:au) hil
    have hnx:nD fs (i+1)=if (bZ fs (aq fs i)).2=true then 0 else 4:=by
     unfold nD
     rw[if_neg (by simpa using hc0),hsn,hall]
     rfl
    refine aj ?_
    refine eb rfl Tryz.call139 (fun w hw=>tY A c fs i w (hw.ro hs) hil hok hty hn0) (fun⟨⟨A1,c1⟩,es,L⟩ _=>?_)
    refine aO ?_
    refine bT rfl (fun h3=>?_) (fun h3=>?_)
    ·have h3:(bZ fs (aq fs i)).2=false:=by simpa using h3
     refine aj ?_
     refine cU (i+1,4) (⟨hil,by rw[hnx,h3];rfl⟩) (by show _ - _<_ - _;omega)
    have h3:(bZ fs (aq fs i)).2=true:=by simpa using h3
    refine aj ?_
    refine cU (i+1,e) (⟨hil,by rw[hnx,h3];show e=0;exact h2⟩) (by show _ - _<_ - _;omega)
   refine aj ?_
   refine bS e (by rw[he];exact KU (by rw[<-he];exact h2))
  have h1:=of_decide_eq_false h1
  obtain rfl:i=fs.length:=by omega
  refine aj ?_
  refine cu rfl<|aj ?_
  refine bS e (he.trans KS)
 rintro e rfl
 refine aj ?_
 intro w hw
 exact⟨rfl,hw.below⟩
end
