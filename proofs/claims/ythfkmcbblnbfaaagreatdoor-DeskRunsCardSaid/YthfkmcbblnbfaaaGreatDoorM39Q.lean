/- Lemmas of one proof. -/
import Derived.Test.YthfkmcbblnbfaaaGreatDoorM0Q
import Derived.Test.YthfkmcbblnbfaaaGreatDoorM38Q

namespace Go.Proofs.YthfkmcbblnbfaaaGreatDoor
set_option maxRecDepth 100000
set_option maxHeartbeats 16000000
open Go.RowKit
section
def KM (fs:List au) (l:List ar) (a:gg):List ar×Int:=
 if a.kind=1 then (mi fs l a.n,iF fs l a.n) else if a.kind=2 then (nn fs l a.of_ a.n,jF fs l a.of_ a.n) else if a.kind=3 then (l.set a.of_.toNat (eq (aw l a.of_.toNat)),0) else (l,0)
def fh (fs:List au) (l:List ar) (a:gg):List ar×Int:=if cM fs l≠0 then ([],cM fs l) else if kH l.length a≠0 then ([],kH l.length a) else KM fs l a
theorem I3 {l:List ar} {i:Nat} (hi:i<l.length):l.set i (aw l i)=l:=by
 apply en
 intro j
 rw[nN]
 split
 ·rename_i h
  subst h
  rw[ap hi]
  unfold aw
  rw[ak,ap hi]
  rfl
 rfl
theorem Pi {B:Nat} {w0:World} {H:List aC} (gk:Nat) (Aw Ap:Option Addr) (cw cp:Nat) (vd:Value) (fs:List au) (l:List ar) (kd z:Int) (i:Nat) (R:List ar×Int) (hR:KM fs l ⟨kd,i,z⟩=R) (hs:bE w0 B (.slice Ap fs.length cp) fs) (hl:bE w0 B (.slice Aw l.length cw) l) (hW:ln fs l) (hfit:mC l) (hil:i<l.length) (_:1<=kd/\kd<=4) (hz:aF z)
  (w:World) (hw:Cw B w0 (am gk [.slice Aw l.length cw,.slice Ap fs.length cp,vd] 112::H) w) :
  Calls Tryz.prog 66 #[.pointer (some ⟨gk,0,none⟩),.agg #[.int .i64 kd,.int .i64 (i:Int),.int .i64 z]] w fun e w'=> ∃q:Option Addr×Nat,True/\e= .returned (.tuple #[.agg #[.slice q.1 R.1.length q.2],.int .i64 R.2])/\Cw B w0 (an (.slice q.1 R.1.length q.2) R.1::am gk [.slice Aw l.length cw,.slice Ap fs.length cp,vd] 112::H) w':=by
 have bl:=bx hl
 have h4:=hW.n4
 have hRi:=hW.r _ (fG hil)
 change (if kd=1 then (mi fs l z,iF fs l z) else if kd=2 then (nn fs l i z,jF fs l i z) else if kd=3 then (l.set i (eq (aw l i)),0) else (l,0))=R at hR
 refine aY Tryz.func66 rfl Tryz.ntmps66 rfl hw<|aj ?_
 refine fun g1 _=>aj ?_
 refine fun g2 _=>aj ?_
 refine fun g3 _=>az (fun k1=>?_) (fun k1=>?_)
 ·have k1:kd=1:=k1
  rw[if_pos k1] at hR
  refine aj ?_
  refine dP [0,3,6,9,12,15,18,21,24,27,32,33,36,41,42] [] rfl [am g1 [.pointer (some ⟨gk,0,none⟩)] 110,am g2 [.int .i64 kd,.int .i64 (i:Int),.int .i64 z] 33,am gk [.slice Aw l.length cw,.slice Ap fs.length cp,vd] 112]<|aj ?_
  refine jt rfl rfl tS (fun w hw=>xz Ap Aw cp cw fs l z _ rfl w (hw.ro hs) (hw.ro hl) hfit) (fun⟨A5,c5⟩ _=>?_)
  refine aJ ?_
  intro w hw
  subst hR
  exact⟨(A5,c5),trivial,rfl,hw.msub ms⟩
 have k1:¬kd=1:=k1
 rw[if_neg k1] at hR
 refine az (fun k2=>?_) (fun k2=>?_)
 ·have k2:kd=2:=k2
  rw[if_pos k2] at hR
  refine aj ?_
  refine dP [0,3,6,9,12,15,18,21,24,27,30,33,38,39,42,47,48] [] rfl [am g1 [.pointer (some ⟨gk,0,none⟩)] 110,am g2 [.int .i64 kd,.int .i64 (i:Int),.int .i64 z] 33,am gk [.slice Aw l.length cw,.slice Ap fs.length cp,vd] 112]<|aj ?_
  refine jt rfl rfl Tryz.call39 (fun w hw=>xA Ap Aw cp cw fs l i z hz _ rfl w (hw.ro hs) (hw.ro hl) hfit) (fun⟨A5,c5⟩ _=>?_)
  refine aJ ?_
  intro w hw
  subst hR
  exact⟨(A5,c5),trivial,rfl,hw.msub ms⟩
 have k2:¬kd=2:=k2
 rw[if_neg k2] at hR
 refine az (fun k3=>?_) (fun k3=>?_)
 ·have k3:kd=3:=k3
  rw[if_pos k3] at hR
  subst hR
  have hcI:=pw (yw hRi)
  refine aj ?_
  refine cz rfl Tryz.call122 (fun w hw=>zv (H:=am g1 [.pointer (some ⟨gk,0,none⟩)] 110::am g2 [.int .i64 kd,.int .i64 (i:Int),.int .i64 z] 33::am g3 [.slice none 0 0] 27::H) gk i Aw cw (.slice Ap fs.length cp) vd fs l (eq (aw l i)) 123 #[] hl hW hil hcI Tryz.call123 (fun a H' w hm hw=>(M1 fs a (aw l i) w (hm.ro hw) hW.f hRi).mono fun e w' ⟨g,h1,h2,h3⟩=>⟨g,h1,h2,hw.app h3⟩) w (hw.msub ms)) (fun⟨A5,c5⟩ _=>?_)
  refine aJ ?_
  intro w hw
  exact⟨(A5,c5),trivial,rfl,hw.msub ms⟩
 have k3:¬kd=3:=k3
 rw[if_neg k3] at hR
 subst hR
 have hcI:=pw hRi
 have hss:=I3 hil
 refine aj ?_
 refine cz rfl Tryz.call122 (fun w hw=>zv (H:=am g1 [.pointer (some ⟨gk,0,none⟩)] 110::am g2 [.int .i64 kd,.int .i64 (i:Int),.int .i64 z] 33::am g3 [.slice none 0 0] 27::H) gk i Aw cw (.slice Ap fs.length cp) vd fs l (aw l i) 124 #[.pointer (some ⟨g1,0,none⟩)] hl hW hil hcI Tryz.call124 (fun a H' w hm hw=>(M0 (H:=am g2 [.int .i64 kd,.int .i64 (i:Int),.int .i64 z] 33::am g3 [.slice none 0 0] 27::(H++H')) g1 gk (.slice Aw l.length cw) vd Ap cp fs hs hW.p hW.f a (aw l i) hRi hm w (hw.perm (List.Perm.swap _ _ _))).mono fun e w' ⟨g,h1,h2,h3⟩=>⟨g,h1,h2,h3.perm (List.Perm.append_left [_,_,_,_] (List.Perm.swap _ _ _))⟩) w (hw.msub ms)) (fun⟨A5,c5⟩ _=>?_)
 refine aJ ?_
 rw[hss]
 refine aj ?_
 intro w hw
 exact⟨(A5,c5),trivial,rfl,hw.msub ms⟩
theorem B8 {n:Nat} {a:gg} (h:kH n a=0):(1<=a.kind/\a.kind<=4)/\0<=a.of_/\a.of_<n:=by
 unfold kH at h
 split at h
 ·cases h
 split at h
 ·cases h
 split at h
 ·cases h
 omega
theorem pg (Ap Aw:Option Addr) (cp cw:Nat) (fs:List au) (l:List ar) (kd o z:Int) (R:List ar×Int) (hR:fh fs l ⟨kd,o,z⟩=R) (hz:aF z) (w:World) (hs:Sl w (.slice Ap fs.length cp) fs) (hl:Sl w (.slice Aw l.length cw) l) (hfit:mC l) :
  Calls Tryz.prog 12 #[.agg #[.slice Ap fs.length cp],.agg #[.slice Aw l.length cw],.agg #[.int .i64 kd,.int .i64 o,.int .i64 z]] w fun e w'=> ∃q:Option Addr×Nat,True/\e= .returned (.tuple #[.agg #[.slice q.1 R.1.length q.2],.int .i64 R.2])/\Cw w.heap.size w [an (.slice q.1 R.1.length q.2) R.1] w':=by
 have bl:=bx hl
 unfold fh at hR
 refine enter Tryz.func12 rfl Tryz.ntmps12 rfl<|aj ?_
 refine fun g1 _=>aj ?_
 refine fun g2 _=>aj ?_
 refine fun g3 _=>aj ?_
 refine fun g4 _=>aj ?_
 refine cA rfl yF (fun w hw=>kK Ap Aw cp cw fs l w (hw.ro hs) (hw.ro hl) hfit)<|aj ?_
 refine fun g5 _=>az (fun hz0=>?_) (fun hz0=>?_)
 ·have hz0:cM fs l=0:=hz0
  have hW:=mI hz0
  have h4:=hW.n4
  rw[if_neg (fun h=>h hz0)] at hR
  refine aj ?_
  refine cz rfl Tryz.call65 (fun w hw=>Nu g5 Aw Ap l.length cw fs.length cp (.slice none 0 0) ⟨kd,o,z⟩ w (by omega) (hw.msub (.s fc .r))) (fun _ _=>bV (fun ha0=>?_) (fun ha0=>?_))
  ·have ha0:¬kH l.length ⟨kd,o,z⟩=0:=ha0
   rw[if_pos ha0] at hR
   subst hR
   refine aj ?_
   intro w hw
   exact⟨(none,0),trivial,rfl,(Cw.nilO ar hw).msub ms⟩
  have ha0:kH l.length ⟨kd,o,z⟩=0:=ha0
  rw[if_neg (fun h=>h ha0)] at hR
  obtain⟨hk4,ho⟩:=B8 ha0
  obtain⟨i,rfl⟩:=pm ho.1
  have hil:i<l.length:=by have:=ho.2;simp only at this;omega
  refine aj ?_
  refine cz rfl Tryz.call66 (fun w hw=>Pi g5 Aw Ap cw cp (.slice none 0 0) fs l kd z i R hR hs hl hW hfit hil hk4 hz w (hw.msub (.s fc .r))) (fun⟨A5,c5⟩ _=>?_)
  refine aJ ?_
  intro w hw
  exact⟨(A5,c5),trivial,rfl,hw.msub ms⟩
 have hz0:¬cM fs l=0:=hz0
 rw[if_pos hz0] at hR
 subst hR
 refine bV (fun h2=>?_) (fun h2=>?_)
 ·refine aj ?_
  intro w hw
  exact⟨(none,0),trivial,rfl,(Cw.nilO ar hw).msub ms⟩
 exact absurd h2 hz0
end
section
def gY:List au:= [⟨0,[2],0,[⟨1,2⟩,⟨14,0⟩,⟨2,0⟩,⟨1,1⟩,⟨14,0⟩,⟨9,0⟩,⟨8,0⟩,⟨1,0⟩,⟨15,0⟩,⟨20,0⟩,⟨13,0⟩]⟩]
def kC:ar:=⟨[⟨0,0,[⟨true,0⟩],[]⟩],[],[],[],0,0⟩
def KI:ar:=⟨[⟨0,6,[⟨true,2⟩],[]⟩],[[0,0],[0]],[],[],0,0⟩
def QH:ar:=⟨[⟨0,6,[⟨true,1⟩],[]⟩],[[0]],[],[],0,0⟩
theorem rr (w:World):Calls Tryz.prog 64 #[] w fun e w'=> ∃g:Nat,True/\e= .returned (.agg #[.slice (some ⟨g,0,none⟩) 1 1])/\Cw w.heap.size w [an (.slice (some ⟨g,0,none⟩) 1 1) gY] w':=by
 refine enter Tryz.func64 rfl Tryz.ntmps64 rfl<|aj ?_
 refine fun g1 _=>aj ?_
 refine fun g2 _=>aj ?_
 refine fun g3 _=>aj ?_
 refine fun g4 _=>aj ?_
 intro w hw
 refine⟨_,trivial,rfl,?_⟩
 have h:=bI (α:=bd) (m:=11) [⟨1,2⟩,⟨14,0⟩,⟨2,0⟩,⟨1,1⟩,⟨14,0⟩,⟨9,0⟩,⟨8,0⟩,⟨1,0⟩,⟨15,0⟩,⟨20,0⟩,⟨13,0⟩] rfl (show∀o∈[(⟨1,2⟩:bd),⟨14,0⟩,⟨2,0⟩,⟨1,1⟩,⟨14,0⟩,⟨9,0⟩,⟨8,0⟩,⟨1,0⟩,⟨15,0⟩,⟨20,0⟩,⟨13,0⟩],aF o.c/\aF o.a from by decide) rfl (by decide) (hw.msub (T:= [am g3 _ _,am g2 _ _,am g4 _ _]) ms)
 have h:=bI (α:=Int) (m:=1) [2] rfl (gt (by decide)) rfl (by decide) (h.msub (T:= [am g2 _ _,an (.slice (some ⟨g3,0,none⟩) 11 11) _,am g4 _ _]) ms)
 refine tv (H:= []) (xs:=gY) (nS.cons (Hel:= [an (.slice (some ⟨g2,0,none⟩) 1 1) [(2:Int)],an (.slice (some ⟨g3,0,none⟩) 11 11) [(⟨1,2⟩:bd),⟨14,0⟩,⟨2,0⟩,⟨1,1⟩,⟨14,0⟩,⟨9,0⟩,⟨8,0⟩,⟨1,0⟩,⟨15,0⟩,⟨20,0⟩,⟨13,0⟩]]) (cs:= [_,_,_,_]) (sQ (f:=⟨0,[2],0,[⟨1,2⟩,⟨14,0⟩,⟨2,0⟩,⟨1,1⟩,⟨14,0⟩,⟨9,0⟩,⟨8,0⟩,⟨1,0⟩,⟨15,0⟩,⟨20,0⟩,⟨13,0⟩]⟩) (by decide)) nS.nil_) rfl (by decide) ?_
 exact h.msub (T:= [am g4 _ _,an (.slice (some ⟨g2,0,none⟩) 1 1) _,an (.slice (some ⟨g3,0,none⟩) 11 11) _]) ms
theorem sP:ec gY=0/\pY gY=kC/\NW gY kC 10=0/\Qm gY kC 10=(KI,0)/\fA gY KI=0/\Qv gY KI=(QH,1)/\eO KI= [2]:=by
 refine⟨?_,?_,?_,?_,?_,?_,?_⟩ <;> kernel_rfl
def Aq (fs:List au) (m:ar):List Int:=if fA fs m=0 then eO m else []
theorem Qa (Ap:Option Addr) (cp:Nat) (fs:List au) (a:MA) (m:ar) (r:List Int) (hr:Aq fs m=r) (w:World) (hs:Sl w (.slice Ap fs.length cp) fs) (hm:fi w.heap.size w a m) (hfit:nL m.F) :
  Calls Tryz.prog 57 #[.agg #[.slice Ap fs.length cp],.agg #[.slice a.Af m.F.length a.cf,.slice a.Ab m.B.length a.cb,.slice a.Ai m.I.length a.ci,.slice a.Ao m.out.length a.co,.int .i64 m.S,.int .i64 m.T]] w fun e w'=> ∃q:Option Addr×Nat,True/\e= .returned (.tuple #[.slice q.1 r.length q.2,.int .i64 (fA fs m)])/\Cw w.heap.size w [an (.slice q.1 r.length q.2) r] w':=by
 refine enter Tryz.func57 rfl Tryz.ntmps57 rfl<|aj ?_
 refine fun g1 _=>aj ?_
 refine fun g2 _=>aj ?_
 refine cA rfl Tryz.call45 (fun w hw=>vU Ap cp fs a m w (hw.ro hs) (fi.ro hw hm) hfit)<|bV (fun h=>?_) (fun h=>?_)
 ·have h:¬fA fs m=0:=h
  have e:r= []:=by rw[<-hr];unfold Aq;rw[if_neg h]
  subst e
  refine aj ?_
  intro w hw
  exact⟨(none,0),trivial,rfl,(Cw.nilO Int hw).msub ms⟩
 have h:fA fs m=0:=h
 obtain⟨hF,hR⟩:=DO h
 have e:r=eO m:=by rw[<-hr];unfold Aq;rw[if_pos h]
 subst e
 refine aj ?_
 refine eL rfl Tryz.call116 (fun w hw=>AD fs a m w (fi.ro hw hm) hF hR) (fun⟨R1,r1⟩ _=>?_)
 refine aJ ?_
 intro w hw
 exact⟨(R1,r1),trivial,by rw[h],hw.msub ms⟩
theorem Mk:nL kC.F:=by
 refine⟨by decide,fun x hx=>?_⟩
 have:x=⟨0,0,[⟨true,0⟩],[]⟩:=by simpa [kC] using hx
 subst this
 decide
theorem EN (A:Option Addr) (c:Nat) (w:World) (hs:Sl w (.slice A 1 c) gY) :
  Calls Tryz.prog 54 #[.agg #[.slice A 1 c]] w fun e w'=> ∃g:MA,True/\
   e= .returned (.tuple #[.agg #[.slice g.Af 1 g.cf,.slice g.Ab 0 g.cb,.slice g.Ai 0 g.ci,.slice g.Ao 0 g.co,.int .i64 0,.int .i64 0],.int .i64 0])/\Cw w.heap.size w [an (.slice g.Af 1 g.cf) kC.F,an (.slice g.Ab 0 g.cb) kC.B,an (.slice g.Ai 0 g.ci) kC.I,an (.slice g.Ao 0 g.co) kC.out] w':=by
 have:=vS A c gY kC sP.2.1 w hs
 rw[sP.1] at this
 exact this
end
section
theorem yH (A1 A2:Option Addr) (n1 n2 c1 c2:Nat) (l1 l2:List ar) (w:World) (h1:bE w w.heap.size (.slice A1 n1 c1) l1) (h2:bE w w.heap.size (.slice A2 n2 c2) l2) (e1:l1.length=n1) (e2:l2.length=n2) :
  Calls Tryz.prog 13 #[.agg #[.slice A1 n1 c1],.agg #[.slice A2 n2 c2]] w fun e w'=>e= .returned (.bool (decide (l1=l2)))/\Below w.heap.size w w':=by
 subst e1 e2
 have b1:=bx h1
 refine enter Tryz.func13 rfl Tryz.ntmps13 rfl<|aj ?_
 refine fun g1 _=>aj ?_
 refine fun g2 _=>bV (fun e6=>?_) (fun e6=>?_)
 ·refine aj ?_
  intro w hw
  exact⟨aM (by rw[decide_eq_false (fun h=>e6 (by rw[h]))]),hw.below⟩
 have e6:l1.length=l2.length:=by omega
 refine aj ?_
 refine dG (fun i:Nat=>i<=l1.length/\l1.take i=l2.take i) (fun i=>l1.length - i) (fun i=> [(2,.pointer (some ⟨g1,0,none⟩)),(3,.pointer (some ⟨g2,0,none⟩)),(5,.int .i64 (i:Int))]) (fun _=> [am g1 [.slice A1 l1.length c1] 27,am g2 [.slice A2 l2.length c2] 27]) 0 (⟨bi _,rfl⟩) ?_
 rintro i hi'
 obtain⟨hi,hj⟩:i<=l1.length/\l1.take i=l2.take i:=hi'
 refine az (fun hlt=>?_) (fun hlt=>?_)
 ·have hil:i<l1.length:=by omega
  have hil2:i<l2.length:=by omega
  obtain⟨a,hm1,hc1⟩:=h1.mc hil
  obtain⟨b,hm2,hc2⟩:=h2.mc hil2
  refine fx (fw ?_)
  refine cu<|fZ<|dx (fun _:Unit=>True) (fun _=> [(2,.pointer (some ⟨g1,0,none⟩)),(3,.pointer (some ⟨g2,0,none⟩)),(5,.int .i64 (i:Int)),(31,.bool (!decide (aw l1 i=aw l2 i)))]) (fun _=> [am g1 [.slice A1 l1.length c1] 27,am g2 [.slice A2 l2.length c2] 27]) ?_ ?_
  ·refine bU [0,3,6,9,12,15,18,21,24,27,32,33] [] rfl<|aj ?_
   refine tE rfl (bZ (k:=i) dQ dH (.ro h1) (by omega) rfl rfl rfl) ?_
   refine tE rfl (eW (hc1 _) rfl rfl kZ dH)<|aj ?_
   refine tE rfl (bZ (k:=i) dQ dH (.ro h2) (by omega) rfl rfl rfl) ?_
   refine tE rfl (eW (hc2 _) rfl rfl kZ dH) ?_
   refine kW rfl rfl Tryz.call15 (fun w hw=>sq a b (aw l1 i) (aw l2 i) w (hm1.ro hw) (hm2.ro hw))<|aj ?_
   refine cg<|dg () (trivial)
  rintro⟨⟩ _
  try dsimp only
  refine cB rfl (fun f=>?_) (fun f=>?_)
  ·refine aj ?_
   intro w hw
   exact⟨aM (by rw[decide_eq_false (fun h=>kL f (by rw[h]))]),hw.below⟩
  have f:=jI f
  refine aj ?_
  refine dv (i+1) (⟨by show i+1<=_;omega,qM default hil hil2 hj f⟩) (by show _ - _<_ - _;omega)
 obtain rfl:i=l1.length:=by omega
 rw[aQ,e6,aQ] at hj
 refine aj ?_
 intro w hw
 exact⟨aM (by rw[decide_eq_true hj]),hw.below⟩
end
section
def rT (i:List Int) (s:Int):ar:=⟨[⟨0,0,[],[]⟩],[],i,[],s,0⟩
def dU:List ar:= [iW,iW]
def po:List ar:= [rT [3] 0,rT [] 0]
def lN:List ar:= [rT [] 1,rT [9] 0]
def kV:List ar:= [rT [81] 0,rT [] 1]
theorem lc:cM aO dU=0/\jF aO dU 0 3=0/\nn aO dU 0 3=po/\iF aO po 50=0/\mi aO po 50=lN/\iF aO lN 50=0/\mi aO lN 50=kV/\cM aO kV=0/\zi aO kV=(kV,0):=by
 refine⟨?_,?_,?_,?_,?_,?_,?_,?_,?_⟩ <;> kernel_rfl
theorem tL {a b:ar} (h1:a.F=iW.F) (h2:b.F=iW.F):mC [a,b]:=by
 refine⟨by show 2*112<=_;decide,fun m hm=>?_⟩
 have:m=a\/m=b:=by simpa using hm
 rcases this with rfl | rfl
 ·rw[h1];exact DV
 rw[h2];exact DV
theorem va:mC dU:=tL rfl rfl
theorem Bw:mC po:=tL rfl rfl
theorem Bv:mC lN:=tL rfl rfl
theorem OR:mC kV:=tL rfl rfl
theorem qt:po.length=2:=rfl
theorem kA:lN.length=2:=rfl
theorem ny:kV.length=2:=rfl
theorem mW:dU.length=2:=rfl
theorem NJ:aw lN 1=rT [9] 0:=rfl
theorem K4:aw kV 0=rT [81] 0:=rfl
section
variable {A Aw:Option Addr} {c cw:Nat} {w:World}
theorem FI (A Aw:Option Addr) (c cw:Nat) (w:World) (hs:Sl w (.slice A 2 c) aO) (hl:Sl w (.slice Aw 2 cw) dU) :
  Calls Tryz.prog 20 #[.agg #[.slice A 2 c],.agg #[.slice Aw 2 cw]] w fun e w'=>e= .returned (.int .i64 0)/\Below w.heap.size w w':=by
 have:=kK A Aw c cw aO dU w hs hl va
 rw[lc.1] at this
 exact this
theorem IL (A Aw:Option Addr) (c cw:Nat) (w:World) (hs:Sl w (.slice A 2 c) aO) (hl:Sl w (.slice Aw 2 cw) dU) :
  Calls Tryz.prog 39 #[.agg #[.slice A 2 c],.agg #[.slice Aw 2 cw],.int .i64 0,.int .i64 3] w fun e w'=> ∃g:Option Addr×Nat,True/\e= .returned (.tuple #[.agg #[.slice g.1 2 g.2],.int .i64 0])/\Cw w.heap.size w [an (.slice g.1 2 g.2) po] w':=by
 have:=xA A Aw c cw aO dU 0 3 (by decide) po lc.2.2.1 w hs hl va
 rw[lc.2.1] at this
 exact this
theorem mK {l r:List ar} (h2:l.length=2) (h3:r.length=2) (hf:mC l) (he:iF aO l 50=0) (hr:mi aO l 50=r) (A Aw:Option Addr) (c cw:Nat) (w:World) (hs:Sl w (.slice A 2 c) aO) (hl:Sl w (.slice Aw 2 cw) l) :
  Calls Tryz.prog 38 #[.agg #[.slice A 2 c],.agg #[.slice Aw 2 cw],.int .i64 50] w fun e w'=> ∃g:Option Addr×Nat,True/\e= .returned (.tuple #[.agg #[.slice g.1 2 g.2],.int .i64 0])/\Cw w.heap.size w [an (.slice g.1 2 g.2) r] w':=by
 have:=xz A Aw c cw aO l 50 r hr w hs (by rw[h2];exact hl) hf
 rw[he,h2,h3] at this
 exact this
theorem uz (A Aw:Option Addr) (c cw:Nat) (w:World) (hs:Sl w (.slice A 2 c) aO) (hl:Sl w (.slice Aw 2 cw) kV) :
  Calls Tryz.prog 37 #[.agg #[.slice A 2 c],.agg #[.slice Aw 2 cw]] w fun e w'=> ∃g:Option Addr×Nat,True/\e= .returned (.tuple #[.agg #[.slice g.1 2 g.2],.int .i64 0,.int .i64 0])/\Cw w.heap.size w [an (.slice g.1 2 g.2) kV] w':=by
 obtain⟨_,_,_,_,_,_,_,f8,f9⟩:=lc
 have:=Fz A Aw c cw aO kV (kV,0) f9 w hs hl OR
 rw[f8] at this
 exact this
end
theorem AP (w:World):Calls Tryz.prog 71 #[] w fun e w'=> ∃g:Option Addr×Nat,True/\e= .returned (.agg #[.slice g.1 2 g.2])/\Cw w.heap.size w [an (.slice g.1 2 g.2) dU] w':=by
 obtain⟨f1,f2,f3,f4,f5,f6,f7,f8,f9⟩:=EE
 refine enter Tryz.func71 rfl Tryz.ntmps71 rfl<|aj ?_
 refine fun g1 _=>aj ?_
 refine eL rfl iQ (fun w hw=>eU w) (fun gp _=>?_)
 refine eL rfl Rq (fun w hw=>un f6 f7 rfl _ _ w (SF.at_ (SF.own rfl fc) hw)) (fun a1 _=>aj ?_)
 intro g2 _
 refine eV (eB _ fc dH rfl rfl rfl rfl rfl (by rfl) rfl (by rfl)) rfl rfl (fun _ _=>?_)
 refine aD ?_
 refine bK<|aj ?_
 refine eL rfl iQ (fun w hw=>eU w) (fun gq _=>?_)
 refine eL rfl Rq (fun w hw=>un f6 f7 rfl _ _ w (SF.at_ (SF.own rfl fc) hw)) (fun a2 _=>aj ?_)
 intro g3 _
 refine eV (eB _ fc dH rfl rfl rfl rfl rfl (by rfl) rfl (by rfl)) rfl rfl (fun _ _=>?_)
 refine aD ?_
 refine bK<|aj ?_
 refine fun g4 _=>aj ?_
 intro w hw
 refine⟨(some ⟨g4,0,none⟩,2),trivial,rfl,?_⟩
 refine tv (H:= []) (xs:=dU) (nS.cons (Hel:= [an (.slice a1.Af 1 a1.cf) iW.F,an (.slice a1.Ab 0 a1.cb) iW.B,an (.slice a1.Ai 0 a1.ci) iW.I,an (.slice a1.Ao 0 a1.co) iW.out]) (cs:= [_,_,_,_,_,_]) (oP (m:=iW) (by decide))
  (nS.cons (Hel:= [an (.slice a2.Af 1 a2.cf) iW.F,an (.slice a2.Ab 0 a2.cb) iW.B,an (.slice a2.Ai 0 a2.ci) iW.I,an (.slice a2.Ao 0 a2.co) iW.out]) (cs:= [_,_,_,_,_,_]) (oP (m:=iW) (by decide)) nS.nil_)) rfl (by decide) ?_
 exact hw.msub ms
theorem uN (A1 A2:Option Addr) (c1:Nat) (n:Int) (w:World) (h1:Sl w (.slice A1 1 c1) [n]) (h2:Sl w (.slice A2 1 1) [n]):Calls Tryz.prog 63 #[.slice A1 1 c1,.slice A2 1 1] w fun e w'=>e= .returned (.bool true)/\Below w.heap.size w w':=by
 have:=jG A1 A2 c1 1 [n] [n] w h1 h2
 rw[decide_eq_true rfl] at this
 exact this
attribute [irreducible] po lN kV dU
theorem wN (w:World):Calls Tryz.prog 18 #[] w fun e w'=>e= .returned (.bool true)/\Below w.heap.size w w':=by
 obtain⟨f1,f2,f3,f4,f5,f6,f7,f8,f9⟩:=lc
 refine enter Tryz.func18 rfl Tryz.ntmps18 rfl<|aj ?_
 refine eL rfl iQ (fun w hw=>eU w) (fun gp _=>?_)
 refine eL rfl Tryz.call71 (fun w hw=>AP w) (fun⟨P1,p1⟩ _=>?_)
 try dsimp only
 refine eL rfl Tryz.call39 (fun w hw=>IL _ P1 _ p1 w (SF.at_ (SF.own rfl fc) hw) (SF.at_ (SF.own (xs:=dU) mW fc) hw)) (fun⟨A1,a1⟩ _=>?_)
 refine aJ ?_
 intro g1 _
 refine eV (eB _ fc yE rfl rfl rfl rfl rfl (by rfl) rfl (by rfl)) rfl rfl (fun _ _=>?_)
 refine aD ?_
 refine bK<|dx (fun _:Nat×Option Addr×Nat=>True) (fun g=> [(2,.int .i64 0),(3,.pointer (some ⟨g.1,0,none⟩)),(4,.int .i64 0)]) (fun g=> [am g.1 [.slice g.2.1 2 g.2.2] 27,an (.slice g.2.1 2 g.2.2) lN]) ?_ ?_
 ·refine gZ (.still 1 (.pick 0 (.pick 2 (.calm 3 (.calm 4 (.calm 5 (.pick 6 (.pick 7 (.calm 8 .done) .stop) .stop)))) (.pick 6 (.pick 2 (.calm 3 (.calm 4 (.calm 5 (.pick 7 (.calm 8 .done) .stop)))) .stop) .stop)) (.pick 6 (.pick 0 (.pick 2 (.calm 3 (.calm 4 (.calm 5 (.pick 7 (.calm 8 .done) .stop)))) .stop) .stop) .stop))) [2,3,4,5,7,8] rfl (by kernel_rfl) (by kernel_rfl) ?_
  refine aj ?_
  refine ef rfl (lF rfl rfl rfl iQ (fun w hw=>eU w)) rfl rfl (.inr fun _=>ha) (fun gq _=>?_) ?_
  ·refine ef rfl (lF rfl rfl rfl tS (fun w hw=>mK (l:=po) (r:=lN) qt kA Bw f4 f5 _ A1 _ a1 w (SF.at_ (SF.own rfl fc) hw) (SF.at_ (SF.own (xs:=po) qt fc) hw))) rfl rfl (.inl rfl) (fun⟨A2,a2⟩ _=>?_) ?_
   ·refine aJ ?_
    intro q _
    refine aj ?_
    refine cg<|dg (q,A2,a2) (trivial) (hh:=(fun _ h=>h.msub ms))
   refine aj ?_
   intro q _
   refine jt rfl rfl tS (fun w hw=>mK (l:=po) (r:=lN) qt kA Bw f4 f5 _ A1 _ a1 w (SF.at_ (SF.own rfl fc) hw) (SF.at_ (SF.own (xs:=po) qt fc) hw)) (fun⟨A2,a2⟩ _=>?_)
   refine aJ ?_
   refine cg<|dg (q,A2,a2) (trivial) (hh:=(fun _ h=>h.msub ms))
  refine aj ?_
  intro q _
  refine jt rfl rfl iQ (fun w hw=>eU w) (fun gq _=>?_)
  refine jt rfl rfl tS (fun w hw=>mK (l:=po) (r:=lN) qt kA Bw f4 f5 _ A1 _ a1 w (SF.at_ (SF.own rfl fc) hw) (SF.at_ (SF.own (xs:=po) qt fc) hw)) (fun⟨A2,a2⟩ _=>?_)
  refine aJ ?_
  refine cg<|dg (q,A2,a2) (trivial) (hh:=(fun _ h=>h.msub ms))
 rintro⟨gb,A2,a2⟩ _
 try dsimp only
 refine dx (fun _:Nat×Option Addr×Nat=>True) (fun g=> [(2,.int .i64 0),(3,.pointer (some ⟨gb,0,none⟩)),(4,.int .i64 0),(5,.pointer (some ⟨g.1,0,none⟩)),(6,.int .i64 0)]) (fun g=> [am g.1 [.slice g.2.1 2 g.2.2] 27,an (.slice g.2.1 2 g.2.2) kV,am gb [.slice A2 2 a2] 27,an (.slice A2 2 a2) lN]) ?_ ?_
 ·refine gZ (.still 1 (.pick 0 (.pick 2 (.calm 3 (.calm 4 (.calm 5 (.pick 6 (.pick 7 (.calm 8 .done) .stop) .stop)))) (.pick 6 (.pick 2 (.calm 3 (.calm 4 (.calm 5 (.pick 7 (.calm 8 .done) .stop)))) .stop) .stop)) (.pick 6 (.pick 0 (.pick 2 (.calm 3 (.calm 4 (.calm 5 (.pick 7 (.calm 8 .done) .stop)))) .stop) .stop) .stop))) [2,3,4,5,7,8] rfl (by kernel_rfl) (by kernel_rfl) ?_
  refine aj ?_
  refine ef rfl (lF rfl rfl rfl iQ (fun w hw=>eU w)) rfl rfl (.inr fun _=>ha) (fun gq _=>?_) ?_
  ·refine ef rfl (lF rfl rfl rfl tS (fun w hw=>mK (l:=lN) (r:=kV) kA ny Bv f6 f7 _ A2 _ a2 w (SF.at_ (SF.own rfl fc) hw) (SF.at_ (SF.own (xs:=lN) kA fc) hw))) rfl rfl (.inl rfl) (fun⟨A3,a3⟩ _=>?_) ?_
   ·refine aJ ?_
    intro q _
    refine aj ?_
    refine cg<|dg (q,A3,a3) (trivial) (hh:=(fun _ h=>h.msub ms))
   refine aj ?_
   intro q _
   refine jt rfl rfl tS (fun w hw=>mK (l:=lN) (r:=kV) kA ny Bv f6 f7 _ A2 _ a2 w (SF.at_ (SF.own rfl fc) hw) (SF.at_ (SF.own (xs:=lN) kA fc) hw)) (fun⟨A3,a3⟩ _=>?_)
   refine aJ ?_
   refine cg<|dg (q,A3,a3) (trivial) (hh:=(fun _ h=>h.msub ms))
  refine aj ?_
  intro q _
  refine jt rfl rfl iQ (fun w hw=>eU w) (fun gq _=>?_)
  refine jt rfl rfl tS (fun w hw=>mK (l:=lN) (r:=kV) kA ny Bv f6 f7 _ A2 _ a2 w (SF.at_ (SF.own rfl fc) hw) (SF.at_ (SF.own (xs:=lN) kA fc) hw)) (fun⟨A3,a3⟩ _=>?_)
  refine aJ ?_
  refine cg<|dg (q,A3,a3) (trivial) (hh:=(fun _ h=>h.msub ms))
 rintro⟨gc,A3,a3⟩ _
 try dsimp only
 refine dx (fun _:Nat×Option Addr×Nat=>True) (fun g=> [(2,.int .i64 0),(3,.pointer (some ⟨gb,0,none⟩)),(4,.int .i64 0),(5,.pointer (some ⟨gc,0,none⟩)),(6,.int .i64 0),(7,.pointer (some ⟨g.1,0,none⟩)),(8,.int .i64 0),(9,.int .i64 0)]) (fun g=> [am g.1 [.slice g.2.1 2 g.2.2] 27,an (.slice g.2.1 2 g.2.2) kV,am gc [.slice A3 2 a3] 27,an (.slice A3 2 a3) kV,am gb [.slice A2 2 a2] 27,an (.slice A2 2 a2) lN]) ?_ ?_
 ·refine gZ (.still 1 (.pick 0 (.pick 2 (.calm 3 (.calm 4 (.calm 5 (.calm 6 (.pick 7 (.pick 8 (.calm 9 (.calm 10 .done)) .stop) .stop))))) (.pick 7 (.pick 2 (.calm 3 (.calm 4 (.calm 5 (.calm 6 (.pick 8 (.calm 9 (.calm 10 .done)) .stop))))) .stop) .stop)) (.pick 7 (.pick 0 (.pick 2 (.calm 3 (.calm 4 (.calm 5 (.calm 6 (.pick 8 (.calm 9 (.calm 10 .done)) .stop))))) .stop) .stop) .stop))) [2,3,4,5,6,8,9,10] rfl (by kernel_rfl) (by kernel_rfl) ?_
  refine aj ?_
  refine ef rfl (lF rfl rfl rfl iQ (fun w hw=>eU w)) rfl rfl (.inr fun _=>ha) (fun gq _=>?_) ?_
  ·refine ef rfl (lF rfl rfl rfl Rs (fun w hw=>uz _ A3 _ a3 w (SF.at_ (SF.own rfl fc) hw) (SF.at_ (SF.own (xs:=kV) ny fc) hw))) rfl rfl (.inl rfl) (fun⟨A4,a4⟩ _=>?_) ?_
   ·refine aJ ?_
    intro q _
    refine aj ?_
    refine cg<|dg (q,A4,a4) (trivial) (hh:=(fun _ h=>h.msub ms))
   refine aj ?_
   intro q _
   refine jt rfl rfl Rs (fun w hw=>uz _ A3 _ a3 w (SF.at_ (SF.own rfl fc) hw) (SF.at_ (SF.own (xs:=kV) ny fc) hw)) (fun⟨A4,a4⟩ _=>?_)
   refine aJ ?_
   refine cg<|dg (q,A4,a4) (trivial) (hh:=(fun _ h=>h.msub ms))
  refine aj ?_
  intro q _
  refine jt rfl rfl iQ (fun w hw=>eU w) (fun gq _=>?_)
  refine jt rfl rfl Rs (fun w hw=>uz _ A3 _ a3 w (SF.at_ (SF.own rfl fc) hw) (SF.at_ (SF.own (xs:=kV) ny fc) hw)) (fun⟨A4,a4⟩ _=>?_)
  refine aJ ?_
  refine cg<|dg (q,A4,a4) (trivial) (hh:=(fun _ h=>h.msub ms))
 rintro⟨gd,A4,a4⟩ _
 try dsimp only
 refine qz (v:= .slice A2 2 a2) (L:=lN) fc fun X hsX hX=>?_
 refine qz (v:= .slice A3 2 a3) (L:=kV) fc fun Y hsY hY=>?_
 obtain⟨b1,e1,_,hX1⟩:=hX.el 1 (by rw[kA];decide)
 obtain⟨c0,e2,_,hY1⟩:=hY.el 0 (by rw[ny];decide)
 rw[NJ] at e1 hX1
 rw[K4] at e2 hY1
 have lX:=hX.len.trans kA
 have lY:=hY.len.trans ny
 have R1:∀H H',bA H (an (.slice A2 2 a2) hsX) H'->∀w1,Cw w.heap.size w H w1->w1.cell? ⟨ab A2,ao A2+1*6+2,none⟩=some (.slice b1.Ai 1 b1.ci):=fun _ _ f w1 hw=>(SF.hmc (SF.own (α:=dI) (m:=2) lX f) (k:=1) (by decide) e1) w1 hw 2 _ rfl
 have R2:∀H H',bA H (an (.slice A3 2 a3) hsY) H'->∀w1,Cw w.heap.size w H w1->w1.cell? ⟨ab A3,ao A3+0*6+2,none⟩=some (.slice c0.Ai 1 c0.ci):=fun _ _ f w1 hw=>(SF.hmc (SF.own (α:=dI) (m:=2) lY f) (k:=0) (by decide) e2) w1 hw 2 _ rfl
 have T1:∀H H',bA H X H'->SF w.heap.size w H b1.Ai 1 b1.ci [(9:Int)]:=fun _ _ f=>(hX1 _ _ f).2.2.1
 have T2:∀H H',bA H Y H'->SF w.heap.size w H c0.Ai 1 c0.ci [(81:Int)]:=fun _ _ f=>(hY1 _ _ f).2.2.1
 clear hX1 hY1 e1 e2
 refine aj ?_
 refine eL rfl iQ (fun w hw=>eU w) (fun gs _=>?_)
 refine eL rfl Tryz.call71 (fun w hw=>AP w) (fun⟨P5,p5⟩ _=>?_)
 try dsimp only
 refine cA rfl yF (fun w hw=>FI _ P5 _ p5 w (SF.at_ (SF.own rfl fc) hw) (SF.at_ (SF.own (xs:=dU) mW fc) hw)) ?_
 refine aD ?_
 refine aD ?_
 refine bW (t:=39) (v':= .bool false) rfl (rfl) ?_
 refine aD ?_
 refine aD ?_
 refine aD ?_
 refine aD ?_
 refine bW (t:=43) (v':= .bool false) rfl (rfl) ?_
 refine aD ?_
 refine aD ?_
 refine aD ?_
 refine aD ?_
 refine bW (t:=47) (v':= .bool false) rfl (rfl) ?_
 refine aD ?_
 refine aD ?_
 refine aD ?_
 refine aD ?_
 refine bW (t:=51) (v':= .bool false) rfl (rfl) ?_
 refine aD ?_
 refine aD ?_
 refine aD ?_
 refine aD ?_
 refine bW (t:=55) (v':= .bool false) rfl (rfl) ?_
 refine aD ?_
 refine dW (fp fc Cn rfl rfl (by rfl)) rfl rfl ?_
 refine dW (kt dQ rfl rfl) rfl rfl<|aD ?_
 refine aD ?_
 refine aD ?_
 refine bW (t:=61) (v':= .bool false) rfl (rfl) ?_
 refine aD ?_
 refine dW (fp fc Cn rfl rfl (by rfl)) rfl rfl ?_
 refine dW (kt dQ rfl rfl) rfl rfl<|aD ?_
 refine aD ?_
 refine aD ?_
 refine bW (t:=67) (v':= .bool false) rfl (rfl)<|aj ?_
 refine cT (t:=72) (v':= .bool false) rfl (rfl) ?_
 refine bR rfl<|aj ?_
 refine dA (1) rfl ((SF.own (α:=dI) (m:=2) lX fc))<|aj ?_
 refine eM rfl (R1 _ _ fc)<|aj ?_
 intro g2 _
 refine eA (fun w h=>bI (α:=Int) (m:=1) [9] rfl (gt (by decide)) rfl (by decide) h) ?_
 refine cA rfl nT (fun w hw=>uN b1.Ai (some ⟨g2,0,none⟩) b1.ci 9 w (SF.at_ (T1 _ _ fc) hw) (SF.at_ (SF.own (A:=some ⟨g2,0,none⟩) (m:=1) (c:=1) (xs:= [(9:Int)]) rfl fc) hw)) ?_
 refine aD ?_
 refine bW (t:=80) (v':= .bool true) rfl (rfl)<|aj ?_
 refine dA (0) rfl ((SF.own (α:=dI) (m:=2) lY fc))<|aj ?_
 refine eM rfl (R2 _ _ fc)<|aj ?_
 intro g3 _
 refine eA (fun w h=>bI (α:=Int) (m:=1) [81] rfl (gt (by decide)) rfl (by decide) h) ?_
 refine cA rfl nT (fun w hw=>uN c0.Ai (some ⟨g3,0,none⟩) c0.ci 81 w (SF.at_ (T2 _ _ fc) hw) (SF.at_ (SF.own (A:=some ⟨g3,0,none⟩) (m:=1) (c:=1) (xs:= [(81:Int)]) rfl fc) hw)) ?_
 refine aD ?_
 refine aD ?_
 refine bW (t:=89) (v':= .bool true) rfl (rfl)<|aj ?_
 intro w hw
 exact⟨rfl,hw.below⟩
end
