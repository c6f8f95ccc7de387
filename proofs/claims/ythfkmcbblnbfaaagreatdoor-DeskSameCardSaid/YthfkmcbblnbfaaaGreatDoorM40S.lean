/- Lemmas of one proof. -/
import Derived.Test.YthfkmcbblnbfaaaGreatDoorM0S
import Derived.Test.YthfkmcbblnbfaaaGreatDoorM39S

namespace Go.Proofs.YthfkmcbblnbfaaaGreatDoor
set_option maxRecDepth 100000
set_option maxHeartbeats 16000000
open Go.RowKit
section
def K4 (fs:List au) (l:List ar) (a:iw):List ar×Int:=
 if a.kind=1 then (mh fs l a.n,iz fs l a.n) else if a.kind=2 then (nt fs l a.of_ a.n,jB fs l a.of_ a.n) else if a.kind=3 then (l.set a.of_.toNat (ei (aw l a.of_.toNat)),0) else (l,0)
def fq (fs:List au) (l:List ar) (a:iw):List ar×Int:=if cS fs l≠0 then ([],cS fs l) else if kE l.length a≠0 then ([],kE l.length a) else K4 fs l a
theorem Jh {l:List ar} {i:Nat} (hi:i<l.length):l.set i (aw l i)=l:=by
 apply ef
 intro j
 rw[nO]
 split
 ·rename_i h
  subst h
  rw[an hi]
  unfold aw
  rw[ak,an hi]
  rfl
 rfl
theorem PC {B:Nat} {w0:World} {H:List aC} (gk:Nat) (Aw Ap:Option Addr) (cw cp:Nat) (vd:Value) (fs:List au) (l:List ar) (kd z:Int) (i:Nat) (R:List ar×Int) (hR:K4 fs l ⟨kd,i,z⟩=R) (hs:br w0 B (.slice Ap fs.length cp) fs) (hl:br w0 B (.slice Aw l.length cw) l) (hW:mz fs l) (hfit:kW l) (hil:i<l.length) (_:1<=kd/\kd<=4) (hz:aD z)
  (w:World) (hw:Cw B w0 (am gk [.slice Aw l.length cw,.slice Ap fs.length cp,vd] 112::H) w) :
  Calls Tryz.prog 66 #[.pointer (some ⟨gk,0,none⟩),.agg #[.int .i64 kd,.int .i64 (i:Int),.int .i64 z]] w fun e w'=> ∃q:Option Addr×Nat,True/\e= .returned (.tuple #[.agg #[.slice q.1 R.1.length q.2],.int .i64 R.2])/\Cw B w0 (ap (.slice q.1 R.1.length q.2) R.1::am gk [.slice Aw l.length cw,.slice Ap fs.length cp,vd] 112::H) w':=by
 have bl:=bB hl
 have h4:=hW.n4
 have hRi:=hW.r _ (fP hil)
 change (if kd=1 then (mh fs l z,iz fs l z) else if kd=2 then (nt fs l i z,jB fs l i z) else if kd=3 then (l.set i (ei (aw l i)),0) else (l,0))=R at hR
 refine aY Tryz.func66 rfl Tryz.ntmps66 rfl hw<|aj ?_
 refine fun g1 _=>aj ?_
 refine fun g2 _=>aj ?_
 refine fun g3 _=>az (fun k1=>?_) (fun k1=>?_)
 ·have k1:kd=1:=k1
  rw[if_pos k1] at hR
  refine aj ?_
  refine dK [0,3,6,9,12,15,18,21,24,27,32,33,36,41,42] [] rfl [am g1 [.pointer (some ⟨gk,0,none⟩)] 110,am g2 [.int .i64 kd,.int .i64 (i:Int),.int .i64 z] 33,am gk [.slice Aw l.length cw,.slice Ap fs.length cp,vd] 112]<|aj ?_
  refine jJ rfl rfl tV (fun w hw=>xC Ap Aw cp cw fs l z _ rfl w (hw.ro hs) (hw.ro hl) hfit) (fun⟨A5,c5⟩ _=>?_)
  refine aL ?_
  intro w hw
  subst hR
  exact⟨(A5,c5),trivial,rfl,hw.msub ms⟩
 have k1:¬kd=1:=k1
 rw[if_neg k1] at hR
 refine az (fun k2=>?_) (fun k2=>?_)
 ·have k2:kd=2:=k2
  rw[if_pos k2] at hR
  refine aj ?_
  refine dK [0,3,6,9,12,15,18,21,24,27,30,33,38,39,42,47,48] [] rfl [am g1 [.pointer (some ⟨gk,0,none⟩)] 110,am g2 [.int .i64 kd,.int .i64 (i:Int),.int .i64 z] 33,am gk [.slice Aw l.length cw,.slice Ap fs.length cp,vd] 112]<|aj ?_
  refine jJ rfl rfl Tryz.call39 (fun w hw=>xD Ap Aw cp cw fs l i z hz _ rfl w (hw.ro hs) (hw.ro hl) hfit) (fun⟨A5,c5⟩ _=>?_)
  refine aL ?_
  intro w hw
  subst hR
  exact⟨(A5,c5),trivial,rfl,hw.msub ms⟩
 have k2:¬kd=2:=k2
 rw[if_neg k2] at hR
 refine az (fun k3=>?_) (fun k3=>?_)
 ·have k3:kd=3:=k3
  rw[if_pos k3] at hR
  subst hR
  have hcI:=px (yy hRi)
  refine aj ?_
  refine cc rfl Tryz.call122 (fun w hw=>zx (H:=am g1 [.pointer (some ⟨gk,0,none⟩)] 110::am g2 [.int .i64 kd,.int .i64 (i:Int),.int .i64 z] 33::am g3 [.slice none 0 0] 27::H) gk i Aw cw (.slice Ap fs.length cp) vd fs l (ei (aw l i)) 123 #[] hl hW hil hcI Tryz.call123 (fun a H' w hm hw=>(Nk fs a (aw l i) w (hm.ro hw) hW.f hRi).mono fun e w' ⟨g,h1,h2,h3⟩=>⟨g,h1,h2,hw.app h3⟩) w (hw.msub ms)) (fun⟨A5,c5⟩ _=>?_)
  refine aL ?_
  intro w hw
  exact⟨(A5,c5),trivial,rfl,hw.msub ms⟩
 have k3:¬kd=3:=k3
 rw[if_neg k3] at hR
 subst hR
 have hcI:=px hRi
 have hss:=Jh hil
 refine aj ?_
 refine cc rfl Tryz.call122 (fun w hw=>zx (H:=am g1 [.pointer (some ⟨gk,0,none⟩)] 110::am g2 [.int .i64 kd,.int .i64 (i:Int),.int .i64 z] 33::am g3 [.slice none 0 0] 27::H) gk i Aw cw (.slice Ap fs.length cp) vd fs l (aw l i) 124 #[.pointer (some ⟨g1,0,none⟩)] hl hW hil hcI Tryz.call124 (fun a H' w hm hw=>(Nj (H:=am g2 [.int .i64 kd,.int .i64 (i:Int),.int .i64 z] 33::am g3 [.slice none 0 0] 27::(H++H')) g1 gk (.slice Aw l.length cw) vd Ap cp fs hs hW.p hW.f a (aw l i) hRi hm w (hw.perm (List.Perm.swap _ _ _))).mono fun e w' ⟨g,h1,h2,h3⟩=>⟨g,h1,h2,h3.perm (List.Perm.append_left [_,_,_,_] (List.Perm.swap _ _ _))⟩) w (hw.msub ms)) (fun⟨A5,c5⟩ _=>?_)
 refine aL ?_
 rw[hss]
 refine aj ?_
 intro w hw
 exact⟨(A5,c5),trivial,rfl,hw.msub ms⟩
theorem Cf {n:Nat} {a:iw} (h:kE n a=0):(1<=a.kind/\a.kind<=4)/\0<=a.of_/\a.of_<n:=by
 unfold kE at h
 split at h
 ·cases h
 split at h
 ·cases h
 split at h
 ·cases h
 omega
theorem tm (Ap Aw:Option Addr) (cp cw:Nat) (fs:List au) (l:List ar) (kd o z:Int) (R:List ar×Int) (hR:fq fs l ⟨kd,o,z⟩=R) (hz:aD z) (w:World) (hs:Sl w (.slice Ap fs.length cp) fs) (hl:Sl w (.slice Aw l.length cw) l) (hfit:kW l) :
  Calls Tryz.prog 12 #[.agg #[.slice Ap fs.length cp],.agg #[.slice Aw l.length cw],.agg #[.int .i64 kd,.int .i64 o,.int .i64 z]] w fun e w'=> ∃q:Option Addr×Nat,True/\e= .returned (.tuple #[.agg #[.slice q.1 R.1.length q.2],.int .i64 R.2])/\Cw w.heap.size w [ap (.slice q.1 R.1.length q.2) R.1] w':=by
 have bl:=bB hl
 unfold fq at hR
 refine enter Tryz.func12 rfl Tryz.ntmps12 rfl<|aj ?_
 refine fun g1 _=>aj ?_
 refine fun g2 _=>aj ?_
 refine fun g3 _=>aj ?_
 refine fun g4 _=>aj ?_
 refine cy rfl FL (fun w hw=>mb Ap Aw cp cw fs l w (hw.ro hs) (hw.ro hl) hfit)<|aj ?_
 refine fun g5 _=>az (fun hz0=>?_) (fun hz0=>?_)
 ·have hz0:cS fs l=0:=hz0
  have hW:=mM hz0
  have h4:=hW.n4
  rw[if_neg (fun h=>h hz0)] at hR
  refine aj ?_
  refine cc rfl Tryz.call65 (fun w hw=>NN g5 Aw Ap l.length cw fs.length cp (.slice none 0 0) ⟨kd,o,z⟩ w (by omega) (hw.msub (.s fc .r))) (fun _ _=>bU (fun ha0=>?_) (fun ha0=>?_))
  ·have ha0:¬kE l.length ⟨kd,o,z⟩=0:=ha0
   rw[if_pos ha0] at hR
   subst hR
   refine aj ?_
   intro w hw
   exact⟨(none,0),trivial,rfl,(Cw.nilO ar hw).msub ms⟩
  have ha0:kE l.length ⟨kd,o,z⟩=0:=ha0
  rw[if_neg (fun h=>h ha0)] at hR
  obtain⟨hk4,ho⟩:=Cf ha0
  obtain⟨i,rfl⟩:=pm ho.1
  have hil:i<l.length:=by have:=ho.2;simp only at this;omega
  refine aj ?_
  refine cc rfl Tryz.call66 (fun w hw=>PC g5 Aw Ap cw cp (.slice none 0 0) fs l kd z i R hR hs hl hW hfit hil hk4 hz w (hw.msub (.s fc .r))) (fun⟨A5,c5⟩ _=>?_)
  refine aL ?_
  intro w hw
  exact⟨(A5,c5),trivial,rfl,hw.msub ms⟩
 have hz0:¬cS fs l=0:=hz0
 rw[if_pos hz0] at hR
 subst hR
 refine bU (fun h2=>?_) (fun h2=>?_)
 ·refine aj ?_
  intro w hw
  exact⟨(none,0),trivial,rfl,(Cw.nilO ar hw).msub ms⟩
 exact absurd h2 hz0
end
section
def gQ:List au:= [⟨0,[2],0,[⟨1,2⟩,⟨14,0⟩,⟨2,0⟩,⟨1,1⟩,⟨14,0⟩,⟨9,0⟩,⟨8,0⟩,⟨1,0⟩,⟨15,0⟩,⟨20,0⟩,⟨13,0⟩]⟩]
def kz:ar:=⟨[⟨0,0,[⟨true,0⟩],[]⟩],[],[],[],0,0⟩
def KZ:ar:=⟨[⟨0,6,[⟨true,2⟩],[]⟩],[[0,0],[0]],[],[],0,0⟩
def QZ:ar:=⟨[⟨0,6,[⟨true,1⟩],[]⟩],[[0]],[],[],0,0⟩
theorem rm (w:World):Calls Tryz.prog 64 #[] w fun e w'=> ∃g:Nat,True/\e= .returned (.agg #[.slice (some ⟨g,0,none⟩) 1 1])/\Cw w.heap.size w [ap (.slice (some ⟨g,0,none⟩) 1 1) gQ] w':=by
 refine enter Tryz.func64 rfl Tryz.ntmps64 rfl<|aj ?_
 refine fun g1 _=>aj ?_
 refine fun g2 _=>aj ?_
 refine fun g3 _=>aj ?_
 refine fun g4 _=>aj ?_
 intro w hw
 refine⟨_,trivial,rfl,?_⟩
 have h:=bG (α:=bd) (m:=11) [⟨1,2⟩,⟨14,0⟩,⟨2,0⟩,⟨1,1⟩,⟨14,0⟩,⟨9,0⟩,⟨8,0⟩,⟨1,0⟩,⟨15,0⟩,⟨20,0⟩,⟨13,0⟩] rfl (show∀o∈[(⟨1,2⟩:bd),⟨14,0⟩,⟨2,0⟩,⟨1,1⟩,⟨14,0⟩,⟨9,0⟩,⟨8,0⟩,⟨1,0⟩,⟨15,0⟩,⟨20,0⟩,⟨13,0⟩],aD o.c/\aD o.a from by decide) rfl (by decide) (hw.msub (T:= [am g3 _ _,am g2 _ _,am g4 _ _]) ms)
 have h:=bG (α:=Int) (m:=1) [2] rfl (fY (by decide)) rfl (by decide) (h.msub (T:= [am g2 _ _,ap (.slice (some ⟨g3,0,none⟩) 11 11) _,am g4 _ _]) ms)
 refine tx (H:= []) (xs:=gQ) (nU.cons (Hel:= [ap (.slice (some ⟨g2,0,none⟩) 1 1) [(2:Int)],ap (.slice (some ⟨g3,0,none⟩) 11 11) [(⟨1,2⟩:bd),⟨14,0⟩,⟨2,0⟩,⟨1,1⟩,⟨14,0⟩,⟨9,0⟩,⟨8,0⟩,⟨1,0⟩,⟨15,0⟩,⟨20,0⟩,⟨13,0⟩]]) (cs:= [_,_,_,_]) (sN (f:=⟨0,[2],0,[⟨1,2⟩,⟨14,0⟩,⟨2,0⟩,⟨1,1⟩,⟨14,0⟩,⟨9,0⟩,⟨8,0⟩,⟨1,0⟩,⟨15,0⟩,⟨20,0⟩,⟨13,0⟩]⟩) (by decide)) nU.nil_) rfl (by decide) ?_
 exact h.msub (T:= [am g4 _ _,ap (.slice (some ⟨g2,0,none⟩) 1 1) _,ap (.slice (some ⟨g3,0,none⟩) 11 11) _]) ms
theorem sM:dU gQ=0/\pY gQ=kz/\Oe gQ kz 10=0/\QD gQ kz 10=(KZ,0)/\fu gQ KZ=0/\QN gQ KZ=(QZ,1)/\eI KZ= [2]:=by
 refine⟨?_,?_,?_,?_,?_,?_,?_⟩ <;> kernel_rfl
def Ay (fs:List au) (m:ar):List Int:=if fu fs m=0 then eI m else []
theorem Qr (Ap:Option Addr) (cp:Nat) (fs:List au) (a:MA) (m:ar) (r:List Int) (hr:Ay fs m=r) (w:World) (hs:Sl w (.slice Ap fs.length cp) fs) (hm:fd w.heap.size w a m) (hfit:mF m.F) :
  Calls Tryz.prog 57 #[.agg #[.slice Ap fs.length cp],.agg #[.slice a.Af m.F.length a.cf,.slice a.Ab m.B.length a.cb,.slice a.Ai m.I.length a.ci,.slice a.Ao m.out.length a.co,.int .i64 m.S,.int .i64 m.T]] w fun e w'=> ∃q:Option Addr×Nat,True/\e= .returned (.tuple #[.slice q.1 r.length q.2,.int .i64 (fu fs m)])/\Cw w.heap.size w [ap (.slice q.1 r.length q.2) r] w':=by
 refine enter Tryz.func57 rfl Tryz.ntmps57 rfl<|aj ?_
 refine fun g1 _=>aj ?_
 refine fun g2 _=>aj ?_
 refine cy rfl Tryz.call45 (fun w hw=>vY Ap cp fs a m w (hw.ro hs) (fd.ro hw hm) hfit)<|bU (fun h=>?_) (fun h=>?_)
 ·have h:¬fu fs m=0:=h
  have e:r= []:=by rw[<-hr];unfold Ay;rw[if_neg h]
  subst e
  refine aj ?_
  intro w hw
  exact⟨(none,0),trivial,rfl,(Cw.nilO Int hw).msub ms⟩
 have h:fu fs m=0:=h
 obtain⟨hF,hR⟩:=DW h
 have e:r=eI m:=by rw[<-hr];unfold Ay;rw[if_pos h]
 subst e
 refine aj ?_
 refine eQ rfl Tryz.call116 (fun w hw=>AF fs a m w (fd.ro hw hm) hF hR) (fun⟨R1,r1⟩ _=>?_)
 refine aL ?_
 intro w hw
 exact⟨(R1,r1),trivial,by rw[h],hw.msub ms⟩
theorem MC:mF kz.F:=by
 refine⟨by decide,fun x hx=>?_⟩
 have:x=⟨0,0,[⟨true,0⟩],[]⟩:=by simpa [kz] using hx
 subst this
 decide
theorem EW (A:Option Addr) (c:Nat) (w:World) (hs:Sl w (.slice A 1 c) gQ) :
  Calls Tryz.prog 54 #[.agg #[.slice A 1 c]] w fun e w'=> ∃g:MA,True/\
   e= .returned (.tuple #[.agg #[.slice g.Af 1 g.cf,.slice g.Ab 0 g.cb,.slice g.Ai 0 g.ci,.slice g.Ao 0 g.co,.int .i64 0,.int .i64 0],.int .i64 0])/\Cw w.heap.size w [ap (.slice g.Af 1 g.cf) kz.F,ap (.slice g.Ab 0 g.cb) kz.B,ap (.slice g.Ai 0 g.ci) kz.I,ap (.slice g.Ao 0 g.co) kz.out] w':=by
 have:=vW A c gQ kz sM.2.1 w hs
 rw[sM.1] at this
 exact this
end
section
theorem yI (A1 A2:Option Addr) (n1 n2 c1 c2:Nat) (l1 l2:List ar) (w:World) (h1:br w w.heap.size (.slice A1 n1 c1) l1) (h2:br w w.heap.size (.slice A2 n2 c2) l2) (e1:l1.length=n1) (e2:l2.length=n2) :
  Calls Tryz.prog 13 #[.agg #[.slice A1 n1 c1],.agg #[.slice A2 n2 c2]] w fun e w'=>e= .returned (.bool (decide (l1=l2)))/\Below w.heap.size w w':=by
 subst e1 e2
 have b1:=bB h1
 refine enter Tryz.func13 rfl Tryz.ntmps13 rfl<|aj ?_
 refine fun g1 _=>aj ?_
 refine fun g2 _=>bU (fun e6=>?_) (fun e6=>?_)
 ·refine aj ?_
  intro w hw
  exact⟨aM (by rw[decide_eq_false (fun h=>e6 (by rw[h]))]),hw.below⟩
 have e6:l1.length=l2.length:=by omega
 refine aj ?_
 refine dG (fun i:Nat=>i<=l1.length/\l1.take i=l2.take i) (fun i=>l1.length - i) (fun i=> [(2,.pointer (some ⟨g1,0,none⟩)),(3,.pointer (some ⟨g2,0,none⟩)),(5,.int .i64 (i:Int))]) (fun _=> [am g1 [.slice A1 l1.length c1] 27,am g2 [.slice A2 l2.length c2] 27]) 0 (⟨bn _,rfl⟩) ?_
 rintro i hi'
 obtain⟨hi,hj⟩:i<=l1.length/\l1.take i=l2.take i:=hi'
 refine az (fun hlt=>?_) (fun hlt=>?_)
 ·have hil:i<l1.length:=by omega
  have hil2:i<l2.length:=by omega
  obtain⟨a,hm1,hc1⟩:=h1.mc hil
  obtain⟨b,hm2,hc2⟩:=h2.mc hil2
  refine gB (gz ?_)
  refine cM<|gZ<|dD (fun _:Unit=>True) (fun _=> [(2,.pointer (some ⟨g1,0,none⟩)),(3,.pointer (some ⟨g2,0,none⟩)),(5,.int .i64 (i:Int)),(31,.bool (!decide (aw l1 i=aw l2 i)))]) (fun _=> [am g1 [.slice A1 l1.length c1] 27,am g2 [.slice A2 l2.length c2] 27]) ?_ ?_
  ·refine bR [0,3,6,9,12,15,18,21,24,27,32,33] [] rfl<|aj ?_
   refine tE rfl (bX (k:=i) dZ dX (.ro h1) (by omega) rfl rfl rfl) ?_
   refine tE rfl (fj (hc1 _) rfl rfl mH dX)<|aj ?_
   refine tE rfl (bX (k:=i) dZ dX (.ro h2) (by omega) rfl rfl rfl) ?_
   refine tE rfl (fj (hc2 _) rfl rfl mH dX) ?_
   refine kT rfl rfl Tryz.call15 (fun w hw=>sj a b (aw l1 i) (aw l2 i) w (hm1.ro hw) (hm2.ro hw))<|aj ?_
   refine cu<|du () (trivial)
  rintro⟨⟩ _
  try dsimp only
  refine cg rfl (fun f=>?_) (fun f=>?_)
  ·refine aj ?_
   intro w hw
   exact⟨aM (by rw[decide_eq_false (fun h=>kI f (by rw[h]))]),hw.below⟩
  have f:=jE f
  refine aj ?_
  refine dw (i+1) (⟨by show i+1<=_;omega,qL default hil hil2 hj f⟩) (by show _ - _<_ - _;omega)
 obtain rfl:i=l1.length:=by omega
 rw[aR,e6,aR] at hj
 refine aj ?_
 intro w hw
 exact⟨aM (by rw[decide_eq_true hj]),hw.below⟩
end
section
def rP (i:List Int) (s:Int):ar:=⟨[⟨0,0,[],[]⟩],[],i,[],s,0⟩
def dP:List ar:= [iP,iP]
def po:List ar:= [rP [3] 0,rP [] 0]
def lL:List ar:= [rP [] 1,rP [9] 0]
def kS:List ar:= [rP [81] 0,rP [] 1]
theorem la:cS aP dP=0/\jB aP dP 0 3=0/\nt aP dP 0 3=po/\iz aP po 50=0/\mh aP po 50=lL/\iz aP lL 50=0/\mh aP lL 50=kS/\cS aP kS=0/\zk aP kS=(kS,0):=by
 refine⟨?_,?_,?_,?_,?_,?_,?_,?_,?_⟩ <;> kernel_rfl
theorem tO {a b:ar} (h1:a.F=iP.F) (h2:b.F=iP.F):kW [a,b]:=by
 refine⟨by show 2*112<=_;decide,fun m hm=>?_⟩
 have:m=a\/m=b:=by simpa using hm
 rcases this with rfl | rfl
 ·rw[h1];exact D3
 rw[h2];exact D3
theorem vj:kW dP:=tO rfl rfl
theorem BE:kW po:=tO rfl rfl
theorem BD:kW lL:=tO rfl rfl
theorem Pb:kW kS:=tO rfl rfl
theorem qu:po.length=2:=rfl
theorem kw:lL.length=2:=rfl
theorem nB:kS.length=2:=rfl
theorem na:dP.length=2:=rfl
theorem N1:aw lL 1=rP [9] 0:=rfl
theorem Ll:aw kS 0=rP [81] 0:=rfl
section
variable {A Aw:Option Addr} {c cw:Nat} {w:World}
theorem FX (A Aw:Option Addr) (c cw:Nat) (w:World) (hs:Sl w (.slice A 2 c) aP) (hl:Sl w (.slice Aw 2 cw) dP) :
  Calls Tryz.prog 20 #[.agg #[.slice A 2 c],.agg #[.slice Aw 2 cw]] w fun e w'=>e= .returned (.int .i64 0)/\Below w.heap.size w w':=by
 have:=mb A Aw c cw aP dP w hs hl vj
 rw[la.1] at this
 exact this
theorem I0 (A Aw:Option Addr) (c cw:Nat) (w:World) (hs:Sl w (.slice A 2 c) aP) (hl:Sl w (.slice Aw 2 cw) dP) :
  Calls Tryz.prog 39 #[.agg #[.slice A 2 c],.agg #[.slice Aw 2 cw],.int .i64 0,.int .i64 3] w fun e w'=> ∃g:Option Addr×Nat,True/\e= .returned (.tuple #[.agg #[.slice g.1 2 g.2],.int .i64 0])/\Cw w.heap.size w [ap (.slice g.1 2 g.2) po] w':=by
 have:=xD A Aw c cw aP dP 0 3 (by decide) po la.2.2.1 w hs hl vj
 rw[la.2.1] at this
 exact this
theorem mO {l r:List ar} (h2:l.length=2) (h3:r.length=2) (hf:kW l) (he:iz aP l 50=0) (hr:mh aP l 50=r) (A Aw:Option Addr) (c cw:Nat) (w:World) (hs:Sl w (.slice A 2 c) aP) (hl:Sl w (.slice Aw 2 cw) l) :
  Calls Tryz.prog 38 #[.agg #[.slice A 2 c],.agg #[.slice Aw 2 cw],.int .i64 50] w fun e w'=> ∃g:Option Addr×Nat,True/\e= .returned (.tuple #[.agg #[.slice g.1 2 g.2],.int .i64 0])/\Cw w.heap.size w [ap (.slice g.1 2 g.2) r] w':=by
 have:=xC A Aw c cw aP l 50 r hr w hs (by rw[h2];exact hl) hf
 rw[he,h2,h3] at this
 exact this
theorem uH (A Aw:Option Addr) (c cw:Nat) (w:World) (hs:Sl w (.slice A 2 c) aP) (hl:Sl w (.slice Aw 2 cw) kS) :
  Calls Tryz.prog 37 #[.agg #[.slice A 2 c],.agg #[.slice Aw 2 cw]] w fun e w'=> ∃g:Option Addr×Nat,True/\e= .returned (.tuple #[.agg #[.slice g.1 2 g.2],.int .i64 0,.int .i64 0])/\Cw w.heap.size w [ap (.slice g.1 2 g.2) kS] w':=by
 obtain⟨_,_,_,_,_,_,_,f8,f9⟩:=la
 have:=FO A Aw c cw aP kS (kS,0) f9 w hs hl Pb
 rw[f8] at this
 exact this
end
theorem AT (w:World):Calls Tryz.prog 71 #[] w fun e w'=> ∃g:Option Addr×Nat,True/\e= .returned (.agg #[.slice g.1 2 g.2])/\Cw w.heap.size w [ap (.slice g.1 2 g.2) dP] w':=by
 obtain⟨f1,f2,f3,f4,f5,f6,f7,f8,f9⟩:=EO
 refine enter Tryz.func71 rfl Tryz.ntmps71 rfl<|aj ?_
 refine fun g1 _=>aj ?_
 refine eQ rfl iJ (fun w hw=>eO w) (fun gp _=>?_)
 refine eQ rfl RI (fun w hw=>ut f6 f7 rfl _ _ w (SF.at_ (SF.own rfl fc) hw)) (fun a1 _=>aj ?_)
 intro g2 _
 refine eP (ey _ fc dX rfl rfl rfl rfl rfl (by rfl) rfl (by rfl)) rfl rfl (fun _ _=>?_)
 refine aH ?_
 refine bL<|aj ?_
 refine eQ rfl iJ (fun w hw=>eO w) (fun gq _=>?_)
 refine eQ rfl RI (fun w hw=>ut f6 f7 rfl _ _ w (SF.at_ (SF.own rfl fc) hw)) (fun a2 _=>aj ?_)
 intro g3 _
 refine eP (ey _ fc dX rfl rfl rfl rfl rfl (by rfl) rfl (by rfl)) rfl rfl (fun _ _=>?_)
 refine aH ?_
 refine bL<|aj ?_
 refine fun g4 _=>aj ?_
 intro w hw
 refine⟨(some ⟨g4,0,none⟩,2),trivial,rfl,?_⟩
 refine tx (H:= []) (xs:=dP) (nU.cons (Hel:= [ap (.slice a1.Af 1 a1.cf) iP.F,ap (.slice a1.Ab 0 a1.cb) iP.B,ap (.slice a1.Ai 0 a1.ci) iP.I,ap (.slice a1.Ao 0 a1.co) iP.out]) (cs:= [_,_,_,_,_,_]) (oP (m:=iP) (by decide))
  (nU.cons (Hel:= [ap (.slice a2.Af 1 a2.cf) iP.F,ap (.slice a2.Ab 0 a2.cb) iP.B,ap (.slice a2.Ai 0 a2.ci) iP.I,ap (.slice a2.Ao 0 a2.co) iP.out]) (cs:= [_,_,_,_,_,_]) (oP (m:=iP) (by decide)) nU.nil_)) rfl (by decide) ?_
 exact hw.msub ms
theorem uU (A1 A2:Option Addr) (c1:Nat) (n:Int) (w:World) (h1:Sl w (.slice A1 1 c1) [n]) (h2:Sl w (.slice A2 1 1) [n]):Calls Tryz.prog 63 #[.slice A1 1 c1,.slice A2 1 1] w fun e w'=>e= .returned (.bool true)/\Below w.heap.size w w':=by
 have:=jC A1 A2 c1 1 [n] [n] w h1 h2
 rw[decide_eq_true rfl] at this
 exact this
attribute [irreducible] po lL kS dP
theorem Lk (w:World):Calls Tryz.prog 18 #[] w fun e w'=>e= .returned (.bool true)/\Below w.heap.size w w':=by
 obtain⟨f1,f2,f3,f4,f5,f6,f7,f8,f9⟩:=la
 refine enter Tryz.func18 rfl Tryz.ntmps18 rfl<|aj ?_
 refine eQ rfl iJ (fun w hw=>eO w) (fun gp _=>?_)
 refine eQ rfl Tryz.call71 (fun w hw=>AT w) (fun⟨P1,p1⟩ _=>?_)
 try dsimp only
 refine eQ rfl Tryz.call39 (fun w hw=>I0 _ P1 _ p1 w (SF.at_ (SF.own rfl fc) hw) (SF.at_ (SF.own (xs:=dP) na fc) hw)) (fun⟨A1,a1⟩ _=>?_)
 refine aL ?_
 intro g1 _
 refine eP (ey _ fc yG rfl rfl rfl rfl rfl (by rfl) rfl (by rfl)) rfl rfl (fun _ _=>?_)
 refine aH ?_
 refine bL<|dD (fun _:Nat×Option Addr×Nat=>True) (fun g=> [(2,.int .i64 0),(3,.pointer (some ⟨g.1,0,none⟩)),(4,.int .i64 0)]) (fun g=> [am g.1 [.slice g.2.1 2 g.2.2] 27,ap (.slice g.2.1 2 g.2.2) lL]) ?_ ?_
 ·refine iH (.still 1 (.pick 0 (.pick 2 (.calm 3 (.calm 4 (.calm 5 (.pick 6 (.pick 7 (.calm 8 .done) .stop) .stop)))) (.pick 6 (.pick 2 (.calm 3 (.calm 4 (.calm 5 (.pick 7 (.calm 8 .done) .stop)))) .stop) .stop)) (.pick 6 (.pick 0 (.pick 2 (.calm 3 (.calm 4 (.calm 5 (.pick 7 (.calm 8 .done) .stop)))) .stop) .stop) .stop))) [2,3,4,5,7,8] rfl (by kernel_rfl) (by kernel_rfl) ?_
  refine aj ?_
  refine en rfl (mX rfl rfl rfl iJ (fun w hw=>eO w)) rfl rfl (.inr fun _=>ha) (fun gq _=>?_) ?_
  ·refine en rfl (mX rfl rfl rfl tV (fun w hw=>mO (l:=po) (r:=lL) qu kw BE f4 f5 _ A1 _ a1 w (SF.at_ (SF.own rfl fc) hw) (SF.at_ (SF.own (xs:=po) qu fc) hw))) rfl rfl (.inl rfl) (fun⟨A2,a2⟩ _=>?_) ?_
   ·refine aL ?_
    intro q _
    refine aj ?_
    refine cu<|du (q,A2,a2) (trivial) (hh:=(fun _ h=>h.msub ms))
   refine aj ?_
   intro q _
   refine jJ rfl rfl tV (fun w hw=>mO (l:=po) (r:=lL) qu kw BE f4 f5 _ A1 _ a1 w (SF.at_ (SF.own rfl fc) hw) (SF.at_ (SF.own (xs:=po) qu fc) hw)) (fun⟨A2,a2⟩ _=>?_)
   refine aL ?_
   refine cu<|du (q,A2,a2) (trivial) (hh:=(fun _ h=>h.msub ms))
  refine aj ?_
  intro q _
  refine jJ rfl rfl iJ (fun w hw=>eO w) (fun gq _=>?_)
  refine jJ rfl rfl tV (fun w hw=>mO (l:=po) (r:=lL) qu kw BE f4 f5 _ A1 _ a1 w (SF.at_ (SF.own rfl fc) hw) (SF.at_ (SF.own (xs:=po) qu fc) hw)) (fun⟨A2,a2⟩ _=>?_)
  refine aL ?_
  refine cu<|du (q,A2,a2) (trivial) (hh:=(fun _ h=>h.msub ms))
 rintro⟨gb,A2,a2⟩ _
 try dsimp only
 refine dD (fun _:Nat×Option Addr×Nat=>True) (fun g=> [(2,.int .i64 0),(3,.pointer (some ⟨gb,0,none⟩)),(4,.int .i64 0),(5,.pointer (some ⟨g.1,0,none⟩)),(6,.int .i64 0)]) (fun g=> [am g.1 [.slice g.2.1 2 g.2.2] 27,ap (.slice g.2.1 2 g.2.2) kS,am gb [.slice A2 2 a2] 27,ap (.slice A2 2 a2) lL]) ?_ ?_
 ·refine iH (.still 1 (.pick 0 (.pick 2 (.calm 3 (.calm 4 (.calm 5 (.pick 6 (.pick 7 (.calm 8 .done) .stop) .stop)))) (.pick 6 (.pick 2 (.calm 3 (.calm 4 (.calm 5 (.pick 7 (.calm 8 .done) .stop)))) .stop) .stop)) (.pick 6 (.pick 0 (.pick 2 (.calm 3 (.calm 4 (.calm 5 (.pick 7 (.calm 8 .done) .stop)))) .stop) .stop) .stop))) [2,3,4,5,7,8] rfl (by kernel_rfl) (by kernel_rfl) ?_
  refine aj ?_
  refine en rfl (mX rfl rfl rfl iJ (fun w hw=>eO w)) rfl rfl (.inr fun _=>ha) (fun gq _=>?_) ?_
  ·refine en rfl (mX rfl rfl rfl tV (fun w hw=>mO (l:=lL) (r:=kS) kw nB BD f6 f7 _ A2 _ a2 w (SF.at_ (SF.own rfl fc) hw) (SF.at_ (SF.own (xs:=lL) kw fc) hw))) rfl rfl (.inl rfl) (fun⟨A3,a3⟩ _=>?_) ?_
   ·refine aL ?_
    intro q _
    refine aj ?_
    refine cu<|du (q,A3,a3) (trivial) (hh:=(fun _ h=>h.msub ms))
   refine aj ?_
   intro q _
   refine jJ rfl rfl tV (fun w hw=>mO (l:=lL) (r:=kS) kw nB BD f6 f7 _ A2 _ a2 w (SF.at_ (SF.own rfl fc) hw) (SF.at_ (SF.own (xs:=lL) kw fc) hw)) (fun⟨A3,a3⟩ _=>?_)
   refine aL ?_
   refine cu<|du (q,A3,a3) (trivial) (hh:=(fun _ h=>h.msub ms))
  refine aj ?_
  intro q _
  refine jJ rfl rfl iJ (fun w hw=>eO w) (fun gq _=>?_)
  refine jJ rfl rfl tV (fun w hw=>mO (l:=lL) (r:=kS) kw nB BD f6 f7 _ A2 _ a2 w (SF.at_ (SF.own rfl fc) hw) (SF.at_ (SF.own (xs:=lL) kw fc) hw)) (fun⟨A3,a3⟩ _=>?_)
  refine aL ?_
  refine cu<|du (q,A3,a3) (trivial) (hh:=(fun _ h=>h.msub ms))
 rintro⟨gc,A3,a3⟩ _
 try dsimp only
 refine dD (fun _:Nat×Option Addr×Nat=>True) (fun g=> [(2,.int .i64 0),(3,.pointer (some ⟨gb,0,none⟩)),(4,.int .i64 0),(5,.pointer (some ⟨gc,0,none⟩)),(6,.int .i64 0),(7,.pointer (some ⟨g.1,0,none⟩)),(8,.int .i64 0),(9,.int .i64 0)]) (fun g=> [am g.1 [.slice g.2.1 2 g.2.2] 27,ap (.slice g.2.1 2 g.2.2) kS,am gc [.slice A3 2 a3] 27,ap (.slice A3 2 a3) kS,am gb [.slice A2 2 a2] 27,ap (.slice A2 2 a2) lL]) ?_ ?_
 ·refine iH (.still 1 (.pick 0 (.pick 2 (.calm 3 (.calm 4 (.calm 5 (.calm 6 (.pick 7 (.pick 8 (.calm 9 (.calm 10 .done)) .stop) .stop))))) (.pick 7 (.pick 2 (.calm 3 (.calm 4 (.calm 5 (.calm 6 (.pick 8 (.calm 9 (.calm 10 .done)) .stop))))) .stop) .stop)) (.pick 7 (.pick 0 (.pick 2 (.calm 3 (.calm 4 (.calm 5 (.calm 6 (.pick 8 (.calm 9 (.calm 10 .done)) .stop))))) .stop) .stop) .stop))) [2,3,4,5,6,8,9,10] rfl (by kernel_rfl) (by kernel_rfl) ?_
  refine aj ?_
  refine en rfl (mX rfl rfl rfl iJ (fun w hw=>eO w)) rfl rfl (.inr fun _=>ha) (fun gq _=>?_) ?_
  ·refine en rfl (mX rfl rfl rfl RK (fun w hw=>uH _ A3 _ a3 w (SF.at_ (SF.own rfl fc) hw) (SF.at_ (SF.own (xs:=kS) nB fc) hw))) rfl rfl (.inl rfl) (fun⟨A4,a4⟩ _=>?_) ?_
   ·refine aL ?_
    intro q _
    refine aj ?_
    refine cu<|du (q,A4,a4) (trivial) (hh:=(fun _ h=>h.msub ms))
   refine aj ?_
   intro q _
   refine jJ rfl rfl RK (fun w hw=>uH _ A3 _ a3 w (SF.at_ (SF.own rfl fc) hw) (SF.at_ (SF.own (xs:=kS) nB fc) hw)) (fun⟨A4,a4⟩ _=>?_)
   refine aL ?_
   refine cu<|du (q,A4,a4) (trivial) (hh:=(fun _ h=>h.msub ms))
  refine aj ?_
  intro q _
  refine jJ rfl rfl iJ (fun w hw=>eO w) (fun gq _=>?_)
  refine jJ rfl rfl RK (fun w hw=>uH _ A3 _ a3 w (SF.at_ (SF.own rfl fc) hw) (SF.at_ (SF.own (xs:=kS) nB fc) hw)) (fun⟨A4,a4⟩ _=>?_)
  refine aL ?_
  refine cu<|du (q,A4,a4) (trivial) (hh:=(fun _ h=>h.msub ms))
 rintro⟨gd,A4,a4⟩ _
 try dsimp only
 refine sT (v:= .slice A2 2 a2) (L:=lL) fc fun X hsX hX=>?_
 refine sT (v:= .slice A3 2 a3) (L:=kS) fc fun Y hsY hY=>?_
 obtain⟨b1,e1,_,hX1⟩:=hX.el 1 (by rw[kw];decide)
 obtain⟨c0,e2,_,hY1⟩:=hY.el 0 (by rw[nB];decide)
 rw[N1] at e1 hX1
 rw[Ll] at e2 hY1
 have lX:=hX.len.trans kw
 have lY:=hY.len.trans nB
 have R1:∀H H',bz H (ap (.slice A2 2 a2) hsX) H'->∀w1,Cw w.heap.size w H w1->w1.cell? ⟨ab A2,ao A2+1*6+2,none⟩=some (.slice b1.Ai 1 b1.ci):=fun _ _ f w1 hw=>(SF.hmc (SF.own (α:=dR) (m:=2) lX f) (k:=1) (by decide) e1) w1 hw 2 _ rfl
 have R2:∀H H',bz H (ap (.slice A3 2 a3) hsY) H'->∀w1,Cw w.heap.size w H w1->w1.cell? ⟨ab A3,ao A3+0*6+2,none⟩=some (.slice c0.Ai 1 c0.ci):=fun _ _ f w1 hw=>(SF.hmc (SF.own (α:=dR) (m:=2) lY f) (k:=0) (by decide) e2) w1 hw 2 _ rfl
 have T1:∀H H',bz H X H'->SF w.heap.size w H b1.Ai 1 b1.ci [(9:Int)]:=fun _ _ f=>(hX1 _ _ f).2.2.1
 have T2:∀H H',bz H Y H'->SF w.heap.size w H c0.Ai 1 c0.ci [(81:Int)]:=fun _ _ f=>(hY1 _ _ f).2.2.1
 clear hX1 hY1 e1 e2
 refine aj ?_
 refine eQ rfl iJ (fun w hw=>eO w) (fun gs _=>?_)
 refine eQ rfl Tryz.call71 (fun w hw=>AT w) (fun⟨P5,p5⟩ _=>?_)
 try dsimp only
 refine cy rfl FL (fun w hw=>FX _ P5 _ p5 w (SF.at_ (SF.own rfl fc) hw) (SF.at_ (SF.own (xs:=dP) na fc) hw)) ?_
 refine aH ?_
 refine aH ?_
 refine cH (t:=39) (v':= .bool false) rfl (rfl) ?_
 refine aH ?_
 refine aH ?_
 refine aH ?_
 refine aH ?_
 refine cH (t:=43) (v':= .bool false) rfl (rfl) ?_
 refine aH ?_
 refine aH ?_
 refine aH ?_
 refine aH ?_
 refine cH (t:=47) (v':= .bool false) rfl (rfl) ?_
 refine aH ?_
 refine aH ?_
 refine aH ?_
 refine aH ?_
 refine cH (t:=51) (v':= .bool false) rfl (rfl) ?_
 refine aH ?_
 refine aH ?_
 refine aH ?_
 refine aH ?_
 refine cH (t:=55) (v':= .bool false) rfl (rfl) ?_
 refine aH ?_
 refine dY (fi fc Cv rfl rfl (by rfl)) rfl rfl ?_
 refine dY (mo dZ rfl rfl) rfl rfl<|aH ?_
 refine aH ?_
 refine aH ?_
 refine cH (t:=61) (v':= .bool false) rfl (rfl) ?_
 refine aH ?_
 refine dY (fi fc Cv rfl rfl (by rfl)) rfl rfl ?_
 refine dY (mo dZ rfl rfl) rfl rfl<|aH ?_
 refine aH ?_
 refine aH ?_
 refine cH (t:=67) (v':= .bool false) rfl (rfl)<|aj ?_
 refine di (t:=72) (v':= .bool false) rfl (rfl) ?_
 refine cB rfl<|aj ?_
 refine dB (1) rfl ((SF.own (α:=dR) (m:=2) lX fc))<|aj ?_
 refine eR rfl (R1 _ _ fc)<|aj ?_
 intro g2 _
 refine ew (fun w h=>bG (α:=Int) (m:=1) [9] rfl (fY (by decide)) rfl (by decide) h) ?_
 refine cy rfl nV (fun w hw=>uU b1.Ai (some ⟨g2,0,none⟩) b1.ci 9 w (SF.at_ (T1 _ _ fc) hw) (SF.at_ (SF.own (A:=some ⟨g2,0,none⟩) (m:=1) (c:=1) (xs:= [(9:Int)]) rfl fc) hw)) ?_
 refine aH ?_
 refine cH (t:=80) (v':= .bool true) rfl (rfl)<|aj ?_
 refine dB (0) rfl ((SF.own (α:=dR) (m:=2) lY fc))<|aj ?_
 refine eR rfl (R2 _ _ fc)<|aj ?_
 intro g3 _
 refine ew (fun w h=>bG (α:=Int) (m:=1) [81] rfl (fY (by decide)) rfl (by decide) h) ?_
 refine cy rfl nV (fun w hw=>uU c0.Ai (some ⟨g3,0,none⟩) c0.ci 81 w (SF.at_ (T2 _ _ fc) hw) (SF.at_ (SF.own (A:=some ⟨g3,0,none⟩) (m:=1) (c:=1) (xs:= [(81:Int)]) rfl fc) hw)) ?_
 refine aH ?_
 refine aH ?_
 refine cH (t:=89) (v':= .bool true) rfl (rfl)<|aj ?_
 intro w hw
 exact⟨rfl,hw.below⟩
end
