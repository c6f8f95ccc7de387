/- Lemmas of one proof. -/
import Derived.Test.YthfkmcbblnbfaaaGreatDoorM0Q
import Derived.Test.YthfkmcbblnbfaaaGreatDoorM35Q
import Derived.Test.YthfkmcbblnbfaaaGreatDoorM23Q

namespace Go.Proofs.YthfkmcbblnbfaaaGreatDoor
set_option maxRecDepth 100000
set_option maxHeartbeats 16000000
open Go.RowKit
section
theorem lh (n a b:Int) (w:World):Calls Tryz.prog 181 #[.int .i64 n,.int .i64 a,.int .i64 b] w fun e w'=>e= .returned (.bool (bH n a b))/\Below w.heap.size w w':=by
 refine enter Tryz.func181 rfl Tryz.ntmps181 rfl<|df 10 (fun h1=>?_) (fun h1=>?_)
 ·refine aj ?_
  intro w hw
  exact⟨aM (by unfold bH;rw[h1];rfl),hw.below⟩
 refine aj ?_
 intro w hw
 exact⟨aM (by unfold bH;rw[h1];rfl),hw.below⟩
theorem Hj (n:Nat) (hn:n*16<=140737488355328) (w:World):Calls Tryz.prog 315 #[.slice none 0 0,.int .i64 (n:Int)] w fun e w'=> ∃g:Option Addr×Nat,True/\e= .returned (.slice g.1 0 g.2)/\Cw w.heap.size w [an (α:=aH) (.slice g.1 0 g.2) []] w':=by
 refine enter Tryz.func315 rfl Tryz.ntmps315 rfl<|az (fun h0=>?_) (fun h0=>?_)
 ·exact absurd h0 (by omega)
 refine aj ?_
 refine sE (Gv cE rfl rfl)<|aj ?_
 refine cT (t:=1) (v':= .int .i64 (n:Int)) rfl (by congr 1) ?_
 refine gJ rfl (fun h1=>?_) (fun h1=>?_)
 ·refine aj ?_
  refine sE (Gv cE rfl rfl) ?_
  refine sE (pz (k:=0) cE fj (aA _) rfl rfl rfl)<|aj ?_
  refine oE (LS (α:=aH) (bytes:=16) cE sb jc rfl (by decide) (by omega) (by omega) rfl rfl rfl) (fun⟨g,c⟩ _=>?_)
  refine aJ ?_
  refine sE (pz (k:=0) cE fj (bi _) rfl rfl rfl)<|aj ?_
  intro w hw
  exact⟨(some ⟨g,0,none⟩,c),trivial,rfl,hw⟩
 refine aj ?_
 intro w hw
 exact⟨(none,0),trivial,rfl,Cw.nilO aH hw⟩
theorem Ps (v:aH) (t:Int):gF v t=((v.ref == !decide (t=1)) && ((!decide (t=3)) || decide (v.n=0))):=by
 unfold gF
 cases v.ref <;> by_cases h1:t=1 <;> simp[h1]
theorem DN (v:aH) (t:Int) (w:World):Calls Tryz.prog 293 #[.agg #[.bool v.ref,.int .i64 v.n],.int .i64 t] w fun e w'=>e= .returned (.bool (gF v t))/\Below w.heap.size w w':=by
 have ha:=Ps v t
 generalize hq:gF v t=q at ha
 refine enter Tryz.func293 rfl Tryz.ntmps293 rfl<|aj ?_
 refine fun g1 _=>aj ?_
 refine sE (N9 Tryz.underlying4 rfl rfl rfl)<|df 10 (fun h1=>?_) (fun h1=>?_)
 ·rw[h1,Bool.true_and] at ha
  refine df 13 (fun h2=>?_) (fun h2=>?_)
  ·rw[h2,Bool.true_or] at ha
   refine aj ?_
   intro w hw
   exact⟨aM ha.symm,hw.below⟩
  rw[h2,Bool.false_or] at ha
  refine aj ?_
  intro w hw
  exact⟨aM ha.symm,hw.below⟩
 rw[h1,Bool.false_and] at ha
 refine aj ?_
 intro w hw
 exact⟨aM ha.symm,hw.below⟩
def Ri (a:MA) (m:ar) (pv:Value):List Value:= [.slice a.Af m.F.length a.cf,.slice a.Ab m.B.length a.cb,.slice a.Ai m.I.length a.ci,.slice a.Ao m.out.length a.co,.int .i64 m.S,.int .i64 m.T,pv]
section
variable {B:Nat} {w0:World} {H:List aC}
theorem E4 (gc:Nat) (a:MA) (m:ar) (pv:Value) (v:aH) (w:World) (hw:Cw B w0 (am gc [.slice a.Af m.F.length a.cf,.slice a.Ab m.B.length a.cb,.slice a.Ai m.I.length a.ci,.slice a.Ao m.out.length a.co,.int .i64 m.S,.int .i64 m.T,pv] 190::H) w) :
  Calls Tryz.prog 292 #[.pointer (some ⟨gc,0,none⟩),.agg #[.bool v.ref,.int .i64 v.n]] w fun e w'=> ∃_:Unit,True/\e= .returned (.int .i64 (if eH m.B.length v=true then 0 else 3))/\Cw B w0 (am gc [.slice a.Af m.F.length a.cf,.slice a.Ab m.B.length a.cb,.slice a.Ai m.I.length a.ci,.slice a.Ao m.out.length a.co,.int .i64 m.S,.int .i64 m.T,pv] 190::H) w':=by
 obtain⟨q,hq⟩:∃q,eH m.B.length v=q:=⟨_,rfl⟩
 rw[hq]
 obtain⟨r,z⟩:=v
 refine aY Tryz.func292 rfl Tryz.ntmps292 rfl hw<|aj ?_
 refine fun g1 _=>aj ?_
 refine bU [0,3,6,9,12,15,18,21,24,27,30,35,36,39,42,45,48,51,54,57,60,65,66,69,72] [] rfl<|aj ?_
 refine lD (t:=7) rfl (fun hr=>?_) (fun hr=>?_)
 ·have hq2:bH z 0 m.B.length=q:=by rw[<-hq];unfold eH;rw[if_pos hr]
  refine aj ?_
  refine kW rfl rfl Cr (fun w hw=>lh z 0 m.B.length w)<|aj ?_
  rw[hq2]
  refine lD (t:=19) rfl (fun hb=>?_) (fun hb=>?_)
  ·have hq3:q=false:=by simpa using hb
   subst hq3
   refine aj ?_
   refine qW rfl rfl rfl (.inr ha) ?_ gi
   refine aj ?_
   refine bo rfl<|aj ?_
   intro w hw
   exact⟨(),trivial,rfl,hw.msub ms⟩
  have hq3:q=true:=by simpa using hb
  subst hq3
  refine aj ?_
  refine lD (t:=23) rfl (fun h3=>?_) (fun h3=>?_)
  ·rw[hr] at h3
   cases h3
  refine aj ?_
  refine qW rfl rfl rfl (.inr ha) ?_ gi
  refine aj ?_
  refine bR rfl<|aj ?_
  intro w hw
  exact⟨(),trivial,rfl,hw.msub ms⟩
 have hq2:bB z=q:=by rw[<-hq];unfold eH;rw[if_neg (by rw[hr];decide)]
 refine aj ?_
 refine qW rfl rfl rfl (.inr ha) ?_ gi
 refine aj ?_
 refine lD (t:=23) rfl (fun h2=>?_) (fun h2=>?_)
 ·refine aj ?_
  refine kW rfl rfl Px ((fun w hw=>nA ((fun w hw=>oA z w) w hw)))<|aj ?_
  rw[hq2]
  refine cB rfl (fun h4=>?_) (fun h4=>?_)
  ·have hq3:q=false:=by simpa using h4
   subst hq3
   refine aj ?_
   intro w hw
   exact⟨(),trivial,rfl,hw.msub ms⟩
  have hq3:q=true:=by simpa using h4
  subst hq3
  refine aj ?_
  intro w hw
  exact⟨(),trivial,rfl,hw.msub ms⟩
 rw[hr] at h2
 cases h2
end
end
section
def QZ (pc:Int) (es:List jj):Option Nat:=es.findIdx? fun x=>decide (x.pc=pc)
def hent (l:List jj) (k:Nat):jj:=l.getD k ⟨0,.slice none 0 0⟩
theorem SF.hent {B:Nat} {w0:World} {H:List aC} {A:Option Addr} {xs:List jj} {m c k:Nat} (hs:SF B w0 H A m c xs) (hk:k<m):∀w,Cw B w0 H w->∀j v,([.int .i64 (hent xs k).pc,(hent xs k).v]:List Value)[j]? =some v->w.cell? ⟨ab A,ao A+k*2+j,none⟩=some v:=fun w hw _ _ hv=>SF.cell hs hk _ hv w hw
theorem Ka (g:Nat) (pc q:Int) (v:Value) (w:World) (hlt:g<w.heap.size) (hc:w.cell? ⟨g,0,none⟩=some (.int .i64 pc)) :
  Calls Tryz.prog 323 #[.agg #[.int .i64 q,v],.pointer (some ⟨g,0,none⟩)] w fun e w'=>e= .returned (.bool (decide (q=pc)))/\Below w.heap.size w w':=by
 refine enter Tryz.func323 rfl Tryz.ntmps323 rfl<|aj ?_
 refine fun g1 _=>aj ?_
 refine eM rfl (fun w' hw=>(hw.below.cell hlt).trans hc)<|aj ?_
 intro w hw
 exact⟨rfl,hw.below⟩
theorem Mh (A:Option Addr) (c:Nat) (es:List jj) (g:Nat) (pc:Int) (w:World) (hs:Sl w (.slice A es.length c) es) (hlt:g<w.heap.size) (hc:w.cell? ⟨g,0,none⟩=some (.int .i64 pc)) :
  Calls Tryz.prog 322 #[.slice A es.length c,.func (.func 323) #[] #[.pointer (some ⟨g,0,none⟩)]] w fun e w'=> ∃r:Int,((r= -1/\∀i,i<es.length->(hent es i).pc≠pc)\/∃i:Nat,r=i/\i<es.length/\(hent es i).pc=pc/\∀j,j<i->(hent es j).pc≠pc)/\e= .returned (.int .i64 r)/\Cw w.heap.size w [] w':=by
 have b1:=bx hs
 refine enter Tryz.func322 rfl Tryz.ntmps322 rfl<|aj ?_
 refine dG (fun k:Nat=>k<=es.length/\∀j,j<k->(hent es j).pc≠pc) (fun k=>es.length - k) (fun k=> [(0,.slice A es.length c),(1,.func (.func 323) #[] #[.pointer (some ⟨g,0,none⟩)]),(7,.int .i64 (es.length:Int)),(8,.int .i64 (k:Int))]) (fun _=> []) 0 (⟨bi _,fun _ h=>absurd h (lJ _)⟩) ?_
 rintro k hk'
 obtain⟨hk,hno⟩:k<=es.length/\∀j,j<k->(hent es j).pc≠pc:=hk'
 refine az (fun hlt'=>?_) (fun hlt'=>?_)
 ·have hkl:k<es.length:=by omega
  refine aj ?_
  refine dA (_) rfl ((.ro hs)) ?_
  refine iX rfl (SF.hent (SF.ro hs) hkl) ?_
  refine oE (sG rfl rfl rfl Tryz.call323 (fun w hw=>Ka g pc _ _ w (Nat.lt_of_lt_of_le hlt hw.le) ((hw.below.cell hlt).trans hc))) (fun _ _=>az (fun hp=>?_) (fun hp=>?_))
  ·refine aj ?_
   intro w hw
   exact⟨(k:Int),.inr ⟨k,rfl,hkl,hp,hno⟩,rfl,hw⟩
  refine aj ?_
  refine dv (k+1) (⟨by show k+1<=_;omega,fun j hj=>(jq j k).elim (hno j) (fun h=>by obtain rfl:j=k:=(by omega);exact hp)⟩) (by show _ - _<_ - _;omega)
 obtain rfl:k=es.length:=by omega
 refine aj ?_
 intro w hw
 exact⟨-1,.inl ⟨rfl,hno⟩,rfl,hw⟩
section
variable {B:Nat} {w0:World} {H:List aC}
theorem AM {L:List (Value×List Int)} {v:Value} {xs:List Int} {w:World} (hi:kY L v xs) (h:Cw B w0 (iI L::H) w):Cw B w0 (kX v xs::H) w:=by
 rcases hi with ⟨rfl,rfl⟩ | hi
 ·exact h.upd fun F ho _=>⟨fun _=>False,⟨fun _ h=>h.elim,fun _ _=>Sl.nil_⟩,rfl,rfl,rfl,aA _,fun _ _ _=>rfl,fun b hb=>hb.elim⟩
 refine h.upd fun F ho _=>?_
 obtain⟨F',h5,h6⟩:=Hs.mem (ph (f:=fun p:Value×List Int=>kX p.1 p.2) hi) (show Hs w _ F from ho)
 exact⟨F',h5,rfl,rfl,rfl,aA _,fun _ _ _=>rfl,fun b hb=> .inl (h6 b hb)⟩
theorem Lz {A:Option Addr} {m c k:Nat} {xs:List Int} {w:World} (hk:k<=m) (h:Cw B w0 (kX (.slice A m c) xs::H) w):Cw B w0 (kX (.slice A k c) (xs.take k)::H) w:=by
 refine h.upd fun F ho _=>⟨F,⟨ho.1,fun w' hw'=>?_⟩,rfl,rfl,rfl,aA _,fun _ _ _=>rfl,fun b hb=> .inl hb⟩
 have:=(ho.2 w' hw').cut 0 k (bi _) hk
 rw[BJ,vl,vl,pH] at this
 exact this
theorem qj {w:World} (h:Cw B w0 H w):Cw B w0 (kX (.slice none 0 0) ([]:List Int)::H) w:=AM kY.nil_ (oJ h)
end
theorem Mm {xs:List jN} {pc:Int} {i:Nat} (hi:i<xs.length) (h1:xs[i].pc=pc) (h2:∀j (_:j<i) (h:j<xs.length),xs[j].pc≠pc):(xs.find? fun e=>decide (e.pc=pc))=some xs[i]:=by
 induction xs generalizing i with
 | nil=>simp at hi
 | cons x xs ih=>
  cases i with
  | zero=>rw[List.find?_cons_of_pos (by simpa using h1)];rfl
  | succ i=>
   rw[List.find?_cons_of_neg (by have h3:=h2 0 (by omega) (by simp);rw[List.getElem_cons_zero] at h3;simpa using h3)]
   exact ih (by simpa using hi) h1 fun j hj h=>h2 (j+1) (by omega) (by simpa using h)
theorem Ml {xs:List jN} {pc:Int} (h2:∀j (h:j<xs.length),xs[j].pc≠pc):(xs.find? fun e=>decide (e.pc=pc))=none:=by
 rw[List.find?_eq_none]
 intro e he
 obtain⟨j,hj,rfl⟩:=db he
 simpa using h2 j hj
theorem tI {es:List jj} {i:Nat} (h:i<es.length):hent es i=es[i]:=by
 unfold hent
 rw[ak,ap h]
 rfl
theorem yo (Ap:Option Addr) (cp:Nat) (fs:List au) (k:Nat) (pc:Int) (q:Option (List Int)) (hq:gA fs (av fs k) pc=q) (w:World) (hs:Sl w (.slice Ap fs.length cp) fs) (hk:k<fs.length) (hok:pS fs (av fs k)) (hn0:0<(av fs k).C.length) :
  Calls Tryz.prog 316 #[.agg #[.slice Ap fs.length cp],.int .i64 (k:Int),.int .i64 pc] w fun e w'=> ∃g:Option Addr×Nat,True/\e= .returned (.tuple #[.slice g.1 (q.getD []).length g.2,.bool q.isSome])/\
   Cw w.heap.size w [kX (.slice g.1 (q.getD []).length g.2) (q.getD [])] w':=by
 refine enter Tryz.func316 rfl Tryz.ntmps316 rfl<|aj ?_
 refine fun g1 _=>aj ?_
 refine fun g2 _=>aj ?_
 refine eL rfl Re (fun w hw=>pO Ap cp fs k w (hw.ro hs) hk hok hn0) (fun⟨⟨A1,c1⟩,es,L⟩ hre=>?_)
 refine aJ ?_
 refine eL rfl Tryz.call322 (fun w hw=>Mh A1 c1 es g2 pc w (SF.at_ (SF.own rfl fc) hw) (kG hw fc) (fg fc rfl w hw)) (fun r hr=>aj ?_)
 have hre:pb es L (di fs (av fs k)).1:=hre
 have hl:=hre.len
 refine gJ rfl (fun h0=>?_) (fun h0=>?_)
 ·have hq2:q=none:=by
   rcases hr with ⟨_,h⟩ | ⟨i,h,_⟩
   ·rw[<-hq]
    unfold gA
    rw[Ml (fun j hj=>by
     have hj':j<es.length:=by omega
     have:=h j hj'
     rw[tI hj',(hre.el j hj' hj).1] at this
     exact this)]
    rfl
   omega
  subst hq2
  refine aj ?_
  intro w hw
  exact⟨(none,0),trivial,rfl,(qj hw).msub ms⟩
 obtain⟨i,hi,hlt,hpc,hno⟩:∃i:Nat,r=i/\i<es.length/\(hent es i).pc=pc/\∀j,j<i->(hent es j).pc≠pc:=hr.elim (fun h=>by omega) id
 subst hi
 have hlt2:i<(di fs (av fs k)).1.length:=by omega
 obtain⟨e1,e2⟩:=hre.el i hlt hlt2
 have hq2:q=some (di fs (av fs k)).1[i].K:=by
  rw[<-hq]
  unfold gA
  rw[Mm hlt2 (by rw[<-e1,<-tI hlt];exact hpc) (fun j hj h=>by
   have hj':j<es.length:=by omega
   have:=hno j hj
   rw[tI hj',(hre.el j hj' h).1] at this
   exact this)]
  rfl
 subst hq2
 rw[<-tI hlt] at e2
 refine aj ?_
 refine dA (i) rfl ((SF.own (xs:=es) rfl fc))<|aj ?_
 refine eM rfl (fun w hw=>SF.hent (SF.own (xs:=es) rfl fc) hlt w hw 1 _ rfl)<|aj ?_
 intro w hw
 obtain⟨A5,c5,e5⟩:=e2.form hw fc
 rw[e5] at e2⊢
 exact⟨(A5,c5),trivial,rfl,(AM e2 (hw.msub (T:=iI L:: []) ms)).msub ms⟩
end
section
theorem C1 {fs:List au} (hF:fq fs) {k:Nat} (hk:k<fs.length) {pc to_:Int} {t0 t:List Int} (hc:jz (av fs k) pc to_=true) (h0:gA fs (av fs k) (pc - 1)=some t0) (h1:gA fs (av fs k) pc=some t) (hr:(av fs to_.toNat).result≠0):1<=t.length:=by
 unfold jz at hc
 simp only[cY,decide_eq_true_eq] at hc
 obtain⟨_,hcc,hca⟩:=hc
 obtain⟨_,_,_,_,v0,hv0,hn0⟩:=(hF.e _ hk).at_ _ _ h0
 generalize bt (av fs k).C (pc - 1).toNat=oz at hcc hca hv0 hn0
 obtain⟨t',ht',hle⟩:=hn0 pc (by simp[dm,hcc])
 rw[h1] at ht'
 have ht':=eh ht'
 subst ht'
 obtain⟨T0,V0,e0,_,_,_,rfl⟩:=ko.1 hv0
 simp[tl,hcc] at e0
 obtain⟨rfl,rfl⟩:=e0
 rw[hca] at hle
 unfold bP at hle
 rw[if_neg hr] at hle
 have:=(xg hle).2.1
 omega
theorem pG {f:au} {pc to_:Int} :jz f pc to_=(bH pc 1 f.C.length && (decide ((bt f.C (pc - 1).toNat).c=12) && decide ((bt f.C (pc - 1).toNat).a=to_))):=rfl
section
variable {B:Nat} {w0:World} {H:List aC}
theorem HN (gc:Nat) (a:MA) (m:ar) (Ap:Option Addr) (cp:Nat) (fs:List au) (hs:bE w0 B (.slice Ap fs.length cp) fs) (hm:fi B w0 a m) (hF:fq fs) (i:Nat) (hi:i<m.F.length) (hfn:∀x∈m.F,0<=x.func/\x.func<fs.length) (q:Option (List Int)) (hq:gU fs m.F i=q) (w:World) (hw:Cw B w0 (am gc [.slice a.Af m.F.length a.cf,.slice a.Ab m.B.length a.cb,.slice a.Ai m.I.length a.ci,.slice a.Ao m.out.length a.co,.int .i64 m.S,.int .i64 m.T,.slice Ap fs.length cp] 190::H) w) :
  Calls Tryz.prog 294 #[.pointer (some ⟨gc,0,none⟩),.int .i64 (i:Int)] w fun e w'=> ∃g:Option Addr×Nat,True/\e= .returned (.tuple #[.slice g.1 (q.getD []).length g.2,.bool q.isSome])/\Cw B w0 (kX (.slice g.1 (q.getD []).length g.2) (q.getD [])::am gc [.slice a.Af m.F.length a.cf,.slice a.Ab m.B.length a.cb,.slice a.Ai m.I.length a.ci,.slice a.Ao m.out.length a.co,.int .i64 m.S,.int .i64 m.T,.slice Ap fs.length cp] 190::H) w':=by
 have bf:=bx hm.f
 have bp:=bx hs
 obtain⟨A1,c1,A2,c2,hl,hst,hI,hcell⟩:=hm.f.fr hi
 have hx:=hfn _ (fY hi)
 obtain⟨kf,hkf⟩:∃kf:Nat,(aP m.F i).func=kf:=⟨(aP m.F i).func.toNat,by omega⟩
 have hkl:kf<fs.length:=by omega
 obtain⟨hok,hn0⟩:=jp hF.p hkl
 obtain⟨F1,d1,F2,d2,hfl,hfc,hfi,hfcell⟩:=hs.fn hkl
 have bc:=bx hfc
 have hff:iY fs m.F i=av fs kf:=by unfold iY;rw[hkf,bj]
 obtain⟨pc,hpc⟩:∃pc,(aP m.F i).pc=pc:=⟨_,rfl⟩
 unfold gU at hq
 rw[hff,hpc] at hq
 rw[hkf,hpc] at hcell
 rw[hpc] at hI
 obtain⟨q1,hq1⟩:∃q1,gA fs (av fs kf) pc=q1:=⟨_,rfl⟩
 rw[hq1] at hq
 refine aY Tryz.func294 rfl Tryz.ntmps294 rfl hw<|aj ?_
 refine dA (i) rfl ((.ro hm.f)) ?_
 refine iX rfl (hcell _)<|aj ?_
 refine fun g1 _=>aj ?_
 refine bU [0,3,6,9,12,15,18,21,26,27,30,33,36,39] [] rfl<|aj ?_
 refine jt rfl rfl Tryz.call316 (fun w hw=>yo Ap cp fs kf pc q1 hq1 w (hw.ro hs) hkl hok hn0) (fun⟨A5,c5⟩ _=>?_)
 refine aJ ?_
 refine gJ rfl (fun h1=>?_) (fun h1=>?_)
 ·rw[if_pos (show i+1=m.F.length by omega)] at hq
  subst hq
  refine aj ?_
  intro w hw
  exact⟨(A5,c5),trivial,rfl,hw.msub ms⟩
 rw[if_neg (show¬i+1=m.F.length by omega)] at hq
 have hi2:i+1<m.F.length:=by omega
 obtain⟨A3,c3,A4,c4,hl2,hst2,hI2,hcell2⟩:=hm.f.fr hi2
 have hy:=hfn _ (fY hi2)
 obtain⟨ky,hky⟩:∃ky:Nat,(aP m.F (i+1)).func=ky:=⟨(aP m.F (i+1)).func.toNat,by omega⟩
 have hkyl:ky<fs.length:=by omega
 have hfy:iY fs m.F (i+1)=av fs ky:=by unfold iY;rw[hky,bj]
 rw[hky] at hcell2
 rw[hfy,hky] at hq
 refine aj ?_
 refine dA ((i+1)) rfl ((.ro hm.f))<|aj ?_
 refine eM rfl (fun w hw=>hcell2 _ w hw 0 _ rfl)<|aj ?_
 refine bU [0,3,6,9,12,15,18,21,24,27,30] [] rfl<|aj ?_
 refine tE rfl (bZ (k:=kf) fE gv (.ro hs) (by omega) rfl rfl rfl)<|aj ?_
 refine tE rfl (dT (fun w hw=>hfcell _ w hw 3 _ rfl) rfl rfl Cm)<|aj ?_
 refine cA rfl Cr (fun w hw=>lh pc 1 (av fs kf).C.length w)<|df 70 (fun h2=>?_) (fun h2=>?_)
 ·have hc:jz (av fs kf) pc ky=false:=by
   rw[pG,show bH pc 1 (av fs kf).C.length=false from by simpa using h2]
   rfl
  rw[if_pos hc] at hq
  subst hq
  refine aj ?_
  refine bo rfl<|aj ?_
  intro w hw
  exact⟨(none,0),trivial,rfl,(qj hw).msub ms⟩
 have hw1:bH pc 1 (av fs kf).C.length=true:=by simpa using h2
 have hw2:=cW.1 hw1
 refine aj ?_
 refine xj rfl ((.ro hfc))<|aj ?_
 refine eM rfl (SF.opc (.ro hfc) (by omega))<|df 80 (fun h3=>?_) (fun h3=>?_)
 ·have hc:jz (av fs kf) pc ky=false:=by
   have h3:decide ((bt (av fs kf).C (pc - 1).toNat).c=12)=false:=by simpa using h3
   rw[pG,h3]
   simp
  rw[if_pos hc] at hq
  subst hq
  refine aj ?_
  refine bo rfl<|aj ?_
  intro w hw
  exact⟨(none,0),trivial,rfl,(qj hw).msub ms⟩
 have h3:decide ((bt (av fs kf).C (pc - 1).toNat).c=12)=true:=by simpa using h3
 refine aj ?_
 refine xj rfl ((.ro hfc))<|aj ?_
 refine eM rfl (SF.opa (.ro hfc) (by omega))<|bV (fun h4=>?_) (fun h4=>?_)
 ·have hc:jz (av fs kf) pc ky=false:=by
   rw[pG,decide_eq_false (p:=(bt (av fs kf).C (pc - 1).toNat).a=ky) h4]
   simp
  rw[if_pos hc] at hq
  subst hq
  refine aj ?_
  intro w hw
  exact⟨(none,0),trivial,rfl,(qj hw).msub ms⟩
 have hc:jz (av fs kf) pc ky=true:=by
  rw[pG,hw1,h3,decide_eq_true (p:=(bt (av fs kf).C (pc - 1).toNat).a=ky) h4]
  rfl
 rw[if_neg (by rw[hc];decide)] at hq
 obtain⟨q0,hq0⟩:∃q0,gA fs (av fs kf) (pc - 1)=q0:=⟨_,rfl⟩
 rw[hq0] at hq
 refine aj ?_
 refine bU [0,3,6,9,12,15,18,21,24,29,30,33,36,39,42] [] rfl<|aj ?_
 refine jt rfl rfl Tryz.call316 (fun w hw=>yo Ap cp fs kf (pc - 1) q0 hq0 w (hw.ro hs) hkl hok hn0) (fun⟨A6,c6⟩ _=>?_)
 refine aJ ?_
 refine lC (t:=106) rfl (fun h5=>?_) (fun h5=>?_)
 ·have h5:q0.isSome=false:=by simpa using h5
  rw[if_pos h5] at hq
  subst hq
  refine aj ?_
  refine bo rfl<|aj ?_
  intro w hw
  exact⟨(none,0),trivial,rfl,(qj hw).msub ms⟩
 have h5:q0.isSome=true:=by simpa using h5
 rw[if_neg (by rw[h5];decide)] at hq
 refine aj ?_
 refine cB rfl (fun h6=>?_) (fun h6=>?_)
 ·have h6:q1=none:=by simpa using h6
  subst h6
  have hq:none=q:=hq
  subst hq
  refine aj ?_
  intro w hw
  exact⟨(none,0),trivial,rfl,(qj hw).msub ms⟩
 obtain⟨t,rfl⟩:∃t,q1=some t:=by cases q1 with
  | none=>simp at h6
  | some t=>exact⟨t,rfl⟩
 obtain⟨t0,rfl⟩:∃t0,q0=some t0:=by cases q0 with
  | none=>simp at h5
  | some t0=>exact⟨t0,rfl⟩
 obtain⟨G1,b1,G2,b2,hgl,hgc,hgi,hgcell⟩:=hs.fn hkyl
 have hq:some (if (av fs ky).result≠0 then t.dropLast else t)=q:=hq
 subst hq
 refine aj ?_
 refine dA (ky) rfl ((.ro hs))<|aj ?_
 refine eM rfl (fun w hw=>hgcell _ w hw 2 _ rfl)<|bV (fun h7=>?_) (fun h7=>?_)
 ·have hone:=C1 hF hkl hc hq0 hq1 (by rw[bj];exact h7)
  rw[if_pos h7,List.dropLast_eq_take]
  refine gI (fun w hw=>(hw.rdSl (v:= .slice A5 t.length c5) (xs:=t) fc).form) ?_
  rintro⟨_,_,e,hle,_⟩
  injection e with _ _ e
  have ht8:=((hF.e _ hkl).at_ _ _ hq1).2.2.1
  refine cT (t:=7) (v':= .slice A5 t.length c5) rfl (rfl)<|aj ?_
  refine bW (t:=123) (v':= .int .i64 ((t.length - 1:Nat):Int)) rfl (by show Value.int _ ((t.length:Int) - 1)=_;congr 1;omega) ?_
  refine sE (pz (k:=t.length - 1) aV cJ (by omega) rfl rfl rfl)<|aj ?_
  intro w hw
  have hlt:(t.take (t.length - 1)).length=t.length - 1:=by rw[ax];omega
  refine⟨(A5,c5),trivial,by show _=Ending.returned (.tuple #[.slice A5 (t.take (t.length - 1)).length c5,.bool true]);rw[hlt],?_⟩
  show Cw B w0 (kX (.slice A5 (t.take (t.length - 1)).length c5) (t.take (t.length - 1))::_::H) w
  rw[hlt]
  exact(Lz (k:=t.length - 1) (by omega) (hw.msub (T:=kX (.slice A5 t.length c5) t::am gc [.slice a.Af m.F.length a.cf,.slice a.Ab m.B.length a.cb,.slice a.Ai m.I.length a.ci,.slice a.Ao m.out.length a.co,.int .i64 m.S,.int .i64 m.T,.slice Ap fs.length cp] 190::H) ms)).msub ms
 rw[if_neg (fun h=>h h7)]
 refine aj ?_
 intro w hw
 exact⟨(A5,c5),trivial,rfl,hw.msub ms⟩
end
end
section
theorem ym {α:Type} {L:List (List α)} {k:Nat} (hk:k<L.length):(L.take (k+1)).flatten=(L.take k).flatten++L.getD k []:=by
 rw[ei L k [] hk,List.flatten_append]
 simp
theorem CI {α:Type} (L:List (List α)) (k:Nat):(L.take k).flatten.length<=L.flatten.length:=by
 rw[<-congrArg List.length (congrArg List.flatten (mE k L)),List.flatten_append,aq]
 omega
theorem E6 (g n:Nat) (hd:Nat->Option Addr×Nat) (L:List (List aH)) (hn:L.length=n) (w:World) (hlt:g<w.heap.size) (hc:∀k,k<n->w.cell? ⟨g,0+k*1,none⟩=some (.slice (hd k).1 (L.getD k []).length (hd k).2))
  (hs:∀k,k<n->Sl w (.slice (hd k).1 (L.getD k []).length (hd k).2) (L.getD k [])) (hb:L.flatten.length*16<=140737488355328) (hn':n<=1000) :
  Calls Tryz.prog 291 #[.slice (some ⟨g,0,none⟩) n n] w fun e w'=> ∃u,e= .returned u/\Below w.heap.size w w'/\eo w' w.heap.size u L.flatten:=by
 subst hn
 have hfl:=CI L
 refine enter Tryz.func291 rfl Tryz.ntmps291 rfl<|aj ?_
 refine dG (fun k:Nat=>k<=L.length) (fun k=>L.length - k) (fun k=> [(0,.slice (some ⟨g,0,none⟩) L.length L.length),(3,.int .i64 ((L.take k).flatten.length:Int)),(9,.slice (some ⟨g,0,none⟩) L.length L.length),(10,.int .i64 (L.length:Int)),(11,.int .i64 (k:Int))]) (fun _=> []) 0 (bi _) ?_
 rintro k hk
 have hk:k<=L.length:=hk
 refine az (fun h1=>?_) (fun h1=>?_)
 ·have hkn:k<L.length:=by omega
  have hft:=congrArg List.length (ym (L:=L) (k:=k) (by omega))
  rw[aq] at hft
  have hfk:=hfl (k+1)
  refine aj ?_
  refine sE (lQ (k:=k) ma lM rfl hkn rfl rfl rfl) ?_
  refine eM rfl (fun w' hw=>(hw.below.cell hlt).trans (hc k hkn))<|az (fun h2=>?_) (fun h2=>?_)
  ·exact absurd h2 (by omega)
  refine cT (t:=3) (v':= .int .i64 ((L.take (k+1)).flatten.length:Int)) rfl (by congr 1;omega)<|aj ?_
  refine dv (k+1) (by show k+1<=_;omega) (by show _ - _<_ - _;omega)
 obtain rfl:k=L.length:=by omega
 rw[aQ]
 refine aj ?_
 refine eL rfl Tryz.call315 (fun w hw=>Hj L.flatten.length hb w) (fun⟨A2,c2⟩ _=>?_)
 refine aJ ?_
 refine dG (fun g:Nat×Option Addr×Nat=>g.1<=L.length) (fun g=>L.length - g.1) (fun q=> [(6,.slice q.2.1 (L.take q.1).flatten.length q.2.2),(25,.slice (some ⟨g,0,none⟩) L.length L.length),(26,.int .i64 (L.length:Int)),(27,.int .i64 (q.1:Int))]) (fun q=> [an (.slice q.2.1 (L.take q.1).flatten.length q.2.2) (L.take q.1).flatten]) (0,A2,c2) (bi _) ?_
 rintro⟨k,A3,c3⟩ hk
 try dsimp only
 have hk:k<=L.length:=hk
 refine az (fun h1=>?_) (fun h1=>?_)
 ·have hkn:k<L.length:=by omega
  have hft:=ym (L:=L) (k:=k) (by omega)
  have hft2:=congrArg List.length hft
  rw[aq] at hft2
  have hfk:=hfl (k+1)
  refine aj ?_
  refine sE (lQ (k:=k) ma lM rfl hkn rfl rfl rfl) ?_
  refine eM rfl (fun w' hw=>(hw.below.cell hlt).trans (hc k hkn))<|aj ?_
  refine oE (ju (α:=aH) (bytes:=16) (xs:=(L.take k).flatten) (ys:=L.getD k []) hft cE (bM jc) rfl fc (.ro (hs k hkn)) (by omega) (by omega) rfl rfl rfl) (fun⟨A5,c5⟩ _=>?_)
  refine aJ ?_
  refine dv (k+1,A5,c5) (by show k+1<=_;omega) (by show _ - _<_ - _;omega)
 obtain rfl:k=L.length:=by omega
 rw[aQ]
 refine aj ?_
 intro w hw
 exact⟨_,rfl,ot hw⟩
end
section
theorem Nt {nb:Nat} {l:List aH} {k:Nat} (hk:k<l.length) (h:eH nb (l.getD k default)=false):l.any (fun v=>!eH nb v)=true:=cX.2 ⟨_,fW hk,by rw[h];rfl⟩
theorem Kw {nb:Nat} {l:List aH} (h:∀j,j<l.length->eH nb (l.getD j default)=true):¬l.any (fun v=>!eH nb v)=true:=fun ha=>by
 obtain⟨v,hv,h2⟩:=cX.1 ha
 obtain⟨j,hj,rfl⟩:=db hv
 have:=h j hj
 rw[ak,ap hj,uv] at this
 rw[this] at h2
 cases h2
theorem D7 {s:List aH} {t:List Int} {n k:Nat} (hk:k<n) (h:gF (s.getD k default) (t.getD k 0)=false):D8 s t n=false:=by
 cases e:D8 s t n with
 | false=>rfl
 | true=>rw[ne.1 e k hk] at h;cases h
section
variable {B:Nat} {w0:World} {H:List aC}
theorem wC (gc:Nat) (a:MA) (m:ar) (Ap:Option Addr) (cp:Nat) (fs:List au) (hs:bE w0 B (.slice Ap fs.length cp) fs) (hm:fi B w0 a m) (hF:fq fs) (hfit:nL m.F) (i:Nat) (hi:i<m.F.length) (hfn:∀x∈m.F,0<=x.func/\x.func<fs.length) (E:Int) (hE:gD fs m.B.length m.F i=E) (w:World) (hw:Cw B w0 (am gc [.slice a.Af m.F.length a.cf,.slice a.Ab m.B.length a.cb,.slice a.Ai m.I.length a.ci,.slice a.Ao m.out.length a.co,.int .i64 m.S,.int .i64 m.T,.slice Ap fs.length cp] 190::H) w) :
  Calls Tryz.prog 238 #[.pointer (some ⟨gc,0,none⟩),.int .i64 (i:Int)] w fun e w'=> ∃_:Unit,True/\e= .returned (.int .i64 E)/\Cw B w0 (am gc [.slice a.Af m.F.length a.cf,.slice a.Ab m.B.length a.cb,.slice a.Ai m.I.length a.ci,.slice a.Ao m.out.length a.co,.int .i64 m.S,.int .i64 m.T,.slice Ap fs.length cp] 190::H) w':=by
 have bf:=bx hm.f
 have bp:=bx hs
 obtain⟨A1,c1,A2,c2,hl,hst,hI,hcell⟩:=hm.f.fr hi
 obtain⟨hb1,hb2⟩:=hfit.2 (aP m.F i) (fY hi)
 have hx:=hfn _ (fY hi)
 obtain⟨kf,hkf⟩:∃kf:Nat,(aP m.F i).func=kf:=⟨(aP m.F i).func.toNat,by omega⟩
 have hkl:kf<fs.length:=by omega
 obtain⟨hok,hn0⟩:=jp hF.p hkl
 obtain⟨F1,d1,F2,d2,hfl,hfc,hfi,hfcell⟩:=hs.fn hkl
 have hfl6:(av fs kf).L.length<=6:=(hok.op 0 hn0).par kf hkl |>.2
 have hff:iY fs m.F i=av fs kf:=by unfold iY;rw[hkf,bj]
 unfold gD at hE
 rw[hff] at hE
 rw[hkf] at hcell
 obtain⟨q,hq⟩:∃q,gU fs m.F i=q:=⟨_,rfl⟩
 rw[hq] at hE
 generalize av fs kf=f at hE hfl hfc hfi hfcell hfl6
 generalize aP m.F i=x at hE hl hst hI hcell hb1 hb2
 have bx1:=bx hl
 have bx2:=bx hst
 refine aY Tryz.func238 rfl Tryz.ntmps238 rfl hw<|aj ?_
 refine dA (i) rfl ((.ro hm.f)) ?_
 refine iX rfl (hcell _)<|aj ?_
 refine fun g1 _=>aj ?_
 refine bU [0,3,6,9,12,15,18,21,24,29,32] [10] rfl<|aj ?_
 refine tE rfl (bZ (k:=kf) fE gv (.ro hs) (by omega) rfl rfl rfl) ?_
 refine tE rfl (eW (hfcell _) rfl rfl Nw gv)<|aj ?_
 refine fun g2 _=>bV (fun h1=>?_) (fun h1=>?_)
 ·rw[if_pos (show x.L.length≠f.L.length from fun e=>h1 (by rw[e]))] at hE
  subst hE
  refine aj ?_
  intro w hw
  exact⟨(),trivial,rfl,hw.msub ms⟩
 have h1:x.L.length=f.L.length:=by omega
 rw[if_neg (fun h=>h h1)] at hE
 have hcat: [x.L,x.K].flatten.length*16<=140737488355328:=by simp only[List.flatten_cons,List.flatten_nil,aq,aZ];omega
 refine aj ?_
 intro g3 _
 refine oE (fI rfl rfl rfl Tryz.call291 (fun w hw=>E6 g3 2 (fun k=>if k=0 then (A1,c1) else (A2,c2)) [x.L,x.K] rfl w (kG hw fc) (fun k hk=>by rcases(show k=0\/k=1 by omega) with rfl | rfl;exact fg fc rfl w hw;exact fg fc rfl w hw) (fun k hk=>by rcases(show k=0\/k=1 by omega) with rfl | rfl;exact hw.ro hl;exact hw.ro hst) hcat (by decide))) (fun⟨A5,c5⟩ _=>?_)
 refine aJ ?_
 have hfe: [x.L,x.K].flatten=x.L++x.K:=by simp
 rw[hfe]
 rw[hfe] at hcat
 refine dG (fun k:Nat=>k<=(x.L++x.K).length/\∀j,j<k->eH m.B.length ((x.L++x.K).getD j default)=true) (fun k=>(x.L++x.K).length - k) (fun k=> [(0,.pointer (some ⟨gc,0,none⟩)),(1,.int .i64 (i:Int)),(5,.pointer (some ⟨g1,0,none⟩)),(6,.pointer (some ⟨g2,0,none⟩)),(45,.slice A5 (x.L++x.K).length c5),(46,.int .i64 ((x.L++x.K).length:Int)),(47,.int .i64 (k:Int))]) (fun _=>an (.slice A5 (x.L++x.K).length c5) (x.L++x.K)::am g1 [.int .i64 (kf:Int),.int .i64 x.pc,.slice A1 x.L.length c1,.slice A2 x.K.length c2] 118::am g2 [.int .i64 f.params,.slice F1 f.L.length d1,.int .i64 f.result,.slice F2 f.C.length d2] 84::am gc [.slice a.Af m.F.length a.cf,.slice a.Ab m.B.length a.cb,.slice a.Ai m.I.length a.ci,.slice a.Ao m.out.length a.co,.int .i64 m.S,.int .i64 m.T,.slice Ap fs.length cp] 190::H) 0 (⟨bi _,fun _ h=>absurd h (lJ _)⟩) ?_ (hh:=(fun w h=>h.msub ms))
 rintro k hk'
 obtain⟨hk,hno⟩:k<=(x.L++x.K).length/\∀j,j<k->eH m.B.length ((x.L++x.K).getD j default)=true:=hk'
 refine az (fun hlt=>?_) (fun hlt=>?_)
 ·have hkl2:k<(x.L++x.K).length:=by omega
  refine aj ?_
  refine dA (_) rfl ((SF.own rfl fc)) ?_
  refine iX rfl (SF.val (SF.own rfl fc) hkl2 default)<|aj ?_
  refine fun g4 _=>aj ?_
  refine cz rfl Tryz.call292 (fun w hw=>E4 gc a m (.slice Ap fs.length cp) ((x.L++x.K).getD k default) w (hw.msub (.s fc .r))) (fun _ _=>aj ?_)
  obtain⟨vb,hvb⟩:∃b,eH m.B.length ((x.L++x.K).getD k default)=b:=⟨_,rfl⟩
  rw[hvb]
  cases vb
  ·rw[if_pos (Nt hkl2 hvb)] at hE
   subst hE
   rw[if_neg (by decide)]
   refine jJ rfl (fun hz=>?_) (fun hz=>?_)
   ·refine aj ?_
    intro w hw
    exact⟨(),trivial,rfl,hw.msub ms⟩
   exact absurd hz (by decide)
  rw[if_pos rfl]
  refine jJ rfl (fun hz=>?_) (fun hz=>?_)
  ·exact absurd rfl hz
  refine aj ?_
  refine dv (k+1) (⟨by show k+1<=_;omega,fun j hj=>(jq j k).elim (hno j) (fun h=>by obtain rfl:j=k:=(by omega);exact hvb)⟩) (by show _ - _<_ - _;omega) (hh:=(fun w h=>h.msub ms))
 obtain rfl:k=(x.L++x.K).length:=by omega
 rw[if_neg (Kw hno)] at hE
 refine aj ?_
 refine dG (fun k:Nat=>k<=x.L.length/\∀j,j<k->gF (x.L.getD j default) (f.L.getD j 0)=true) (fun k=>x.L.length - k) (fun k=> [(0,.pointer (some ⟨gc,0,none⟩)),(1,.int .i64 (i:Int)),(5,.pointer (some ⟨g1,0,none⟩)),(6,.pointer (some ⟨g2,0,none⟩)),(59,.slice A1 x.L.length c1),(60,.int .i64 (x.L.length:Int)),(61,.int .i64 (k:Int))]) (fun _=>am g1 [.int .i64 (kf:Int),.int .i64 x.pc,.slice A1 x.L.length c1,.slice A2 x.K.length c2] 118::am g2 [.int .i64 f.params,.slice F1 f.L.length d1,.int .i64 f.result,.slice F2 f.C.length d2] 84::am gc [.slice a.Af m.F.length a.cf,.slice a.Ab m.B.length a.cb,.slice a.Ai m.I.length a.ci,.slice a.Ao m.out.length a.co,.int .i64 m.S,.int .i64 m.T,.slice Ap fs.length cp] 190::H) 0 (⟨bi _,fun _ h=>absurd h (lJ _)⟩) ?_ (hh:=(fun w h=>h.msub ms))
 rintro k hk'
 obtain⟨hk,hno2⟩:k<=x.L.length/\∀j,j<k->gF (x.L.getD j default) (f.L.getD j 0)=true:=hk'
 refine az (fun hlt=>?_) (fun hlt=>?_)
 ·have hkl2:k<x.L.length:=by omega
  refine aj ?_
  refine dA (_) rfl ((.ro hl)) ?_
  refine iX rfl (SF.val (SF.ro hl) hkl2 default)<|aj ?_
  refine fun g5 _=>aj ?_
  refine bU [0,3,6,9,12,15,20,21] [] rfl<|aj ?_
  refine tE rfl (bZ (k:=k) aV cJ (.ro hfl) (by omega) rfl rfl rfl) ?_
  refine tE rfl (dT (SF.int (.ro hfl) (by omega)) rfl rfl du) ?_
  refine kW rfl rfl Tryz.call293 (fun w hw=>DN (x.L.getD k default) (f.L.getD k 0) w)<|aj ?_
  refine cB rfl (fun hb=>?_) (fun hb=>?_)
  ·have hb:gF (x.L.getD k default) (f.L.getD k 0)=false:=by simpa using hb
   rw[if_pos (D7 hkl2 hb)] at hE
   subst hE
   refine aj ?_
   intro w hw
   exact⟨(),trivial,rfl,hw.msub ms⟩
  have hb:gF (x.L.getD k default) (f.L.getD k 0)=true:=by simpa using hb
  refine aj ?_
  refine dv (k+1) (⟨by show k+1<=_;omega,fun j hj=>(jq j k).elim (hno2 j) (fun h=>by obtain rfl:j=k:=(by omega);exact hb)⟩) (by show _ - _<_ - _;omega) (hh:=(fun w h=>h.msub ms))
 obtain rfl:k=x.L.length:=by omega
 rw[if_neg (by rw[ne.2 hno2];decide)] at hE
 refine aj ?_
 refine cz rfl Tryz.call294 (fun w hw=>HN (H:=am g1 [.int .i64 (kf:Int),.int .i64 x.pc,.slice A1 x.L.length c1,.slice A2 x.K.length c2] 118::am g2 [.int .i64 f.params,.slice F1 f.L.length d1,.int .i64 f.result,.slice F2 f.C.length d2] 84::H) gc a m Ap cp fs hs hm hF i hi hfn q hq w (hw.msub ms)) (fun⟨A6,c6⟩ _=>?_)
 refine aJ ?_
 refine cB rfl (fun hn=>?_) (fun hn=>?_)
 ·have hn:q=none:=by simpa using hn
  subst hn
  subst hE
  refine aj ?_
  intro w hw
  exact⟨(),trivial,rfl,hw.msub ms⟩
 obtain⟨t,rfl⟩:∃t,q=some t:=by cases q with
  | none=>simp at hn
  | some t=>exact⟨t,rfl⟩
 dsimp only[uv] at hE⊢
 refine bV (fun h2=>?_) (fun h2=>?_)
 ·have h2:¬(t.length:Int)=x.K.length:=h2
  rw[if_pos (show t.length≠x.K.length from fun e=>h2 (by rw[e]))] at hE
  subst hE
  refine aj ?_
  intro w hw
  exact⟨(),trivial,rfl,hw.msub ms⟩
 have h2:(t.length:Int)=x.K.length:=h2
 have h2:t.length=x.K.length:=by omega
 rw[if_neg (fun h=>h h2)] at hE
 refine aj ?_
 refine dG (fun k:Nat=>k<=x.K.length/\∀j,j<k->gF (x.K.getD j default) (t.getD j 0)=true) (fun k=>x.K.length - k) (fun k=> [(12,.slice A6 t.length c6),(90,.slice A2 x.K.length c2),(91,.int .i64 (x.K.length:Int)),(92,.int .i64 (k:Int))]) (fun _=>kX (.slice A6 t.length c6) t::am gc [.slice a.Af m.F.length a.cf,.slice a.Ab m.B.length a.cb,.slice a.Ai m.I.length a.ci,.slice a.Ao m.out.length a.co,.int .i64 m.S,.int .i64 m.T,.slice Ap fs.length cp] 190::H) 0 (⟨bi _,fun _ h=>absurd h (lJ _)⟩) ?_ (hh:=(fun w h=>h.msub ms))
 rintro k hk'
 obtain⟨hk,hno3⟩:k<=x.K.length/\∀j,j<k->gF (x.K.getD j default) (t.getD j 0)=true:=hk'
 refine az (fun hlt=>?_) (fun hlt=>?_)
 ·have hkl2:k<x.K.length:=by omega
  refine aj ?_
  refine dA (_) rfl ((.ro hst)) ?_
  refine iX rfl (SF.val (SF.ro hst) hkl2 default)<|aj ?_
  refine fun g6 _=>aj ?_
  refine bU [0,3,6,9,12,17,18] [] rfl<|aj ?_
  refine tE rfl (bZ (k:=k) aV cJ (SF.rd (xs:=t) rfl fc) (by omega) rfl rfl rfl) ?_
  refine tE rfl (dT (SF.int (SF.rd (xs:=t) rfl fc) (by omega)) rfl rfl du) ?_
  refine kW rfl rfl Tryz.call293 (fun w hw=>DN (x.K.getD k default) (t.getD k 0) w)<|aj ?_
  refine cB rfl (fun hb=>?_) (fun hb=>?_)
  ·have hb:gF (x.K.getD k default) (t.getD k 0)=false:=by simpa using hb
   rw[if_pos (D7 (by omega) hb)] at hE
   subst hE
   refine aj ?_
   intro w hw
   exact⟨(),trivial,rfl,hw.msub ms⟩
  have hb:gF (x.K.getD k default) (t.getD k 0)=true:=by simpa using hb
  refine aj ?_
  refine dv (k+1) (⟨by show k+1<=_;omega,fun j hj=>(jq j k).elim (hno3 j) (fun h=>by obtain rfl:j=k:=(by omega);exact hb)⟩) (by show _ - _<_ - _;omega) (hh:=(fun w h=>h.msub ms))
 obtain rfl:k=x.K.length:=by omega
 rw[if_neg (by rw[h2,ne.2 hno3];decide)] at hE
 subst hE
 refine aj ?_
 intro w hw
 exact⟨(),trivial,rfl,hw.msub ms⟩
end
end
section
theorem nW {n k:Nat} (hk:k<n):(List.range n).getD k 0=k:=by
 rw[ak,List.getElem?_range hk]
 rfl
theorem OQ {l:List aB} {k n:Nat} (hk:k<l.length) (h:bH (aP l k).func 0 ((n:Int) - 1)=false):l.any (fun x=>!bH x.func 0 ((n:Int) - 1))=true:=cX.2 ⟨_,fY hk,by rw[h];rfl⟩
theorem Mi {l:List aB} {n:Nat} (h:∀j,j<l.length->bH (aP l j).func 0 ((n:Int) - 1)=true):(¬l.any (fun x=>!bH x.func 0 ((n:Int) - 1))=true)/\∀x∈l,0<=x.func/\x.func<n:=by
 have h2:∀x∈l,bH x.func 0 ((n:Int) - 1)=true:=fun x hx=>by
  obtain⟨j,hj,rfl⟩:=db hx
  have:=h j hj
  unfold aP at this
  rwa [ak,ap hj] at this
 refine⟨fun ha=>?_,fun x hx=>?_⟩
 ·obtain⟨x,hx,h3⟩:=cX.1 ha
  rw[h2 x hx] at h3
  cases h3
 have:=cW.1 (h2 x hx)
 omega
section
variable {B:Nat} {w0:World} {H:List aC}
theorem CU (gc:Nat) (a:MA) (m:ar) (Ap:Option Addr) (cp:Nat) (fs:List au) (hs:bE w0 B (.slice Ap fs.length cp) fs) (hm:fi B w0 a m) (hF:fq fs) (hfit:nL m.F) (E:Int) (hE:kQ fs m=E) (w:World) (hw:Cw B w0 (am gc [.slice a.Af m.F.length a.cf,.slice a.Ab m.B.length a.cb,.slice a.Ai m.I.length a.ci,.slice a.Ao m.out.length a.co,.int .i64 m.S,.int .i64 m.T,.slice Ap fs.length cp] 190::H) w) :
  Calls Tryz.prog 184 #[.pointer (some ⟨gc,0,none⟩)] w fun e w'=> ∃_:Unit,True/\e= .returned (.int .i64 E)/\Cw B w0 (am gc [.slice a.Af m.F.length a.cf,.slice a.Ab m.B.length a.cb,.slice a.Ai m.I.length a.ci,.slice a.Ao m.out.length a.co,.int .i64 m.S,.int .i64 m.T,.slice Ap fs.length cp] 190::H) w':=by
 have bf:=bx hm.f
 have bp:=bx hs
 unfold kQ at hE
 refine aY Tryz.func184 rfl Tryz.ntmps184 rfl hw ?_
 refine cu<|bG<|aD ?_
 refine bK<|dx (fun _:Unit=> ¬6<m.F.length/\¬(m.F.length=0/\m.S≠2)/\¬(0<m.F.length/\m.S=2)) (fun _=> [(0,.pointer (some ⟨gc,0,none⟩))]) (fun _=>am gc [.slice a.Af m.F.length a.cf,.slice a.Ab m.B.length a.cb,.slice a.Ai m.I.length a.ci,.slice a.Ao m.out.length a.co,.int .i64 m.S,.int .i64 m.T,.slice Ap fs.length cp] 190::H) ?_ ?_
 ·refine az (fun h6=>?_) (fun h6=>?_)
  ·rw[if_pos (by omega)] at hE
   subst hE
   refine aj ?_
   intro w hw
   exact⟨(),trivial,rfl,hw.msub ms⟩
  have h6:¬6<m.F.length:=by omega
  rw[if_neg h6] at hE
  refine df 21 (fun h0=>?_) (fun h0=>?_)
  ·have h0:=of_decide_eq_true h0
   have h0:m.F.length=0:=by omega
   refine bV (fun h2=>?_) (fun h2=>?_)
   ·rw[if_pos ⟨h0,h2⟩] at hE
    subst hE
    refine aj ?_
    intro w hw
    exact⟨(),trivial,rfl,hw.msub ms⟩
   refine df 32 (fun h3=>?_) (fun h3=>?_)
   ·have h3:=of_decide_eq_true h3
    exact absurd h3 (by omega)
   refine aj ?_
   refine bR rfl<|aj ?_
   refine dg () (⟨h6,fun h=>h.2 h2,fun h=>by omega⟩) (hh:=(fun _ h=>h.msub ms))
  have h0:=of_decide_eq_false h0
  have h0:¬m.F.length=0:=by omega
  rw[if_neg (fun h=>h0 h.1)] at hE
  refine aj ?_
  refine bR rfl<|df 32 (fun h3=>?_) (fun h3=>?_)
  ·refine az (fun h2=>?_) (fun h2=>?_)
   ·rw[if_pos ⟨by omega,h2⟩] at hE
    subst hE
    refine aj ?_
    intro w hw
    exact⟨(),trivial,rfl,hw.msub ms⟩
   refine aj ?_
   refine dg () (⟨h6,fun h=>h0 h.1,fun h=>h2 h.2⟩) (hh:=(fun _ h=>h.msub ms))
  have h3:=of_decide_eq_false h3
  exact absurd h3 (by omega)
 rintro⟨⟩ ⟨h1,h2,h3⟩
 rw[if_neg h1,if_neg h2,if_neg h3] at hE
 refine aj ?_
 refine dG (fun k:Nat=>k<=m.F.length/\∀j,j<k->bH (aP m.F j).func 0 ((fs.length:Int) - 1)=true) (fun k=>m.F.length - k) (fun k=> [(0,.pointer (some ⟨gc,0,none⟩)),(44,.slice a.Af m.F.length a.cf),(45,.int .i64 (m.F.length:Int)),(46,.int .i64 (k:Int))]) (fun _=>am gc [.slice a.Af m.F.length a.cf,.slice a.Ab m.B.length a.cb,.slice a.Ai m.I.length a.ci,.slice a.Ao m.out.length a.co,.int .i64 m.S,.int .i64 m.T,.slice Ap fs.length cp] 190::H) 0 (⟨bi _,fun _ h=>absurd h (lJ _)⟩) ?_ (hh:=(fun w h=>h.msub ms))
 rintro k hk'
 obtain⟨hk,hno⟩:k<=m.F.length/\∀j,j<k->bH (aP m.F j).func 0 ((fs.length:Int) - 1)=true:=hk'
 refine az (fun hlt=>?_) (fun hlt=>?_)
 ·have hkl:k<m.F.length:=by omega
  obtain⟨A1,c1,A2,c2,hl,hst,hI,hcell⟩:=hm.f.fr hkl
  refine aj ?_
  refine dA (_) rfl ((.ro hm.f)) ?_
  refine iX rfl (hcell _)<|aj ?_
  refine fun g1 _=>aj ?_
  refine bU [0,3,6,9,12,15,18,21,24,29,30] [] rfl<|aj ?_
  refine kW rfl rfl Cr (fun w hw=>lh (aP m.F k).func 0 ((fs.length:Int) - 1) w)<|aj ?_
  refine cB rfl (fun hb=>?_) (fun hb=>?_)
  ·have hb:bH (aP m.F k).func 0 ((fs.length:Int) - 1)=false:=by simpa using hb
   rw[if_pos (OQ hkl hb)] at hE
   subst hE
   refine aj ?_
   intro w hw
   exact⟨(),trivial,rfl,hw.msub ms⟩
  have hb:bH (aP m.F k).func 0 ((fs.length:Int) - 1)=true:=by simpa using hb
  refine aj ?_
  refine dv (k+1) (⟨by show k+1<=_;omega,fun j hj=>(jq j k).elim (hno j) (fun h=>by obtain rfl:j=k:=(by omega);exact hb)⟩) (by show _ - _<_ - _;omega) (hh:=(fun w h=>h.msub ms))
 obtain rfl:k=m.F.length:=by omega
 obtain⟨hany,hfn⟩:=Mi hno
 rw[if_neg hany] at hE
 refine aj ?_
 refine dG (fun k:Nat=>k<=m.F.length/\(0<k->¬(0<m.F.length/\(aP m.F 0).func≠0))/\dY (gD fs m.B.length m.F) ((List.range m.F.length).take k)=0) (fun k=>m.F.length - k) (fun k=> [(0,.pointer (some ⟨gc,0,none⟩)),(66,.slice a.Af m.F.length a.cf),(67,.int .i64 (m.F.length:Int)),(68,.int .i64 (k:Int))]) (fun _=>am gc [.slice a.Af m.F.length a.cf,.slice a.Ab m.B.length a.cb,.slice a.Ai m.I.length a.ci,.slice a.Ao m.out.length a.co,.int .i64 m.S,.int .i64 m.T,.slice Ap fs.length cp] 190::H) 0 (⟨bi _,fun h=>absurd h (lJ _),rfl⟩) ?_ (hh:=(fun w h=>h.msub ms))
 rintro k hk'
 obtain⟨hk,hz0,hno2⟩:k<=m.F.length/\(0<k->¬(0<m.F.length/\(aP m.F 0).func≠0))/\dY (gD fs m.B.length m.F) ((List.range m.F.length).take k)=0:=hk'
 refine az (fun hlt=>?_) (fun hlt=>?_)
 ·have hkl:k<m.F.length:=by omega
  obtain⟨A1,c1,A2,c2,hl,hst,hI,hcell⟩:=hm.f.fr hkl
  refine aj ?_
  refine dA (_) rfl ((.ro hm.f)) ?_
  refine iX rfl (hcell _)<|aj ?_
  refine fun g2 _=>df 75 (fun hz=>?_) (fun hz=>?_)
  ·have hz:=of_decide_eq_true hz
   obtain rfl:k=0:=by omega
   refine bV (fun hf=>?_) (fun hf=>?_)
   ·rw[if_pos ⟨hkl,hf⟩] at hE
    subst hE
    refine aj ?_
    intro w hw
    exact⟨(),trivial,rfl,hw.msub ms⟩
   have h0:¬(0<m.F.length/\(aP m.F 0).func≠0):=fun h=>h.2 hf
   refine aj ?_
   refine cz rfl Tryz.call238 (fun w hw=>wC gc a m Ap cp fs hs hm hF hfit 0 hkl hfn _ rfl w (hw.msub (.s fc .r))) (fun _ _=>bV (fun he=>?_) (fun he=>?_))
   ·have he:gD fs m.B.length m.F 0≠0:=he
    have hsn:=jR (g:=gD fs m.B.length m.F) (l:=List.range m.F.length) 0 (by rw[nM];exact hkl) hno2
    rw[nW hkl] at hsn
    rw[if_neg h0,pD (k:=0+1) (by rw[hsn];exact he),hsn] at hE
    subst hE
    refine aj ?_
    intro w hw
    exact⟨(),trivial,rfl,hw.msub ms⟩
   have he:gD fs m.B.length m.F 0=0:=he
   have hsn:=jR (g:=gD fs m.B.length m.F) (l:=List.range m.F.length) 0 (by rw[nM];exact hkl) hno2
   rw[nW hkl,he] at hsn
   refine aj ?_
   refine dv 1 (⟨by show 1<=_;omega,fun _=>h0,hsn⟩) (by show _ - _<_ - _;omega) (hh:=(fun w h=>h.msub ms))
  have hz:=of_decide_eq_false hz
  have h0:=hz0 (by omega)
  refine aj ?_
  refine bR rfl<|aj ?_
  refine cz rfl Tryz.call238 (fun w hw=>wC gc a m Ap cp fs hs hm hF hfit k hkl hfn _ rfl w (hw.msub (.s fc .r))) (fun _ _=>bV (fun he=>?_) (fun he=>?_))
  ·have he:gD fs m.B.length m.F k≠0:=he
   have hsn:=jR (g:=gD fs m.B.length m.F) (l:=List.range m.F.length) 0 (by rw[nM];exact hkl) hno2
   rw[nW hkl] at hsn
   rw[if_neg h0,pD (k:=k+1) (by rw[hsn];exact he),hsn] at hE
   subst hE
   refine aj ?_
   intro w hw
   exact⟨(),trivial,rfl,hw.msub ms⟩
  have he:gD fs m.B.length m.F k=0:=he
  have hsn:=jR (g:=gD fs m.B.length m.F) (l:=List.range m.F.length) 0 (by rw[nM];exact hkl) hno2
  rw[nW hkl,he] at hsn
  refine aj ?_
  refine dv (k+1) (⟨by show k+1<=_;omega,fun _=>h0,hsn⟩) (by show _ - _<_ - _;omega) (hh:=(fun w h=>h.msub ms))
 obtain rfl:k=m.F.length:=by omega
 rw[bg (by rw[nM];exact aA _)] at hno2
 have h0:¬(0<m.F.length/\(aP m.F 0).func≠0):=fun h=>hz0 h.1 h
 rw[if_neg h0,hno2] at hE
 subst hE
 refine aj ?_
 intro w hw
 exact⟨(),trivial,rfl,hw.msub ms⟩
end
end
section
theorem GT (n:Int) (w:World):Calls Tryz.prog 237 #[.int .i64 n] w fun e w'=>e= .returned (.bool (!bB n))/\Below w.heap.size w w':=by
 refine enter Tryz.func237 rfl Tryz.ntmps237 rfl<|aj ?_
 refine cA rfl Px ((fun w hw=>nA ((fun w hw=>oA n w) w hw)))<|aj ?_
 intro w hw
 exact⟨rfl,hw.below⟩
theorem Bc (A:Option Addr) (c:Nat) (l:List Int) (w:World) (hs:Sl w (.slice A l.length c) l):Calls Tryz.prog 183 #[.slice A l.length c] w fun e w'=>e= .returned (.bool (dR l))/\Below w.heap.size w w':=by
 refine enter Tryz.func183 rfl Tryz.ntmps183 rfl<|aj ?_
 refine cA rfl Nz (fun w hw=>oV A c l 237 #[] (fun n=>!bB n) w (hw.ro hs) Tryz.call237 (fun w1 _ x _=>GT x w1))<|aj ?_
 intro w hw
 exact⟨rfl,hw.below⟩
theorem J0 (m:ar):is m=aP m.F (m.F.length - 1):=by
 unfold is aP
 rw[List.getLastD_eq_getLast?,List.getLast?_eq_getElem?,ak]
section
variable {B:Nat} {w0:World} {H:List aC}
theorem BV (gc:Nat) (a:MA) (m:ar) (Ap:Option Addr) (cp:Nat) (fs:List au) (hs:bE w0 B (.slice Ap fs.length cp) fs) (hm:fi B w0 a m) (hF:fq fs) (hfit:nL m.F) (E:Int) (hE:fm fs m=E) (w:World) (hw:Cw B w0 (am gc [.slice a.Af m.F.length a.cf,.slice a.Ab m.B.length a.cb,.slice a.Ai m.I.length a.ci,.slice a.Ao m.out.length a.co,.int .i64 m.S,.int .i64 m.T,.slice Ap fs.length cp] 190::H) w) :
  Calls Tryz.prog 131 #[.pointer (some ⟨gc,0,none⟩)] w fun e w'=> ∃_:Unit,True/\e= .returned (.int .i64 E)/\Cw B w0 (am gc [.slice a.Af m.F.length a.cf,.slice a.Ab m.B.length a.cb,.slice a.Ai m.I.length a.ci,.slice a.Ao m.out.length a.co,.int .i64 m.S,.int .i64 m.T,.slice Ap fs.length cp] 190::H) w':=by
 have bf:=bx hm.f
 have bp:=bx hs
 unfold fm at hE
 refine aY Tryz.func131 rfl Tryz.ntmps131 rfl hw ?_
 refine cu<|bG<|aD ?_
 refine bK<|cu<|bG<|aD ?_
 refine aD ?_
 refine bK<|dx (fun _:Unit=>True) (fun _=> [(0,.pointer (some ⟨gc,0,none⟩)),(3,.int .i64 (if m.S=3 then 1 else 0)),(4,.int .i64 (if m.S=3 then 5 else 0))]) (fun _=>am gc [.slice a.Af m.F.length a.cf,.slice a.Ab m.B.length a.cb,.slice a.Ai m.I.length a.ci,.slice a.Ao m.out.length a.co,.int .i64 m.S,.int .i64 m.T,.slice Ap fs.length cp] 190::H) ?_ ?_
 ·refine az (fun h3=>?_) (fun h3=>?_)
  ·rw[if_pos h3,if_pos h3]
   refine aj ?_
   refine nv () (trivial) (hh:=(fun _ h=>h.msub ms))
  rw[if_neg h3,if_neg h3]
  refine aj ?_
  refine dg () (trivial) (hh:=(fun _ h=>h.msub ms))
 rintro⟨⟩ _
 refine aj ?_
 refine cA rfl Cr (fun w hw=>lh m.S 0 3 w)<|aj ?_
 refine cB rfl (fun h1=>?_) (fun h1=>?_)
 ·rw[if_pos (by simpa using h1)] at hE
  subst hE
  refine aj ?_
  intro w hw
  exact⟨(),trivial,rfl,hw.msub ms⟩
 rw[if_neg (by simpa using h1)] at hE
 refine aj ?_
 refine cA rfl Cr (fun w hw=>lh m.T _ _ w)<|aj ?_
 refine cB rfl (fun h2=>?_) (fun h2=>?_)
 ·rw[if_pos (by simpa using h2)] at hE
  subst hE
  refine aj ?_
  intro w hw
  exact⟨(),trivial,rfl,hw.msub ms⟩
 rw[if_neg (by simpa using h2)] at hE
 refine aj ?_
 refine cA rfl Tryz.call182 (fun w hw=>Fc _ m.B w (hw.ro hm.b))<|bV (fun h3=>?_) (fun h3=>?_)
 ·rw[if_pos h3] at hE
  subst hE
  refine aj ?_
  intro w hw
  exact⟨(),trivial,rfl,hw.msub ms⟩
 rw[if_neg (fun h=>h h3)] at hE
 refine fx (fw ?_)
 refine dx (fun _:Unit=>(¬(10<m.I.length\/10<m.out.length))/\¬(dR m.I=true\/dR m.out=true)) (fun _=> [(0,.pointer (some ⟨gc,0,none⟩))]) (fun _=>am gc [.slice a.Af m.F.length a.cf,.slice a.Ab m.B.length a.cb,.slice a.Ai m.I.length a.ci,.slice a.Ao m.out.length a.co,.int .i64 m.S,.int .i64 m.T,.slice Ap fs.length cp] 190::H) ?_ ?_
 ·refine df 49 (fun h4=>?_) (fun h4=>?_)
  ·have h4:=of_decide_eq_true h4
   rw[if_pos (.inl (by omega))] at hE
   subst hE
   refine aj ?_
   refine bo rfl<|aj ?_
   intro w hw
   exact⟨(),trivial,rfl,hw.msub ms⟩
  have h4:=of_decide_eq_false h4
  refine az (fun h5=>?_) (fun h5=>?_)
  ·rw[if_pos (.inr (by omega))] at hE
   subst hE
   refine aj ?_
   intro w hw
   exact⟨(),trivial,rfl,hw.msub ms⟩
  have h45:¬(10<m.I.length\/10<m.out.length):=by omega
  rw[if_neg h45] at hE
  refine aj ?_
  refine cA rfl Tryz.call183 (fun w hw=>Bc a.Ai a.ci m.I w (hw.ro hm.i))<|df 65 (fun h6=>?_) (fun h6=>?_)
  ·rw[if_pos (.inl h6)] at hE
   subst hE
   refine aj ?_
   refine bo rfl<|aj ?_
   intro w hw
   exact⟨(),trivial,rfl,hw.msub ms⟩
  refine aj ?_
  refine cA rfl Tryz.call183 (fun w hw=>Bc a.Ao a.co m.out w (hw.ro hm.o))<|aj ?_
  refine cB rfl (fun h7=>?_) (fun h7=>?_)
  ·rw[if_pos (.inr h7)] at hE
   subst hE
   refine aj ?_
   intro w hw
   exact⟨(),trivial,rfl,hw.msub ms⟩
  have h67:¬(dR m.I=true\/dR m.out=true):=by rw[h6,h7];simp
  refine aj ?_
  refine dg () (⟨h45,h67⟩) (hh:=(fun _ h=>h.msub ms))
 rintro⟨⟩ ⟨h4,h5⟩
 rw[if_neg h4,if_neg h5] at hE
 refine aj ?_
 refine cz rfl Tryz.call184 (fun w hw=>CU gc a m Ap cp fs hs hm hF hfit _ rfl w (hw.msub (.s fc .r))) (fun _ _=>bV (fun h6=>?_) (fun h6=>?_))
 ·rw[if_pos h6] at hE
  subst hE
  refine aj ?_
  intro w hw
  exact⟨(),trivial,rfl,hw.msub ms⟩
 rw[if_neg (fun h=>h h6)] at hE
 refine bV (fun h7=>?_) (fun h7=>?_)
 ·rw[if_pos h7] at hE
  subst hE
  refine aj ?_
  intro w hw
  exact⟨(),trivial,rfl,hw.msub ms⟩
 rw[if_neg (fun h=>h h7)] at hE
 obtain⟨_,hdn,hfn,_,hfr⟩:=pM.1 h6
 have hne:m.F.length≠0:=fun h=>by
  have:=hdn.1 (aS h)
  omega
 obtain⟨k,hk⟩:∃k,m.F.length=k+1:=⟨m.F.length - 1,by omega⟩
 have hkl:k<m.F.length:=by omega
 obtain⟨A1,c1,A2,c2,hl,hst,hI,hcell⟩:=hm.f.fr hkl
 have hx:=hfn _ (fY hkl)
 obtain⟨kf,hkf⟩:∃kf:Nat,(aP m.F k).func=kf:=⟨(aP m.F k).func.toNat,by omega⟩
 have hkfl:kf<fs.length:=by omega
 obtain⟨F1,d1,F2,d2,hfl,hfc,hfi,hfcell⟩:=hs.fn hkfl
 obtain⟨t,ht,_⟩:=hfr k hkl
 unfold gU iY at ht
 rw[if_pos hk.symm,hkf,bj] at ht
 obtain⟨hp0,hp1,_⟩:=(hF.e _ hkfl).at_ _ _ ht
 have hop:bT fs m=bt (av fs kf).C (aP m.F k).pc.toNat:=by
  unfold bT
  rw[J0,hk,pU,hkf,bj]
 rw[hop] at hE
 rw[hkf] at hcell
 refine aj ?_
 refine bU [0,3,6,9,12,15,18,21,24,27,30,33,36,39,44,47] [15] rfl<|aj ?_
 refine kb (t:=95) (v':= .int .i64 (k:Int)) rfl (by rw[hk];congr 1;omega) ?_
 refine tE rfl (bZ (k:=k) eR fC (.ro hm.f) hkl rfl rfl rfl) ?_
 refine tE rfl (eW (hcell _) rfl rfl QD fC)<|aj ?_
 refine fun g1 _=>aj ?_
 refine bU [0,3,6,9,12,15,18,21,24,27,30,33,36,39,42,45,48,51,54,57,60,63,66,69,72] [] rfl<|aj ?_
 refine lD (t:=105) rfl (fun h8=>?_) (fun h8=>?_)
 ·have h8:=of_decide_eq_true h8
  rw[if_pos (.inl (by omega))] at hE
  subst hE
  refine aj ?_
  refine bo rfl<|aj ?_
  intro w hw
  exact⟨(),trivial,rfl,hw.msub ms⟩
 have h8:=of_decide_eq_false h8
 refine aj ?_
 refine tE rfl (bZ (k:=kf) fE gv (.ro hs) (by omega) rfl rfl rfl)<|aj ?_
 refine tE rfl (dT (fun w hw=>hfcell _ w hw 3 _ rfl) rfl rfl Cm)<|aj ?_
 refine tE rfl (tx eQ jU (.ro hfc) (by omega) rfl rfl rfl)<|aj ?_
 refine tE rfl (dT (SF.opc (.ro hfc) (by omega)) rfl rfl du)<|bV (fun h9=>?_) (fun h9=>?_)
 ·rw[if_pos (.inr h9)] at hE
  subst hE
  refine aj ?_
  intro w hw
  exact⟨(),trivial,rfl,hw.msub ms⟩
 have h9:(bt (av fs kf).C (aP m.F k).pc.toNat).c=21:=h9
 rw[if_neg (fun h=>h.elim (fun h=>h8 (by omega)) (fun h=>h h9))] at hE
 subst hE
 refine aj ?_
 intro w hw
 exact⟨(),trivial,rfl,hw.msub ms⟩
end
theorem rk (Ap:Option Addr) (cp:Nat) (fs:List au) (a:MA) (m:ar) (w:World) (hs:Sl w (.slice Ap fs.length cp) fs) (hm:fi w.heap.size w a m) (hF:fq fs) (hfit:nL m.F) :
  Calls Tryz.prog 74 #[.agg #[.slice Ap fs.length cp],.agg #[.slice a.Af m.F.length a.cf,.slice a.Ab m.B.length a.cb,.slice a.Ai m.I.length a.ci,.slice a.Ao m.out.length a.co,.int .i64 m.S,.int .i64 m.T]] w fun e w'=>e= .returned (.int .i64 (fm fs m))/\Below w.heap.size w w':=by
 refine enter Tryz.func74 rfl Tryz.ntmps74 rfl<|aj ?_
 refine fun g1 _=>aj ?_
 refine fun g2 _=>aj ?_
 refine fun g3 _=>aj ?_
 refine cz rfl Tryz.call131 (fun w hw=>BV g3 a m Ap cp fs hs hm hF hfit _ rfl w (hw.msub (.s fc .r))) (fun _ _=>aj ?_)
 intro w hw
 exact⟨rfl,hw.below⟩
theorem vU (Ap:Option Addr) (cp:Nat) (fs:List au) (a:MA) (m:ar) (w:World) (hs:Sl w (.slice Ap fs.length cp) fs) (hm:fi w.heap.size w a m) (hfit:nL m.F) :
  Calls Tryz.prog 45 #[.agg #[.slice Ap fs.length cp],.agg #[.slice a.Af m.F.length a.cf,.slice a.Ab m.B.length a.cb,.slice a.Ai m.I.length a.ci,.slice a.Ao m.out.length a.co,.int .i64 m.S,.int .i64 m.T]] w fun e w'=>e= .returned (.int .i64 (fA fs m))/\Below w.heap.size w w':=by
 obtain⟨E,hE⟩:∃E,fA fs m=E:=⟨_,rfl⟩
 rw[hE]
 unfold fA at hE
 refine enter Tryz.func45 rfl Tryz.ntmps45 rfl<|aj ?_
 refine fun g1 _=>aj ?_
 refine fun g2 _=>aj ?_
 refine cA rfl Fx (fun w hw=>nt Ap cp fs w (hw.ro hs))<|bV (fun h=>?_) (fun h=>?_)
 ·rw[if_pos h] at hE
  subst hE
  refine aj ?_
  intro w hw
  exact⟨rfl,hw.below⟩
 have h:ec fs=0:=h
 rw[if_neg (fun h'=>h' h)] at hE
 subst hE
 refine aj ?_
 refine cA rfl Rn (fun w hw=>rk Ap cp fs a m w (hw.ro hs) (fi.ro hw hm) (nH h) hfit)<|aj ?_
 intro w hw
 exact⟨rfl,hw.below⟩
end
section
theorem FQ {B:Nat} {w:World} {Ap:Option Addr} {cp:Nat} {fs:List au} (hs:bE w B (.slice Ap fs.length cp) fs) (hF:fq fs) {m:ar} (hR:bz fs m) (hst:¬(m.S=2\/m.S=3)):∃li x kf,Cf fs m li x kf:=by
 have hne:m.F≠[]:=fun e=>hst (.inl (hR.dn.1 e))
 obtain⟨li,x,e⟩:∃li x,m.F=li++ [x]:=by
  rcases fB m.F with h1 | ⟨l,z,h1⟩
  ·exact absurd h1 hne
  exact⟨l,z,by rw[h1];simp⟩
 obtain⟨hfn,hloc,t,he,hts⟩:=hR.top e
 obtain⟨kf,hkf⟩:∃kf:Nat,x.func=kf:=⟨x.func.toNat,by omega⟩
 rw[hkf,bj] at he hloc
 have hkl:kf<fs.length:=by omega
 obtain⟨hp0,hp1,ht8,_⟩:=(hF.e _ hkl).at_ _ _ he
 obtain⟨hok,_⟩:=jp hF.p hkl
 obtain⟨F1,d1,F2,d2,hfl,hfc,hfi,hfcell⟩:=hs.fn hkl
 have hn6:=hR.n6
 rw[e,aq,aL] at hn6
 refine⟨li,x,kf,e,hkf,hkl,⟨hp0,hp1⟩,JF hF hkl (x:= {x with pc:=x.pc+1}) hkf he hts hloc.len,hR.bl,by rw[hts.len];omega,fun y hy=>?_,by have:=hR.ob;omega,by omega,(AV hfc (by omega)).2,by have:=hok.n40;omega⟩
 obtain⟨i,hi,rfl⟩:=db hy
 obtain⟨u,hu,_,hus⟩:=hR.fr i (by rw[e,aq];omega)
 have hfi2:aP m.F i=li[i]:=by
  rw[e,gM hi]
  unfold aP
  rw[ak,ap hi]
  rfl
 rw[hfi2] at hus
 rw[hus.len]
 have hz:=hR.fn _ (fY (l:=m.F) (k:=i) (by rw[e,aq];omega))
 have hkz:(aP m.F i).func.toNat<fs.length:=by omega
 unfold gU iY at hu
 split at hu
 ·have:=((hF.e _ hkz).at_ _ _ hu).2.2.1
  omega
 split at hu
 ·cases hu
 split at hu
 ·cases hu
 cases h5:gA fs (av fs (aP m.F i).func.toNat) (aP m.F i).pc with
 | none=>rw[h5] at hu;cases hu
 | some t2=>
  rw[h5] at hu
  have hu:(if (av fs (aP m.F (i+1)).func.toNat).result≠0 then t2.dropLast else t2)=u:=eh hu
  have:=((hF.e _ hkz).at_ _ _ h5).2.2.1
  rw[<-hu]
  split
  ·rw[List.length_dropLast];omega
  omega
theorem xS {fs:List au} (hF:fq fs):0<fs.length:=by
 have:=(iu hF.p).1
 omega
theorem uX {fs:List au} (hF:fq fs) {m:ar} (hR:bz fs m) {i:Nat} (hi:i<m.F.length):(aP m.F i).K.length<=8/\(aP m.F i).L.length<=1000:=by
 obtain⟨u,hu,hul,hus⟩:=hR.fr i hi
 have hz:=hR.fn _ (fY hi)
 have hkz:(aP m.F i).func.toNat<fs.length:=by omega
 rw[hus.len,hul.len]
 have hn40:=((jp hF.p (xS hF)).1.op 0 (jp hF.p (xS hF)).2).par _ hkz |>.2
 refine⟨?_,by unfold iY;omega⟩
 unfold gU iY at hu
 split at hu
 ·have:=((hF.e _ hkz).at_ _ _ hu).2.2.1
  omega
 split at hu
 ·cases hu
 split at hu
 ·cases hu
 cases h5:gA fs (av fs (aP m.F i).func.toNat) (aP m.F i).pc with
 | none=>rw[h5] at hu;cases hu
 | some t2=>
  rw[h5] at hu
  have hu:(if (av fs (aP m.F (i+1)).func.toNat).result≠0 then t2.dropLast else t2)=u:=eh hu
  have:=((hF.e _ hkz).at_ _ _ h5).2.2.1
  rw[<-hu]
  split
  ·rw[List.length_dropLast];omega
  omega
theorem iz {fs:List au} (hF:fq fs) {m:ar} (hR:bz fs m):Fu m:=by
 refine⟨⟨by have:=hR.n6;omega,fun x hx=>?_⟩,uu.of_check hR.bl,by have:=hR.ib;omega,by have:=hR.ob;omega⟩
 obtain⟨i,hi,rfl⟩:=db hx
 have h:=uX hF hR hi
 have e:aP m.F i=m.F[i]:=by
  unfold aP
  rw[ak,ap hi]
  rfl
 rw[e] at h
 omega
def eI (fs:List au):ar:=⟨[⟨0,0,dO (av fs 0).L,[]⟩],[],[],[],0,0⟩
def pY (fs:List au):ar:=if ec fs=0 then eI fs else default
def KC (fs:List au) (m:ar):ar:=if fA fs m=0 then dZ fs m else default
theorem mP {fs:List au} (h:ec fs=0):0<fs.length:=by
 have:=(iu (nH h).p).1
 omega
theorem Ba (Ap:Option Addr) (cp:Nat) (fs:List au) (w:World) (hs:Sl w (.slice Ap fs.length cp) fs) (h0:0<fs.length) (hl6:(av fs 0).L.length<=1000) :
  Calls Tryz.prog 73 #[.agg #[.slice Ap fs.length cp]] w fun e w'=> ∃g:MA,True/\
   e= .returned (.agg #[.slice g.Af (eI fs).F.length g.cf,.slice g.Ab (eI fs).B.length g.cb,.slice g.Ai (eI fs).I.length g.ci,.slice g.Ao (eI fs).out.length g.co,.int .i64 (eI fs).S,.int .i64 (eI fs).T])/\
   Cw w.heap.size w [an (.slice g.Af (eI fs).F.length g.cf) (eI fs).F,an (.slice g.Ab (eI fs).B.length g.cb) (eI fs).B,an (.slice g.Ai (eI fs).I.length g.ci) (eI fs).I,an (.slice g.Ao (eI fs).out.length g.co) (eI fs).out] w':=by
 obtain⟨A1,c1,A2,c2,hl,hc,hi,hcell⟩:=hs.fn h0
 have hF:(dO (av fs 0).L).length=(av fs 0).L.length:=my _
 refine enter Tryz.func73 rfl Tryz.ntmps73 rfl<|aj ?_
 refine fun g1 _=>aj ?_
 refine fun g2 _=>aj ?_
 refine dA (0) rfl ((.ro hs)) ?_
 refine iX rfl (hcell _) ?_
 refine oE (fI rfl rfl rfl Tryz.call130 (fun w hw=>yj (av fs 0).params (av fs 0).result A1 A2 c1 c2 _ (av fs 0).L w (hw.ro hl) (by omega))) (fun⟨A3,c3⟩ _=>?_)
 refine aJ ?_
 refine fun g3 _=>aj ?_
 intro w hw
 refine⟨⟨some ⟨g3,0,none⟩,1,none,0,none,0,none,0⟩,trivial,rfl,?_⟩
 have h1:=tv (H:= []) (xs:=(eI fs).F) (g:=g3) (nS.cons (Hel:= [an (.slice A3 (dO (av fs 0).L).length c3) (dO (av fs 0).L),an (.slice none 0 0) ([]:List aH)]) (cs:= [_,_,_,_]) (Bm (x:=⟨0,0,dO (av fs 0).L,[]⟩) (by show aF 0/\aF 0;decide)) nS.nil_) rfl (by show 1<=_;decide) ((Cw.nilO aH hw).msub (T:= [am g3 _ _,an (.slice A3 (dO (av fs 0).L).length c3) (dO (av fs 0).L),an (.slice none 0 0) ([]:List aH)]) ms)
 exact(Cw.nilO (List Int) (Cw.nilO Int (Cw.nilO Int h1))).msub ms
theorem oL {B:Nat} {w0 w:World} {H:List aC} (h:Cw B w0 H w):Cw B w0 (an (α:=aB) (.slice none 0 0) []::an (α:=List Int) (.slice none 0 0) []::an (α:=Int) (.slice none 0 0) []::an (α:=Int) (.slice none 0 0) []::H) w:=Cw.nilO aB (Cw.nilO (List Int) (Cw.nilO Int (Cw.nilO Int h)))
theorem vS (Ap:Option Addr) (cp:Nat) (fs:List au) (m:ar) (hmm:pY fs=m) (w:World) (hs:Sl w (.slice Ap fs.length cp) fs) :
  Calls Tryz.prog 54 #[.agg #[.slice Ap fs.length cp]] w fun e w'=> ∃g:MA,True/\
   e= .returned (.tuple #[.agg #[.slice g.Af m.F.length g.cf,.slice g.Ab m.B.length g.cb,.slice g.Ai m.I.length g.ci,.slice g.Ao m.out.length g.co,.int .i64 m.S,.int .i64 m.T],.int .i64 (ec fs)])/\Cw w.heap.size w [an (.slice g.Af m.F.length g.cf) m.F,an (.slice g.Ab m.B.length g.cb) m.B,an (.slice g.Ai m.I.length g.ci) m.I,an (.slice g.Ao m.out.length g.co) m.out] w':=by
 refine enter Tryz.func54 rfl Tryz.ntmps54 rfl<|aj ?_
 refine fun g1 _=>aj ?_
 refine fun g2 _=>aj ?_
 refine cA rfl Fx (fun w hw=>nt Ap cp fs w (hw.ro hs))<|aj ?_
 unfold pY at hmm
 refine jJ rfl (fun h=>?_) (fun h=>?_)
 ·rw[if_neg h] at hmm
  subst hmm
  refine aj ?_
  intro w hw
  exact⟨⟨none,0,none,0,none,0,none,0⟩,trivial,rfl,(oL hw).msub ms⟩
 have h:ec fs=0:=h
 rw[if_pos h] at hmm
 subst hmm
 refine aj ?_
 refine eL rfl Tryz.call73 (fun w hw=>Ba Ap cp fs w (hw.ro hs) (mP h) (by have:=((jp (nH h).p (mP h)).1.op 0 (jp (nH h).p (mP h)).2).par 0 (mP h) |>.2;omega)) (fun g _=>aj ?_)
 intro w hw
 exact⟨g,trivial,by rw[h],hw.msub ms⟩
end
section
theorem uD {α:Type} :∀(l:List α) (k:Nat) (d:α),l.set k (l.getD k d)=l
 | [],_,_=>rfl
 | _::_,0,_=>rfl
 | x::l,k+1,d=>congrArg (x:: ·) (uD l k d)
def lj (a:MA) (m:ar):dI:=⟨.slice a.Af m.F.length a.cf,.slice a.Ab m.B.length a.cb,.slice a.Ai m.I.length a.ci,.slice a.Ao m.out.length a.co,m.S,m.T⟩
theorem Bn {a:MA} {m:ar} (h:aF m.S/\aF m.T):dI.wf (lj a m):=⟨h,rfl,rfl,rfl,rfl⟩
section
variable {P:Program} {n:NF} {B:Nat} {w0:World} {H H':List aC} {Q:Exit->Act->World->Prop} {env:bJ} {x:Code} {ops:Array Oper} {os:List Oper}
theorem tF {α:Type} [Ow α] {w:World} {F:Nat->Prop} {v:Value} {xs:List α} (h:bX w F v xs):∃A c,v= .slice A xs.length c:=by
 obtain⟨A,c,e,_⟩:=(bX.sl h).form
 exact⟨A,c,e⟩
theorem Gc {l:List (dI×ar)} (hok:fL l) {i:Nat} (hi:i<l.length) {w:World} (h:Cw B w0 (dD l::H) w):∃a:MA,l[i].1=lj a l[i].2:=by
 have h1:Cw B w0 (an l[i].1.fv l[i].2.F::an l[i].1.bv l[i].2.B::an l[i].1.iv l[i].2.I::an l[i].1.ov l[i].2.out::(dD (l.eraseIdx i)::H)) w:=sx hi h
 obtain⟨F1,k1,_⟩:=h1.rd bA.a
 obtain⟨F2,k2,_⟩:=h1.rd (bA.s bA.a)
 obtain⟨F3,k3,_⟩:=h1.rd (bA.s (bA.s bA.a))
 obtain⟨F4,k4,_⟩:=h1.rd (bA.s (bA.s (bA.s bA.a)))
 obtain⟨Af,cf,e1⟩:=tF k1
 obtain⟨Ab,cb,e2⟩:=tF k2
 obtain⟨Ai,ci,e3⟩:=tF k3
 obtain⟨Ao,co,e4⟩:=tF k4
 obtain⟨s1,s2⟩:=hok l[i] (cR hi)
 refine⟨⟨Af,cf,Ab,cb,Ai,ci,Ao,co⟩,?_⟩
 cases h:l[i] with
 | mk a b=>
  rw[h] at e1 e2 e3 e4 s1 s2
  cases a
  simp only at e1 e2 e3 e4 s1 s2
  subst e1 e2 e3 e4 s1 s2
  rfl
theorem NY {l:List (dI×ar)} {i:Nat} (hi:i<l.length) {w:World} (h:Cw B w0 (dD l::H) w):Sl w l[i].1.fv l[i].2.F/\Sl w l[i].1.bv l[i].2.B/\Sl w l[i].1.iv l[i].2.I/\Sl w l[i].1.ov l[i].2.out:=by
 have h1:Cw B w0 (an l[i].1.fv l[i].2.F::an l[i].1.bv l[i].2.B::an l[i].1.iv l[i].2.I::an l[i].1.ov l[i].2.out::(dD (l.eraseIdx i)::H)) w:=sx hi h
 obtain⟨F1,k1,_⟩:=h1.rd bA.a
 obtain⟨F2,k2,_⟩:=h1.rd (bA.s bA.a)
 obtain⟨F3,k3,_⟩:=h1.rd (bA.s (bA.s bA.a))
 obtain⟨F4,k4,_⟩:=h1.rd (bA.s (bA.s (bA.s bA.a)))
 exact⟨bX.sl k1,bX.sl k2,bX.sl k3,bX.sl k4⟩
theorem GS {l:List (dI×ar)} {i:Nat} (hi:i<l.length):aw (l.map Prod.snd) i=l[i].2:=by
 unfold aw
 rw[ak,cD,ap hi]
 rfl
theorem Hi {l:List (dI×ar)} {i:Nat} (hi:i<l.length) (d:dI):(l.map Prod.fst).getD i d=l[i].1:=by
 rw[ak,cD,ap hi]
 rfl
abbrev RM (a:MA) (m:ar) (H:List aC):List aC:=an (.slice a.Af m.F.length a.cf) m.F::an (.slice a.Ab m.B.length a.cb) m.B::an (.slice a.Ai m.I.length a.ci) m.I::an (.slice a.Ao m.out.length a.co) m.out::H
structure KT (B:Nat) (w0:World) (X:aC) (L:List ar) (k:Nat) (hs:List dI) (a:MA):Prop where
 len:hs.length=L.length
 hd:hs.getD k default=lj a (aw L k)
 i64:aF (aw L k).S/\aF (aw L k).T
 back:∀(v:Value) (g:MA) (m:ar) H w,Cw B w0 (an v (hs.set k (lj g m))::RM g m (X::H)) w->Cw B w0 (an v (L.set k m)::H) w
theorem Pq {v:Value} {L:List ar} {k:Nat} (hk:k<L.length) (hp:bA H (an v L) H') {w:World} (hw:Cw B w0 H w) :
  ∃X hs a,KT B w0 X L k hs a/\Cw B w0 (an v hs::RM a (aw L k) (X::H')) w:=by
 obtain⟨l,hl,hok,h3⟩:=AT (hw.perm hp)
 have hkl:k<l.length:=by rw[<-aW (f:=Prod.snd),hl];exact hk
 have h4:=h3.perm (List.Perm.swap ..)
 obtain⟨a,ea⟩:=Gc hok hkl h4
 have em:aw L k=l[k].2:=by rw[<-hl];exact GS hkl
 have h5:Cw B w0 (an l[k].1.fv l[k].2.F::an l[k].1.bv l[k].2.B::an l[k].1.iv l[k].2.I::an l[k].1.ov l[k].2.out::(dD (l.eraseIdx k)::an v (l.map Prod.fst)::H')) w:=sx hkl h4
 rw[ea,<-em] at h5
 have hwf:dI.wf l[k].1:=mm h3 .a (ph (cR hkl))
 have hI:aF (aw L k).S/\aF (aw L k).T:=by
  rw[ea,<-em] at hwf
  exact hwf.1
 refine⟨dD (l.eraseIdx k),l.map Prod.fst,a,⟨by rw[<-hl,aW,aW],by rw[Hi hkl,ea,em],hI,fun u g m H1 w1 h=>?_⟩,h5.msub ms⟩
 have hq:fL (l.set k (lj g m,m)):=hok.set (q:=(lj g m,m)) ⟨rfl,rfl⟩
 have h6:Cw B w0 (hZ.parts (lj g m,m).1 (lj g m,m).2++dD (l.eraseIdx k)::an u ((l.map Prod.fst).set k (lj g m))::H1) w1:=h.msub (T:=RM g m (dD (l.eraseIdx k)::an u ((l.map Prod.fst).set k (lj g m))::H1)) ms
 have h7:=Dr hkl h6
 have e1:(l.map Prod.fst).set k (lj g m)=(l.set k (lj g m,m)).map Prod.fst:=by rw[List.map_set]
 rw[e1] at h7
 have h8:=sY hq (h7.perm (List.Perm.swap ..))
 rw[List.map_set,hl] at h8
 exact h8
theorem BI {v:Value} {L:List ar} {k:Nat} (hk:k<L.length) (hp:bA H (an v L) H') (h:∀X hs a,KT B w0 X L k hs a->CW P n B w0 x Q env (an v hs::RM a (aw L k) (X::H'))):CW P n B w0 x Q env H:=fun a w hf hw=>by
 obtain⟨X,hs,g,h1,h2⟩:=Pq hk hp hw
 exact h X hs g h1 a w hf h2
theorem KT.same {X:aC} {L:List ar} {k:Nat} {hs:List dI} {a:MA} (h:KT B w0 X L k hs a) (_:k<L.length) {v:Value} {w:World} (hw:Cw B w0 (an v hs::RM a (aw L k) (X::H)) w):Cw B w0 (an v L::H) w:=by
 have e1:hs.set k (lj a (aw L k))=hs:=by
  rw[<-h.hd]
  exact uD hs k default
 have e2:L.set k (aw L k)=L:=uD L k default
 have:=h.back v a (aw L k) H w (by rw[e1];exact hw)
 rwa [e2] at this
structure Qi (B:Nat) (w0:World) (X:aC) (L:List ar) (hs:List dI):Prop where
 el:∀i,i<L.length->∃a:MA,hs.getD i default=lj a (aw L i)/\(aF (aw L i).S/\aF (aw L i).T)/\
  ∀H H',bA H X H'->SF B w0 H a.Af (aw L i).F.length a.cf (aw L i).F/\SF B w0 H a.Ab (aw L i).B.length a.cb (aw L i).B/\SF B w0 H a.Ai (aw L i).I.length a.ci (aw L i).I/\SF B w0 H a.Ao (aw L i).out.length a.co (aw L i).out
 len:hs.length=L.length
 back:∀H H' H'' v w,bA H (an v hs) H'->bA H' X H''->Cw B w0 H w->Cw B w0 (an v L::H'') w
theorem N6 {v:Value} {L:List ar} (hp:bA H (an v L) H') {w:World} (hw:Cw B w0 H w):∃X hs,Qi B w0 X L hs/\Cw B w0 (an v hs::X::H') w:=by
 obtain⟨l,hl,hok,h3⟩:=AT (hw.perm hp)
 have hll:l.length=L.length:=by rw[<-hl,aW]
 refine⟨dD l,l.map Prod.fst,⟨fun i hi=>?_,by rw[aW,hll],fun H1 H2 H3 v w f1 f2 hw=>?_⟩,h3⟩
 ·have hi':i<l.length:=by omega
  have h4:=h3.perm (List.Perm.swap ..)
  obtain⟨a,ea⟩:=Gc hok hi' h4
  have em:aw L i=l[i].2:=by rw[<-hl];exact GS hi'
  have hwf:dI.wf l[i].1:=mm h3 .a (ph (cR hi'))
  have hI:aF (aw L i).S/\aF (aw L i).T:=by
   rw[ea,<-em] at hwf
   exact hwf.1
  refine⟨a,by rw[Hi hi',ea,em],hI,fun H1 H2 f=>?_⟩
  have key:∀w,Cw B w0 H1 w->Sl w (.slice a.Af (aw L i).F.length a.cf) (aw L i).F/\Sl w (.slice a.Ab (aw L i).B.length a.cb) (aw L i).B/\Sl w (.slice a.Ai (aw L i).I.length a.ci) (aw L i).I/\Sl w (.slice a.Ao (aw L i).out.length a.co) (aw L i).out:=fun w hw=>by
   have:=NY hi' (hw.perm f)
   rw[ea,<-em] at this
   exact this
  exact⟨⟨rfl,fun w hw=>(key w hw).1⟩,⟨rfl,fun w hw=>(key w hw).2.1⟩,⟨rfl,fun w hw=>(key w hw).2.2.1⟩,⟨rfl,fun w hw=>(key w hw).2.2.2⟩⟩
 have:=sY (v:=v) (H:=H3) hok ((hw.perm f1).perm (List.Perm.cons _ f2))
 rw[hl] at this
 exact this
theorem qz {v:Value} {L:List ar} (hp:bA H (an v L) H') (h:∀X hs,Qi B w0 X L hs->CW P n B w0 x Q env (an v hs::X::H')):CW P n B w0 x Q env H:=fun a w hf hw=>by
 obtain⟨X,hs,h1,h2⟩:=N6 hp hw
 exact h X hs h1 a w hf h2
theorem SF.hmc {A:Option Addr} {xs:List dI} {m c k:Nat} {a:MA} {y:ar} (hs:SF B w0 H A m c xs) (hk:k<m) (e:xs.getD k default=lj a y) :
  ∀w,Cw B w0 H w->∀j v,([.slice a.Af y.F.length a.cf,.slice a.Ab y.B.length a.cb,.slice a.Ai y.I.length a.ci,.slice a.Ao y.out.length a.co,.int .i64 y.S,.int .i64 y.T]:List Value)[j]? =some v->w.cell? ⟨ab A,ao A+k*6+j,none⟩=some v:=
 fun w hw j v hv=>SF.cell hs hk default (by rw[e];exact hv) w hw
theorem SF.min {a:MA} {m:ar} {w:World} (h:SF B w0 H a.Af m.F.length a.cf m.F/\SF B w0 H a.Ab m.B.length a.cb m.B/\SF B w0 H a.Ai m.I.length a.ci m.I/\SF B w0 H a.Ao m.out.length a.co m.out) (hi:aF m.S/\aF m.T) (hw:Cw B w0 H w):fi w.heap.size w a m:=
 ⟨SF.at_ h.1 hw,SF.at_ h.2.1 hw,SF.at_ h.2.2.1 hw,SF.at_ h.2.2.2 hw,hi.1,hi.2⟩
theorem vM {R1 R2 R3 R4 R5 R6:aC} {H1 H2 H3 H4 H5 H6:List aC} (h1:bA H R1 H1) (h2:bA H1 R2 H2) (h3:bA H2 R3 H3) (h4:bA H3 R4 H4) (h5:bA H4 R5 H5) (h6:bA H5 R6 H6):H.Perm ((R1::R2:: [R3,R4,R5,R6])++H6):=
 h1.trans (.cons _ (h2.trans (.cons _ (h3.trans (.cons _ (h4.trans (.cons _ (h5.trans (.cons _ h6)))))))))
theorem oP {v1 v2 v3 v4:Value} {m:ar} (hi:aF m.S/\aF m.T):∀(w:World) (F:Nat->Prop),Hs w [an v1 m.F,an v2 m.B,an v3 m.I,an v4 m.out] F->Ow.own w F [v1,v2,v3,v4,.int .i64 m.S,.int .i64 m.T] m:=
 fun _ _ h=>⟨v1,v2,v3,v4,rfl,hi,h⟩
end
end
section
theorem J9:Tryz.prog.eqGuardType Tryz.prog.depth 159=false:=by kernel_rfl
theorem PU:Tryz.prog.stoodInHeld 159=false:=by kernel_rfl
theorem PO (w : World) (a c : Bool) (b d : Int) : (binOp .neq 159 (.agg #[.bool a, .int .i64 b]) (.agg #[.bool c, .int .i64 d])).run Tryz.prog w = .ok (.bool (!(a == c && b == d))) w := by
  have h := PU
  by_cases h1 : a = c <;> by_cases h2 : b = d <;> simp [go_sem, h, h1, h2]
theorem PP (x y : Operand) (u v : Array Value) (w : World) : (eqGuard .neq 159 x y (.agg u) (.agg v)).run Tryz.prog w = .ok () w := by
  have h := J9
  simp [eqGuard, go_sem, h]
theorem OJ {v u:aH} :(v.ref == u.ref && v.n == u.n)=decide (v=u):=by
 obtain⟨a,b⟩:=v
 obtain⟨c,d⟩:=u
 by_cases h1:a=c <;> by_cases h2:b=d <;> simp[h1,h2]
theorem qM {α:Type} {a b:List α} {i:Nat} (d:α) (h1:i<a.length) (h2:i<b.length) (h:a.take i=b.take i) (e:a.getD i d=b.getD i d):a.take (i+1)=b.take (i+1):=by
 rw[ei a i d h1,ei b i d h2,h,e]
theorem zE {α:Type} {a b:List α} {i:Nat} (d:α) (e:¬a.getD i d=b.getD i d):¬a=b:=fun h=>e (by rw[h])
theorem pZ (A1 A2:Option Addr) (c1 c2:Nat) (a b:List aH) (w:World) (h1:Sl w (.slice A1 a.length c1) a) (h2:Sl w (.slice A2 b.length c2) b) :
  Calls Tryz.prog 69 #[.slice A1 a.length c1,.slice A2 b.length c2] w fun e w'=>e= .returned (.bool (decide (a=b)))/\Below w.heap.size w w':=by
 have b1:=bx h1
 refine enter Tryz.func69 rfl Tryz.ntmps69 rfl<|bV (fun hl=>?_) (fun hl=>?_)
 ·refine aj ?_
  intro w hw
  exact⟨aM (by rw[decide_eq_false (fun e=>hl (by rw[e]))]),hw.below⟩
 have hl:a.length=b.length:=by omega
 refine aj ?_
 refine dG (fun i:Nat=>i<=a.length/\a.take i=b.take i) (fun i=>a.length - i) (fun i=> [(0,.slice A1 a.length c1),(1,.slice A2 b.length c2),(5,.int .i64 (i:Int))]) (fun _=> []) 0 (⟨bi _,rfl⟩) ?_
 rintro i hi'
 obtain⟨hi,hj⟩:i<=a.length/\a.take i=b.take i:=hi'
 refine az (fun hlt=>?_) (fun hlt=>?_)
 ·have hil:i<a.length:=by omega
  have hil2:i<b.length:=by omega
  refine aj ?_
  refine bU [0,3,6,9,12,15,18,21,24] [] rfl<|aj ?_
  refine tE rfl (bZ (k:=i) cE fj (.ro h1) (by omega) rfl rfl rfl) ?_
  refine tE rfl (eW (SF.val (SF.ro h1) hil default) rfl rfl Iw fj)<|aj ?_
  refine tE rfl (bZ (k:=i) cE fj (.ro h2) (by omega) rfl rfl rfl) ?_
  refine tE rfl (eW (SF.val (SF.ro h2) hil2 default) rfl rfl Iw fj) ?_
  refine tE rfl (oI rfl rfl rfl (fun w=>PO w _ _ _ _) (fun w=>PP _ _ _ _ w))<|aj ?_
  rw[OJ]
  refine jJ rfl (fun he=>?_) (fun he=>?_)
  ·refine aj ?_
   intro w hw
   exact⟨aM (by rw[decide_eq_false (zE default he)]),hw.below⟩
  refine aj ?_
  refine dv (i+1) (⟨by show i+1<=_;omega,qM default hil hil2 hj he⟩) (by show _ - _<_ - _;omega)
 obtain rfl:i=a.length:=by omega
 rw[aQ,hl,aQ] at hj
 refine aj ?_
 intro w hw
 exact⟨aM (by rw[decide_eq_true hj]),hw.below⟩
theorem wT (A1 A2:Option Addr) (c1 c2:Nat) (a b:List (List Int)) (w:World) (h1:Sl w (.slice A1 a.length c1) a) (h2:Sl w (.slice A2 b.length c2) b) :
  Calls Tryz.prog 68 #[.slice A1 a.length c1,.slice A2 b.length c2] w fun e w'=>e= .returned (.bool (decide (a=b)))/\Below w.heap.size w w':=by
 have b1:=bx h1
 refine enter Tryz.func68 rfl Tryz.ntmps68 rfl<|bV (fun hl=>?_) (fun hl=>?_)
 ·refine aj ?_
  intro w hw
  exact⟨aM (by rw[decide_eq_false (fun e=>hl (by rw[e]))]),hw.below⟩
 have hl:a.length=b.length:=by omega
 refine aj ?_
 refine dG (fun i:Nat=>i<=a.length/\a.take i=b.take i) (fun i=>a.length - i) (fun i=> [(0,.slice A1 a.length c1),(1,.slice A2 b.length c2),(5,.int .i64 (i:Int))]) (fun _=> []) 0 (⟨bi _,rfl⟩) ?_
 rintro i hi'
 obtain⟨hi,hj⟩:i<=a.length/\a.take i=b.take i:=hi'
 refine az (fun hlt=>?_) (fun hlt=>?_)
 ·have hil:i<a.length:=by omega
  have hil2:i<b.length:=by omega
  obtain⟨A3,c3,hb1,hc1⟩:=h1.sub hil
  obtain⟨A4,c4,hb2,hc2⟩:=h2.sub hil2
  refine aj ?_
  refine bU [0,3,6,9,12,15,18,21,26,27] [] rfl<|aj ?_
  refine tE rfl (bZ (k:=i) ix lb (.ro h1) (by omega) rfl rfl rfl) ?_
  refine tE rfl (dT (hc1 _) rfl rfl vj)<|aj ?_
  refine tE rfl (bZ (k:=i) ix lb (.ro h2) (by omega) rfl rfl rfl) ?_
  refine tE rfl (dT (hc2 _) rfl rfl vj) ?_
  refine kW rfl rfl nT (fun w hw=>jG _ _ _ _ (a.getD i []) (b.getD i []) w (hw.ro hb1) (hw.ro hb2))<|bV (fun he=>?_) (fun he=>?_)
  ·refine aj ?_
   intro w hw
   exact⟨aM (by rw[decide_eq_false (zE [] he)]),hw.below⟩
  refine aj ?_
  refine dv (i+1) (⟨by show i+1<=_;omega,qM [] hil hil2 hj he⟩) (by show _ - _<_ - _;omega)
 obtain rfl:i=a.length:=by omega
 rw[aQ,hl,aQ] at hj
 refine aj ?_
 intro w hw
 exact⟨aM (by rw[decide_eq_true hj]),hw.below⟩
theorem fO {α:Type} {f:ar->α} {m1 m2:ar} (h:¬f m1=f m2):¬m1=m2:=fun e=>h (by rw[e])
theorem Ma {m1 m2:ar} (h1:m1.S=m2.S) (h2:m1.T=m2.T) (h3:m1.B=m2.B) (h4:m1.I=m2.I) (h5:m1.out=m2.out) (h6:m1.F=m2.F):m1=m2:=by
 cases m1;cases m2;simp_all
theorem zn {l1 l2:List aB} {i:Nat} {α:Type} {f:aB->α} (h:¬f (aP l1 i)=f (aP l2 i)):¬l1=l2:=fun e=>h (by rw[e])
theorem OP {x y:aB} (h1:x.func=y.func) (h2:x.pc=y.pc) (h3:x.L=y.L) (h4:x.K=y.K):x=y:=by
 cases x;cases y;simp_all
theorem kL {p:Prop} [Decidable p] (h:(!decide p)=true):¬p:=by simpa using h
theorem jI {p:Prop} [Decidable p] (h:(!decide p)=false):p:=by simpa using h
theorem sq (a b:MA) (m1 m2:ar) (w:World) (h1:fi w.heap.size w a m1) (h2:fi w.heap.size w b m2) :
  Calls Tryz.prog 15 #[.agg #[.slice a.Af m1.F.length a.cf,.slice a.Ab m1.B.length a.cb,.slice a.Ai m1.I.length a.ci,.slice a.Ao m1.out.length a.co,.int .i64 m1.S,.int .i64 m1.T],
   .agg #[.slice b.Af m2.F.length b.cf,.slice b.Ab m2.B.length b.cb,.slice b.Ai m2.I.length b.ci,.slice b.Ao m2.out.length b.co,.int .i64 m2.S,.int .i64 m2.T]] w fun e w'=>e= .returned (.bool (decide (m1=m2)))/\Below w.heap.size w w':=by
 have b1:=bx h1.f
 refine enter Tryz.func15 rfl Tryz.ntmps15 rfl<|aj ?_
 refine fun g1 _=>aj ?_
 refine fun g2 _=>df 13 (fun e1=>?_) (fun e1=>?_)
 ·refine aj ?_
  refine bo rfl<|aj ?_
  intro w hw
  exact⟨aM (by rw[decide_eq_false (fO (f:=ar.S) (kL e1))]),hw.below⟩
 have e1:=jI e1
 refine df 20 (fun e2=>?_) (fun e2=>?_)
 ·refine aj ?_
  refine bo rfl<|aj ?_
  intro w hw
  exact⟨aM (by rw[decide_eq_false (fO (f:=ar.T) (kL e2))]),hw.below⟩
 have e2:=jI e2
 refine aj ?_
 refine cA rfl Tryz.call68 (fun w hw=>wT _ _ _ _ m1.B m2.B w (hw.ro h1.b) (hw.ro h2.b))<|df 28 (fun e3=>?_) (fun e3=>?_)
 ·refine aj ?_
  refine bo rfl<|aj ?_
  intro w hw
  exact⟨aM (by rw[decide_eq_false (fO (f:=ar.B) (kL e3))]),hw.below⟩
 have e3:=jI e3
 refine aj ?_
 refine cA rfl nT (fun w hw=>jG _ _ _ _ m1.I m2.I w (hw.ro h1.i) (hw.ro h2.i))<|df 36 (fun e4=>?_) (fun e4=>?_)
 ·refine aj ?_
  refine bo rfl<|aj ?_
  intro w hw
  exact⟨aM (by rw[decide_eq_false (fO (f:=ar.I) (kL e4))]),hw.below⟩
 have e4:=jI e4
 refine aj ?_
 refine cA rfl nT (fun w hw=>jG _ _ _ _ m1.out m2.out w (hw.ro h1.o) (hw.ro h2.o))<|df 44 (fun e5=>?_) (fun e5=>?_)
 ·refine aj ?_
  refine bo rfl<|aj ?_
  intro w hw
  exact⟨aM (by rw[decide_eq_false (fO (f:=ar.out) (kL e5))]),hw.below⟩
 have e5:=jI e5
 refine bV (fun e6=>?_) (fun e6=>?_)
 ·refine aj ?_
  intro w hw
  exact⟨aM (by rw[decide_eq_false (fO (f:=fun m=>m.F.length) (fun h=>e6 (by rw[show m1.F.length=m2.F.length from h])))]),hw.below⟩
 have e6:m1.F.length=m2.F.length:=by omega
 refine aj ?_
 refine dG (fun i:Nat=>i<=m1.F.length/\m1.F.take i=m2.F.take i) (fun i=>m1.F.length - i) (fun i=> [(2,.pointer (some ⟨g1,0,none⟩)),(3,.pointer (some ⟨g2,0,none⟩)),(5,.int .i64 (i:Int))]) (fun _=> [am g1 [.slice a.Af m1.F.length a.cf,.slice a.Ab m1.B.length a.cb,.slice a.Ai m1.I.length a.ci,.slice a.Ao m1.out.length a.co,.int .i64 m1.S,.int .i64 m1.T] 43,am g2 [.slice b.Af m2.F.length b.cf,.slice b.Ab m2.B.length b.cb,.slice b.Ai m2.I.length b.ci,.slice b.Ao m2.out.length b.co,.int .i64 m2.S,.int .i64 m2.T] 43]) 0 (⟨bi _,rfl⟩) ?_
 rintro i hi'
 obtain⟨hi,hj⟩:i<=m1.F.length/\m1.F.take i=m2.F.take i:=hi'
 refine az (fun hlt=>?_) (fun hlt=>?_)
 ·have hil:i<m1.F.length:=by omega
  have hil2:i<m2.F.length:=by omega
  obtain⟨A1,c1,A2,c2,hl1,hs1,hI1,hc1⟩:=h1.f.fr hil
  obtain⟨A3,c3,A4,c4,hl2,hs2,hI2,hc2⟩:=h2.f.fr hil2
  refine fx (fw ?_)
  refine cu<|fZ<|dx (fun _:Nat×Nat=>True) (fun g=> [(2,.pointer (some ⟨g1,0,none⟩)),(3,.pointer (some ⟨g2,0,none⟩)),(5,.int .i64 (i:Int)),(6,.pointer (some ⟨g.1,0,none⟩)),(7,.pointer (some ⟨g.2,0,none⟩))]) (fun g=> [am g1 [.slice a.Af m1.F.length a.cf,.slice a.Ab m1.B.length a.cb,.slice a.Ai m1.I.length a.ci,.slice a.Ao m1.out.length a.co,.int .i64 m1.S,.int .i64 m1.T] 43,am g2 [.slice b.Af m2.F.length b.cf,.slice b.Ab m2.B.length b.cb,.slice b.Ai m2.I.length b.ci,.slice b.Ao m2.out.length b.co,.int .i64 m2.S,.int .i64 m2.T] 43,am g.1 [.int .i64 (aP m1.F i).func,.int .i64 (aP m1.F i).pc,.slice A1 (aP m1.F i).L.length c1,.slice A2 (aP m1.F i).K.length c2] 118,am g.2 [.int .i64 (aP m2.F i).func,.int .i64 (aP m2.F i).pc,.slice A3 (aP m2.F i).L.length c3,.slice A4 (aP m2.F i).K.length c4] 118]) ?_ ?_
  ·refine BH (.still 0 (.still 1 (.still 2 (.still 3 (.still 4 (.still 5 (.still 6 (.still 7 (.still 8 (.still 9 (.pick 10 (.pick 11 (.pick 12 (.pick 13 .done .stop) .stop) .stop) (.pick 11 (.pick 10 (.pick 12 (.pick 13 .done .stop) .stop) .stop) .stop)))))))))))) [13] rfl (by kernel_rfl) (by kernel_rfl) [am g1 [.slice a.Af m1.F.length a.cf,.slice a.Ab m1.B.length a.cb,.slice a.Ai m1.I.length a.ci,.slice a.Ao m1.out.length a.co,.int .i64 m1.S,.int .i64 m1.T] 43,am g2 [.slice b.Af m2.F.length b.cf,.slice b.Ab m2.B.length b.cb,.slice b.Ai m2.I.length b.ci,.slice b.Ao m2.out.length b.co,.int .i64 m2.S,.int .i64 m2.T] 43] ?_
   refine aj ?_
   refine tE rfl (bZ (k:=i) eR fC (.ro h1.f) (by omega) rfl rfl rfl) ?_
   refine tE rfl (eW (hc1 _) rfl rfl QD fC)<|aj ?_
   refine tE rfl (bZ (k:=i) eR fC (.ro h2.f) (by omega) rfl rfl rfl) ?_
   refine tE rfl (eW (hc2 _) rfl rfl QD fC) ?_
   refine ef rfl (mU Tryz.zeroValue118 rfl rfl) rfl rfl (.inr fun _=>ha) (fun q1 _=>?_) ?_
   ·refine aj ?_
    intro q2 _
    refine aj ?_
    refine cg<|dg (q1,q2) (trivial) (hh:=(fun _ h=>h.msub ms))
   refine aj ?_
   intro q2 _
   refine aj ?_
   intro q1 _
   refine aj ?_
   refine cg<|dg (q1,q2) (trivial) (hh:=(fun _ h=>h.msub ms))
  rintro⟨q1,q2⟩ _
  dsimp only
  refine df 75 (fun f1=>?_) (fun f1=>?_)
  ·refine aj ?_
   refine bo rfl<|aj ?_
   intro w hw
   exact⟨aM (by rw[decide_eq_false (fO (f:=ar.F) (zn (i:=i) (f:=aB.func) (kL f1)))]),hw.below⟩
  have f1:=jI f1
  refine df 82 (fun f2=>?_) (fun f2=>?_)
  ·refine aj ?_
   refine bo rfl<|aj ?_
   intro w hw
   exact⟨aM (by rw[decide_eq_false (fO (f:=ar.F) (zn (i:=i) (f:=aB.pc) (kL f2)))]),hw.below⟩
  have f2:=jI f2
  refine aj ?_
  refine cA rfl Tryz.call69 (fun w hw=>pZ _ _ _ _ (aP m1.F i).L (aP m2.F i).L w (hw.ro hl1) (hw.ro hl2))<|df 90 (fun f3=>?_) (fun f3=>?_)
  ·refine aj ?_
   refine bo rfl<|aj ?_
   intro w hw
   exact⟨aM (by rw[decide_eq_false (fO (f:=ar.F) (zn (i:=i) (f:=aB.L) (kL f3)))]),hw.below⟩
  have f3:=jI f3
  refine aj ?_
  refine cA rfl Tryz.call69 (fun w hw=>pZ _ _ _ _ (aP m1.F i).K (aP m2.F i).K w (hw.ro hs1) (hw.ro hs2))<|bV (fun f4=>?_) (fun f4=>?_)
  ·refine aj ?_
   intro w hw
   exact⟨aM (by rw[decide_eq_false (fO (f:=ar.F) (zn (i:=i) (f:=aB.K) f4))]),hw.below⟩
  refine aj ?_
  refine dv (i+1) (⟨by show i+1<=_;omega,qM default hil hil2 hj (OP f1 f2 f3 f4)⟩) (by show _ - _<_ - _;omega) (hh:=(fun w h=>h.msub ms))
 obtain rfl:i=m1.F.length:=by omega
 rw[aQ,e6,aQ] at hj
 refine aj ?_
 intro w hw
 exact⟨aM (by rw[decide_eq_true (Ma e1 e2 e3 e4 e5 hj)]),hw.below⟩
end
section
def iW:ar:=⟨[⟨0,0,[],[]⟩],[],[],[],0,0⟩
def Qd:ar:=⟨[⟨0,1,[],[⟨false,3⟩]⟩],[],[],[],0,0⟩
def QF:ar:=⟨[⟨0,0,[],[]⟩],[],[],[],1,0⟩
theorem EE:ec oU=0/\pY oU=iW/\fA oU iW=0/\KC oU iW=Qd/\fA oU Qd=0/\ec aO=0/\pY aO=iW/\fA aO iW=0/\KC aO iW=QF:=by
 refine⟨?_,?_,?_,?_,?_,?_,?_,?_,?_⟩ <;> kernel_rfl
theorem DV:nL iW.F:=by
 refine⟨by decide,fun x hx=>?_⟩
 have:x=⟨0,0,[],[]⟩:=by simpa [iW] using hx
 subst this
 decide
section
variable {fs:List au} {m:ar} {n:Nat}
theorem un (hp:ec fs=0) (hm:pY fs=iW) (hn:fs.length=n) (A:Option Addr) (c:Nat) (w:World) (hs:Sl w (.slice A n c) fs) :
  Calls Tryz.prog 54 #[.agg #[.slice A n c]] w fun e w'=> ∃g:MA,True/\
   e= .returned (.tuple #[.agg #[.slice g.Af 1 g.cf,.slice g.Ab 0 g.cb,.slice g.Ai 0 g.ci,.slice g.Ao 0 g.co,.int .i64 0,.int .i64 0],.int .i64 0])/\Cw w.heap.size w [an (.slice g.Af 1 g.cf) iW.F,an (.slice g.Ab 0 g.cb) iW.B,an (.slice g.Ai 0 g.ci) iW.I,an (.slice g.Ao 0 g.co) iW.out] w':=by
 subst hn
 have:=vS A c fs iW hm w hs
 rw[hp] at this
 exact this
end
section
variable {B:Nat} {w0 w:World} {H H1 H2 H3 H4:List aC}
theorem oy {g:MA} {m:ar} {nf nb ni no:Nat} (hw:Cw B w0 H w) (hf:bA H (an (.slice g.Af nf g.cf) m.F) H1) (hb:bA H (an (.slice g.Ab nb g.cb) m.B) H2) (hi:bA H (an (.slice g.Ai ni g.ci) m.I) H3) (ho:bA H (an (.slice g.Ao no g.co) m.out) H4) (e1:m.F.length=nf) (e2:m.B.length=nb) (e3:m.I.length=ni) (e4:m.out.length=no) (hs:aF m.S) (ht:aF m.T):fi w.heap.size w g m:=by
 subst e1 e2 e3 e4
 exact⟨SF.at_ (SF.own rfl hf) hw,SF.at_ (SF.own rfl hb) hw,SF.at_ (SF.own rfl hi) hw,SF.at_ (SF.own rfl ho) hw,hs,ht⟩
end
section
variable {P:Program} {n:NF} {B:Nat} {w0:World} {H H':List aC} {Q:Exit->Act->World->Prop} {env:bJ} {x:Code}
structure Rl (B:Nat) (w0:World) (X:aC) (k:Nat) (A:Option Addr) (c:Nat) (fr:List aB) (hs:List aI):Prop where
 el:∀i,i<k->∃Al cl As cs,hs.getD i default=⟨(aP fr i).func,(aP fr i).pc,.slice Al (aP fr i).L.length cl,.slice As (aP fr i).K.length cs⟩/\
  (∀H H',bA H X H'->SF B w0 H Al (aP fr i).L.length cl (aP fr i).L/\SF B w0 H As (aP fr i).K.length cs (aP fr i).K)
 len:hs.length=k
 back:∀H H' H'' w,bA H (an (.slice A k c) hs) H'->bA H' X H''->Cw B w0 H w->Cw B w0 (an (.slice A k c) fr::H'') w
theorem SF.hfr {A:Option Addr} {xs:List aI} {m c k:Nat} {h:aI} (hs:SF B w0 H A m c xs) (hk:k<m) (e:xs.getD k default=h):∀w,Cw B w0 H w->∀j v,([.int .i64 h.func,.int .i64 h.pc,h.lv,h.sv]:List Value)[j]? =some v->w.cell? ⟨ab A,ao A+k*4+j,none⟩=some v:=fun w hw j v hv=>SF.cell hs hk default (by rw[e];exact hv) w hw
theorem NX {l:List (aI×aB)} {i:Nat} (hi:i<l.length) {w:World} (h:Cw B w0 (dD l::H) w):Sl w l[i].1.lv l[i].2.L/\Sl w l[i].1.sv l[i].2.K:=by
 have h1:Cw B w0 (an l[i].1.lv l[i].2.L::an l[i].1.sv l[i].2.K::(dD (l.eraseIdx i)::H)) w:=sx hi h
 obtain⟨F1,k1,_⟩:=h1.rd bA.a
 obtain⟨F2,k2,_⟩:=h1.rd (bA.s bA.a)
 exact⟨bX.sl k1,bX.sl k2⟩
end
end
section
theorem OG (a b:Int) (w:World):(Instr.field 86 (.agg #[.int .i64 a,.int .i64 b]) 0).run Tryz.prog w= .ok (.int .i64 a) w:=by kernel_rfl
theorem NK {fs:List au} {m:ar} {li:List aB} {x:aB} (e:m.F=li++ [x]):aP m.F li.length=x/\m.F.length=li.length+1/\bT fs m=bt (av fs x.func.toNat).C x.pc.toNat:=by
 refine⟨by rw[e,ly],by rw[e];simp,?_⟩
 unfold bT is
 rw[e,yN]
end
section
theorem DO {fs:List au} {m:ar} (h:fA fs m=0):fq fs/\bz fs m:=by
 unfold fA at h
 split at h
 ·rename_i h2;exact absurd h h2
 rename_i h2;exact⟨nH (iL.1 h2),nw.1 h⟩
end
section
theorem E5 (c:Int) (w:World):Calls Tryz.prog 158 #[.int .i64 c] w fun e w'=>e= .returned (.int .i64 (eE c))/\Below w.heap.size w w':=by
 refine enter Tryz.func158 rfl Tryz.ntmps158 rfl<|az (fun h1=>?_) (fun h1=>?_)
 ·have h1:c=14:=h1
  refine aj ?_
  intro w hw
  exact⟨by rw[h1];rfl,hw.below⟩
 have h1:¬c=14:=h1
 refine az (fun h2=>?_) (fun h2=>?_)
 ·have h2:c=12:=h2
  refine aj ?_
  intro w hw
  exact⟨by rw[h2];rfl,hw.below⟩
 have h2:¬c=12:=h2
 refine aj ?_
 intro w hw
 exact⟨by unfold eE;rw[if_neg h1,if_neg h2],hw.below⟩
theorem JE (Ap:Option Addr) (cp:Nat) (fs:List au) (a:MA) (m:ar) (w:World) (hs:Sl w (.slice Ap fs.length cp) fs) (hm:fi w.heap.size w a m) (hF:fq fs) (hR:bz fs m) (hne:m.F≠[]) :
  Calls Tryz.prog 211 #[.agg #[.slice Ap fs.length cp],.agg #[.slice a.Af m.F.length a.cf,.slice a.Ab m.B.length a.cb,.slice a.Ai m.I.length a.ci,.slice a.Ao m.out.length a.co,.int .i64 m.S,.int .i64 m.T]] w fun e w'=>e= .returned (.agg #[.int .i64 (bT fs m).c,.int .i64 (bT fs m).a])/\Below w.heap.size w w':=by
 have b1:=bx hm.f
 obtain⟨li,x,e⟩:∃li x,m.F=li++ [x]:=by
  rcases fB m.F with h1 | ⟨l,z,h1⟩
  ·exact absurd h1 hne
  exact⟨l,z,by rw[h1];simp⟩
 obtain⟨hx,hk,hop⟩:=NK (fs:=fs) e
 obtain⟨k,hkl⟩:∃k,li.length=k:=⟨_,rfl⟩
 rw[hkl] at hx hk
 obtain⟨hfn,hloc,t,he,hts⟩:=hR.top e
 obtain⟨hp0,hp1,_⟩:=(hF.e x.func.toNat (by omega)).at_ _ _ he
 obtain⟨A1,c1,A2,c2,h1,h2,hi,hc⟩:=hm.f.fr (k:=k) (by omega)
 rw[hx] at h1 h2 hi hc
 obtain⟨kf,hkf⟩:∃kf:Nat,x.func=kf:=⟨x.func.toNat,by omega⟩
 obtain⟨kp,hkp⟩:∃kp:Nat,x.pc=kp:=⟨x.pc.toNat,by omega⟩
 rw[hkf,bj] at hp1 hop
 rw[hkp,bj] at hop
 rw[hkp] at hp1
 have hkfl:kf<fs.length:=by omega
 have hkpl:kp<(av fs kf).C.length:=by omega
 obtain⟨F1,d1,F2,d2,hfl,hfc,hfi,hfcell⟩:=hs.fn hkfl
 have bp:=bx hs
 have bc:=bx hfc
 rw[hop]
 refine enter Tryz.func211 rfl Tryz.ntmps211 rfl<|aj ?_
 refine fun g1 _=>aj ?_
 refine fun g2 _=>aj ?_
 refine fun g3 _=>aj ?_
 refine bW (t:=11) (v':= .int .i64 (k:Int)) rfl (congrArg (Value.int .i64) (by omega)) ?_
 refine sE (bZ (k:=k) eR fC (.ro hm.f) (by omega) rfl rfl rfl) ?_
 refine iX rfl (hc _)<|aj ?_
 refine fun g4 _=>aj ?_
 refine bU [0,3,6,9,12,15,18,21,24,27,30,35] [11] rfl<|aj ?_
 refine kb (t:=17) (v':= .int .i64 (kf:Int)) rfl (congrArg (Value.int .i64) hkf) ?_
 refine tE rfl (bZ (k:=kf) fE gv (.ro hs) (by omega) rfl rfl rfl)<|aj ?_
 refine tE rfl (dT (fun w hw=>hfcell _ w hw 3 _ rfl) rfl rfl Cm)<|aj ?_
 refine kb (t:=22) (v':= .int .i64 (kp:Int)) rfl (congrArg (Value.int .i64) hkp) ?_
 refine tE rfl (bZ (k:=kp) eQ jU (.ro hfc) (by omega) rfl rfl rfl) ?_
 refine tE rfl (eW (cs:= [_,_]) (SF.op (.ro hfc) (by omega)) rfl rfl Q4 jU)<|aj ?_
 intro w hw
 exact⟨rfl,hw.below⟩
def Q0 (o:bd):Int:=if fd o=0 then eE o.c else 0
def ri (fs:List au) (m:ar) (k:Int):ar×Int:=if gL m then (m,k) else if k<eE (bT fs m).c then (m,k) else (dZ fs m,k - eE (bT fs m).c)
def qr (fs:List au) (m:ar) (k:Int):Prop:= ¬gL m/\eE (bT fs m).c<=k/\(dZ fs m).S=0
instance (fs:List au) (m:ar) (k:Int):Decidable (qr fs m k):=by unfold qr;infer_instance
theorem uO {fs:List au} {m:ar} {k:Int} (h:gL m):ri fs m k=(m,k):=if_pos h
theorem AW {fs:List au} {m:ar} {k:Int} (h:¬gL m) (h2:k<eE (bT fs m).c):ri fs m k=(m,k):=(if_neg h).trans (if_pos h2)
theorem uM {fs:List au} {m:ar} {k:Int} (h:¬gL m) (h2:¬k<eE (bT fs m).c):ri fs m k=(dZ fs m,k - eE (bT fs m).c):=(if_neg h).trans (if_neg h2)
theorem Do (fs:List au) (m:ar) (k:Int):ic fs m k=if qr fs m k then ic fs (ri fs m k).1 (ri fs m k).2 else ri fs m k:=by
 rw[Dq]
 by_cases h1:gL m
 ·rw[if_pos h1,if_neg (show¬qr fs m k from fun h=>h.1 h1),uO h1]
 rw[if_neg h1]
 by_cases h2:k<eE (bT fs m).c
 ·rw[if_pos h2,if_neg (show¬qr fs m k from fun h=>by have:=h.2.1;omega),AW h1 h2]
 rw[if_neg h2,uM h1 h2]
 by_cases h3:(dZ fs m).S=0
 ·rw[if_pos h3,if_pos (show qr fs m k from⟨h1,by omega,h3⟩)]
 rw[if_neg h3,if_neg (show¬qr fs m k from fun h=>h3 h.2.2)]
section
variable {B:Nat} {w0:World} {H:List aC}
theorem Ga (gd:Nat) (a:MA) (m:ar) (k:Int) (Ap:Option Addr) (cp:Nat) (fs:List au) (hs:bE w0 B (.slice Ap fs.length cp) fs) (hF:fq fs) (hR:bz fs m) (hk:0<=k/\k<=10000) (p:ar×Int) (hpe:ri fs m k=p) (w:World)
  (hw:Cw B w0 (am gd [.slice a.Af m.F.length a.cf,.slice a.Ab m.B.length a.cb,.slice a.Ai m.I.length a.ci,.slice a.Ao m.out.length a.co,.int .i64 m.S,.int .i64 m.T,.int .i64 k] 205::an (.slice a.Af m.F.length a.cf) m.F::an (.slice a.Ab m.B.length a.cb) m.B::an (.slice a.Ai m.I.length a.ci) m.I::an (.slice a.Ao m.out.length a.co) m.out::H) w) :
  Calls Tryz.prog 154 #[.pointer (some ⟨gd,0,none⟩),.agg #[.slice Ap fs.length cp]] w fun e w'=> ∃g:MA,True/\e= .returned (.bool (decide (qr fs m k)))/\
   Cw B w0 (am gd [.slice g.Af p.1.F.length g.cf,.slice g.Ab p.1.B.length g.cb,.slice g.Ai p.1.I.length g.ci,.slice g.Ao p.1.out.length g.co,.int .i64 p.1.S,.int .i64 p.1.T,.int .i64 p.2] 205::an (.slice g.Af p.1.F.length g.cf) p.1.F::an (.slice g.Ab p.1.B.length g.cb) p.1.B::an (.slice g.Ai p.1.I.length g.ci) p.1.I::an (.slice g.Ao p.1.out.length g.co) p.1.out::H) w':=by
 have hp:=kE (bT fs m).c
 have hst:=hR.st
 have hst2:aF m.S:=⟨by omega,by omega⟩
 have htr2:aF m.T:=by
  rcases Decidable.em (m.S=3) with h3 | h3
  ·have:=hR.t3 h3;exact⟨by omega,by omega⟩
  have:=hR.t0 h3;exact⟨by omega,by omega⟩
 refine aY Tryz.func154 rfl Tryz.ntmps154 rfl hw<|aj ?_
 refine fun g1 _=>df 13 (fun q1=>?_) (fun q1=>?_)
 ·have hh:gL m:= .inl (aS (by have:=of_decide_eq_true q1;omega))
  have e:p=(m,k):=by rw[<-hpe,uO hh]
  subst e
  refine aj ?_
  refine bo rfl<|aj ?_
  intro w hw
  exact⟨a,trivial,aM (decide_eq_false (fun h=>h.1 hh)).symm,hw.msub ms⟩
 have hne:m.F≠[]:=fun e=>by have:=of_decide_eq_false q1;rw[e] at this;simp at this
 refine az (fun q2=>?_) (fun q2=>?_)
 ·have hh:gL m:= .inr q2
  have e:p=(m,k):=by rw[<-hpe,uO hh]
  subst e
  refine aj ?_
  intro w hw
  exact⟨a,trivial,aM (decide_eq_false (fun h=>h.1 hh)).symm,hw.msub ms⟩
 have q2:¬m.S=3:=q2
 have hh:¬gL m:=fun h=>h.elim hne q2
 have hst3:¬(m.S=2\/m.S=3):=(not_congr (JU hR)).1 hh
 obtain⟨c,hc⟩:∃c,eE (bT fs m).c=c:=⟨_,rfl⟩
 refine aj ?_
 refine bU [0,3,6,9,12,17,18,23,24] [] rfl<|aj ?_
 refine kW rfl rfl Tryz.call211 (fun w hw=>JE Ap cp fs a m w (hw.ro hs) (oy hw fc fc fc fc rfl rfl rfl rfl hst2 htr2) hF hR hne) ?_
 refine tE rfl (je (OG _ _) rfl rfl) ?_
 refine kW rfl rfl Tryz.call158 (fun w hw=>E5 _ w)<|aj ?_
 rw[hc] at hp
 rw[hc]
 have hc3:=Nn (bT fs m).c
 refine gJ rfl (fun q3=>?_) (fun q3=>?_)
 ·have q3:k<c:=q3
  have e:p=(m,k):=by rw[<-hpe,AW hh (by rw[hc];exact q3)]
  subst e
  refine aj ?_
  intro w hw
  exact⟨a,trivial,aM (decide_eq_false (fun h=>by have:=h.2.1;omega)).symm,hw.msub ms⟩
 have q3:¬k<c:=q3
 obtain⟨m2,hm2⟩:∃m2,dZ fs m=m2:=⟨_,rfl⟩
 have e:p=(m2,k - c):=by rw[<-hpe,uM hh (by rw[hc];exact q3),hm2,hc]
 subst e
 have hon:qr fs m k↔m2.S=0:=by
  unfold qr
  rw[hm2,hc]
  exact⟨fun h=>h.2.2,fun h=>⟨hh,by omega,h⟩⟩
 refine aj ?_
 refine bU [0,3,6,9,12,15,20,21,24,29] [9] rfl<|aj ?_
 refine jt rfl rfl Tryz.call114 (fun w hw=>LF Ap cp fs a m m2 hm2 w (hw.ro hs) (oy hw fc fc fc fc rfl rfl rfl rfl hst2 htr2) (iz hF hR) (fun hst=>FQ hs hF hR hst)) (fun g5 _=>aj ?_)
 intro w hw
 exact⟨g5,trivial,aM (decide_eq_decide.2 hon).symm,hw.msub ms⟩
end
end
section
theorem GG {fs:List au} (_:fq fs) {m:ar} (_:bz fs m) {k:Int} (hon:qr fs m k):ri fs m k=(dZ fs m,k - eE (bT fs m).c):=by
 exact uM hon.1 (by have:=hon.2.1;omega)
theorem JG (Ap:Option Addr) (cp:Nat) (fs:List au) (a:MA) (m:ar) (k:Int) (r:ar×Int) (hr:ic fs m k=r) (w:World) (hs:Sl w (.slice Ap fs.length cp) fs) (hm:fi w.heap.size w a m) (hF:fq fs) (hR:bz fs m) (hk:0<=k/\k<=10000) :
  Calls Tryz.prog 98 #[.agg #[.slice Ap fs.length cp],.agg #[.slice a.Af m.F.length a.cf,.slice a.Ab m.B.length a.cb,.slice a.Ai m.I.length a.ci,.slice a.Ao m.out.length a.co,.int .i64 m.S,.int .i64 m.T],.int .i64 k] w fun e w'=> ∃g:MA,True/\
   e= .returned (.tuple #[.agg #[.slice g.Af r.1.F.length g.cf,.slice g.Ab r.1.B.length g.cb,.slice g.Ai r.1.I.length g.ci,.slice g.Ao r.1.out.length g.co,.int .i64 r.1.S,.int .i64 r.1.T],.int .i64 r.2])/\Cw w.heap.size w [an (.slice g.Af r.1.F.length g.cf) r.1.F,an (.slice g.Ab r.1.B.length g.cb) r.1.B,an (.slice g.Ai r.1.I.length g.ci) r.1.I,an (.slice g.Ao r.1.out.length g.co) r.1.out] w':=by
 refine enter Tryz.func98 rfl Tryz.ntmps98 rfl<|aj ?_
 refine fun g1 _=>aj ?_
 refine fun g2 _=>aj ?_
 refine fun g3 _=>aj ?_
 refine eL rfl oo (fun w hw=>kv a m w (fi.ro hw hm) (iz hF hR)) (fun g0 _=>aj ?_)
 refine fun g4 _=>aj ?_
 refine dG (fun g:(ar×Int)×MA=>(bz fs g.1.1/\0<=g.1.2/\g.1.2<=10000)/\ic fs g.1.1 g.1.2=r) (fun g=>g.1.2.toNat) (fun _=> [(3,.pointer (some ⟨g1,0,none⟩)),(6,.pointer (some ⟨g3,0,none⟩)),(8,.pointer (some ⟨g4,0,none⟩))]) (fun g=> [am g4 [.slice g.2.Af g.1.1.F.length g.2.cf,.slice g.2.Ab g.1.1.B.length g.2.cb,.slice g.2.Ai g.1.1.I.length g.2.ci,.slice g.2.Ao g.1.1.out.length g.2.co,.int .i64 g.1.1.S,.int .i64 g.1.1.T,.int .i64 g.1.2] 205,an (.slice g.2.Af g.1.1.F.length g.2.cf) g.1.1.F,an (.slice g.2.Ab g.1.1.B.length g.2.cb) g.1.1.B,an (.slice g.2.Ai g.1.1.I.length g.2.ci) g.1.1.I,an (.slice g.2.Ao g.1.1.out.length g.2.co) g.1.1.out,am g1 [.slice Ap fs.length cp] 24,am g3 [.slice none 0 0,.slice none 0 0,.slice none 0 0,.slice none 0 0,.int .i64 0,.int .i64 0] 43]) ((m,k),g0) (⟨⟨hR,hk⟩,hr⟩) ?_
 rintro⟨⟨q,z⟩,g⟩ hq
 try dsimp only
 obtain⟨⟨hRq,hz⟩,hrq⟩:(bz fs q/\0<=z/\z<=10000)/\ic fs q z=r:=hq
 obtain⟨p,hpe⟩:∃p,ri fs q z=p:=⟨_,rfl⟩
 refine aj ?_
 refine cz rfl Tryz.call154 (fun w hw=>Ga g4 g q z Ap cp fs hs hF hRq hz p hpe w (hw.msub (.s fc (.s fc (.s fc (.s fc (.s fc .r))))))) (fun g5 _=>az (fun hon=>?_) (fun hon=>?_))
 ·have hon:qr fs q z:=hon
  have e1:=(GG hF hRq hon).symm.trans hpe
  have hp:=kE (bT fs q).c
  have h2:=hon.2.1
  refine aj ?_
  refine NH (p,g5) (by rw[<-e1];exact⟨⟨qO hF hRq,by show 0<=z - _;omega,by show z - _<=_;omega⟩,by show ic fs (dZ fs q) _=r;rw[<-hrq,Do fs q z,if_pos hon,hpe,<-e1]⟩) (by rw[<-e1];show (z - _).toNat<z.toNat;omega)
 have hon:¬qr fs q z:=hon
 have e1:p=r:=by rw[<-hrq,Do fs q z,if_neg hon,hpe]
 subst e1
 refine aj ?_
 refine dP [0,3,6,9,12,15,18,21,26,27] [] rfl [am g4 [.slice g5.Af p.1.F.length g5.cf,.slice g5.Ab p.1.B.length g5.cb,.slice g5.Ai p.1.I.length g5.ci,.slice g5.Ao p.1.out.length g5.co,.int .i64 p.1.S,.int .i64 p.1.T,.int .i64 p.2] 205]<|aj ?_
 intro w hw
 exact⟨g5,trivial,rfl,hw.msub ms⟩
def NW (fs:List au) (m:ar) (k:Int):Int:=if fA fs m≠0 then fA fs m else if k<0\/10000<k then 3 else 0
def Qm (fs:List au) (m:ar) (k:Int):ar×Int:=if NW fs m k=0 then ic fs m k else (default,0)
end
section
theorem pw {fs:List au} {m:ar} (h:bz fs m):aF m.S/\aF m.T:=by
 have hs:=h.st
 refine⟨⟨by omega,by omega⟩,?_⟩
 rcases Decidable.em (m.S=3) with h3 | h3
 ·have:=h.t3 h3;exact⟨by omega,by omega⟩
 have:=h.t0 h3;exact⟨by omega,by omega⟩
end
section
def mC (l:List ar):Prop:=l.length*112<=140737488355328/\∀m∈l,nL m.F
def cM (fs:List au) (l:List ar):Int:=
 if ec fs≠0 then ec fs else if l.length=0 then 5 else if 4<l.length then 2 else dY (fm fs) l
structure ln (fs:List au) (l:List ar):Prop where
 p:ec fs=0
 f:fq fs
 r:∀m∈l,bz fs m
 n0:1<=l.length
 n4:l.length<=4
theorem mI {fs:List au} {l:List ar} (h:cM fs l=0):ln fs l:=by
 unfold cM at h
 split at h
 ·exact absurd h (by assumption)
 rename_i h1
 have hp:ec fs=0:=dF h1
 split at h
 ·cases h
 split at h
 ·cases h
 exact⟨hp,nH hp,fun m hm=>nw.1 (ry h m hm),by omega,by omega⟩
theorem ln.world {fs:List au} {l:List ar} (h:ln fs l):cM fs l=0:=by
 unfold cM
 rw[if_neg (fun h'=>h' h.p),if_neg (by have:=h.n0;omega),if_neg (by have:=h.n4;omega)]
 exact pN fun m hm=>nw.2 (h.r m hm)
theorem ln.i64 {fs:List au} {l:List ar} (h:ln fs l) {k:Nat} (hk:k<l.length):aF (aw l k).S/\aF (aw l k).T:=pw (h.r _ (fG hk))
theorem wQ {l:List ar} {k:Nat} (hk:k<l.length):l.take (k+1)=l.take k++ [aw l k]:=ei l k default hk
theorem kK (Ap Aw:Option Addr) (cp cw:Nat) (fs:List au) (l:List ar) (w:World) (hs:Sl w (.slice Ap fs.length cp) fs) (hl:Sl w (.slice Aw l.length cw) l) (hfit:mC l) :
  Calls Tryz.prog 20 #[.agg #[.slice Ap fs.length cp],.agg #[.slice Aw l.length cw]] w fun e w'=>e= .returned (.int .i64 (cM fs l))/\Below w.heap.size w w':=by
 have bl:=bx hl
 refine enter Tryz.func20 rfl Tryz.ntmps20 rfl<|aj ?_
 refine fun g1 _=>aj ?_
 refine fun g2 _=>aj ?_
 refine cA rfl Fx (fun w hw=>nt Ap cp fs w (hw.ro hs))<|bV (fun hp=>?_) (fun hp=>?_)
 ·have hp:¬ec fs=0:=hp
  refine aj ?_
  intro w hw
  exact⟨gH (by unfold cM;rw[if_pos hp]),hw.below⟩
 have hp:ec fs=0:=hp
 have hF:=nH hp
 refine az (fun h0=>?_) (fun h0=>?_)
 ·have h0:l.length=0:=by have h0:(l.length:Int)=0:=h0;omega
  refine aj ?_
  intro w hw
  exact⟨gH (by unfold cM;rw[if_neg (fun h=>h hp),if_pos h0]),hw.below⟩
 have h0:¬l.length=0:=by have h0:¬(l.length:Int)=0:=h0;omega
 refine az (fun h4=>?_) (fun h4=>?_)
 ·have h4:4<l.length:=by have h4:(4:Int)<l.length:=h4;omega
  refine aj ?_
  intro w hw
  exact⟨gH (by unfold cM;rw[if_neg (fun h=>h hp),if_neg h0,if_pos h4]),hw.below⟩
 have h4:¬4<l.length:=by have h4:¬(4:Int)<l.length:=h4;omega
 have hE:cM fs l=dY (fm fs) l:=by unfold cM;rw[if_neg (fun h=>h hp),if_neg h0,if_neg h4]
 refine aj ?_
 refine dG (fun k:Nat=>k<=l.length/\dY (fm fs) (l.take k)=0) (fun k=>l.length - k) (fun k=> [(2,.pointer (some ⟨g1,0,none⟩)),(25,.slice Aw l.length cw),(26,.int .i64 (l.length:Int)),(27,.int .i64 (k:Int))]) (fun _=> [am g1 [.slice Ap fs.length cp] 24]) 0 (⟨bi _,rfl⟩) ?_
 rintro k hk'
 obtain⟨hk,hz⟩:k<=l.length/\dY (fm fs) (l.take k)=0:=hk'
 refine az (fun hlt=>?_) (fun hlt=>?_)
 ·have hkl:k<l.length:=by omega
  obtain⟨a,hm,hcell⟩:=hl.mc hkl
  have hq:=jR (g:=fm fs) default hkl hz
  refine aj ?_
  refine dA (k) rfl ((.ro hl)) ?_
  refine iX rfl (hcell _)<|aj ?_
  refine fun g3 _=>aj ?_
  refine cA rfl Rn (fun w hw=>rk Ap cp fs a (aw l k) w (hw.ro hs) (hm.ro hw) hF (hfit.2 _ (fG hkl)))<|bV (fun he=>?_) (fun he=>?_)
  ·have he:¬fm fs (aw l k)=0:=he
   have hq:dY (fm fs) (l.take (k+1))=fm fs (aw l k):=hq
   refine aj ?_
   intro w hw
   exact⟨gH (by rw[hE,pD (k:=k+1) (by rw[hq];exact he),hq]),hw.below⟩
  have he:fm fs (aw l k)=0:=he
  have hq:dY (fm fs) (l.take (k+1))=fm fs (aw l k):=hq
  refine aj ?_
  refine dv (k+1) (⟨by show k+1<=_;omega,hq.trans he⟩) (by show _ - _<_ - _;omega)
 obtain rfl:k=l.length:=by omega
 rw[aQ] at hz
 refine aj ?_
 intro w hw
 exact⟨gH (by rw[hE,hz]),hw.below⟩
theorem zt (Aw:Option Addr) (cw:Nat) (fs:List au) (l:List ar) (w:World) (hl:Sl w (.slice Aw l.length cw) l) (hW:ln fs l) :
  Calls Tryz.prog 96 #[.agg #[.slice Aw l.length cw]] w fun e w'=> ∃g:Nat×Option Addr×Nat,True/\e= .returned (.pointer (some ⟨g.1,0,none⟩))/\Cw w.heap.size w [am g.1 [.slice g.2.1 l.length g.2.2] 148,an (.slice g.2.1 l.length g.2.2) l] w':=by
 have bl:=bx hl
 have h4:=hW.n4
 refine enter Tryz.func96 rfl Tryz.ntmps96 rfl<|aj ?_
 refine fun g1 _=>aj ?_
 refine fun g2 _=>aj ?_
 refine dJ (fun w h=>Cw.nilO ar h) ?_
 refine dG (fun g:Nat×Option Addr×Nat=>g.1<=l.length) (fun g=>l.length - g.1) (fun g=> [(3,.pointer (some ⟨g2,0,none⟩)),(9,.slice Aw l.length cw),(10,.int .i64 (l.length:Int)),(11,.int .i64 (g.1:Int))]) (fun g=> [am g2 [.slice g.2.1 (l.take g.1).length g.2.2] 148,an (.slice g.2.1 (l.take g.1).length g.2.2) (l.take g.1)]) (0,none,0) (bi _) ?_
 rintro⟨k,A',c'⟩ hk
 try dsimp only
 have hk:k<=l.length:=hk
 have htl:(l.take k).length=k:=by rw[ax];omega
 refine az (fun hlt=>?_) (fun hlt=>?_)
 ·have hkl:k<l.length:=by omega
  obtain⟨a,hm,hcell⟩:=hl.mc hkl
  have hI:=hW.i64 hkl
  have htk:=wQ hkl
  refine aj ?_
  refine dA (k) rfl ((.ro hl)) ?_
  refine iX rfl (hcell _)<|aj ?_
  refine fun g3 _=>aj ?_
  refine dP [0,3,6,9,12,15,18,23,26,29,30,33,36,41] [13] rfl [am g2 [.slice A' (l.take k).length c'] 148,am g3 [.slice a.Af (aw l k).F.length a.cf,.slice a.Ab (aw l k).B.length a.cb,.slice a.Ai (aw l k).I.length a.ci,.slice a.Ao (aw l k).out.length a.co,.int .i64 (aw l k).S,.int .i64 (aw l k).T] 43]<|aj ?_
  refine jt rfl rfl oo (fun w hw=>kv a (aw l k) w (hm.ro hw) (iz hW.f (hW.r _ (fG hkl)))) (fun ga _=>aj ?_)
  intro g4 _
  refine pE rfl (cV (α:=ar) (bytes:=112) (aw l k) [an (.slice ga.Af (aw l k).F.length ga.cf) (aw l k).F,an (.slice ga.Ab (aw l k).B.length ga.cb) (aw l k).B,an (.slice ga.Ai (aw l k).I.length ga.ci) (aw l k).I,an (.slice ga.Ao (aw l k).out.length ga.co) (aw l k).out] htk dQ (bM lp) rfl (vM fc fc fc fc fc fc) (oP hI) (by omega) (by omega) rfl rfl rfl) (fun⟨A5,c5⟩ _=>?_)
  refine aJ ?_
  refine dv (k+1,A5,c5) (by show k+1<=_;omega) (by show _ - _<_ - _;omega)
 obtain rfl:k=l.length:=by omega
 rw[aQ]
 refine aj ?_
 intro w hw
 exact⟨(g2,A',c'),trivial,rfl,hw.msub ms⟩
end
section
theorem qw {z:Int} (h:bB z=true):aF z:=by
 unfold bB at h
 simp only[cY,decide_eq_true_eq] at h
 unfold aF
 omega
theorem JB (z:Int):aF (cL z).n:=qw (wg z)
theorem Jc (z:Int) (hz:aF z) (w:World):Calls Tryz.prog 109 #[.int .i64 z] w fun e w'=>e= .returned (.agg #[.bool (cL z).ref,.int .i64 (cL z).n])/\Below w.heap.size w w':=by
 refine enter Tryz.func109 rfl Tryz.ntmps109 rfl<|aj ?_
 refine fun g1 _=>aj ?_
 refine cA rfl Tryz.call110 (fun w hw=>(xK z w hz).mono fun e w' h=>by obtain⟨h1,rfl⟩:=h;exact⟨h1,Below.refl _ _⟩)<|aj ?_
 intro w hw
 exact⟨rfl,hw.below⟩
section
variable {B:Nat} {w0:World} {H:List aC}
end
end
section
section
variable {P:Program} {n:NF} {B:Nat} {w0:World} {H H':List aC} {Q:Exit->Act->World->Prop} {env:bJ} {x:Code} {ops:Array Oper} {os:List Oper} {Hq:List aC} {fin:List Nat} {r:gG}
end
structure QM (B:Nat) (w0:World) (fs:List au) (m:ar) (a:MA) (li:List (aI×aB)) (k:Nat) (Ap:Option Addr) (cp:Nat) (f p0 p1:Int) (l s:List aH) (o:bd) (fr:Int):Prop where
 hk:li.length=k
 hok:fL li
 hp:bE w0 B (.slice Ap fs.length cp) fs
 hm:fi B w0 a m
 fit:Fu m
 nd:rM fs m.B.length ⟨f,p1,l,s⟩ o
 bl:cc m.B=0
 sl:s.length<=900
 ol:m.out.length<=1000
 k6:k<=1000
 hst:∀q∈li,q.2.K.length<=1000
 oa:aF o.a
 pi:aF f/\aF p0/\aF p1
 si:∀v∈s,aF v.n
 lv:∀v∈l,aF v.n
 hms:aF m.S
 fn:0<=f/\f<fs.length/\fr=(av fs f.toNat).result/\0<=fr
 mf:m.F.length=k+1
 isn:o.c=19->0<=(bn s).n/\(bn s).n<=m.B.length
 of:bT fs m=o
 fs:m.F=li.map Prod.snd++ [⟨f,p0,l,s⟩]
 ib:m.I.length<=1000
 ii:∀z∈m.I,aF z
 sI:∀v∈s,v.n<=2147483647
section
variable {B:Nat} {w0:World} {Q:Exit->Act->World->Prop} (gp gm gr go gc gf gs gn k:Nat) (li:List (aI×aB)) (A Al As Ap Ab Ai Ao:Option Addr) (c cl cs cp cb ci co:Nat) (a:MA) (m:ar) (f p0 p1 fr:Int) (l s:List aH) (o:bd) (fs:List au) (rz:List Value) (fx0 fx1 fx3:Value) (hrz:rz.length=6)
end
end
section
theorem NR {α:Type} :∀(l:List α),l.length=6->∃a b c d e f,l= [a,b,c,d,e,f]
 | [a,b,c,d,e,f],_=>⟨a,b,c,d,e,f,rfl⟩
 | [],h=>by cases h
 | [_],h=>by cases h
 | [_,_],h=>by cases h
 | [_,_,_],h=>by cases h
 | [_,_,_,_],h=>by cases h
 | [_,_,_,_,_],h=>by cases h
 | _::_::_::_::_::_::_::_,h=>by simp only[aR] at h;omega
section
variable {P:Program} {n:NF} {B:Nat} {w0:World} {H H':List aC} {Q:Exit->Act->World->Prop} {env:bJ} {x:Code} {ops:Array Oper} {os:List Oper} {Hq:List aC} {fin:List Nat} {r:gG}
end
section
variable {B:Nat} {w0:World} {Q:Exit->Act->World->Prop} (gp gm gr go gc gf gs gn k:Nat) (li:List (aI×aB)) (A Al As Ap Ab Ai Ao:Option Addr) (c cl cs cp cb ci co:Nat) (a:MA) (m:ar) (f p0 p1 fr:Int) (l s:List aH) (o:bd) (fs:List au) (rz:List Value) (fx0 fx1 fx3:Value)
end
end
section
theorem AR {α:Type} [Ow α] {B:Nat} {w0:World} {H:List aC} {A:Option Addr} {c:Nat} {s:List α} {w:World} (h1:1<=s.length) (h:Cw B w0 (an (.slice A s.length c) s::H) w):Cw B w0 (an (.slice (ji A 1 c (ay.k α)) (s.drop 1).length (c - 1)) (s.drop 1)::H) w:=by
 rw[aE]
 exact xn h1 h
section
variable {B:Nat} {w0:World} {Q:Exit->Act->World->Prop} (gp gm gr go gc gf gs gn k:Nat) (li:List (aI×aB)) (A Al As Ap Ab Ai Ao:Option Addr) (c cl cs cp cb ci co:Nat) (a:MA) (m:ar) (f p0 p1 fr:Int) (l s:List aH) (o:bd) (fs:List au) (rz:List Value) (fx0 fx1 fx3:Value)
theorem QR (R:QM B w0 fs m a li k Ap cp f p0 p1 l s o fr) (hrz:rz.length=6) (K:∀(As':Option Addr) (cs':Nat) (Ai':Option Addr) (ci':Nat),m.I≠[]->XW ⟨551,[]⟩ B w0 Q .normal [(4,.pointer (some ⟨gr,0,none⟩)),(5,.pointer (some ⟨go,0,none⟩)),(6,.pointer (some ⟨ab A,ao A+k*4,none⟩)),(9,.pointer (some ⟨gs,0,none⟩)),(13,.int .i64 p1)] (am gs [.slice As' (s++ [cL (m.I.getD 0 0)]).length cs'] 116::an (.slice As' (s++ [cL (m.I.getD 0 0)]).length cs') (s++ [cL (m.I.getD 0 0)])::am gr rz 43::am go [.slice A (k+1) c,.slice Ab m.B.length cb,.slice Ai' (m.I.drop 1).length ci',.slice Ao m.out.length co,.int .i64 0,.int .i64 m.T] 43::an (.slice A (k+1) c) (li.map Prod.fst++ [(⟨f,p0,.slice Al l.length cl,.slice As s.length cs⟩:aI)])::an (.slice Al l.length cl) l::dD li::an (.slice Ab m.B.length cb) m.B::an (.slice Ai' (m.I.drop 1).length ci') (m.I.drop 1)::an (.slice Ao m.out.length co) m.out:: [])) (KR:∀g:MA,m.I= []->XW ⟨551,[]⟩ B w0 Q .ret [(4,.pointer (some ⟨gr,0,none⟩))] (am gr [.slice g.Af m.F.length g.cf,.slice g.Ab m.B.length g.cb,.slice g.Ai m.I.length g.ci,.slice g.Ao m.out.length g.co,.int .i64 1,.int .i64 m.T] 43::an (.slice g.Af m.F.length g.cf) m.F::an (.slice g.Ab m.B.length g.cb) m.B::an (.slice g.Ai m.I.length g.ci) m.I::an (.slice g.Ao m.out.length g.co) m.out:: [])):CW Tryz.prog ⟨551,[]⟩ B w0 (GP [true,true,true,true,true,true,true,true,true,true,true,false,true,false,true,true,true,true,true,true,true,true,true,true,true,true,true,true,true,true,true,true,true,true,true,true,true,true,true,true,true,true,true,true,true,true,true,true,true,true,true,true,true,true,true,false] (Po Tryz.f51)) Q [(4,.pointer (some ⟨gr,0,none⟩)),(5,.pointer (some ⟨go,0,none⟩)),(6,.pointer (some ⟨ab A,ao A+k*4,none⟩)),(9,.pointer (some ⟨gs,0,none⟩)),(11,.func (.func 109) #[] #[]),(13,.int .i64 p1)] [am gs [.slice As s.length cs] 116,an (.slice As s.length cs) s,am gp [.slice Ap fs.length cp] 24,am gm [.slice a.Af m.F.length a.cf,.slice a.Ab m.B.length a.cb,.slice a.Ai m.I.length a.ci,.slice a.Ao m.out.length a.co,.int .i64 m.S,.int .i64 m.T] 43,am gr rz 43,am go [.slice A (k+1) c,.slice Ab m.B.length cb,.slice Ai m.I.length ci,.slice Ao m.out.length co,.int .i64 m.S,.int .i64 m.T] 43,am gc [.int .i64 o.c,.int .i64 o.a] 86,am gf [fx0,fx1,.int .i64 fr,fx3] 84,am gn [.int .i64 (s.length:Int)] 3,an (.slice A (k+1) c) (li.map Prod.fst++ [(⟨f,p0,.slice Al l.length cl,.slice As s.length cs⟩:aI)]),an (.slice Al l.length cl) l,dD li,an (.slice Ab m.B.length cb) m.B,an (.slice Ai m.I.length ci) m.I,an (.slice Ao m.out.length co) m.out]:=by
 have hsl:=R.sl
 have hib:=R.ib
 obtain⟨z0,z1,z2,z3,z4,z5,rfl⟩:∃z0 z1 z2 z3 z4 z5,rz= [z0,z1,z2,z3,z4,z5]:=NR rz hrz
 refine gI (fun w h=>mS h (xs:=m.I) (A:=Ai) (m:=m.I.length) (c:=ci) fc) fun hcap=>?_
 refine cu<|az (fun h0=>?_) (fun h0=>?_)
 ·have h0:m.I= []:=aS (by have h0:(m.I.length:Int)=0:=h0;omega)
  refine cu<|bG<|dW (tw (vs:= [_,_,_,_,_,_]) fc kZ dH rfl rfl (by rfl) rfl) rfl rfl ?_
  refine eV (eB _ fc dH rfl rfl rfl rfl rfl (by rfl) rfl (by rfl)) rfl rfl (fun _ _=>?_)
  refine bK<|oT (qJ ?_)
  refine KA (KR ⟨A,c,Ab,cb,Ai,ci,Ao,co⟩ h0) ⟨rfl,trivial⟩ (fun w h=>by dsimp only;rw[R.mf,R.fs];exact(sZ (li:=li) (h:=⟨f,p0,.slice Al l.length cl,.slice As s.length cs⟩) (x:=⟨f,p0,l,s⟩) R.hok ⟨rfl,rfl⟩ (h.msub (T:=an (.slice A (k+1) c) (li.map Prod.fst++ [(⟨f,p0,.slice Al l.length cl,.slice As s.length cs⟩:aI)])::an (.slice Al l.length cl) l::an (.slice As s.length cs) s::dD li::am gr [.slice A (k+1) c,.slice Ab m.B.length cb,.slice Ai m.I.length ci,.slice Ao m.out.length co,.int .i64 1,.int .i64 m.T] 43::an (.slice Ab m.B.length cb) m.B::an (.slice Ai m.I.length ci) m.I::an (.slice Ao m.out.length co) m.out:: []) ms)).msub ms)
 have h0:¬m.I.length=0:=by have h0:¬(m.I.length:Int)=0:=h0;omega
 have hz:aF (m.I.getD 0 0):=R.ii _ (fW (by omega))
 have kC:(m.I.drop 1).length=m.I.length - 1:=aE
 refine aj ?_
 refine bU [0,3,6,9,12,15,20,23,26,29] [8,9] rfl<|aj ?_
 refine tE rfl (bZ (k:=0) aV cJ (SF.own (xs:=m.I) rfl fc) (by omega) rfl rfl rfl) ?_
 refine tE rfl (dT (SF.int (SF.own (xs:=m.I) rfl fc) (by omega)) rfl rfl du) ?_
 refine pE rfl (sG rfl rfl rfl Tryz.call109 (fun w hw=>Jc (m.I.getD 0 0) hz w)) (fun _ _=>aj ?_)
 intro g1 _
 refine pE rfl (cV (α:=aH) (bytes:=16) (cL (m.I.getD 0 0)) [] rfl cE (bM jc) rfl (fT (R:=an (.slice As s.length cs) s) fc fc) (eJ (JB _)) (by omega) (by omega) rfl rfl rfl) (fun⟨A3,c3⟩ _=>?_)
 refine aJ ?_
 refine sE (xQ (k:=(m.I.drop 1).length) aV cJ ⟨by omega,by omega⟩ kC.symm rfl rfl rfl rfl)<|aj ?_
 refine qc<|KA (K A3 c3 (ji Ai 1 ci 1) (ci - 1) (fun e=>h0 (by rw[e];rfl))) ⟨rfl,rfl,rfl,rfl,rfl,trivial⟩ (fun w h=>(AR (s:=m.I) (A:=Ai) (c:=ci) (by omega) (h.msub (.s fc .r))).msub ms)
end
end
section
theorem yO {α:Type} {l:List α} {k:Nat} (h:k<l.length) (x d:α):(l.set k x).getD k d=x:=by
 rw[ak,List.getElem?_set_self h]
 rfl
theorem LJ {P:Program} {n:NF} {o:Oper} {env:bJ} {B:Nat} {w0:World} {H:List aC} {i j:Operand} {t u:TypeId} {x y:Int} {a b:Nat} (ha:x=a/\a<=1000000) (hb:y=b/\0<b) (hop:o.op= .binOp .rem t i j u) (hi:opv env i=some (.int .i64 x)) (hj:opv env j=some (.int .i64 y)):QS P n B w0 o env H (.int .i64 (((a % b:Nat)):Int)):=by
 obtain⟨rfl,ha⟩:=ha
 obtain⟨rfl,hb⟩:=hb
 refine ku hop hi hj (by decide) fun w=>?_
 have e:(a:Int).tmod b=((a % b:Nat):Int):=by rw[Int.tmod_eq_emod_of_nonneg (by omega)];omega
 have h1:(a % b:Nat)<=1000000:=dc (Nat.mod_le _ _) ha
 simp only[binOp,Op.intDiv,ne_eq,not_true_eq_false,if_false]
 rw[if_neg (by omega),e]
 simp
section
variable {B:Nat} {w0:World} {H:List aC}
theorem yy (gx i n c:Nat) (A:Option Addr) (l:List ar) (z:Int) (hl:l.length=n) (hi:i<n) (hz:aF z) (hb:(aw l i).I.length<=10) (w:World)
  (hw:Cw B w0 (am gx [.slice A n c] 148::an (.slice A n c) l::H) w) :
  Calls Tryz.prog 100 #[.pointer (some ⟨gx,0,none⟩),.int .i64 (i:Int),.int .i64 z] w fun e w'=> ∃_:Unit,True/\e= .returned (.bool (!decide ((aw l i).I.length=10)))/\
   Cw B w0 (am gx [.slice A n c] 148::an (.slice A n c) (if (aw l i).I.length=10 then l else l.set i (iB (aw l i) z))::H) w':=by
 have b1:n<=140737488355328:=bx (SF.at_ (SF.own (xs:=l) hl (.s .a)) hw)
 refine aY Tryz.func100 rfl Tryz.ntmps100 rfl hw ?_
 refine BI (L:=l) (k:=i) (by omega) fc fun X hs a hA=>?_
 have hhl:hs.length=n:=hA.len.trans hl
 have hhd:=hA.hd
 have hI:=hA.i64
 refine aj ?_
 refine dA (i) rfl ((SF.own (xs:=hs) hhl fc))<|aj ?_
 refine eM rfl (fun w hw=>(SF.hmc (SF.own (xs:=hs) hhl fc) hi hhd) w hw 2 _ rfl)<|az (fun h10=>?_) (fun h10=>?_)
 ·have h10:(aw l i).I.length=10:=by have h10:((aw l i).I.length:Int)=10:=h10;omega
  refine aj ?_
  intro w hw
  refine⟨(),trivial,?_,?_⟩
  ·rw[decide_eq_true h10];rfl
  rw[if_pos h10]
  exact(hA.same (by omega) (hw.msub (.s fc (.s fc (.s fc (.s fc (.s fc (.s fc .r)))))))).msub ms
 have h10:¬(aw l i).I.length=10:=by have h10:¬((aw l i).I.length:Int)=10:=h10;omega
 refine aj ?_
 refine eM rfl (fun w hw=>(SF.hmc (SF.own (xs:=hs) hhl fc) hi hhd) w hw 2 _ rfl)<|aj ?_
 intro g1 _
 refine oE (cV (α:=Int) (bytes:=8) z [] rfl aV (bM ge) rfl (fT (R:=an (.slice a.Ai (aw l i).I.length a.ci) (aw l i).I) fc fc) (tJ hz) (by omega) (by omega) rfl rfl rfl) (fun⟨A5,c5⟩ _=>?_)
 try dsimp only
 refine aD ?_
 refine aD ?_
 refine oE (qp (α:=dI) (A:=A) (c:=c) (m:=n) (f:=2) (us:= [.slice A5 ((aw l i).I++ [z]).length c5]) (lj ⟨a.Af,a.cf,a.Ab,a.cb,A5,c5,a.Ao,a.co⟩ {aw l i with I:=(aw l i).I++ [z]}) default rfl fc hi (Bn hI) lb rfl rfl rfl rfl rfl rfl (by rw[hhd];rfl) rfl) (fun _ _=>aj ?_)
 have hhl2:(hs.set i (lj ⟨a.Af,a.cf,a.Ab,a.cb,A5,c5,a.Ao,a.co⟩ {aw l i with I:=(aw l i).I++ [z]})).length=n:=by rw[dt];exact hhl
 have hhd2:(hs.set i (lj ⟨a.Af,a.cf,a.Ab,a.cb,A5,c5,a.Ao,a.co⟩ {aw l i with I:=(aw l i).I++ [z]})).getD i default=lj ⟨a.Af,a.cf,a.Ab,a.cb,A5,c5,a.Ao,a.co⟩ {aw l i with I:=(aw l i).I++ [z]} :=yO (by omega) _ _
 refine eM rfl (fun w hw=>(SF.hmc (SF.own (A:=A) (c:=c) hhl2 fc) hi hhd2) w hw 4 _ rfl)<|az (fun h1=>?_) (fun h1=>?_)
 ·have h1:(aw l i).S=1:=h1
  refine bG<|aD ?_
  refine aD ?_
  refine aD ?_
  refine oE (qp (α:=dI) (A:=A) (c:=c) (m:=n) (f:=4) (us:= [.int .i64 0]) (lj ⟨a.Af,a.cf,a.Ab,a.cb,A5,c5,a.Ao,a.co⟩ (iB (aw l i) z)) default (List.set_set ..).symm fc hi (Bn ⟨by unfold iB;dsimp only;rw[if_pos h1];decide,hI.2⟩) cJ rfl rfl rfl rfl rfl rfl (by rw[hhd2];unfold iB;rw[if_pos h1];rfl) rfl) (fun _ _=>aj ?_)
  intro w hw
  refine⟨(),trivial,?_,?_⟩
  ·rw[decide_eq_false h10];rfl
  rw[if_neg h10]
  exact(hA.back _ ⟨a.Af,a.cf,a.Ab,a.cb,A5,c5,a.Ao,a.co⟩ (iB (aw l i) z) _ _ (hw.msub (.s fc (.s fc (.s fc (.s fc (.s fc (.s fc .r)))))))).msub ms
 have h1:¬(aw l i).S=1:=h1
 have e1:iB (aw l i) z= {aw l i with I:=(aw l i).I++ [z]} :=by unfold iB;rw[if_neg h1]
 refine aj ?_
 intro w hw
 refine⟨(),trivial,?_,?_⟩
 ·rw[decide_eq_false h10];rfl
 rw[if_neg h10,e1]
 exact(hA.back _ ⟨a.Af,a.cf,a.Ab,a.cb,A5,c5,a.Ao,a.co⟩ {aw l i with I:=(aw l i).I++ [z]} _ _ (hw.msub (.s fc (.s fc (.s fc (.s fc (.s fc (.s fc .r)))))))).msub ms
end
end
section
section
variable {B:Nat} {w0:World} {H:List aC}
theorem Bf (gx n c:Nat) (A:Option Addr) (fs:List au) (l:List ar) (hl:l.length=n) (hR:∀m∈l,bz fs m) (hn:1<=n/\n<=4) (r:List ar×Nat) (hr:mv l=r) (w:World)
  (hw:Cw B w0 (am gx [.slice A n c] 148::an (.slice A n c) l::H) w) :
  Calls Tryz.prog 97 #[.pointer (some ⟨gx,0,none⟩)] w fun e w'=> ∃_:Unit,True/\e= .returned (.int .i64 (r.2:Int))/\
   Cw B w0 (am gx [.slice A n c] 148::an (.slice A n c) r.1::H) w':=by
 subst hr
 have hsum:∀k,k<=n->(cq l k).2<=1000:=fun k hk=>by
  have h:=(mw (fs:=fs) l k (by omega)).1
  have e:=h.cnt (fun j=>(aw l j).out.length - (aw (cq l k).1 j).out.length) fun j hj=>by have:=h.fewer j hj;omega
  have hb:∀j,j<l.length->(aw l j).out.length<=10:=fun j hj=>(hR _ (fG hj)).ob
  have:∀q,q<=l.length->((List.range q).map fun j=>(aw l j).out.length - (aw (cq l k).1 j).out.length).sum<=10*q:=by
   intro q
   induction q with
   | zero=>exact fun _=>aA _
   | succ q ih=>
    intro hq
    have h1:=ih (by omega)
    have h2:=hb q (by omega)
    rw[lK,dr,List.sum_append]
    simp only[ee,il,List.sum_cons,List.sum_nil]
    omega
  have h2:=this l.length (aA _)
  rw[e] at h2
  omega
 refine aY Tryz.func97 rfl Tryz.ntmps97 rfl hw<|aj ?_
 refine dG (fun k:Nat=>k<=n) (fun k=>n - k) (fun k=> [(0,.pointer (some ⟨gx,0,none⟩)),(3,.int .i64 ((cq l k).2:Int)),(12,.int .i64 (n:Int)),(13,.int .i64 (k:Int))]) (fun k=>am gx [.slice A n c] 148::an (.slice A n c) (cq l k).1::H) 0 (bi _) ?_
 rintro k hk'
 have hk:k<=n:=hk'
 have hf:=(mw (fs:=fs) l k (by omega)).1
 have hlen:=hf.len
 refine az (fun hlt=>?_) (fun hlt=>?_)
 ·have hkn:k<n:=by omega
  have hto:gC k l.length<n:=by have:=sJ (i:=k) (n:=l.length) (by omega);omega
  obtain⟨to_,hto2⟩:∃t,gC k l.length=t:=⟨_,rfl⟩
  rw[hto2] at hto
  have hs1:(cq l (k+1)).1=(ff (cq l k).1 k to_).1:=by rw[<-hto2];rfl
  have hs2:(cq l (k+1)).2=(cq l k).2+(ff (cq l k).1 k to_).2:=by rw[<-hto2];rfl
  have hsk:=hsum (k+1) (by omega)
  have hsk0:=hsum k (by omega)
  refine aj ?_
  refine dA (k) rfl ((SF.own (xs:=(cq l k).1) (A:=A) (c:=c) (m:=n) (by omega) fc))<|aj ?_
  refine sE (LJ (a:=k+1) (b:=n) (by omega) (by omega) rfl rfl rfl)<|aj ?_
  refine cT (t:=6) (v':= .int .i64 (to_:Int)) rfl (by rw[<-hto2,<-hl];rfl) ?_
  refine dG (fun g:List ar×Nat=>((g.1.length=n/\∀m∈g.1,bz fs m)/\(ff g.1 k to_).1=(cq l (k+1)).1)/\(cq l k).2+g.2+(ff g.1 k to_).2=(cq l (k+1)).2) (fun g=>(aw g.1 k).out.length) (fun g=> [(0,.pointer (some ⟨gx,0,none⟩)),(3,.int .i64 (((cq l k).2+g.2:Nat):Int)),(5,.pointer (some ⟨ab A,ao A+k*6,none⟩)),(6,.int .i64 (to_:Int)),(12,.int .i64 (n:Int)),(13,.int .i64 (k:Int))]) (fun g=>am gx [.slice A n c] 148::an (.slice A n c) g.1::H) ((cq l k).1,0) (⟨⟨⟨by show (cq l k).1.length=n;omega,hf.right hR⟩,hs1.symm⟩,by show (cq l k).2+0+(ff (cq l k).1 k to_).2=_;rw[hs2];omega⟩) ?_
  rintro⟨l',q⟩ hq'
  try dsimp only
  obtain⟨⟨⟨hl',hR'⟩,hq1⟩,hq2⟩:((l'.length=n/\∀m∈l',bz fs m)/\(ff l' k to_).1=(cq l (k+1)).1)/\(cq l k).2+q+(ff l' k to_).2=(cq l (k+1)).2:=hq'
  have hse:=zR (l:=l') (i:=k) (to_:=to_) (by omega) (by omega)
  have hRk:=hR' _ (fG (l:=l') (k:=k) (by omega))
  have hRt:=hR' _ (fG (l:=l') (k:=to_) (by omega))
  have hob:=hRk.ob
  have hib:=hRt.ib
  refine BI (L:=l') (k:=k) (by omega) fc fun X hs a hA=>?_
  have hhl:hs.length=n:=hA.len.trans hl'
  have hhd:=hA.hd
  refine aj ?_
  refine eM rfl (fun w hw=>(SF.hmc (SF.own (xs:=hs) (A:=A) (c:=c) hhl fc) hkn hhd) w hw 3 _ rfl)<|df 38 (fun h0=>?_) (fun h0=>?_)
  ·have h0:0<(aw l' k).out.length:=by have:=of_decide_eq_true h0;omega
   have hz:aF ((aw l' k).out.getD 0 0):=qw (hRk.oi _ (fW h0))
   refine aj ?_
   refine eM rfl (fun w hw=>(SF.hmc (SF.own (xs:=hs) (A:=A) (c:=c) hhl fc) hkn hhd) w hw 3 _ rfl) ?_
   refine dA (0) rfl ((SF.own (xs:=(aw l' k).out) (A:=a.Ao) (c:=a.co) rfl fc)) ?_
   refine oN rfl ((SF.own (xs:=(aw l' k).out) (A:=a.Ao) (c:=a.co) rfl fc)) ?_
   refine eA (fun w h=>hA.same (by omega) (h.msub (.s fc (.s fc (.s fc (.s fc (.s fc (.s fc .r)))))))) ?_
   refine cz rfl Tryz.call100 (fun w hw=>yy gx to_ n c A l' ((aw l' k).out.getD 0 0) hl' hto hz hib w (hw.msub (.s fc (.s fc .r)))) (fun _ _=>bV (fun h10=>?_) (fun h10=>?_))
   ·have h10:¬(aw l' to_).I.length=10:=h10
    have hg:mH l' k to_:=⟨h0,h10⟩
    rw[if_pos hg] at hse
    rw[if_neg h10]
    have hbl:(et l' k to_).length=n:=by unfold et;rw[dt];exact hl'
    have hol:=lG l' k to_
    have hoa:=(ou (l:=l') (i:=k) (to_:=to_) (by omega) (by omega) k).1
    rw[if_pos rfl] at hoa
    have hbo:(aw (et l' k to_) k).out=(aw l' k).out:=by
     rw[rG (by omega)]
     split
     ·subst_vars;rfl
     rfl
    have hb0:1<=(aw (et l' k to_) k).out.length:=by rw[hbo];exact h0
    refine BI (L:=et l' k to_) (k:=k) (by omega) fc fun X hs a hA=>?_
    have hhl:hs.length=n:=hA.len.trans hbl
    have hhd:=hA.hd
    have hI:=hA.i64
    refine gI (fun w h=>mS h (xs:=(aw (et l' k to_) k).out) (A:=a.Ao) (c:=a.co) fc) fun hcap=>?_
    have kC:((aw (et l' k to_) k).out.drop 1).length=(aw (et l' k to_) k).out.length - 1:=aE
    refine aj ?_
    refine eM rfl (fun w hw=>(SF.hmc (SF.own (xs:=hs) (A:=A) (c:=c) hhl fc) hkn hhd) w hw 3 _ rfl) ?_
    refine sE (xQ (k:=((aw (et l' k to_) k).out.drop 1).length) aV cJ ⟨by omega,by omega⟩ kC.symm rfl rfl rfl rfl) ?_
    refine aD ?_
    refine aD ?_
    refine oE (qp (α:=dI) (A:=A) (c:=c) (m:=n) (f:=3) (us:= [.slice (ji a.Ao 1 a.co 1) ((aw (et l' k to_) k).out.drop 1).length (a.co - 1)]) (lj ⟨a.Af,a.cf,a.Ab,a.cb,a.Ai,a.ci,ji a.Ao 1 a.co 1,a.co - 1⟩ (wZ (aw (et l' k to_) k))) default rfl fc hkn (Bn hI) lb rfl rfl rfl rfl rfl rfl (by rw[hhd];rfl) rfl) (fun _ _=>aj ?_)
    have hq3:(cq l k).2+q+((ff (jf l' k to_) k to_).2+1)=(cq l (k+1)).2:=by rw[hse] at hq2;exact hq2
    refine NH (jf l' k to_,q+1) (⟨⟨⟨hol.trans hl',vO (by omega) (by omega) hg hR'⟩,by rw[hse] at hq1;exact hq1⟩,by show (cq l k).2+(q+1)+(ff (jf l' k to_) k to_).2=_;omega⟩) (by show (aw (jf l' k to_) k).out.length<_;rw[hoa,aE];omega) (hh:=(fun w h=>(hA.back _ ⟨a.Af,a.cf,a.Ab,a.cb,a.Ai,a.ci,ji a.Ao 1 a.co 1,a.co - 1⟩ (wZ (aw (et l' k to_) k)) _ _ ((AR hb0 (h.msub (.s fc .r))).msub (.s fc (.s fc (.s fc (.s fc (.s fc (.s fc .r)))))))).msub ms))
   have h10:(aw l' to_).I.length=10:=h10
   have hg:¬mH l' k to_:=fun h=>h.2 h10
   rw[if_neg hg] at hse
   rw[hse] at hq1 hq2
   have hq2:(cq l k).2+q+0=(cq l (k+1)).2:=hq2
   have hq1:l'=(cq l (k+1)).1:=hq1
   rw[if_pos h10,hq1,show (cq l k).2+q=(cq l (k+1)).2 from by omega]
   refine aj ?_
   refine dv (k+1) (by show k+1<=_;omega) (by show _ - _<_ - _;omega)
  have h0:¬0<(aw l' k).out.length:=by have:=of_decide_eq_false h0;omega
  have hg:¬mH l' k to_:=fun h=>h0 h.1
  rw[if_neg hg] at hse
  rw[hse] at hq1 hq2
  have hq2:(cq l k).2+q+0=(cq l (k+1)).2:=hq2
  have hq1:l'=(cq l (k+1)).1:=hq1
  rw[show (cq l k).2+q=(cq l (k+1)).2 from by omega]
  refine aj ?_
  refine bR rfl<|aj ?_
  refine dv (k+1) (by show k+1<=_;omega) (by show _ - _<_ - _;omega) (hh:=(fun w h=>by rw[<-hq1];exact(hA.same (by omega) (h.msub (.s fc (.s fc (.s fc (.s fc (.s fc (.s fc .r)))))))).msub ms))
 obtain rfl:k=n:=by omega
 refine aj ?_
 intro w hw
 have e1:mv l=cq l k:=by unfold mv;rw[hl]
 exact⟨(),trivial,by rw[e1],by rw[e1];exact hw.msub ms⟩
end
end
section
def zi (fs:List au) (l:List ar):List ar×Nat:=if cM fs l=0 then mv l else ([],0)
def iF (fs:List au) (l:List ar) (k:Int):Int:=if cM fs l=0/\(k<0\/10000<k) then 3 else cM fs l
def sD (fs:List au) (l:List ar) (k:Int):List ar:=l.map fun m=>(ic fs m k).1
def mi (fs:List au) (l:List ar) (k:Int):List ar:=if iF fs l k=0 then (mv (sD fs l k)).1 else []
def iV (fs:List au) (l:List ar) (i z:Int):Int:=if cM fs l=0/\(i<0\/(l.length:Int)<=i\/bB z=false) then 3 else cM fs l
def jF (fs:List au) (l:List ar) (i z:Int):Int:=if iV fs l i z≠0 then iV fs l i z else if (aw l i.toNat).I.length=10 then 7 else 0
def nn (fs:List au) (l:List ar) (i z:Int):List ar:=if jF fs l i z=0 then l.set i.toNat (iB (aw l i.toNat) z) else []
theorem sL (l:List ar):(mv l).1.length=l.length:=(vW (fs:= []) l).1.len
theorem Dg {fs:List au} {l:List ar} {k:Int} (h:iF fs l k=0):cM fs l=0/\0<=k/\k<=10000:=by
 unfold iF at h
 split at h
 ·cases h
 rename_i h2
 exact⟨h,by omega,by omega⟩
theorem zT {fs:List au} {l:List ar} {i z:Int} (h:iV fs l i z=0):cM fs l=0/\(0<=i/\i<l.length)/\bB z=true:=by
 unfold iV at h
 split at h
 ·cases h
 rename_i h2
 refine⟨h,⟨by omega,by omega⟩,?_⟩
 cases hz:bB z with
 | true=>rfl
 | false=>exact absurd ⟨h,.inr (.inr hz)⟩ h2
theorem vH {fs:List au} {l:List ar} {k:Int} (hW:ln fs l) (hk:0<=k):∀m∈sD fs l k,bz fs m:=fun m hm=>by
 obtain⟨x,hx,rfl⟩:=oB.1 hm
 exact(xM hW.f x k (hW.r x hx) hk).right
theorem rb (fs:List au) (l:List ar) (k:Int):(sD fs l k).length=l.length:=aW ..
theorem Fz (Ap Aw:Option Addr) (cp cw:Nat) (fs:List au) (l:List ar) (r:List ar×Nat) (hr:zi fs l=r) (w:World) (hs:Sl w (.slice Ap fs.length cp) fs) (hl:Sl w (.slice Aw l.length cw) l) (hfit:mC l) :
  Calls Tryz.prog 37 #[.agg #[.slice Ap fs.length cp],.agg #[.slice Aw l.length cw]] w fun e w'=> ∃g:Option Addr×Nat,True/\e= .returned (.tuple #[.agg #[.slice g.1 r.1.length g.2],.int .i64 (r.2:Int),.int .i64 (cM fs l)])/\Cw w.heap.size w [an (.slice g.1 r.1.length g.2) r.1] w':=by
 refine enter Tryz.func37 rfl Tryz.ntmps37 rfl<|aj ?_
 refine fun g1 _=>aj ?_
 refine fun g2 _=>aj ?_
 refine fun g3 _=>aj ?_
 refine cA rfl yF (fun w hw=>kK Ap Aw cp cw fs l w (hw.ro hs) (hw.ro hl) hfit)<|bV (fun hp=>?_) (fun hp=>?_)
 ·have hp:¬cM fs l=0:=hp
  have e:r=([],0):=by rw[<-hr];unfold zi;rw[if_neg hp]
  subst e
  refine aj ?_
  intro w hw
  exact⟨(none,0),trivial,rfl,(Cw.nilO ar hw).msub ms⟩
 have hp:cM fs l=0:=hp
 have hW:=mI hp
 have e:mv l=r:=by rw[<-hr];unfold zi;rw[if_pos hp]
 have hrl:r.1.length=l.length:=by rw[<-e];exact sL l
 refine aj ?_
 refine eL rfl Tryz.call96 (fun w hw=>zt Aw cw fs l w (hw.ro hl) hW) (fun⟨gx,A,c⟩ _=>?_)
 refine aJ ?_
 refine cz rfl Tryz.call97 (fun w hw=>Bf gx l.length c A fs l rfl hW.r ⟨hW.n0,hW.n4⟩ r e w (hw.msub (.s fc (.s fc .r)))) (fun _ _=>aj ?_)
 intro w hw
 refine⟨(A,c),trivial,?_,?_⟩
 ·rw[hrl,hp]
 rw[hrl];exact hw.msub ms
theorem xz (Ap Aw:Option Addr) (cp cw:Nat) (fs:List au) (l:List ar) (k:Int) (r:List ar) (hr:mi fs l k=r) (w:World) (hs:Sl w (.slice Ap fs.length cp) fs) (hl:Sl w (.slice Aw l.length cw) l) (hfit:mC l) :
  Calls Tryz.prog 38 #[.agg #[.slice Ap fs.length cp],.agg #[.slice Aw l.length cw],.int .i64 k] w fun e w'=> ∃g:Option Addr×Nat,True/\e= .returned (.tuple #[.agg #[.slice g.1 r.length g.2],.int .i64 (iF fs l k)])/\Cw w.heap.size w [an (.slice g.1 r.length g.2) r] w':=by
 have bl:=bx hl
 refine enter Tryz.func38 rfl Tryz.ntmps38 rfl<|aj ?_
 refine fun g1 _=>aj ?_
 refine fun g2 _=>aj ?_
 refine fun g3 _=>aj ?_
 refine cA rfl yF (fun w hw=>kK Ap Aw cp cw fs l w (hw.ro hs) (hw.ro hl) hfit) ?_
 refine aD ?_
 refine bK<|dx (fun _:Unit=>True) (fun _=> [(2,.int .i64 k),(3,.pointer (some ⟨g1,0,none⟩)),(4,.pointer (some ⟨g2,0,none⟩)),(6,.pointer (some ⟨g3,0,none⟩)),(8,.int .i64 (iF fs l k))]) (fun _=> [am g1 [.slice Ap fs.length cp] 24,am g2 [.slice Aw l.length cw] 27,am g3 [.slice none 0 0] 27]) ?_ ?_
 ·refine aj ?_
  refine zV 7 rfl [(2,_),(3,_),(4,_),(6,_),(8,_)] [(26,.bool (decide (cM fs l=0/\(k<0\/10000<k))))] ⟨rfl,rfl,rfl,rfl,rfl,trivial⟩ (fun K=>?_) ?_
  ·refine lC (t:=19) rfl (fun q1=>?_) (fun q1=>?_)
   ·have q1:=of_decide_eq_true q1
    refine df 22 (fun q2=>?_) (fun q2=>?_)
    ·have q2:=of_decide_eq_true q2
     refine aD ?_
     refine aD ?_
     refine aD ?_
     refine aD ?_
     refine bW (t:=26) (v':= .bool (decide (cM fs l=0/\(k<0\/10000<k)))) rfl (congrArg Value.bool (decide_eq_true ⟨q1,.inl q2⟩).symm) ?_
     exact mM K ⟨rfl,rfl,rfl,rfl,rfl,rfl,trivial⟩
    have q2:=of_decide_eq_false q2
    refine aD ?_
    refine aD ?_
    refine aD ?_
    refine aD ?_
    refine bW (t:=26) (v':= .bool (decide (cM fs l=0/\(k<0\/10000<k)))) rfl (congrArg Value.bool (decide_eq_decide.2 ⟨fun h=>⟨q1,.inr h⟩,fun h=>h.2.resolve_left q2⟩)) ?_
    exact mM K ⟨rfl,rfl,rfl,rfl,rfl,rfl,trivial⟩
   have q1:=of_decide_eq_false q1
   refine aD ?_
   refine aD ?_
   refine aD ?_
   refine aD ?_
   refine aD ?_
   refine aD ?_
   refine aD ?_
   refine bW (t:=26) (v':= .bool (decide (cM fs l=0/\(k<0\/10000<k)))) rfl (congrArg Value.bool (decide_eq_false (fun h=>q1 h.1)).symm) ?_
   exact mM K ⟨rfl,rfl,rfl,rfl,rfl,rfl,trivial⟩
  refine az (fun q=>?_) (fun q=>?_)
  ·refine aj ?_
   refine bW (t:=8) (v':= .int .i64 (iF fs l k)) rfl (by unfold iF;rw[if_pos q]) ?_
   refine nv () (trivial)
  refine cT (t:=8) (v':= .int .i64 (iF fs l k)) rfl (by unfold iF;rw[if_neg q])<|aj ?_
  refine dg () (trivial)
 rintro⟨⟩ _
 refine aJ ?_
 refine jJ rfl (fun hp=>?_) (fun hp=>?_)
 ·have hp:¬iF fs l k=0:=hp
  have e:r= []:=by rw[<-hr];unfold mi;rw[if_neg hp]
  subst e
  refine aj ?_
  intro w hw
  exact⟨(none,0),trivial,rfl,(Cw.nilO ar hw).msub ms⟩
 have hp:iF fs l k=0:=hp
 obtain⟨h0,hk⟩:=Dg hp
 have hW:=mI h0
 have h4:=hW.n4
 obtain⟨q,hq⟩:∃q,mv (sD fs l k)=q:=⟨_,rfl⟩
 have e:q.1=r:=by rw[<-hr,<-hq];unfold mi;rw[if_pos hp]
 have hql:q.1.length=l.length:=by rw[<-hq,sL,rb]
 refine aj ?_
 refine fun g4 _=>aj ?_
 refine dJ (fun w h=>Cw.nilO ar h) ?_
 refine dG (fun g:Nat×Option Addr×Nat=>g.1<=l.length) (fun g=>l.length - g.1) (fun g=> [(2,.int .i64 k),(3,.pointer (some ⟨g1,0,none⟩)),(6,.pointer (some ⟨g3,0,none⟩)),(9,.pointer (some ⟨g4,0,none⟩)),(34,.slice Aw l.length cw),(35,.int .i64 (l.length:Int)),(36,.int .i64 (g.1:Int))]) (fun g=> [am g4 [.slice g.2.1 (((l.take g.1).map fun m=>(ic fs m k).1)).length g.2.2] 148,an (.slice g.2.1 (((l.take g.1).map fun m=>(ic fs m k).1)).length g.2.2) (((l.take g.1).map fun m=>(ic fs m k).1)),am g1 [.slice Ap fs.length cp] 24,am g3 [.slice none 0 0] 27]) (0,none,0) (bi _) ?_
 rintro⟨j,A',c'⟩ hj
 try dsimp only
 have hj:j<=l.length:=hj
 have htl:((l.take j).map fun m=>(ic fs m k).1).length=j:=by rw[aW,ax];omega
 refine az (fun hlt=>?_) (fun hlt=>?_)
 ·have hjl:j<l.length:=by omega
  obtain⟨a,hm,hcell⟩:=hl.mc hjl
  have hRj:=hW.r _ (fG hjl)
  obtain⟨x,hx⟩:∃x,ic fs (aw l j) k=x:=⟨_,rfl⟩
  have hI:aF x.1.S/\aF x.1.T:=by rw[<-hx];exact pw (xM hW.f _ k hRj hk.1).right
  have htk:((l.take (j+1)).map fun m=>(ic fs m k).1)=((l.take j).map fun m=>(ic fs m k).1)++ [x.1]:=by rw[wQ hjl,dr,<-hx];rfl
  refine aj ?_
  refine dA (j) rfl ((.ro hl)) ?_
  refine iX rfl (hcell _)<|aj ?_
  refine fun g5 _=>aj ?_
  refine eL rfl Tryz.call98 (fun w hw=>JG Ap cp fs a (aw l j) k x hx w (hw.ro hs) (hm.ro hw) hW.f hRj hk) (fun ga _=>aj ?_)
  intro g6 _
  refine eV (eB _ fc dH rfl rfl rfl rfl rfl (by rfl) rfl (by rfl)) rfl rfl (fun _ _=>?_)
  refine aD ?_
  refine bK<|dP [0,3,6,9,12,15,18,23,26,27,30,33,38] [12] rfl [am g4 [.slice A' ((l.take j).map fun m=>(ic fs m k).1).length c'] 148,am g6 [.slice ga.Af x.1.F.length ga.cf,.slice ga.Ab x.1.B.length ga.cb,.slice ga.Ai x.1.I.length ga.ci,.slice ga.Ao x.1.out.length ga.co,.int .i64 x.1.S,.int .i64 x.1.T] 43]<|aj ?_
  intro g7 _
  refine pE rfl (cV (α:=ar) (bytes:=112) x.1 [an (.slice ga.Af x.1.F.length ga.cf) x.1.F,an (.slice ga.Ab x.1.B.length ga.cb) x.1.B,an (.slice ga.Ai x.1.I.length ga.ci) x.1.I,an (.slice ga.Ao x.1.out.length ga.co) x.1.out] htk dQ (bM lp) rfl (vM fc fc fc fc fc fc) (oP hI) (by omega) (by omega) rfl rfl rfl) (fun⟨A5,c5⟩ _=>?_)
  refine aJ ?_
  refine dv (j+1,A5,c5) (by show j+1<=_;omega) (by show _ - _<_ - _;omega)
 obtain rfl:j=l.length:=by omega
 have e2:((l.take l.length).map fun m=>(ic fs m k).1)=sD fs l k:=by rw[aQ];rfl
 rw[e2,rb]
 refine aj ?_
 refine cz rfl Tryz.call97 (fun w hw=>Bf g4 l.length c' A' fs (sD fs l k) (rb fs l k) (vH hW hk.1) ⟨hW.n0,hW.n4⟩ q hq w (hw.msub (.s fc (.s fc .r)))) (fun _ _=>aj ?_)
 intro w hw
 refine⟨(A',c'),trivial,?_,?_⟩
 ·rw[<-e,hql,hp]
 rw[<-e,hql];exact hw.msub ms
end
section
theorem Np {fs:List au} {l:List ar} {i z:Int} (q1:cM fs l=0) (q2:¬i<0) (q3:¬(l.length:Int)<=i):(!bB z)=decide (cM fs l=0/\(i<0\/(l.length:Int)<=i\/bB z=false)):=by
 cases hi:bB z with
 | false=>exact(decide_eq_true ⟨q1,.inr (.inr rfl)⟩).symm
 | true=>exact(decide_eq_false (fun h=>h.2.elim q2 fun h=>h.elim q3 fun h=>by cases h)).symm
theorem xA (Ap Aw:Option Addr) (cp cw:Nat) (fs:List au) (l:List ar) (i z:Int) (hz:aF z) (r:List ar) (hr:nn fs l i z=r) (w:World) (hs:Sl w (.slice Ap fs.length cp) fs) (hl:Sl w (.slice Aw l.length cw) l) (hfit:mC l) :
  Calls Tryz.prog 39 #[.agg #[.slice Ap fs.length cp],.agg #[.slice Aw l.length cw],.int .i64 i,.int .i64 z] w fun e w'=> ∃g:Option Addr×Nat,True/\e= .returned (.tuple #[.agg #[.slice g.1 r.length g.2],.int .i64 (jF fs l i z)])/\Cw w.heap.size w [an (.slice g.1 r.length g.2) r] w':=by
 have bl:=bx hl
 refine enter Tryz.func39 rfl Tryz.ntmps39 rfl<|aj ?_
 refine fun g1 _=>aj ?_
 refine fun g2 _=>aj ?_
 refine fun g3 _=>aj ?_
 refine cA rfl yF (fun w hw=>kK Ap Aw cp cw fs l w (hw.ro hs) (hw.ro hl) hfit) ?_
 refine aD ?_
 refine bK<|dx (fun _:Unit=>True) (fun _=> [(2,.int .i64 i),(3,.int .i64 z),(5,.pointer (some ⟨g2,0,none⟩)),(8,.pointer (some ⟨g3,0,none⟩)),(10,.int .i64 (iV fs l i z))]) (fun _=> [am g1 [.slice Ap fs.length cp] 24,am g2 [.slice Aw l.length cw] 27,am g3 [.slice none 0 0] 27]) ?_ ?_
 ·refine aj ?_
  refine zV 15 rfl [(2,_),(3,_),(5,_),(8,_),(10,_)] [(32,.bool (decide (cM fs l=0/\(i<0\/(l.length:Int)<=i\/bB z=false))))] ⟨rfl,rfl,rfl,rfl,rfl,trivial⟩ (fun K=>?_) ?_
  ·refine lC (t:=17) rfl (fun q1=>?_) (fun q1=>?_)
   ·have q1:=of_decide_eq_true q1
    refine df 20 (fun q2=>?_) (fun q2=>?_)
    ·have q2:=of_decide_eq_true q2
     refine aD ?_
     refine aD ?_
     refine aD ?_
     refine aD ?_
     refine aD ?_
     refine aD ?_
     refine aD ?_
     refine aD ?_
     refine aD ?_
     refine aD ?_
     refine aD ?_
     refine aD ?_
     refine bW (t:=32) (v':= .bool (decide (cM fs l=0/\(i<0\/(l.length:Int)<=i\/bB z=false)))) rfl (congrArg Value.bool (decide_eq_true ⟨q1,.inl q2⟩).symm) ?_
     exact mM K ⟨rfl,rfl,rfl,rfl,rfl,rfl,trivial⟩
    have q2:=of_decide_eq_false q2
    refine df 27 (fun q3=>?_) (fun q3=>?_)
    ·have q3:(l.length:Int)<=i:=of_decide_eq_true q3
     refine aD ?_
     refine aD ?_
     refine aD ?_
     refine aD ?_
     refine aD ?_
     refine bW (t:=32) (v':= .bool (decide (cM fs l=0/\(i<0\/(l.length:Int)<=i\/bB z=false)))) rfl (congrArg Value.bool (decide_eq_true ⟨q1,.inr (.inl q3)⟩).symm) ?_
     exact mM K ⟨rfl,rfl,rfl,rfl,rfl,rfl,trivial⟩
    have q3:¬(l.length:Int)<=i:=of_decide_eq_false q3
    refine aj ?_
    refine cA rfl Px (fun w hw=>nA (oA z w)) ?_
    refine aD ?_
    refine aD ?_
    refine aD ?_
    refine bW (t:=32) (v':= .bool (decide (cM fs l=0/\(i<0\/(l.length:Int)<=i\/bB z=false)))) rfl (congrArg Value.bool (Np q1 q2 q3)) ?_
    exact mM K ⟨rfl,rfl,rfl,rfl,rfl,rfl,trivial⟩
   have q1:=of_decide_eq_false q1
   refine aD ?_
   refine aD ?_
   refine aD ?_
   refine aD ?_
   refine aD ?_
   refine aD ?_
   refine aD ?_
   refine aD ?_
   refine aD ?_
   refine aD ?_
   refine aD ?_
   refine aD ?_
   refine aD ?_
   refine aD ?_
   refine aD ?_
   refine bW (t:=32) (v':= .bool (decide (cM fs l=0/\(i<0\/(l.length:Int)<=i\/bB z=false)))) rfl (congrArg Value.bool (decide_eq_false (fun h=>q1 h.1)).symm) ?_
   exact mM K ⟨rfl,rfl,rfl,rfl,rfl,rfl,trivial⟩
  refine az (fun q=>?_) (fun q=>?_)
  ·refine aj ?_
   refine bW (t:=10) (v':= .int .i64 (iV fs l i z)) rfl (by unfold iV;rw[if_pos q]) ?_
   refine nv () (trivial)
  refine cT (t:=10) (v':= .int .i64 (iV fs l i z)) rfl (by unfold iV;rw[if_neg q])<|aj ?_
  refine dg () (trivial)
 rintro⟨⟩ _
 refine aJ ?_
 refine jJ rfl (fun hp=>?_) (fun hp=>?_)
 ·have hp:¬iV fs l i z=0:=hp
  have he:jF fs l i z=iV fs l i z:=by unfold jF;rw[if_pos hp]
  have e:r= []:=by rw[<-hr];unfold nn;rw[if_neg (by rw[he];exact hp)]
  subst e
  refine aj ?_
  intro w hw
  exact⟨(none,0),trivial,by rw[he];rfl,(Cw.nilO ar hw).msub ms⟩
 have hp:iV fs l i z=0:=hp
 obtain⟨h0,hi,hzi⟩:=zT hp
 have hW:=mI h0
 obtain⟨k,rfl⟩:∃k:Nat,i=k:=⟨i.toNat,by omega⟩
 have hkl:k<l.length:=by omega
 refine aj ?_
 refine eL rfl Tryz.call96 (fun w hw=>zt Aw cw fs l w (hw.ro hl) hW) (fun⟨gx,A,c⟩ _=>?_)
 refine aJ ?_
 refine cz rfl Tryz.call100 (fun w hw=>yy gx k l.length c A l z rfl hkl hz (hW.r _ (fG hkl)).ib w (hw.msub (.s fc (.s fc .r)))) (fun _ _=>aj ?_)
 refine cT (t:=43) (v':= .bool (decide ((aw l k).I.length=10))) rfl (by rw[Bool.not_not]) ?_
 refine gJ rfl (fun h10=>?_) (fun h10=>?_)
 ·have h10:(aw l k).I.length=10:=h10
  have he:jF fs l k z=7:=by unfold jF;rw[if_neg (fun h=>h hp),if_pos (by rw[bj];exact h10)]
  have e:r= []:=by rw[<-hr];unfold nn;rw[if_neg (by rw[he];decide)]
  subst e
  refine aj ?_
  intro w hw
  exact⟨(none,0),trivial,by rw[he];rfl,(Cw.nilO ar hw).msub ms⟩
 have h10:¬(aw l k).I.length=10:=h10
 have he:jF fs l k z=0:=by unfold jF;rw[if_neg (fun h=>h hp),if_neg (by rw[bj];exact h10)]
 have e:l.set k (iB (aw l k) z)=r:=by rw[<-hr];unfold nn;rw[if_pos he,bj]
 have hrl:r.length=l.length:=by rw[<-e,dt]
 rw[if_neg h10,e]
 refine aj ?_
 intro w hw
 refine⟨(A,c),trivial,?_,?_⟩
 ·rw[hrl,he]
 rw[hrl];exact hw.msub ms
end
section
def lx (s:List UInt8):Int:=if (fb s).2=0 then ec (fb s).1 else (fb s).2
def jo (s:List UInt8) (n:Int):Int:=if lx s=0/\(n<1\/4<n) then 3 else lx s
def gB (s:List UInt8) (n:Int):(List au×List ar)×Int:=if jo s n=0 then (((fb s).1,List.replicate n.toNat (eI (fb s).1)),0) else (([],[]),jo s n)
theorem Jd {α:Type} (x:α) (k:Nat):List.replicate (k+1) x=List.replicate k x++ [x]:=List.replicate_succ' ..
theorem uV (s:List UInt8) (n:Int) (hl:s.length<=140737488355320) (w:World) :
  Calls Tryz.prog 19 #[.string ⟨s.toArray⟩,.int .i64 n] w fun e w'=> ∃g:(Option Addr×Nat)×Option Addr×Nat,True/\e= .returned (.tuple #[.agg #[.slice g.1.1 (gB s n).1.1.length g.1.2],.agg #[.slice g.2.1 (gB s n).1.2.length g.2.2],.int .i64 (gB s n).2])/\
   Cw w.heap.size w [an (.slice g.1.1 (gB s n).1.1.length g.1.2) (gB s n).1.1,an (.slice g.2.1 (gB s n).1.2.length g.2.2) (gB s n).1.2] w':=by
 obtain⟨fs,hfs⟩:∃fs,(fb s).1=fs:=⟨_,rfl⟩
 have hE:lx s=if (fb s).2=0 then ec fs else (fb s).2:=by unfold lx;rw[hfs]
 have hdec:=fun w=>pK s w hl
 rw[hfs] at hdec
 refine enter Tryz.func19 rfl Tryz.ntmps19 rfl<|aj ?_
 refine fun g1 _=>aj ?_
 refine fun g2 _=>aj ?_
 refine oE (fI rfl rfl rfl Rr (fun w hw=>hdec w)) (fun⟨Af,cf⟩ _=>?_)
 refine aJ ?_
 intro g3 _
 refine eV (eB _ fc Iu rfl rfl rfl rfl rfl (by rfl) rfl (by rfl)) rfl rfl (fun _ _=>?_)
 refine aD ?_
 refine bK<|dx (fun _:Unit=>True) (fun _=> [(1,.int .i64 n),(4,.pointer (some ⟨g1,0,none⟩)),(5,.pointer (some ⟨g2,0,none⟩)),(7,.pointer (some ⟨g3,0,none⟩)),(8,.int .i64 (lx s))]) (fun _=> [am g1 [.slice none 0 0] 24,am g2 [.slice none 0 0] 27,am g3 [.slice Af fs.length cf] 24,an (.slice Af fs.length cf) fs]) ?_ ?_
 ·refine az (fun hz=>?_) (fun hz=>?_)
  ·have hz:(fb s).2=0:=hz
   rw[if_pos hz] at hE
   refine aj ?_
   refine cA rfl Fx (fun w hw=>nt Af cf fs w (SF.at_ (SF.own rfl fc) hw))<|aj ?_
   rw[<-hE]
   refine nv () (trivial)
  have hz:¬(fb s).2=0:=hz
  rw[if_neg hz] at hE
  rw[<-hE]
  refine aj ?_
  refine dg () (trivial)
 rintro⟨⟩ _
 refine dx (fun _:Unit=>True) (fun _=> [(1,.int .i64 n),(4,.pointer (some ⟨g1,0,none⟩)),(5,.pointer (some ⟨g2,0,none⟩)),(7,.pointer (some ⟨g3,0,none⟩)),(8,.int .i64 (jo s n))]) (fun _=> [am g1 [.slice none 0 0] 24,am g2 [.slice none 0 0] 27,am g3 [.slice Af fs.length cf] 24,an (.slice Af fs.length cf) fs]) ?_ ?_
 ·refine df 21 (fun q1=>?_) (fun q1=>?_)
  ·have q1:lx s=0:=of_decide_eq_true q1
   refine df 24 (fun q2=>?_) (fun q2=>?_)
   ·have q2:n<1:=of_decide_eq_true q2
    have hN:jo s n=3:=by unfold jo;rw[if_pos ⟨q1,.inl q2⟩]
    rw[hN]
    refine aj ?_
    refine bo rfl<|aj ?_
    refine nv () (trivial)
   have q2:¬n<1:=of_decide_eq_false q2
   refine az (fun q3=>?_) (fun q3=>?_)
   ·have q3:4<n:=q3
    have hN:jo s n=3:=by unfold jo;rw[if_pos ⟨q1,.inr q3⟩]
    rw[hN]
    refine aj ?_
    refine nv () (trivial)
   have q3:¬4<n:=q3
   have hN:jo s n=lx s:=by unfold jo;rw[if_neg (fun h=>h.2.elim q2 q3)]
   rw[hN]
   refine aj ?_
   refine dg () (trivial)
  have q1:¬lx s=0:=of_decide_eq_false q1
  have hN:jo s n=lx s:=by unfold jo;rw[if_neg (fun h=>q1 h.1)]
  rw[hN]
  refine aj ?_
  refine bR rfl<|aj ?_
  refine dg () (trivial)
 rintro⟨⟩ _
 refine bV (fun hn=>?_) (fun hn=>?_)
 ·have hn:¬jo s n=0:=hn
  have hP:gB s n=(([],[]),jo s n):=by unfold gB;rw[if_neg hn]
  rw[hP]
  refine aj ?_
  intro w hw
  exact⟨((none,0),(none,0)),trivial,rfl,(Cw.nilO au (Cw.nilO ar hw)).msub ms⟩
 have hn:jo s n=0:=hn
 obtain⟨hz,hn1,hn4⟩:lx s=0/\1<=n/\n<=4:=by
  unfold jo at hn
  split at hn
  ·cases hn
  rename_i h;exact⟨hn,by omega,by omega⟩
 obtain⟨N,rfl⟩:=pm (show 0<=n by omega)
 have hp:ec fs=0:=by
  rw[hz] at hE
  split at hE
  ·exact hE.symm
  rename_i h;exact absurd hE.symm h
 have hP:gB s (N:Int)=((fs,List.replicate N (eI fs)),0):=by unfold gB;rw[if_pos hn,hfs];rfl
 rw[hP]
 have hpos:=mP hp
 refine aj ?_
 refine fun g4 _=>aj ?_
 refine dJ (fun w h=>Cw.nilO ar h) ?_
 have hl6:(av fs 0).L.length<=1000:=by have:=((jp (nH hp).p hpos).1.op 0 (jp (nH hp).p hpos).2).par 0 hpos |>.2;omega
 have hI:aF (eI fs).S/\aF (eI fs).T:=by show aF 0/\aF 0;decide
 refine dG (fun g:Nat×Option Addr×Nat=>g.1<=N) (fun g=>N - g.1) (fun g=> [(4,.pointer (some ⟨g1,0,none⟩)),(5,.pointer (some ⟨g2,0,none⟩)),(7,.pointer (some ⟨g3,0,none⟩)),(9,.pointer (some ⟨g4,0,none⟩)),(34,.int .i64 (N:Int)),(35,.int .i64 (g.1:Int))]) (fun g=> [am g1 [.slice none 0 0] 24,am g2 [.slice none 0 0] 27,am g3 [.slice Af fs.length cf] 24,an (.slice Af fs.length cf) fs,am g4 [.slice g.2.1 (List.replicate g.1 (eI fs)).length g.2.2] 27,an (.slice g.2.1 (List.replicate g.1 (eI fs)).length g.2.2) (List.replicate g.1 (eI fs))]) (0,none,0) (bi _) ?_
 rintro⟨k,A1,c1⟩ hk'
 try dsimp only
 have hk:k<=N:=hk'
 have hrl:(List.replicate k (eI fs)).length=k:=List.length_replicate
 refine az (fun hlt=>?_) (fun hlt=>?_)
 ·have hkN:k<N:=by omega
  refine fx (fw ?_)
  refine dx (fun _:Option Addr×Nat=>True) (fun g=> [(4,.pointer (some ⟨g1,0,none⟩)),(5,.pointer (some ⟨g2,0,none⟩)),(7,.pointer (some ⟨g3,0,none⟩)),(9,.pointer (some ⟨g4,0,none⟩)),(34,.int .i64 (N:Int)),(35,.int .i64 (k:Int))]) (fun g=> [am g1 [.slice none 0 0] 24,am g2 [.slice none 0 0] 27,am g3 [.slice Af fs.length cf] 24,an (.slice Af fs.length cf) fs,am g4 [.slice g.1 (List.replicate (k+1) (eI fs)).length g.2] 27,an (.slice g.1 (List.replicate (k+1) (eI fs)).length g.2) (List.replicate (k+1) (eI fs))]) ?_ ?_
  ·refine aj ?_
   refine bU [0,3,6,11,14,17,19,23] [5,6,7] rfl<|aj ?_
   refine jt rfl rfl Tryz.call73 (fun w hw=>Ba Af cf fs w (SF.at_ (SF.own rfl fc) hw) hpos hl6) (fun ga _=>aj ?_)
   intro g5 _
   refine pE rfl (cV (α:=ar) (bytes:=112) (eI fs) [an (.slice ga.Af (eI fs).F.length ga.cf) (eI fs).F,an (.slice ga.Ab (eI fs).B.length ga.cb) (eI fs).B,an (.slice ga.Ai (eI fs).I.length ga.ci) (eI fs).I,an (.slice ga.Ao (eI fs).out.length ga.co) (eI fs).out] (Jd (eI fs) k) dQ (bM lp) rfl (vM fc fc fc fc fc fc) (oP hI) (by omega) (by omega) rfl rfl rfl) (fun⟨A5,c5⟩ _=>?_)
   refine aJ ?_
   refine dg (A5,c5) (trivial) (hh:=(fun _ h=>h.msub ms))
  rintro⟨A5,c5⟩ _
  refine aJ ?_
  refine dv (k+1,A5,c5) (by show k+1<=_;omega) (by show _ - _<_ - _;omega)
 obtain rfl:k=N:=by omega
 refine aj ?_
 refine dP [0,3,8,11,13] [3,4] rfl [am g3 [.slice Af fs.length cf] 24,am g4 [.slice A1 (List.replicate k (eI fs)).length c1] 27]<|aj ?_
 intro w hw
 exact⟨((Af,cf),(A1,c1)),trivial,rfl,hw.msub ms⟩
end
section
def fJ (l:List Int):List UInt8:=aG l.length::l.flatMap dw
def fR (v:aH):List UInt8:=aG (if v.ref=true then 1 else 0)::dw v.n
def gV (l:List aH):List UInt8:=aG l.length::l.flatMap fR
def gE (x:aB):List UInt8:=aG x.func::aG x.pc::(gV x.L++gV x.K)
def jx (m:ar):List UInt8:=
 aG m.S::aG m.T::(fJ m.I++(fJ m.out++(aG m.B.length::(m.B.flatMap fJ++(aG m.F.length::m.F.flatMap gE)))))
abbrev kj (α:Type):=List UInt8->Option (α×List UInt8)
def kx:kj Int
 | []=>none
 | b::l=>some ((b.toNat:Int),l)
def kR:kj Int:=fun s=>if s.length<4 then none else some (cU (s.take 4),s.drop 4)
def fz {α:Type} (p:kj α):Nat->kj (List α)
 | 0,s=>some ([],s)
 | k+1,s=>match p s with
  | none=>none
  | some (x,r)=>match fz p k r with
   | none=>none
   | some (l,t)=>some (x::l,t)
def ip {α:Type} (p:kj α):kj (List α):=fun s=>match kx s with
 | none=>none
 | some (n,r)=>fz p n.toNat r
def kc:kj (List Int):=ip kR
def im:kj aH:=fun s=>match kx s with
 | none=>none
 | some (n,r)=>if 1<n then none else match kR r with
  | none=>none
  | some (z,t)=>some (⟨decide (n=1),z⟩,t)
def mJ:kj (List aH):=ip im
def gS:kj aB:=fun s=>match kx s with
 | none=>none
 | some (f,s1)=>match kx s1 with
  | none=>none
  | some (p,s2)=>match mJ s2 with
   | none=>none
   | some (l,s3)=>match mJ s3 with
    | none=>none
    | some (t,s4)=>some (⟨f,p,l,t⟩,s4)
def ke:kj ar:=fun s=>match kx s with
 | none=>none
 | some (st,s1)=>match kx s1 with
  | none=>none
  | some (tr,s2)=>match kc s2 with
   | none=>none
   | some (i,s3)=>match kc s3 with
    | none=>none
    | some (o,s4)=>match ip kc s4 with
     | none=>none
     | some (b,s5)=>match ip gS s5 with
      | none=>none
      | some (f,s6)=>some (⟨f,b,i,o,st,tr⟩,s6)
def iG (s:List UInt8):Option ar:=match ke s with
 | none=>none
 | some (m,r)=>if r= [] then some m else none
def mB {α:Type} (p:kj α) (x:α) (b:List UInt8):Prop:= ∀r,p (b++r)=some (x,r)
theorem ox {n:Int} (h:0<=n/\n<=255):mB kx n [aG n]:=fun r=>by
 show some ((((aG n).toNat:Nat):Int),r)=_
 rw[BW h]
theorem uY (n:Int):(dw n).length=4:=rfl
theorem Bs {n:Int} (h:bB n=true):mB kR n (dw n):=fun r=>by
 unfold kR
 rw[if_neg (by rw[aq,uY];omega),List.take_left' (uY n),List.drop_left' (uY n),rS n h]
theorem Be {α:Type} {p:kj α} {f:α->List UInt8} :∀(l:List α),(∀x∈l,mB p x (f x))->mB (fz p l.length) l (l.flatMap f)
 | [],_=>fun r=>rfl
 | x::l,h=>fun r=>by
  rw[aR,fz,eG,aX,h x (by simp),]
  simp only
  rw[Be l (fun y hy=>h y (by simp[hy]))]
theorem qR {α:Type} {p:kj α} {f:α->List UInt8} (l:List α) (hl:l.length<=255) (h:∀x∈l,mB p x (f x)):mB (ip p) l (aG l.length::l.flatMap f):=fun r=>by
 unfold ip
 have:=ox (n:=l.length) (by omega) (l.flatMap f++r)
 rw[rP] at this
 rw[dy,this]
 simp only[bj]
 exact Be l h r
theorem uQ {l:List Int} (hl:l.length<=255) (h:∀n∈l,bB n=true):mB kc l (fJ l):=qR l hl fun n hn=>Bs (h n hn)
theorem FE {v:aH} (h:bB v.n=true):mB im v (fR v):=fun r=>by
 obtain⟨b,n⟩:=v
 unfold im fR
 have h1:=ox (n:=if b=true then 1 else 0) (by cases b <;> decide) (dw n++r)
 rw[rP] at h1
 rw[dy,h1]
 simp only
 rw[if_neg (by cases b <;> decide),Bs h]
 cases b <;> rfl
theorem vu {l:List aH} (hl:l.length<=255) (h:∀v∈l,bB v.n=true):mB mJ l (gV l):=qR l hl fun n hn=>FE (h n hn)
structure KS (x:aB):Prop where
 f:0<=x.func/\x.func<=255
 p:0<=x.pc/\x.pc<=255
 l:x.L.length<=255/\∀v∈x.L,bB v.n=true
 s:x.K.length<=255/\∀v∈x.K,bB v.n=true
theorem Ht {x:aB} (h:KS x):mB gS x (gE x):=fun r=>by
 unfold gS gE
 have h1:=ox h.f (aG x.pc::(gV x.L++gV x.K)++r)
 rw[rP] at h1
 rw[dy,h1]
 have h2:=ox h.p ((gV x.L++gV x.K)++r)
 rw[rP] at h2
 rw[dy,]
 simp only
 rw[h2]
 simp only
 rw[aX,vu h.l.1 h.l.2]
 simp only
 rw[vu h.s.1 h.s.2]
structure MI (m:ar):Prop where
 s:0<=m.S/\m.S<=255
 t:0<=m.T/\m.T<=255
 i:m.I.length<=255/\∀n∈m.I,bB n=true
 o:m.out.length<=255/\∀n∈m.out,bB n=true
 b:m.B.length<=255/\∀l∈m.B,l.length<=255/\∀n∈l,bB n=true
 f:m.F.length<=255/\∀x∈m.F,KS x
theorem JJ {m:ar} (h:MI m):mB ke m (jx m):=fun r=>by
 have h1:=fun r=>ox h.s r
 have h2:=fun r=>ox h.t r
 have h5:=qR (p:=kc) m.B h.b.1 fun l hl=>uQ (h.b.2 l hl).1 (h.b.2 l hl).2
 have h6:=qR (p:=gS) m.F h.f.1 fun x hx=>Ht (h.f.2 x hx)
 simp only[rP] at h1 h2
 unfold ke jx
 rw[dy,h1]
 simp only
 rw[dy,h2]
 simp only
 rw[aX,uQ h.i.1 h.i.2]
 simp only
 rw[aX,uQ h.o.1 h.o.2]
 simp only
 rw[show (aG m.B.length::(m.B.flatMap fJ++(aG m.F.length::m.F.flatMap gE)))++r=(aG m.B.length::m.B.flatMap fJ)++((aG m.F.length::m.F.flatMap gE)++r) from by simp,h5]
 simp only
 rw[h6]
theorem Ee {m:ar} (h:MI m):iG (jx m)=some m:=by
 unfold iG
 have:=JJ h []
 rw[dS] at this
 rw[this]
 rfl
def KO {α:Type} (p:kj α) (f:α->List UInt8):Prop:= ∀s x r,p s=some (x,r)->s=f x++r
theorem LW {s:List UInt8} {x:Int} {r:List UInt8} (h:kx s=some (x,r)):0<=x/\x<=255:=by
 cases s with
 | nil=>cases h
 | cons b l=>
  obtain⟨rfl,rfl⟩:(b.toNat:Int)=x/\l=r:=by simpa [kx] using h
  have:=b.toNat_lt
  omega
theorem QC:∀(s:List UInt8),¬s.length<4->∃a b c d l,s=a::b::c::d::l
 | [],h=>absurd (by simp) h
 | [_],h=>absurd (by simp) h
 | [_,_],h=>absurd (by simp) h
 | [_,_,_],h=>absurd (by simp) h
 | a::b::c::d::l,_=>⟨a,b,c,d,l,rfl⟩
theorem ED {α:Type} {p:kj α} {f:α->List UInt8} (h:KO p f):∀k,KO (fz p k) (fun l=>l.flatMap f)
 | 0=>fun s x r e=>by
  obtain⟨rfl,rfl⟩: []=x/\s=r:=by simpa [fz] using e
  rfl
 | k+1=>fun s x r e=>by
  unfold fz at e
  split at e
  ·cases e
  rename_i y t e1
  split at e
  ·cases e
  rename_i l u e2
  obtain⟨rfl,rfl⟩:y::l=x/\u=r:=by simpa using e
  rw[h _ _ _ e1,ED h k _ _ _ e2]
  show _=(y::l).flatMap f++u
  rw[eG,aX]
theorem xY {α:Type} {p:kj α} :∀k s x r,fz p k s=some (x,r)->x.length=k
 | 0,s,x,r,e=>by
  obtain⟨rfl,rfl⟩: []=x/\s=r:=by simpa [fz] using e
  rfl
 | k+1,s,x,r,e=>by
  unfold fz at e
  split at e
  ·cases e
  rename_i y t e1
  split at e
  ·cases e
  rename_i l u e2
  obtain⟨rfl,rfl⟩:y::l=x/\u=r:=by simpa using e
  rw[aR,xY k _ _ _ e2]
theorem zw {nb:Nat} {v:aH} (hn:nb<=8) (h:eH nb v=true):bB v.n=true:=by
 unfold eH at h
 split at h
 ·have:=cW.1 h
  unfold bB
  simp only[cY,decide_eq_true_eq]
  omega
 exact h
theorem HS {l:List (List Int)} {x:List Int} (h:x∈l):x.length<=cC l:=by
 unfold cC
 induction l with
 | nil=>cases h
 | cons y l ih=>
  rw[ee,List.sum_cons]
  rcases dd.1 h with rfl | h
  ·omega
  have:=ih h
  omega
theorem IJ {fs:List au} {l:List aB} {i:Nat} {t:List Int} (h:gU fs l i=some t):∃t',gA fs (iY fs l i) (aP l i).pc=some t':=by
 unfold gU at h
 split at h
 ·exact⟨t,h⟩
 split at h
 ·cases h
 split at h
 ·cases h
 cases h5:gA fs (iY fs l i) (aP l i).pc with
 | none=>rw[h5] at h;cases h
 | some t'=>exact⟨t',rfl⟩
theorem PV {fs:List au} (hF:fq fs) {m:ar} (h:bz fs m) {i:Nat} (hi:i<m.F.length):KS (aP m.F i):=by
 obtain⟨t,hw,hl,hs⟩:=h.fr i hi
 obtain⟨t',he⟩:=IJ hw
 have hz:=h.fn _ (fY hi)
 have hk:(aP m.F i).func.toNat<fs.length:=by omega
 have h5:fs.length<=5:=by
  have:=hF.p
  unfold dC at this
  split at this
  ·cases this
  split at this
  ·cases this
  omega
 obtain⟨p0,p1,_⟩:=(hF.e _ hk).at_ _ _ he
 have h40:=(jp hF.p hk).1.n40
 have h6:=(kw ((iu hF.p).2.2 _ (jg hk))).1
 have hb:=(iZ h.bl).1
 have hsm:=(uX hF h hi).1
 have hll:=hl.len
 unfold iY at hll
 exact⟨by omega,by omega,⟨by omega,fun v hv=>zw hb (hl.val v hv)⟩,⟨by omega,fun v hv=>zw hb (hs.val v hv)⟩⟩
theorem AA {fs:List au} (hF:fq fs) {m:ar} (h:bz fs m):MI m where
 s:=by have:=h.st;omega
 t:=by
  by_cases e:m.S=3
  ·have:=h.t3 e;omega
  have:=h.t0 e;omega
 i:=⟨by have:=h.ib;omega,h.ii⟩
 o:=⟨by have:=h.ob;omega,h.oi⟩
 b:=by
  obtain⟨h1,h2,h3⟩:=nr h.bl
  refine⟨by omega,fun l hl=>⟨by have:=HS hl;omega,fun n hn=>?_⟩⟩
  refine dF fun hno=>?_
  have:m.B.any dR=true:=cX.2 ⟨l,hl,by unfold dR;exact cX.2 ⟨n,hn,by simpa using hno⟩⟩
  rw[h3] at this
  cases this
 f:=by
  refine⟨by have:=h.n6;omega,fun x hx=>?_⟩
  obtain⟨i,hi,rfl⟩:=db hx
  have:=PV hF h hi
  unfold aP at this
  rwa [ak,ap hi] at this
end
section
section
variable {B:Nat} {w0:World} {H:List aC}
def Fl (B:Nat) (w0:World) (H:List aC) (gb:Nat) (bs:List UInt8) (e:Ending) (w':World):Prop:= ∃g:Option Addr×Nat,True/\e= .returned (.tuple #[])/\Cw B w0 (am gb [.slice g.1 bs.length g.2] 228::an (.slice g.1 bs.length g.2) bs::H) w'
theorem lB (gb:Nat) (xs:List Int) (A:Option Addr) (c:Nat) (hs:SF B w0 H A xs.length c xs) (bs:List UInt8) (Ab:Option Addr) (cb:Nat) (hbd:bs.length+xs.length<=1000000) (w:World) (hw:Cw B w0 (am gb [.slice Ab bs.length cb] 228::an (.slice Ab bs.length cb) bs::H) w) :
  Calls Tryz.prog 171 #[.pointer (some ⟨gb,0,none⟩),.slice A xs.length c] w (Fl B w0 H gb (bs++xs.map aG)):=by
 refine aY Tryz.func171 rfl Tryz.ntmps171 rfl hw<|aj ?_
 refine dG (fun g:Nat×Option Addr×Nat=>g.1<=xs.length) (fun g=>xs.length - g.1) (fun g=> [(0,.pointer (some ⟨gb,0,none⟩)),(6,.slice A xs.length c),(7,.int .i64 (xs.length:Int)),(8,.int .i64 (g.1:Int))]) (fun g=> [am gb [.slice g.2.1 (bs++(xs.take g.1).map aG).length g.2.2] 228,an (.slice g.2.1 (bs++(xs.take g.1).map aG).length g.2.2) (bs++(xs.take g.1).map aG)]++H) (0,Ab,cb) (bi _) ?_ (hh:=(fun _ h=>by simpa using h))
 rintro⟨j,Aj,cj⟩ hj'
 try dsimp only
 have hj:j<=xs.length:=hj'
 have hlj:(bs++(xs.take j).map aG).length<=bs.length+xs.length:=by rw[aq,aW,ax];omega
 refine az (fun hlt=>?_) (fun hlt=>?_)
 ·have hjl:j<xs.length:=by omega
  refine aj ?_
  refine dA (_) rfl ((.s (.s hs))) ?_
  refine oN rfl ((.s (.s hs)))<|aj ?_
  refine sE (Gu sb nP rfl rfl)<|aj ?_
  intro g1 _
  refine oE (cV (α:=UInt8) (bytes:=1) (aG (xs.getD j 0)) [] (Bd hjl) jT (bM nD) rfl (fT fc fc) (eJ trivial) (by omega) (by omega) rfl rfl rfl) (fun⟨A4,c4⟩ _=>?_)
  refine aJ ?_
  refine dv (j+1,A4,c4) (by show j+1<=_;omega) (by show _ - _<_ - _;omega) (hh:=(fun _ h=>h.msub ms))
 obtain rfl:j=xs.length:=by omega
 refine aj ?_
 intro w hw
 refine⟨(Aj,cj),trivial,rfl,?_⟩
 rw[aQ] at hw
 exact hw.msub ms
theorem od {α:Type} {f:α->List UInt8} {l:List α} {k:Nat} (hk:k<l.length) (d:α) (b:List UInt8):b++(l.take (k+1)).flatMap f=(b++(l.take k).flatMap f)++f (l.getD k d):=by
 rw[cO hk,pk,aX,ak,ap hk]
 simp
theorem rx {α:Type} {f:α->List UInt8} {m:Nat} (l:List α) (h:∀x∈l,(f x).length<=m) (k:Nat):((l.take k).flatMap f).length<=m*l.length:=by
 induction l generalizing k with
 | nil=>simp
 | cons x l ih=>
  cases k with
  | zero=>simp
  | succ k=>
   have h1:=h x (by simp)
   have h2:=ih (fun y hy=>h y (by simp[hy])) k
   rw[fD,eG,aq,aR,Nat.mul_add]
   omega
theorem sS {α:Type} {f:α->List UInt8} {m:Nat} (l:List α) (h:∀x∈l,(f x).length<=m):(l.flatMap f).length<=m*l.length:=by
 have:=rx l h l.length
 rwa [aQ] at this
theorem GK (l:List Int):(fJ l).length=1+(l.flatMap dw).length:=by simp[fJ];omega
theorem DU (l:List Int) (k:Nat):((l.take k).flatMap dw).length<=4*l.length:=rx l (fun _ _=>aA 4) k
theorem tm (l:List aH) (k:Nat):((l.take k).flatMap fR).length<=5*l.length:=rx l (fun _ _=>aA 5) k
theorem se (gb:Nat) (xs:List Int) (A:Option Addr) (c:Nat) (hs:bE w0 B (.slice A xs.length c) xs) (bs:List UInt8) (Ab:Option Addr) (cb:Nat) (hbd:bs.length+4*xs.length+1<=1000000) (w:World) (hw:Cw B w0 (am gb [.slice Ab bs.length cb] 228::an (.slice Ab bs.length cb) bs::H) w) :
  Calls Tryz.prog 172 #[.pointer (some ⟨gb,0,none⟩),.slice A xs.length c] w (Fl B w0 H gb (bs++fJ xs)):=by
 have hl1:(bs++ [aG (xs.length:Int)]).length=bs.length+1:=by simp
 refine aY Tryz.func172 rfl Tryz.ntmps172 rfl hw<|aj ?_
 intro g1 _
 refine eA (fun w h=>bI (α:=Int) (m:=1) [(xs.length:Int)] rfl (gt (by unfold aF;omega)) rfl (by decide) h) ?_
 refine cz rfl qH (fun w hw=>lB gb [(xs.length:Int)] _ _ (.own rfl .a) bs Ab cb (by show _+1<=_;omega) w (hw.msub (.s fc (.s fc .r)))) (fun⟨A1,c1⟩ _=>?_)
 refine aJ ?_
 refine dG (fun g:Nat×Option Addr×Nat=>g.1<=xs.length) (fun g=>xs.length - g.1) (fun g=> [(0,.pointer (some ⟨gb,0,none⟩)),(11,.slice A xs.length c),(12,.int .i64 (xs.length:Int)),(13,.int .i64 (g.1:Int))]) (fun g=> [am gb [.slice g.2.1 ((bs++ [aG xs.length])++(xs.take g.1).flatMap dw).length g.2.2] 228,an (.slice g.2.1 ((bs++ [aG xs.length])++(xs.take g.1).flatMap dw).length g.2.2) ((bs++ [aG xs.length])++(xs.take g.1).flatMap dw)]++H) (0,A1,c1) (bi _) ?_ (hh:=(fun w h=>by have h:=h.msub (T:=am gb _ _::an _ (bs++ [aG (xs.length:Int)])::H) ms;simpa using h))
 rintro⟨j,Aj,cj⟩ hj'
 try dsimp only
 have hj:j<=xs.length:=hj'
 have h4:=DU xs j
 have hlj:((bs++ [aG (xs.length:Int)])++(xs.take j).flatMap dw).length<=bs.length+1+4*xs.length:=by rw[aq,hl1];omega
 refine az (fun hlt=>?_) (fun hlt=>?_)
 ·have hjl:j<xs.length:=by omega
  refine aj ?_
  refine dA (_) rfl ((.ro hs)) ?_
  refine oN rfl ((.ro hs))<|aj ?_
  refine dP [0,3,6,9,12,15,20,23,24,27,32] [10] rfl [am gb [.slice Aj ((bs++ [aG (xs.length:Int)])++(xs.take j).flatMap dw).length cj] 228]<|aj ?_
  refine kW rfl rfl Tryz.call176 (fun w hw=>uZ (xs.getD j 0) w) ?_
  refine pE rfl (xc (bytes:=1) (od hjl 0 _) jT jP (bM nD) rfl fc (by show _+4<=_;omega) (by show (_+4)*1<=_;omega) rfl rfl rfl) (fun⟨A4,c4⟩ _=>?_)
  refine aJ ?_
  refine dv (j+1,A4,c4) (by show j+1<=_;omega) (by show _ - _<_ - _;omega) (hh:=(fun _ h=>h.msub ms))
 obtain rfl:j=xs.length:=by omega
 refine aj ?_
 intro w hw
 refine⟨(Aj,cj),trivial,rfl,?_⟩
 rw[aQ,show (bs++ [aG (xs.length:Int)])++xs.flatMap dw=bs++fJ xs from by simp[fJ]] at hw
 exact hw.msub ms
theorem xy (gb:Nat) (xs:List aH) (A:Option Addr) (c:Nat) (hs:bE w0 B (.slice A xs.length c) xs) (bs:List UInt8) (Ab:Option Addr) (cb:Nat) (hbd:bs.length+5*xs.length+3<=1000000) (w:World) (hw:Cw B w0 (am gb [.slice Ab bs.length cb] 228::an (.slice Ab bs.length cb) bs::H) w) :
  Calls Tryz.prog 173 #[.pointer (some ⟨gb,0,none⟩),.slice A xs.length c] w (Fl B w0 H gb (bs++gV xs)):=by
 have hl1:(bs++ [aG (xs.length:Int)]).length=bs.length+1:=by simp
 refine aY Tryz.func173 rfl Tryz.ntmps173 rfl hw<|aj ?_
 intro g1 _
 refine eA (fun w h=>bI (α:=Int) (m:=1) [(xs.length:Int)] rfl (gt (by unfold aF;omega)) rfl (by decide) h) ?_
 refine cz rfl qH (fun w hw=>lB gb [(xs.length:Int)] _ _ (.own rfl .a) bs Ab cb (by show _+1<=_;omega) w (hw.msub (.s fc (.s fc .r)))) (fun⟨A1,c1⟩ _=>?_)
 refine aJ ?_
 refine dG (fun g:Nat×Option Addr×Nat=>g.1<=xs.length) (fun g=>xs.length - g.1) (fun g=> [(0,.pointer (some ⟨gb,0,none⟩)),(12,.slice A xs.length c),(13,.int .i64 (xs.length:Int)),(14,.int .i64 (g.1:Int))]) (fun g=> [am gb [.slice g.2.1 ((bs++ [aG xs.length])++(xs.take g.1).flatMap fR).length g.2.2] 228,an (.slice g.2.1 ((bs++ [aG xs.length])++(xs.take g.1).flatMap fR).length g.2.2) ((bs++ [aG xs.length])++(xs.take g.1).flatMap fR)]++H) (0,A1,c1) (bi _) ?_ (hh:=(fun w h=>by have h:=h.msub (T:=am gb _ _::an _ (bs++ [aG (xs.length:Int)])::H) ms;simpa using h))
 rintro⟨j,Aj,cj⟩ hj'
 try dsimp only
 have hj:j<=xs.length:=hj'
 have h4:=tm xs j
 have hlj:((bs++ [aG (xs.length:Int)])++(xs.take j).flatMap fR).length<=bs.length+1+5*xs.length:=by rw[aq,hl1];omega
 refine az (fun hlt=>?_) (fun hlt=>?_)
 ·have hjl:j<xs.length:=by omega
  obtain⟨V,hV⟩:∃V,xs.getD j default=V:=⟨_,rfl⟩
  have hstep:=od (f:=fR) hjl default (bs++ [aG (xs.length:Int)])
  rw[hV] at hstep
  refine aj ?_
  refine dA (_) rfl ((.ro hs)) ?_
  refine iX rfl (SF.val (.ro hs) hjl default)<|aj ?_
  refine fun g2 _=>aj ?_
  rw[hV]
  refine qA (fun _:Unit=>True) (fun _=> [(0,.pointer (some ⟨gb,0,none⟩)),(5,.pointer (some ⟨g2,0,none⟩)),(6,.int .i64 (if V.ref=true then 1 else 0)),(12,.slice A xs.length c),(13,.int .i64 (xs.length:Int)),(14,.int .i64 (j:Int))]) (fun _=> [am g2 [.bool V.ref,.int .i64 V.n] 159,am gb [.slice Aj ((bs++ [aG (xs.length:Int)])++(xs.take j).flatMap fR).length cj] 228,an (.slice Aj ((bs++ [aG (xs.length:Int)])++(xs.take j).flatMap fR).length cj) ((bs++ [aG (xs.length:Int)])++(xs.take j).flatMap fR)]++H) ?_ ?_
  ·refine cB rfl (fun hr=>?_) (fun hr=>?_)
   ·rw[if_pos hr]
    refine aj ?_
    refine nv () (trivial) (hh:=(fun _ h=>h.msub ms))
   rw[if_neg (by rw[hr];decide)]
   refine aj ?_
   refine dg () (trivial) (hh:=(fun _ h=>h.msub ms))
  rintro _ _
  refine aJ ?_
  intro g3 _
  refine eA (fun w h=>bI (α:=Int) (m:=1) [(if V.ref=true then 1 else 0:Int)] rfl (gt (by unfold aF;split <;> omega)) rfl (by decide) h) ?_
  refine cz rfl qH (fun w hw=>lB gb [(if V.ref=true then 1 else 0:Int)] _ _ (.own rfl .a) ((bs++ [aG (xs.length:Int)])++(xs.take j).flatMap fR) Aj cj (by show _+1<=_;omega) w (hw.msub (.s fc (.s fc .r)))) (fun⟨A2,c2⟩ _=>?_)
  try dsimp only
  refine bK ?_
  have hl2:(((bs++ [aG (xs.length:Int)])++(xs.take j).flatMap fR)++ [(if V.ref=true then 1 else 0:Int)].map aG).length<=bs.length+2+5*xs.length:=by rw[aq];show _+1<=_;omega
  refine dP [0,3,6,9,12,15,18,23,26,27,30,35] [11] rfl [am gb [.slice A2 (((bs++ [aG (xs.length:Int)])++(xs.take j).flatMap fR)++ [(if V.ref=true then 1 else 0:Int)].map aG).length c2] 228,am g2 [.bool V.ref,.int .i64 V.n] 159]<|aj ?_
  refine kW rfl rfl Tryz.call176 (fun w hw=>uZ V.n w) ?_
  refine pE rfl (xc (bytes:=1) (xs:=((bs++ [aG (xs.length:Int)])++(xs.take j).flatMap fR)++ [(if V.ref=true then 1 else 0:Int)].map aG) (xs':=(bs++ [aG (xs.length:Int)])++(xs.take (j+1)).flatMap fR) (by rw[hstep];simp[fR]) jT jP (bM nD) rfl fc (by show _+4<=_;omega) (by show (_+4)*1<=_;omega) rfl rfl rfl) (fun⟨A4,c4⟩ _=>?_)
  refine aJ ?_
  refine dv (j+1,A4,c4) (by show j+1<=_;omega) (by show _ - _<_ - _;omega) (hh:=(fun _ h=>h.msub ms))
 obtain rfl:j=xs.length:=by omega
 refine aj ?_
 intro w hw
 refine⟨(Aj,cj),trivial,rfl,?_⟩
 rw[aQ,show (bs++ [aG (xs.length:Int)])++xs.flatMap fR=bs++gV xs from by simp[gV]] at hw
 exact hw.msub ms
end
end
section
abbrev Ql (s:List UInt8):Value:= .string ⟨s.toArray⟩
def oD:List PanicEntry:=Oz (.iface 231 (.agg #[]))
section
variable {B:Nat} {w0:World} {H:List aC}
def kl {α γ:Type} (B:Nat) (w0:World) (gr:Nat) (r:Option (α×List UInt8)) (val:α->γ->Value) (H':α->γ->List aC) (H:List aC) (e:Ending) (w':World):Prop:=
 (∃g:(α×List UInt8)×γ,r=some g.1/\e= .returned (val g.1.1 g.2)/\Cw B w0 (am gr [.string ⟨g.1.2.toArray⟩] 235::H' g.1.1 g.2) w')\/∃ch,e= .panicked ch/\(r=none/\ch=oD)/\Cw B w0 H w'
theorem Nl {s:List UInt8} {k:Nat} (h:k<=s.length):eY s (k:Int)=(s.take k,s.drop k,true):=by
 unfold eY
 rw[if_neg (by omega),bj]
theorem Nm {s:List UInt8} {k:Nat} (h:s.length<k):eY s (k:Int)=([],[],false):=by
 unfold eY
 rw[if_pos (by omega)]
def iU (k:Nat):kj (List UInt8):=fun s=>if s.length<k then none else some (s.take k,s.drop k)
theorem sw (gr k:Nat) (s:List UInt8) (hl:s.length<=140737488355328) (w:World) (hw:Cw B w0 (am gr [.string ⟨s.toArray⟩] 235::H) w) :
  Calls Tryz.prog 280 #[.pointer (some ⟨gr,0,none⟩),.int .i64 (k:Int)] w (kl B w0 gr (iU k s) (fun a (_:Unit)=>Ql a) (fun _ _=>H) H):=by
 refine aY Tryz.func280 rfl Tryz.ntmps280 rfl hw<|aj ?_
 refine cA rfl Tryz.call212 (fun w hw=>xu s (k:Int) w (by omega) hl)<|aj ?_
 by_cases h:s.length<k
 ·rw[Nm h]
  have hn:iU k s=none:=by unfold iU;rw[if_pos h]
  refine cT (t:=19) (v':= .bool true) rfl (rfl) ?_
  refine bo rfl<|aj ?_
  refine sE (pJ Ir rfl rfl) ?_
  refine jH rfl rfl rfl ?_
  intro a w hf hw
  exact⟨hf.2.1,.inr ⟨_,rfl,⟨hn,rfl⟩,hw.msub ms⟩⟩
 rw[Nl (by omega)]
 have hn:iU k s=some (s.take k,s.drop k):=by unfold iU;rw[if_neg h]
 refine cT (t:=19) (v':= .bool false) rfl (rfl) ?_
 refine bR rfl<|aj ?_
 intro w hw
 exact .inl ⟨((s.take k,s.drop k),()),hn,rfl,hw⟩
theorem PA {s a r:List UInt8} (h:iU 1 s=some (a,r)):∃b,s=b::r/\a= [b]:=by
 unfold iU at h
 split at h
 ·cases h
 cases s with
 | nil=>simp at *
 | cons b l=>
  simp at h
  exact⟨b,by rw[h.2],h.1.symm⟩
theorem IR {s:List UInt8} (h:iU 1 s=none):kx s=none:=by
 unfold iU at h
 split at h
 ·rename_i h1
  have:s= []:=aS (by omega)
  rw[this];rfl
 cases h
theorem tu (s:List UInt8):kR s=(iU 4 s).map fun p=>(cU p.1,p.2):=by
 unfold kR iU
 split <;> rfl
theorem uB {k:Nat} {s a r:List UInt8} (h:iU k s=some (a,r)):a.length<=s.length/\r.length<=s.length:=by
 unfold iU at h
 split at h
 ·cases h
 simp at h
 obtain⟨rfl,rfl⟩:=h
 rw[ax,aE]
 omega
theorem lP (gr:Nat) (s:List UInt8) (hl:s.length<=140737488355328) (w:World) (hw:Cw B w0 (am gr [.string ⟨s.toArray⟩] 235::H) w) :
  Calls Tryz.prog 225 #[.pointer (some ⟨gr,0,none⟩)] w (kl B w0 gr (kx s) (fun a (_:Unit)=> .int .i64 a) (fun _ _=>H) H):=by
 refine aY Tryz.func225 rfl Tryz.ntmps225 rfl hw<|aj ?_
 refine ez (cZ rfl rfl rfl Q6 (fun w hw=>sw gr 1 s hl w hw)) rfl rfl (fun _ _ _ hf hp=>⟨hf.2.1,.inr ⟨_,rfl,⟨IR hp.1.1,hp.1.2⟩,hp.2⟩⟩) (fun⟨⟨a,r⟩,_⟩ hr=>?_)
 try dsimp only
 obtain⟨b,rfl,rfl⟩:=PA hr
 refine sE (Dz (k:=0) jP (by simp) rfl rfl rfl) ?_
 refine sE (Gx nP sb rfl rfl)<|aj ?_
 intro w hw
 exact .inl ⟨(((b.toNat:Int),r),()),rfl,rfl,hw⟩
theorem iy {s r:List UInt8} {z:Int} (h:kx s=some (z,r)):r.length<=s.length/\(0<=z/\z<=255):=by
 have hb:=LW h
 cases s with
 | nil=>cases h
 | cons b l=>
  obtain⟨_,rfl⟩:(b.toNat:Int)=z/\l=r:=by simpa [kx] using h
  exact⟨by simp,hb⟩
def pR {α:Type} (p:kj α):Prop:= ∀s x r,p s=some (x,r)->r.length<=s.length
theorem vV {α:Type} {p:kj α} (h:pR p):∀k,pR (fz p k)
 | 0=>fun s x r e=>by
  obtain⟨rfl,rfl⟩: []=x/\s=r:=by simpa [fz] using e
  exact aA _
 | k+1=>fun s x r e=>by
  unfold fz at e
  split at e
  ·cases e
  rename_i y t e1
  split at e
  ·cases e
  rename_i l u e2
  obtain⟨rfl,rfl⟩:y::l=x/\u=r:=by simpa using e
  exact dc (vV h k _ _ _ e2) (h _ _ _ e1)
theorem qS {α:Type} {p:kj α} (h:pR p):pR (ip p):=fun s x r e=>by
 unfold ip at e
 split at e
 ·cases e
 rename_i n t e1
 exact dc (vV h _ _ _ _ e) (iy e1).1
theorem ru:pR kR:=fun s x r e=>by
 rw[tu] at e
 cases h:iU 4 s with
 | none=>rw[h] at e;cases e
 | some p=>
  rw[h] at e
  obtain⟨_,rfl⟩:cU p.1=x/\p.2=r:=by simpa using e
  exact(uB h).2
theorem sj {α:Type} {p:kj α} {s r:List UInt8} {x:List α} (e:ip p s=some (x,r)):x.length<=255:=by
 unfold ip at e
 split at e
 ·cases e
 rename_i n t e1
 rw[xY _ _ _ _ e]
 have:=(iy e1).2
 omega
theorem EC {α:Type} {p:kj α} {acc:List α} {x:α} {u:List UInt8} {n:Nat} :Option.map (fun q:List α×List UInt8=>(acc++q.1,q.2)) (match fz p n u with
  | none=>none
  | some (l,t)=>some (x::l,t))=(fz p n u).map (fun q=>((acc++ [x])++q.1,q.2)):=by cases fz p n u <;> simp
theorem HU {P:Program} {f:FuncId} {cap:List Value} {w:World} {R:Ending->World->Prop} (h:Calls P f cap.toArray w R):Calls P f (([]:List Value)++cap.toArray.toList).toArray w R:=by simpa using h
def P7 {α γ:Type} (B:Nat) (w0:World) (gr:Nat) (r:Option (List α×List UInt8)) (K:List α->γ->List aC) (H:List aC):Ending->World->Prop:=kl B w0 gr r (fun _ (_:γ)=> .tuple #[]) (fun a g=>K a g++H) H
theorem pu {α γ:Type} (gr:Nat) (f:FuncId) (cap:List Value) (p:kj α) (hpl:pR p) (K:List α->γ->List aC) (hcall:∀a w,(callFunc f a).run Tryz.prog w= .ok (.enter f a) w)
  (hdo:∀(s:List UInt8) (acc:List α) (g:γ) (w:World),s.length<=140737488355320->acc.length<=254->Cw B w0 (am gr [.string ⟨s.toArray⟩] 235::(K acc g++H)) w->
   Calls Tryz.prog f cap.toArray w (kl B w0 gr (p s) (fun _ (_:γ)=> .tuple #[]) (fun x g'=>K (acc++ [x]) g'++H) H))
  (s:List UInt8) (g0:γ) (hl:s.length<=140737488355320) (w:World) (hw:Cw B w0 (am gr [.string ⟨s.toArray⟩] 235::(K [] g0++H)) w) :
  Calls Tryz.prog 227 #[.pointer (some ⟨gr,0,none⟩),.func (.func f) #[] cap.toArray] w (P7 B w0 gr (ip p s) K H):=by
 refine aY Tryz.func227 rfl Tryz.ntmps227 rfl hw<|aj ?_
 refine ez (cZ rfl rfl rfl vk (fun w hw=>lP gr s (by omega) w hw)) rfl rfl (fun _ _ _ hf hp=>⟨hf.2.1,.inr ⟨_,rfl,⟨by unfold ip;rw[hp.1.1],hp.1.2⟩,Cw.msub hp.2 (by exact⟨_,List.perm_append_comm⟩)⟩⟩) (fun⟨⟨n,r⟩,_⟩ hr=>?_)
 refine aJ ?_
 have hn:=iy hr
 have h8:ip p s=fz p n.toNat r:=by unfold ip;rw[hr]
 refine dG (fun g:(Int×List α×List UInt8)×γ=>(ip p s=(fz p g.1.1.toNat g.1.2.2).map (fun q=>(g.1.2.1++q.1,q.2))/\(g.1.1<=255/\g.1.2.1.length+g.1.1.toNat<=255))/\g.1.2.2.length<=140737488355320) (fun g=>g.1.1.toNat) (fun g=> [(1,.func (.func f) #[] cap.toArray),(4,.int .i64 g.1.1)]) (fun g=>am gr [.string ⟨g.1.2.2.toArray⟩] 235::(K g.1.2.1 g.2++H)) ((n,[],r),g0) (⟨⟨by rw[h8];cases fz p n.toNat r <;> simp,⟨hn.2.2,by show 0+n.toNat<=255;omega⟩⟩,by show r.length<=_;omega⟩) ?_
 rintro⟨⟨k,acc,t⟩,g⟩ hj
 try dsimp only
 obtain⟨⟨hj1,hj2,hj3⟩,hj4⟩:(ip p s=(fz p k.toNat t).map (fun q=>(acc++q.1,q.2))/\(k<=255/\acc.length+k.toNat<=255))/\t.length<=140737488355320:=hj
 refine az (fun hk=>?_) (fun hk=>?_)
 ·have hk1:k.toNat=(k - 1).toNat+1:=by omega
  rw[hk1,fz] at hj1
  refine aj ?_
  refine ez (xV rfl rfl rfl hcall (fun w hw=>HU (hdo t acc g w hj4 (by omega) hw))) rfl rfl (fun _ _ _ hf hp=>⟨hf.2.1,.inr ⟨_,rfl,⟨by rw[hj1,hp.1.1];rfl,hp.1.2⟩,hp.2⟩⟩) (fun⟨⟨x,u⟩,g'⟩ hx=>?_)
  refine aJ ?_
  have hx:p t=some (x,u):=hx
  have hu:=hpl _ _ _ hx
  rw[hx] at hj1
  refine dv ((k - 1,acc++ [x],u),g') (⟨⟨hj1.trans EC,⟨by show k - 1<=_;omega,by show (acc++ [x]).length+(k - 1).toNat<=_;rw[aq,aL];omega⟩⟩,by show u.length<=_;omega⟩) (by show (k - 1).toNat<k.toNat;omega)
 have hk1:k.toNat=0:=by omega
 rw[hk1] at hj1
 refine aj ?_
 intro w hw
 exact .inl ⟨((acc,t),g),by rw[hj1];simp[fz],rfl,hw⟩
end
end
section
section
variable {B:Nat} {w0:World} {H:List aC}
theorem kl.map {α β γ δ:Type} {gr:Nat} {r:Option (α×List UInt8)} {r':Option (β×List UInt8)} {val:α->γ->Value} {val':β->δ->Value} {K:α->γ->List aC} {K':β->δ->List aC} {H H':List aC} {e:Ending} {w:World} (h:kl B w0 gr r val K H e w) (f:α->γ->β) (d:α->γ->δ)
  (h1:∀x t g,r=some (x,t)->r'=some (f x g,t)/\val x g=val' (f x g) (d x g)/\∀w,Cw B w0 (am gr [.string ⟨t.toArray⟩] 235::K x g) w->Cw B w0 (am gr [.string ⟨t.toArray⟩] 235::K' (f x g) (d x g)) w) (h2:r=none->r'=none) (h3:∀w,Cw B w0 H w->Cw B w0 H' w):kl B w0 gr r' val' K' H' e w:=by
 rcases h with ⟨⟨⟨x,t⟩,g⟩,e1,e2,e3⟩ | ⟨ch,e1,⟨e2,e3⟩,e4⟩
 ·obtain⟨k1,k2,k3⟩:=h1 x t g e1
  exact .inl ⟨((f x g,t),d x g),k1,e2.trans (congrArg _ k2),k3 _ e3⟩
 exact .inr ⟨ch,e1,⟨h2 e2,e3⟩,h3 _ e4⟩
theorem vR (l:List UInt8):aF (cU l):=by
 have:=qv l
 unfold bB at this
 simp only[cY,decide_eq_true_eq] at this
 unfold aF
 omega
theorem Er (gr go gp:Nat) (s:List UInt8) (acc:List Int) (A:Option Addr) (c:Nat) (hl:s.length<=140737488355320) (hac:acc.length<=254) (w:World)
  (hw:Cw B w0 (am gr [.string ⟨s.toArray⟩] 235::am go [.slice A acc.length c] 35::an (.slice A acc.length c) acc::am gp [.pointer (some ⟨gr,0,none⟩)] 233::H) w) :
  Calls Tryz.prog 281 #[.pointer (some ⟨go,0,none⟩),.pointer (some ⟨gp,0,none⟩)] w (kl B w0 gr (kR s) (fun _ (_:Option Addr×Nat)=> .tuple #[])
   (fun x g=>am go [.slice g.1 (acc++ [x]).length g.2] 35::an (.slice g.1 (acc++ [x]).length g.2) (acc++ [x])::am gp [.pointer (some ⟨gr,0,none⟩)] 233::H) (am gp [.pointer (some ⟨gr,0,none⟩)] 233::H)):=by
 refine aY Tryz.func281 rfl Tryz.ntmps281 rfl hw ?_
 refine sW (.still 0 (.still 1 (.pick 2 (.pick 3 (.pick 4 (.pick 5 (.pick 6 .done .stop) .stop) .stop) .stop) .stop))) [5,6] rfl (by kernel_rfl) (by kernel_rfl) [am go [.slice A acc.length c] 35,am gp [.pointer (some ⟨gr,0,none⟩)] 233] (fun ch w=>(kR s=none/\ch=oD)/\Cw B w0 (am gp [.pointer (some ⟨gr,0,none⟩)] 233::H) w) (fun _ _ _ hf hp=>⟨hf,.inr ⟨_,rfl,hp⟩⟩) ?_
 refine aj ?_
 refine Ay rfl (cZ rfl rfl rfl Q6 (fun w hw=>sw (H:=am go [.slice A acc.length c] 35::an (.slice A acc.length c) acc::am gp [.pointer (some ⟨gr,0,none⟩)] 233::H) gr 4 s (by omega) w (hw.msub ms))) rfl rfl (.inr fun _=>ha) (fun _ _ hp=>⟨⟨by rw[tu,hp.1.1];rfl,hp.1.2⟩,hp.2.msub ms⟩) (fun⟨⟨a,r⟩,_⟩ hr=>?_) gi
 try dsimp only
 have hr:iU 4 s=some (a,r):=hr
 have hle:=uB hr
 have h4:kR s=some (cU a,r):=by rw[tu,hr];rfl
 refine kW rfl rfl Tryz.call213 (fun w hw=>rj a w (by omega))<|aj ?_
 intro g1 _
 refine pE rfl (cV (α:=Int) (bytes:=8) (cU a) [] rfl aV (bM ge) rfl (fT fc fc) (eJ (vR a)) (by omega) (by omega) rfl rfl rfl) (fun⟨A5,c5⟩ _=>?_)
 refine aJ ?_
 refine uG<|pV Tryz.results281 ?_
 intro w hw
 exact .inl ⟨((cU a,r),(A5,c5)),h4,rfl,hw.msub ms⟩
theorem sA (gr:Nat) (s:List UInt8) (hl:s.length<=140737488355320) (w:World) (hw:Cw B w0 (am gr [.string ⟨s.toArray⟩] 235::H) w) :
  Calls Tryz.prog 226 #[.pointer (some ⟨gr,0,none⟩)] w (kl B w0 gr (kc s) (fun x (g:Option Addr×Nat)=> .slice g.1 x.length g.2) (fun x g=>an (.slice g.1 x.length g.2) x::H) H):=by
 refine aY Tryz.func226 rfl Tryz.ntmps226 rfl hw<|aj ?_
 refine fun g1 _=>aj ?_
 refine fun g2 _=>aj ?_
 refine eA (fun w h=>Cw.nilO Int h) ?_
 refine ez (cZ rfl rfl rfl Ny (fun w hw=>pu (H:=am g1 [.pointer (some ⟨gr,0,none⟩)] 233::H) gr 281 [.pointer (some ⟨g2,0,none⟩),.pointer (some ⟨g1,0,none⟩)] kR ru (fun acc (g:Option Addr×Nat)=> [am g2 [.slice g.1 acc.length g.2] 35,an (.slice g.1 acc.length g.2) acc]) Tryz.call281 (fun s acc g w h1 h2 hw=>Er gr g2 g1 s acc g.1 g.2 h1 h2 w hw) s (none,0) hl w (hw.msub ms))) rfl rfl (fun _ _ _ hf hp=>⟨hf.2.1,.inr ⟨_,rfl,hp.1,hp.2.msub ms⟩⟩) (fun⟨⟨x,r⟩,⟨A,c⟩⟩ hr=>?_)
 refine aJ ?_
 intro w hw
 exact .inl ⟨((x,r),(A,c)),hr,rfl,hw.msub ms⟩
theorem tY:pR im:=fun s x r e=>by
 unfold im at e
 split at e
 ·cases e
 rename_i n t e1
 split at e
 ·cases e
 split at e
 ·cases e
 rename_i z u e2
 obtain⟨_,rfl⟩:(⟨decide (n=1),z⟩:aH)=x/\u=r:=by simpa using e
 exact dc (ru _ _ _ e2) (iy e1).1
theorem Ec {s r:List UInt8} {x:aH} (e:im s=some (x,r)):aF x.n:=by
 unfold im at e
 split at e
 ·cases e
 rename_i n t e1
 split at e
 ·cases e
 split at e
 ·cases e
 rename_i z u e2
 ·obtain⟨rfl,_⟩:(⟨decide (n=1),z⟩:aH)=x/\u=r:=by simpa using e
  rw[tu] at e2
  cases h:iU 4 t with
  | none=>rw[h] at e2;cases e2
  | some p=>
   rw[h] at e2
   obtain⟨rfl,_⟩:cU p.1=z/\p.2=u:=by simpa using e2
   exact vR _
theorem En (gr:Nat) (s:List UInt8) (hl:s.length<=140737488355320) (w:World) (hw:Cw B w0 (am gr [.string ⟨s.toArray⟩] 235::H) w) :
  Calls Tryz.prog 283 #[.pointer (some ⟨gr,0,none⟩)] w (kl B w0 gr (im s) (fun x (_:Unit)=> .agg #[.bool x.ref,.int .i64 x.n]) (fun _ _=>H) H):=by
 refine aY Tryz.func283 rfl Tryz.ntmps283 rfl hw<|aj ?_
 refine fun g1 _=>aj ?_
 refine ez (cZ rfl rfl rfl vk (fun w hw=>lP gr s (by omega) w (hw.msub (.s fc .r)))) rfl rfl (fun _ _ _ hf hp=>⟨hf.2.1,.inr ⟨_,rfl,⟨by unfold im;rw[hp.1.1],hp.1.2⟩,hp.2.msub ms⟩⟩) (fun⟨⟨n,r⟩,_⟩ hr=>?_)
 refine aJ ?_
 have hn:=iy hr
 refine gJ rfl (fun h1=>?_) (fun h1=>?_)
 ·refine aj ?_
  refine sE (pJ Ir rfl rfl) ?_
  refine jH rfl rfl rfl ?_
  intro a w hf hw
  exact⟨hf.2.1,.inr ⟨_,rfl,⟨by unfold im;rw[hr];simp only;rw[if_pos h1],rfl⟩,hw.msub ms⟩⟩
 have hv:im s=(kR r).map fun q=>((⟨decide (n=1),q.1⟩:aH),q.2):=by
  unfold im
  rw[hr]
  simp only
  rw[if_neg h1]
  cases kR r <;> rfl
 refine aj ?_
 refine ez (cZ rfl rfl rfl Q6 (fun w hw=>sw gr 4 r (by omega) w (hw.msub (.s fc .r)))) rfl rfl (fun _ _ _ hf hp=>⟨hf.2.1,.inr ⟨_,rfl,⟨by rw[hv,tu,hp.1.1];rfl,hp.1.2⟩,hp.2.msub ms⟩⟩) (fun⟨⟨a,t⟩,_⟩ ht=>?_)
 try dsimp only
 have ht:iU 4 r=some (a,t):=ht
 have hle:=uB ht
 refine cA rfl Tryz.call213 (fun w hw=>rj a w (by omega))<|aj ?_
 intro w hw
 exact .inl ⟨((⟨decide (n=1),cU a⟩,t),()),by rw[hv,tu,ht];rfl,rfl,hw.msub ms⟩
theorem Eo (gr go gp:Nat) (s:List UInt8) (acc:List aH) (A:Option Addr) (c:Nat) (hl:s.length<=140737488355320) (hac:acc.length<=254) (w:World)
  (hw:Cw B w0 (am gr [.string ⟨s.toArray⟩] 235::am go [.slice A acc.length c] 116::an (.slice A acc.length c) acc::am gp [.pointer (some ⟨gr,0,none⟩)] 233::H) w) :
  Calls Tryz.prog 282 #[.pointer (some ⟨go,0,none⟩),.pointer (some ⟨gp,0,none⟩)] w (kl B w0 gr (im s) (fun _ (_:Option Addr×Nat)=> .tuple #[])
   (fun x g=>am go [.slice g.1 (acc++ [x]).length g.2] 116::an (.slice g.1 (acc++ [x]).length g.2) (acc++ [x])::am gp [.pointer (some ⟨gr,0,none⟩)] 233::H) (am gp [.pointer (some ⟨gr,0,none⟩)] 233::H)):=by
 refine aY Tryz.func282 rfl Tryz.ntmps282 rfl hw ?_
 refine sW (.still 0 (.still 1 (.pick 2 (.pick 3 (.pick 4 (.pick 5 .done .stop) .stop) .stop) .stop))) [4,5] rfl (by kernel_rfl) (by kernel_rfl) [am go [.slice A acc.length c] 116,am gp [.pointer (some ⟨gr,0,none⟩)] 233] (fun ch w=>(im s=none/\ch=oD)/\Cw B w0 (am gp [.pointer (some ⟨gr,0,none⟩)] 233::H) w) (fun _ _ _ hf hp=>⟨hf,.inr ⟨_,rfl,hp⟩⟩) ?_
 refine aj ?_
 refine Ay rfl (cZ rfl rfl rfl Tryz.call283 (fun w hw=>En (H:=am go [.slice A acc.length c] 116::an (.slice A acc.length c) acc::am gp [.pointer (some ⟨gr,0,none⟩)] 233::H) gr s hl w (hw.msub ms))) rfl rfl (.inr fun _=>ha) (fun _ _ hp=>⟨hp.1,hp.2.msub ms⟩) (fun⟨⟨v,r⟩,_⟩ hr=>?_) gi
 refine aJ ?_
 intro g1 _
 have hr:im s=some (v,r):=hr
 refine pE rfl (cV (α:=aH) (bytes:=16) v [] rfl cE (bM jc) rfl (fT fc fc) (eJ (show aF v.n from Ec hr)) (by omega) (by omega) rfl rfl rfl) (fun⟨A5,c5⟩ _=>?_)
 refine aJ ?_
 refine uG<|pV Tryz.results282 ?_
 intro w hw
 exact .inl ⟨((v,r),(A5,c5)),hr,rfl,hw.msub ms⟩
theorem xL (gr:Nat) (s:List UInt8) (hl:s.length<=140737488355320) (w:World) (hw:Cw B w0 (am gr [.string ⟨s.toArray⟩] 235::H) w) :
  Calls Tryz.prog 230 #[.pointer (some ⟨gr,0,none⟩)] w (kl B w0 gr (mJ s) (fun x (g:Option Addr×Nat)=> .slice g.1 x.length g.2) (fun x g=>an (.slice g.1 x.length g.2) x::H) H):=by
 refine aY Tryz.func230 rfl Tryz.ntmps230 rfl hw<|aj ?_
 refine fun g1 _=>aj ?_
 refine fun g2 _=>aj ?_
 refine eA (fun w h=>Cw.nilO aH h) ?_
 refine ez (cZ rfl rfl rfl Ny (fun w hw=>pu (H:=am g1 [.pointer (some ⟨gr,0,none⟩)] 233::H) gr 282 [.pointer (some ⟨g2,0,none⟩),.pointer (some ⟨g1,0,none⟩)] im tY (fun acc (g:Option Addr×Nat)=> [am g2 [.slice g.1 acc.length g.2] 116,an (.slice g.1 acc.length g.2) acc]) Tryz.call282 (fun s acc g w h1 h2 hw=>Eo gr g2 g1 s acc g.1 g.2 h1 h2 w hw) s (none,0) hl w (hw.msub ms))) rfl rfl (fun _ _ _ hf hp=>⟨hf.2.1,.inr ⟨_,rfl,hp.1,hp.2.msub ms⟩⟩) (fun⟨⟨x,r⟩,⟨A,c⟩⟩ hr=>?_)
 refine aJ ?_
 intro w hw
 exact .inl ⟨((x,r),(A,c)),hr,rfl,hw.msub ms⟩
end
end
section
section
variable {B:Nat} {w0:World} {H:List aC}
theorem Ih:(Tryz.prog.info? 35).map (fun i=>(i.zero,i.size,i.bytes))=some (some (.slice none 0 0),1,24):=by kernel_rfl
theorem Eu (gr gm gp:Nat) (vf vi vo vs vt:Value) (s:List UInt8) (acc:List (List Int)) (A:Option Addr) (c:Nat) (hl:s.length<=140737488355320) (hac:acc.length<=254) (w:World)
  (hw:Cw B w0 (am gr [.string ⟨s.toArray⟩] 235::am gm [vf,.slice A acc.length c,vi,vo,vs,vt] 43::an (.slice A acc.length c) acc::am gp [.pointer (some ⟨gr,0,none⟩)] 233::H) w) :
  Calls Tryz.prog 228 #[.pointer (some ⟨gm,0,none⟩),.pointer (some ⟨gp,0,none⟩)] w (kl B w0 gr (kc s) (fun _ (_:Option Addr×Nat)=> .tuple #[])
   (fun x g=>am gm [vf,.slice g.1 (acc++ [x]).length g.2,vi,vo,vs,vt] 43::an (.slice g.1 (acc++ [x]).length g.2) (acc++ [x])::am gp [.pointer (some ⟨gr,0,none⟩)] 233::H) (am gp [.pointer (some ⟨gr,0,none⟩)] 233::H)):=by
 refine aY Tryz.func228 rfl Tryz.ntmps228 rfl hw ?_
 refine sW (.still 0 (.still 1 (.still 2 (.pick 3 (.pick 4 (.pick 5 (.calm 6 (.pick 7 .done .stop)) .stop) .stop) .stop)))) [5,6,7] rfl (by kernel_rfl) (by kernel_rfl) [am gm [vf,.slice A acc.length c,vi,vo,vs,vt] 43,am gp [.pointer (some ⟨gr,0,none⟩)] 233] (fun ch w=>(kc s=none/\ch=oD)/\Cw B w0 (am gp [.pointer (some ⟨gr,0,none⟩)] 233::H) w) (fun _ _ _ hf hp=>⟨hf,.inr ⟨_,rfl,hp⟩⟩) ?_
 refine aj ?_
 refine Ay rfl (cZ rfl rfl rfl Q9 (fun w hw=>sA (H:=am gm [vf,.slice A acc.length c,vi,vo,vs,vt] 43::an (.slice A acc.length c) acc::am gp [.pointer (some ⟨gr,0,none⟩)] 233::H) gr s hl w (hw.msub ms))) rfl rfl (.inr fun _=>ha) (fun _ _ hp=>⟨hp.1,hp.2.msub ms⟩) (fun⟨⟨x,r⟩,⟨Ax,cx⟩⟩ hr=>?_) gi
 refine aJ ?_
 intro g1 _
 have hr:kc s=some (x,r):=hr
 refine pE rfl (cV (α:=List Int) (bytes:=24) x [an (.slice Ax x.length cx) x] rfl ix (bM Ih) rfl (KE fc fc fc) Hh (by omega) (by omega) rfl rfl rfl) (fun⟨A5,c5⟩ _=>?_)
 refine aJ ?_
 refine uG<|pV Tryz.results228 ?_
 intro w hw
 exact .inl ⟨((x,r),(A5,c5)),hr,rfl,hw.msub ms⟩
theorem oC:pR mJ:=qS tY
theorem nX:pR kc:=qS ru
theorem CH:pR gS:=fun s x r e=>by
 unfold gS at e
 split at e
 ·cases e
 rename_i f s1 e1
 split at e
 ·cases e
 rename_i p s2 e2
 split at e
 ·cases e
 rename_i l s3 e3
 split at e
 ·cases e
 rename_i t s4 e4
 obtain⟨_,rfl⟩:(⟨f,p,l,t⟩:aB)=x/\s4=r:=by simpa using e
 have:=(iy e1).1
 have:=(iy e2).1
 have:=oC _ _ _ e3
 have:=oC _ _ _ e4
 omega
theorem Et (gr gm gp:Nat) (vb vi vo vs vt:Value) (s:List UInt8) (acc:List aB) (A:Option Addr) (c:Nat) (hl:s.length<=140737488355320) (hac:acc.length<=254) (w:World)
  (hw:Cw B w0 (am gr [.string ⟨s.toArray⟩] 235::am gm [.slice A acc.length c,vb,vi,vo,vs,vt] 43::an (.slice A acc.length c) acc::am gp [.pointer (some ⟨gr,0,none⟩)] 233::H) w) :
  Calls Tryz.prog 229 #[.pointer (some ⟨gp,0,none⟩),.pointer (some ⟨gm,0,none⟩)] w (kl B w0 gr (gS s) (fun _ (_:Option Addr×Nat)=> .tuple #[])
   (fun x g=>am gm [.slice g.1 (acc++ [x]).length g.2,vb,vi,vo,vs,vt] 43::an (.slice g.1 (acc++ [x]).length g.2) (acc++ [x])::am gp [.pointer (some ⟨gr,0,none⟩)] 233::H) (am gp [.pointer (some ⟨gr,0,none⟩)] 233::H)):=by
 refine aY Tryz.func229 rfl Tryz.ntmps229 rfl hw<|aj ?_
 refine ez (cZ rfl rfl rfl vk (fun w hw=>lP (H:=am gm [.slice A acc.length c,vb,vi,vo,vs,vt] 43::an (.slice A acc.length c) acc::am gp [.pointer (some ⟨gr,0,none⟩)] 233::H) gr s (by omega) w (hw.msub ms))) rfl rfl (fun _ _ _ hf hp=>⟨hf.2.1,.inr ⟨_,rfl,⟨by unfold gS;rw[hp.1.1],hp.1.2⟩,hp.2.msub ms⟩⟩) (fun⟨⟨f,s1⟩,_⟩ e1=>?_)
 refine aJ ?_
 refine fun g1 _=>aj ?_
 have e1:kx s=some (f,s1):=e1
 have k1:=iy e1
 refine ez (cZ rfl rfl rfl vk (fun w hw=>lP (H:=am g1 [.int .i64 f,.int .i64 0,.slice none 0 0,.slice none 0 0] 118::am gm [.slice A acc.length c,vb,vi,vo,vs,vt] 43::an (.slice A acc.length c) acc::am gp [.pointer (some ⟨gr,0,none⟩)] 233::H) gr s1 (by omega) w (hw.msub ms))) rfl rfl (fun _ _ _ hf hp=>⟨hf.2.1,.inr ⟨_,rfl,⟨by unfold gS;rw[e1];simp only;rw[hp.1.1],hp.1.2⟩,hp.2.msub ms⟩⟩) (fun⟨⟨p,s2⟩,_⟩ e2=>?_)
 refine aJ ?_
 have e2:kx s1=some (p,s2):=e2
 have k2:=iy e2
 refine ez (cZ rfl rfl rfl Tryz.call230 (fun w hw=>xL (H:=am g1 [.int .i64 f,.int .i64 p,.slice none 0 0,.slice none 0 0] 118::am gm [.slice A acc.length c,vb,vi,vo,vs,vt] 43::an (.slice A acc.length c) acc::am gp [.pointer (some ⟨gr,0,none⟩)] 233::H) gr s2 (by omega) w (hw.msub ms))) rfl rfl (fun _ _ _ hf hp=>⟨hf.2.1,.inr ⟨_,rfl,⟨by unfold gS;rw[e1];simp only;rw[e2];simp only;rw[hp.1.1],hp.1.2⟩,hp.2.msub ms⟩⟩) (fun⟨⟨l,s3⟩,⟨Al,cl⟩⟩ e3=>?_)
 refine aJ ?_
 have e3:mJ s2=some (l,s3):=e3
 have k3:=oC _ _ _ e3
 refine ez (cZ rfl rfl rfl Tryz.call230 (fun w hw=>xL (H:=am g1 [.int .i64 f,.int .i64 p,.slice Al l.length cl,.slice none 0 0] 118::an (.slice Al l.length cl) l::am gm [.slice A acc.length c,vb,vi,vo,vs,vt] 43::an (.slice A acc.length c) acc::am gp [.pointer (some ⟨gr,0,none⟩)] 233::H) gr s3 (by omega) w (hw.msub ms))) rfl rfl (fun _ _ _ hf hp=>⟨hf.2.1,.inr ⟨_,rfl,⟨by unfold gS;rw[e1];simp only;rw[e2];simp only;rw[e3];simp only;rw[hp.1.1],hp.1.2⟩,hp.2.msub ms⟩⟩) (fun⟨⟨t,s4⟩,⟨At,ct⟩⟩ e4=>?_)
 refine aJ ?_
 intro g2 _
 have e4:mJ s3=some (t,s4):=e4
 have hx:gS s=some (⟨f,p,l,t⟩,s4):=by unfold gS;rw[e1];simp only;rw[e2];simp only;rw[e3];simp only;rw[e4]
 refine oE (cV (α:=aB) (bytes:=64) ⟨f,p,l,t⟩ [an (.slice Al l.length cl) l,an (.slice At t.length ct) t] rfl eR (bM oZ) rfl (zf fc fc fc fc) (Bm (x:=⟨f,p,l,t⟩) ⟨⟨by show _<=f;omega,by show f<=_;omega⟩,⟨by show _<=p;omega,by show p<=_;omega⟩⟩) (by omega) (by omega) rfl rfl rfl) (fun⟨A5,c5⟩ _=>?_)
 refine aJ ?_
 intro w hw
 exact .inl ⟨((⟨f,p,l,t⟩,s4),(A5,c5)),hx,rfl,hw.msub ms⟩
end
end
section
section
variable {B:Nat} {w0:World} {H:List aC}
theorem kM {s:List UInt8} (h:ke s=none):iG s=none:=by unfold iG;rw[h]
theorem Es (gr:Nat) (s:List UInt8) (hl:s.length<=140737488355320) (w:World) (hw:Cw B w0 (am gr [.string ⟨s.toArray⟩] 235::H) w) :
  Calls Tryz.prog 175 #[.pointer (some ⟨gr,0,none⟩)] w fun e w'=>(∃g:ar×MA,iG s=some g.1/\e= .returned (.agg #[.slice g.2.Af g.1.F.length g.2.cf,.slice g.2.Ab g.1.B.length g.2.cb,.slice g.2.Ai g.1.I.length g.2.ci,.slice g.2.Ao g.1.out.length g.2.co,.int .i64 g.1.S,.int .i64 g.1.T])/\Cw B w0 (an (.slice g.2.Af g.1.F.length g.2.cf) g.1.F::an (.slice g.2.Ab g.1.B.length g.2.cb) g.1.B::an (.slice g.2.Ai g.1.I.length g.2.ci) g.1.I::an (.slice g.2.Ao g.1.out.length g.2.co) g.1.out::H) w')\/∃ch,e= .panicked ch/\(iG s=none/\ch=oD)/\Cw B w0 H w':=by
 refine aY Tryz.func175 rfl Tryz.ntmps175 rfl hw<|aj ?_
 refine fun g1 _=>aj ?_
 refine fun g2 _=>aj ?_
 refine ez (cZ rfl rfl rfl vk (fun w hw=>lP (H:=am g1 [.pointer (some ⟨gr,0,none⟩)] 233::am g2 [.slice none 0 0,.slice none 0 0,.slice none 0 0,.slice none 0 0,.int .i64 0,.int .i64 0] 43::H) gr s (by omega) w (hw.msub ms))) rfl rfl (fun _ _ _ hf hp=>⟨hf.2.1,.inr ⟨_,rfl,⟨kM (by unfold ke;rw[hp.1.1]),hp.1.2⟩,hp.2.msub ms⟩⟩) (fun⟨⟨st,s1⟩,_⟩ e1=>?_)
 refine aJ ?_
 refine fun g3 _=>aj ?_
 have e1:kx s=some (st,s1):=e1
 have k1:=iy e1
 refine ez (cZ rfl rfl rfl vk (fun w hw=>lP (H:=am g3 [.slice none 0 0,.slice none 0 0,.slice none 0 0,.slice none 0 0,.int .i64 st,.int .i64 0] 43::am g1 [.pointer (some ⟨gr,0,none⟩)] 233::am g2 [.slice none 0 0,.slice none 0 0,.slice none 0 0,.slice none 0 0,.int .i64 0,.int .i64 0] 43::H) gr s1 (by omega) w (hw.msub ms))) rfl rfl (fun _ _ _ hf hp=>⟨hf.2.1,.inr ⟨_,rfl,⟨kM (by unfold ke;rw[e1];simp only;rw[hp.1.1]),hp.1.2⟩,hp.2.msub ms⟩⟩) (fun⟨⟨tr,s2⟩,_⟩ e2=>?_)
 refine aJ ?_
 have e2:kx s1=some (tr,s2):=e2
 have k2:=iy e2
 refine ez (cZ rfl rfl rfl Q9 (fun w hw=>sA (H:=am g3 [.slice none 0 0,.slice none 0 0,.slice none 0 0,.slice none 0 0,.int .i64 st,.int .i64 tr] 43::am g1 [.pointer (some ⟨gr,0,none⟩)] 233::am g2 [.slice none 0 0,.slice none 0 0,.slice none 0 0,.slice none 0 0,.int .i64 0,.int .i64 0] 43::H) gr s2 (by omega) w (hw.msub ms))) rfl rfl (fun _ _ _ hf hp=>⟨hf.2.1,.inr ⟨_,rfl,⟨kM (by unfold ke;rw[e1];simp only;rw[e2];simp only;rw[hp.1.1]),hp.1.2⟩,hp.2.msub ms⟩⟩) (fun⟨⟨i,s3⟩,⟨Ai,ci⟩⟩ e3=>?_)
 refine aJ ?_
 have e3:kc s2=some (i,s3):=e3
 have k3:=nX _ _ _ e3
 refine ez (cZ rfl rfl rfl Q9 (fun w hw=>sA (H:=am g3 [.slice none 0 0,.slice none 0 0,.slice Ai i.length ci,.slice none 0 0,.int .i64 st,.int .i64 tr] 43::an (.slice Ai i.length ci) i::am g1 [.pointer (some ⟨gr,0,none⟩)] 233::am g2 [.slice none 0 0,.slice none 0 0,.slice none 0 0,.slice none 0 0,.int .i64 0,.int .i64 0] 43::H) gr s3 (by omega) w (hw.msub ms))) rfl rfl (fun _ _ _ hf hp=>⟨hf.2.1,.inr ⟨_,rfl,⟨kM (by unfold ke;rw[e1];simp only;rw[e2];simp only;rw[e3];simp only;rw[hp.1.1]),hp.1.2⟩,hp.2.msub ms⟩⟩) (fun⟨⟨o,s4⟩,⟨Ao,co⟩⟩ e4=>?_)
 refine aJ ?_
 have e4:kc s3=some (o,s4):=e4
 have k4:=nX _ _ _ e4
 refine eA (fun w h=>Cw.nilO (List Int) h) ?_
 refine ez (cZ rfl rfl rfl Ny (fun w hw=>pu (H:=am g1 [.pointer (some ⟨gr,0,none⟩)] 233::an (.slice Ai i.length ci) i::an (.slice Ao o.length co) o::am g2 [.slice none 0 0,.slice none 0 0,.slice none 0 0,.slice none 0 0,.int .i64 0,.int .i64 0] 43::H) gr 228 [.pointer (some ⟨g3,0,none⟩),.pointer (some ⟨g1,0,none⟩)] kc nX (fun acc (g:Option Addr×Nat)=> [am g3 [.slice none 0 0,.slice g.1 acc.length g.2,.slice Ai i.length ci,.slice Ao o.length co,.int .i64 st,.int .i64 tr] 43,an (.slice g.1 acc.length g.2) acc]) Tryz.call228 (fun s acc g w h1 h2 hw=>Eu gr g3 g1 _ _ _ _ _ s acc g.1 g.2 h1 h2 w hw) s4 (none,0) (by omega) w (hw.msub ms))) rfl rfl (fun _ _ _ hf hp=>⟨hf.2.1,.inr ⟨_,rfl,⟨kM (by unfold ke;rw[e1];simp only;rw[e2];simp only;rw[e3];simp only;rw[e4];simp only;rw[hp.1.1]),hp.1.2⟩,hp.2.msub ms⟩⟩) (fun⟨⟨b,s5⟩,⟨Ab,cb⟩⟩ e5=>?_)
 refine aJ ?_
 have e5:ip kc s4=some (b,s5):=e5
 have k5:=qS nX _ _ _ e5
 refine eA (fun w h=>Cw.nilO aB h) ?_
 refine ez (cZ rfl rfl rfl Ny (fun w hw=>pu (H:=am g1 [.pointer (some ⟨gr,0,none⟩)] 233::an (.slice Ab b.length cb) b::an (.slice Ai i.length ci) i::an (.slice Ao o.length co) o::am g2 [.slice none 0 0,.slice none 0 0,.slice none 0 0,.slice none 0 0,.int .i64 0,.int .i64 0] 43::H) gr 229 [.pointer (some ⟨g1,0,none⟩),.pointer (some ⟨g3,0,none⟩)] gS CH (fun acc (g:Option Addr×Nat)=> [am g3 [.slice g.1 acc.length g.2,.slice Ab b.length cb,.slice Ai i.length ci,.slice Ao o.length co,.int .i64 st,.int .i64 tr] 43,an (.slice g.1 acc.length g.2) acc]) Tryz.call229 (fun s acc g w h1 h2 hw=>Et gr g3 g1 _ _ _ _ _ s acc g.1 g.2 h1 h2 w hw) s5 (none,0) (by omega) w (hw.msub ms))) rfl rfl (fun _ _ _ hf hp=>⟨hf.2.1,.inr ⟨_,rfl,⟨kM (by unfold ke;rw[e1];simp only;rw[e2];simp only;rw[e3];simp only;rw[e4];simp only;rw[e5];simp only;rw[hp.1.1]),hp.1.2⟩,hp.2.msub ms⟩⟩) (fun⟨⟨f,s6⟩,⟨Af,cf⟩⟩ e6=>?_)
 refine aJ ?_
 have e6:ip gS s5=some (f,s6):=e6
 have hm:ke s=some (⟨f,b,i,o,st,tr⟩,s6):=by unfold ke;rw[e1];simp only;rw[e2];simp only;rw[e3];simp only;rw[e4];simp only;rw[e5];simp only;rw[e6]
 refine sE (vJ rfl rfl rfl)<|bV (fun h7=>?_) (fun h7=>?_)
 ·have ht:iG s=none:=by unfold iG;rw[hm];simp only;rw[if_neg h7]
  refine aj ?_
  refine sE (pJ Ir rfl rfl) ?_
  refine jH rfl rfl rfl ?_
  intro a w hf hw
  exact⟨hf.2.1,.inr ⟨_,rfl,⟨ht,rfl⟩,hw.msub ms⟩⟩
 have ht:iG s=some ⟨f,b,i,o,st,tr⟩:=by unfold iG;rw[hm];simp only;rw[if_pos h7]
 refine aj ?_
 intro w hw
 exact .inl ⟨(⟨f,b,i,o,st,tr⟩,⟨Af,cf,Ab,cb,Ai,ci,Ao,co⟩),ht,rfl,hw.msub ms⟩
theorem B9 (w:World):(binOp .neq 20 (.iface 231 (.agg #[])) .nilIface).run Tryz.prog w= .ok (.bool true) w:=by kernel_rfl
theorem vh (w:World):(Instr.typeAssert (.iface 231 (.agg #[])) 20 231 true).run Tryz.prog w= .ok (.tuple #[.agg #[],.bool true]) w:=by kernel_rfl
theorem Ef (ga gb : Nat) (v1 v2 v3 v4 v5 v6 vb : Value) (w : World) (hw : Cw B w0 (am ga [v1, v2, v3, v4, v5, v6] 43 :: am gb [vb] 4 :: H) w) :
    CallsD Tryz.prog 174 #[.pointer (some ⟨ga, 0, none⟩), .pointer (some ⟨gb, 0, none⟩)] (.panicking oD) w fun e u' w' => (∃ v, e = .returned v) /\ settle u' = .returning /\ Cw B w0 (am ga [.slice none 0 0, .slice none 0 0, .slice none 0 0, .slice none 0 0, .int .i64 0, .int .i64 0] 43 :: am gb [.bool false] 4 :: H) w' := by
  refine callsD_of_wpS Tryz.func174 rfl fun c₀ cs hu => ?_
  apply wpS_seq
  apply wpS_region
  simp [wpOpsS, go_sem, recoverD, hu, Tryz.ntmps174, Exit.thenS, oD]
  refine wpS_of_wp ?_
  refine (show CW Tryz.prog ⟨17, []⟩ B w0 _ _ [(0, .pointer (some ⟨ga, 0, none⟩)), (1, .pointer (some ⟨gb, 0, none⟩)), (2, .iface 231 (.agg #[]))] (am ga [v1, v2, v3, v4, v5, v6] 43 :: am gb [vb] 4 :: H) from ?_) _ w ?_ hw
  · refine aj ?_
    refine sE (oI rfl rfl rfl B9 (fun _ => rfl)) <| aj ?_
    refine cT (t := 7) (v' := .bool true) rfl (rfl) ?_
    refine bo rfl <| aj ?_
    refine sE (vI vh rfl rfl) <| aj ?_
    refine fun g1 _ => aj ?_
    refine cT (t := 14) (v' := .bool false) rfl (rfl) ?_
    refine bR rfl <| aj ?_
    intro a w hf hw
    refine ⟨hf.2.1, _, rfl, .tuple #[], ?_, ⟨_, rfl⟩, rfl, hw.msub ms⟩
    simp [results, Tryz.results174]
  · refine ⟨by simp, rfl, fun t v e => ?_⟩
    simp only [lk] at e
    split at e
    · rename_i h
      have h := bC h
      subst h
      injection e with e
      subst e
      exact ⟨by show _ < 17; decide, by simp⟩
    · split at e
      · rename_i h
        have h := bC h
        subst h
        injection e with e
        subst e
        exact ⟨by show _ < 17; decide, by simp⟩
      · split at e
        · rename_i h
          have h := bC h
          subst h
          injection e with e
          subst e
          exact ⟨by show _ < 17; decide, by simp⟩
        · cases e
theorem Cs (ga gb : Nat) (v1 v2 v3 v4 v5 v6 vb : Value) (w : World) (hw : Cw B w0 (am ga [v1, v2, v3, v4, v5, v6] 43 :: am gb [vb] 4 :: H) w) :
    CallsD Tryz.prog 174 #[.pointer (some ⟨ga, 0, none⟩), .pointer (some ⟨gb, 0, none⟩)] .returning w fun e u' w' => (∃ v, e = .returned v) /\ u' = .returning /\ Cw B w0 (am ga [v1, v2, v3, v4, v5, v6] 43 :: am gb [vb] 4 :: H) w' := by
  refine callsD_of_wpS Tryz.func174 rfl fun c₀ cs hu => ?_
  apply wpS_seq
  apply wpS_region
  simp [wpOpsS, go_sem, recoverD, hu, Tryz.ntmps174, Exit.thenS]
  refine wpS_of_wp ?_
  refine (show CW Tryz.prog ⟨17, []⟩ B w0 _ _ [(0, .pointer (some ⟨ga, 0, none⟩)), (1, .pointer (some ⟨gb, 0, none⟩)), (2, .nilIface)] (am ga [v1, v2, v3, v4, v5, v6] 43 :: am gb [vb] 4 :: H) from ?_) _ w ?_ hw
  · refine aj ?_
    refine sE (oI rfl rfl rfl wH (fun _ => rfl)) <| aj ?_
    refine cT (t := 7) (v' := .bool false) rfl (rfl) ?_
    refine bR rfl <| aj ?_
    intro a w hf hw
    refine ⟨hf.2.1, .returning, ?_, .tuple #[], ?_, ⟨_, rfl⟩, rfl, hw.msub ms⟩
    · rw [← hu]
    · simp [results, Tryz.results174]
  · refine ⟨by simp, rfl, fun t v e => ?_⟩
    simp only [lk] at e
    split at e
    · rename_i h
      have h := bC h
      subst h
      injection e with e
      subst e
      exact ⟨by show _ < 17; decide, by simp⟩
    · split at e
      · rename_i h
        have h := bC h
        subst h
        injection e with e
        subst e
        exact ⟨by show _ < 17; decide, by simp⟩
      · split at e
        · rename_i h
          have h := bC h
          subst h
          injection e with e
          subst e
          exact ⟨by show _ < 17; decide, by simp⟩
        · cases e
end
def pq (s:List UInt8):ar×Bool:=match iG s with
 | some m=>(m,true)
 | none=>(default,false)
theorem IP (s : List UInt8) (r : ar × Bool) (hr : pq s = r) (hl : s.length <= 140737488355320) (w : World) :
    Calls Tryz.prog 119 #[.string ⟨s.toArray⟩] w fun e w' => ∃ g : MA, True /\ e = .returned (.tuple #[.agg #[.slice g.Af r.1.F.length g.cf, .slice g.Ab r.1.B.length g.cb, .slice g.Ai r.1.I.length g.ci, .slice g.Ao r.1.out.length g.co, .int .i64 r.1.S, .int .i64 r.1.T], .bool r.2]) /\
      Cw w.heap.size w [an (.slice g.Af r.1.F.length g.cf) r.1.F, an (.slice g.Ab r.1.B.length g.cb) r.1.B, an (.slice g.Ai r.1.I.length g.ci) r.1.I, an (.slice g.Ao r.1.out.length g.co) r.1.out] w' := by
  have hw := Cw.nil_ w
  refine ww Tryz.func119 rfl Tryz.ntmps119 rfl hw ?_
  refine aj ?_
  refine fun g1 _ => aj ?_
  refine fun g2 _ => aj ?_
  refine zW rfl rfl rfl rfl ?_
  refine aj ?_
  refine fun g3 _ => aj ?_
  refine ez (cZ rfl rfl rfl Tryz.call175 (fun w hw => Es (H := am g1 [.slice none 0 0, .slice none 0 0, .slice none 0 0, .slice none 0 0, .int .i64 0, .int .i64 0] 43 :: am g2 [.bool false] 4 :: []) g3 s hl w (hw.msub ms))) rfl rfl (fun ch a w hf hp => by obtain ⟨⟨h1, rfl⟩, h2⟩ := hp; exact yL hf (fun _ => by simp [go_sem]) (Ef g1 g2 _ _ _ _ _ _ _ w (h2.msub ms)) Tryz.results119 (zX (cs := [_, _, _, _, _, _]) .a kZ dH rfl) (oq .b Tryz.isAgg4 rfl) (fun w hw => by subst hr; unfold pq; rw [h1]; exact ⟨⟨none, 0, none, 0, none, 0, none, 0⟩, trivial, rfl, (oL hw).msub ms⟩)) (fun ⟨m, u⟩ e1 => ?_)
  try dsimp only
  refine eV (eB _ fc dH rfl rfl rfl rfl rfl (by rfl) rfl (by rfl)) rfl rfl (fun _ _ => ?_)
  refine eV (eB _ fc Q3 rfl rfl rfl rfl rfl (by rfl) rfl (by rfl)) rfl rfl (fun _ _ => ?_)
  refine bK ?_
  have e1 : iG s = some m := e1
  refine oT ?_
  refine Iz (fun _ => by simp [go_sem]) (fun w hw => Cs g1 g2 _ _ _ _ _ _ _ w (hw.msub (.s fc (.s fc .r)))) Tryz.results119 (zX (cs := [_, _, _, _, _, _]) .a kZ dH rfl) (oq .b Tryz.isAgg4 rfl) (fun w hw => ?_)
  subst hr
  unfold pq
  rw [e1]
  exact ⟨u, trivial, rfl, hw.msub ms⟩
end
section
theorem wk {x:aB} (h:KS x):(gE x).length<=2554:=by
 have h1:=tm x.L x.L.length
 have h2:=tm x.K x.K.length
 rw[aQ] at h1 h2
 have:=h.l.1
 have:=h.s.1
 simp only[gE,gV,aR,aq]
 omega
theorem mV {l:List Int} (h:l.length<=255):(fJ l).length<=1021:=by
 have h1:=DU l l.length
 rw[aQ] at h1
 rw[GK]
 omega
theorem EM (a:MA) (m:ar) (w:World) (hm:fi w.heap.size w a m) (hmi:MI m) :
  Calls Tryz.prog 118 #[.agg #[.slice a.Af m.F.length a.cf,.slice a.Ab m.B.length a.cb,.slice a.Ai m.I.length a.ci,.slice a.Ao m.out.length a.co,.int .i64 m.S,.int .i64 m.T]] w fun e w'=>e= .returned (.string ⟨(jx m).toArray⟩)/\Below w.heap.size w w':=by
 obtain⟨hs1,ht1,⟨hi1,hi2⟩,⟨ho1,ho2⟩,⟨hb1,hb2⟩,hf1,hf2⟩:=hmi
 have qi:=mV hi1
 have qo:=mV ho1
 have qb:=fun k=>rx (f:=fJ) m.B (fun l hl=>mV (hb2 l hl).1) k
 refine enter Tryz.func118 rfl Tryz.ntmps118 rfl<|aj ?_
 refine fun g1 _=>aj ?_
 refine fun g2 _=>aj ?_
 intro g3 _
 refine eA (fun w h=>Cw.nilO UInt8 (bI (α:=Int) (m:=2) [m.S,m.T] rfl (jQ hm.s hm.t) rfl (by decide) h)) ?_
 refine cz rfl qH (fun w hw=>lB g2 [m.S,m.T] _ _ (.own rfl .a) [] none 0 (by simp) w (hw.msub (.s fc (.s fc .r)))) (fun⟨A1,c1⟩ _=>?_)
 refine aJ ?_
 obtain⟨b1,e1⟩:∃b,[]++ [m.S,m.T].map aG=b:=⟨_,rfl⟩
 have l1:b1.length=2:=by rw[<-e1];rfl
 rw[e1]
 refine cz rfl Ra (fun w hw=>se g2 m.I _ _ hm.i b1 A1 c1 (by omega) w (hw.msub (.s fc (.s fc .r)))) (fun⟨A2,c2⟩ _=>?_)
 refine aJ ?_
 obtain⟨b2,e2⟩:∃b,b1++fJ m.I=b:=⟨_,rfl⟩
 have l2:b2.length<=1023:=by rw[<-e2,aq];omega
 rw[e2]
 refine cz rfl Ra (fun w hw=>se g2 m.out _ _ hm.o b2 A2 c2 (by omega) w (hw.msub (.s fc (.s fc .r)))) (fun⟨A3,c3⟩ _=>?_)
 refine aJ ?_
 intro g4 _
 obtain⟨b3,e3⟩:∃b,b2++fJ m.out=b:=⟨_,rfl⟩
 have l3:b3.length<=2044:=by rw[<-e3,aq];omega
 rw[e3]
 refine eA (fun w h=>bI (α:=Int) (m:=1) [(m.B.length:Int)] rfl (gt (by unfold aF;omega)) rfl (by decide) h) ?_
 refine cz rfl qH (fun w hw=>lB g2 [(m.B.length:Int)] _ _ (.own rfl .a) b3 A3 c3 (by show _+1<=_;omega) w (hw.msub (.s fc (.s fc .r)))) (fun⟨A4,c4⟩ _=>?_)
 refine aJ ?_
 obtain⟨b4,e4⟩:∃b,b3++ [(m.B.length:Int)].map aG=b:=⟨_,rfl⟩
 have l4:b4.length<=2045:=by rw[<-e4,aq];show _+1<=_;omega
 rw[e4]
 refine dG (fun g:Nat×Option Addr×Nat=>g.1<=m.B.length) (fun g=>m.B.length - g.1) (fun g=> [(1,.pointer (some ⟨g1,0,none⟩)),(3,.pointer (some ⟨g2,0,none⟩)),(32,.slice a.Ab m.B.length a.cb),(33,.int .i64 (m.B.length:Int)),(34,.int .i64 (g.1:Int))]) (fun g=> [am g2 [.slice g.2.1 (b4++(m.B.take g.1).flatMap fJ).length g.2.2] 228,an (.slice g.2.1 (b4++(m.B.take g.1).flatMap fJ).length g.2.2) (b4++(m.B.take g.1).flatMap fJ),am g1 [.slice a.Af m.F.length a.cf,.slice a.Ab m.B.length a.cb,.slice a.Ai m.I.length a.ci,.slice a.Ao m.out.length a.co,.int .i64 m.S,.int .i64 m.T] 43]) (0,A4,c4) (bi _) ?_ (hh:=(fun w h=>by have h:=h.msub (T:= [am g2 _ _,an _ b4,am g1 [.slice a.Af m.F.length a.cf,.slice a.Ab m.B.length a.cb,.slice a.Ai m.I.length a.ci,.slice a.Ao m.out.length a.co,.int .i64 m.S,.int .i64 m.T] 43]) ms;simpa using h))
 rintro⟨j,Aj,cj⟩ hj'
 try dsimp only
 have hj:j<=m.B.length:=hj'
 have hlj:(b4++(m.B.take j).flatMap fJ).length<=2045+1021*m.B.length:=by rw[aq];have:=qb j;omega
 refine az (fun hlt=>?_) (fun hlt=>?_)
 ·have hjl:j<m.B.length:=by omega
  obtain⟨Ax,cx,hx,hcell⟩:=hm.b.sub hjl
  have hxl:(m.B.getD j []).length<=255:=(hb2 _ (fW hjl)).1
  refine aj ?_
  refine dA (_) rfl ((.ro hm.b)) ?_
  refine eM rfl (hcell _)<|aj ?_
  refine cz rfl Ra (fun w hw=>se g2 (m.B.getD j []) _ _ hx (b4++(m.B.take j).flatMap fJ) Aj cj (by omega) w (hw.msub (.s fc (.s fc .r)))) (fun⟨A5,c5⟩ _=>?_)
  refine aJ ?_
  rw[<-od hjl [] b4]
  refine dv (j+1,A5,c5) (by show j+1<=_;omega) (by show _ - _<_ - _;omega)
 obtain rfl:j=m.B.length:=by omega
 have e5:b4++(m.B.take m.B.length).flatMap fJ=b4++m.B.flatMap fJ:=by rw[aQ]
 rw[e5] at hlj
 rw[e5]
 obtain⟨b5,e6⟩:∃b,b4++m.B.flatMap fJ=b:=⟨_,rfl⟩
 rw[e6] at hlj
 rw[e6]
 refine aj ?_
 intro g5 _
 refine eA (fun w h=>bI (α:=Int) (m:=1) [(m.F.length:Int)] rfl (gt (by unfold aF;omega)) rfl (by decide) h) ?_
 refine cz rfl qH (fun w hw=>lB g2 [(m.F.length:Int)] _ _ (.own rfl .a) b5 Aj cj (by show _+1<=_;omega) w (hw.msub (.s fc (.s fc .r)))) (fun⟨A6,c6⟩ _=>?_)
 refine aJ ?_
 obtain⟨b6,e7⟩:∃b,b5++ [(m.F.length:Int)].map aG=b:=⟨_,rfl⟩
 have l6:b6.length<=2046+1021*m.B.length:=by rw[<-e7,aq];show _+1<=_;omega
 rw[e7]
 refine dG (fun g:Nat×Option Addr×Nat=>g.1<=m.F.length) (fun g=>m.F.length - g.1) (fun g=> [(3,.pointer (some ⟨g2,0,none⟩)),(49,.slice a.Af m.F.length a.cf),(50,.int .i64 (m.F.length:Int)),(51,.int .i64 (g.1:Int))]) (fun g=> [am g2 [.slice g.2.1 (b6++(m.F.take g.1).flatMap gE).length g.2.2] 228,an (.slice g.2.1 (b6++(m.F.take g.1).flatMap gE).length g.2.2) (b6++(m.F.take g.1).flatMap gE)]) (0,A6,c6) (bi _) ?_ (hh:=(fun w h=>by have h:=h.msub (T:= [am g2 _ _,an _ b6]) ms;simpa using h))
 rintro⟨k,Ak,ck⟩ hk'
 try dsimp only
 have hk:k<=m.F.length:=hk'
 have hlk:(b6++(m.F.take k).flatMap gE).length<=2046+1021*m.B.length+2554*k:=by
  rw[aq]
  have h1:=sS (m.F.take k) (m:=2554) (f:=gE) (fun x hx=>wk (hf2 x (kU hx)))
  rw[ax,Nat.min_eq_left hk] at h1
  omega
 refine az (fun hlt2=>?_) (fun hlt2=>?_)
 ·have hkl:k<m.F.length:=by omega
  obtain⟨Al,cl,As,cs,hl,hst,hi64,hcell⟩:=hm.f.fr hkl
  have hfr:=hf2 _ (fY hkl)
  have hfl:=hfr.l.1
  have hfs:=hfr.s.1
  have hfb:=od (f:=gE) hkl default b6
  obtain⟨X,hX⟩:∃X,aP m.F k=X:=⟨_,rfl⟩
  rw[show m.F.getD k default=X from hX] at hfb
  rw[hX] at hfl hfs hfr hi64 hl hst hcell
  obtain⟨b7,e8⟩:∃b,b6++(m.F.take k).flatMap gE=b:=⟨_,rfl⟩
  rw[e8] at hlk hfb
  rw[e8]
  refine aj ?_
  refine dA (_) rfl ((.ro hm.f)) ?_
  refine iX rfl (hcell _)<|aj ?_
  refine fun g6 _=>aj ?_
  intro g7 _
  refine eA (fun w h=>bI (α:=Int) (m:=2) [X.func,X.pc] rfl (jQ hi64.1 hi64.2) rfl (by decide) h) ?_
  refine cz rfl qH (fun w hw=>lB g2 [X.func,X.pc] _ _ (.own rfl .a) b7 Ak ck (by show _+2<=_;omega) w (hw.msub (.s fc (.s fc .r)))) (fun⟨A7,c7⟩ _=>?_)
  refine aJ ?_
  obtain⟨b8,e9⟩:∃b,b7++ [X.func,X.pc].map aG=b:=⟨_,rfl⟩
  have l8:b8.length=b7.length+2:=by rw[<-e9,aq];rfl
  rw[e9]
  refine cz rfl Tryz.call173 (fun w hw=>xy g2 X.L _ _ hl b8 A7 c7 (by omega) w (hw.msub (.s fc (.s fc .r)))) (fun⟨A8,c8⟩ _=>?_)
  refine aJ ?_
  obtain⟨b9,e10⟩:∃b,b8++gV X.L=b:=⟨_,rfl⟩
  have l9:b9.length<=b7.length+1278:=by
   have h1:=tm X.L X.L.length
   rw[aQ] at h1
   rw[<-e10,aq]
   simp only[gV,aR]
   omega
  rw[e10]
  refine cz rfl Tryz.call173 (fun w hw=>xy g2 X.K _ _ hst b9 A8 c8 (by omega) w (hw.msub (.s fc (.s fc .r)))) (fun⟨A9,c9⟩ _=>?_)
  refine aJ ?_
  rw[show b9++gV X.K=b6++(m.F.take (k+1)).flatMap gE from by rw[hfb,<-e10,<-e9];simp[gE]]
  refine dv (k+1,A9,c9) (by show k+1<=_;omega) (by show _ - _<_ - _;omega)
 obtain rfl:k=m.F.length:=by omega
 have hall:b6++(m.F.take m.F.length).flatMap gE=jx m:=by
  rw[aQ,<-e7,<-e6,<-e4,<-e3,<-e2,<-e1]
  simp[jx]
 rw[hall]
 refine aj ?_
 refine sE (Gw jT jP nP (SF.own rfl fc) rfl rfl)<|aj ?_
 intro w hw
 exact⟨rfl,hw.below⟩
def QQ (fs:List au) (m:ar):List UInt8:=if fA fs m=0 then jx m else []
def mn (fs:List au) (s:List UInt8):Int:=if ec fs≠0 then ec fs else match iG s with
 | none=>1
 | some m=>fm fs m
def zc (fs:List au) (s:List UInt8):ar:=if mn fs s=0 then (pq s).1 else default
theorem zC {s:List UInt8} {m:ar} (h:iG s=some m):aF m.S/\aF m.T:=by
 unfold iG at h
 split at h
 ·cases h
 rename_i x r e
 split at h
 ·obtain rfl:=eh h
  unfold ke at e
  split at e
  ·cases e
  rename_i st s1 e1
  split at e
  ·cases e
  rename_i tr s2 e2
  split at e
  ·cases e
  split at e
  ·cases e
  split at e
  ·cases e
  split at e
  ·cases e
  injection e with e
  injection e with e _
  subst e
  have h1:=(iy e1).2
  have h2:=(iy e2).2
  exact⟨⟨by show _<=st;omega,by show st<=_;omega⟩,⟨by show _<=tr;omega,by show tr<=_;omega⟩⟩
 cases h
theorem IN {s:List UInt8} {m:ar} (h:iG s=some m):nL m.F:=by
 unfold iG at h
 split at h
 ·cases h
 rename_i x r e
 split at h
 ·obtain rfl:=eh h
  unfold ke at e
  split at e
  ·cases e
  split at e
  ·cases e
  split at e
  ·cases e
  split at e
  ·cases e
  split at e
  ·cases e
  split at e
  ·cases e
  rename_i fr s6 e6
  injection e with e
  injection e with e _
  subst e
  have hl:=sj e6
  refine⟨by show fr.length*64<=_;omega,fun x hx=>?_⟩
  have hx:x∈fr:=hx
  have key:∀(k:Nat) (s r:List UInt8) (l:List aB),fz gS k s=some (l,r)->∀x∈l,x.L.length<=255/\x.K.length<=255:=by
   intro k
   induction k with
   | zero=>
    intro s r l e x hx
    obtain⟨rfl,_⟩: []=l/\s=r:=by simpa [fz] using e
    cases hx
   | succ k ih=>
    intro s r l e x hx
    unfold fz at e
    split at e
    ·cases e
    rename_i y t e1
    split at e
    ·cases e
    rename_i l2 u e2
    obtain⟨rfl,_⟩:y::l2=l/\u=r:=by simpa using e
    rcases dd.1 hx with rfl | hx
    ·unfold gS at e1
     split at e1
     ·cases e1
     split at e1
     ·cases e1
     split at e1
     ·cases e1
     rename_i q3 s3 e3
     split at e1
     ·cases e1
     rename_i q4 s4 e4
     injection e1 with e1
     injection e1 with e1 _
     subst e1
     exact⟨sj e3,sj e4⟩
    exact ih _ _ _ e2 x hx
  unfold ip at e6
  split at e6
  ·cases e6
  have:=key _ _ _ _ e6 x hx
  omega
 cases h
theorem G7 (Ap:Option Addr) (cp:Nat) (fs:List au) (s:List UInt8) (m:ar) (hr:zc fs s=m) (hl:s.length<=140737488355320) (w:World) (hs:Sl w (.slice Ap fs.length cp) fs) :
  Calls Tryz.prog 60 #[.agg #[.slice Ap fs.length cp],.string ⟨s.toArray⟩] w fun e w'=> ∃g:MA,True/\
   e= .returned (.tuple #[.agg #[.slice g.Af m.F.length g.cf,.slice g.Ab m.B.length g.cb,.slice g.Ai m.I.length g.ci,.slice g.Ao m.out.length g.co,.int .i64 m.S,.int .i64 m.T],.int .i64 (mn fs s)])/\Cw w.heap.size w [an (.slice g.Af m.F.length g.cf) m.F,an (.slice g.Ab m.B.length g.cb) m.B,an (.slice g.Ai m.I.length g.ci) m.I,an (.slice g.Ao m.out.length g.co) m.out] w':=by
 unfold zc at hr
 refine enter Tryz.func60 rfl Tryz.ntmps60 rfl<|aj ?_
 refine fun g1 _=>aj ?_
 refine fun g2 _=>aj ?_
 refine cA rfl Fx (fun w hw=>nt Ap cp fs w (hw.ro hs))<|bV (fun h=>?_) (fun h=>?_)
 ·have hE:mn fs s=ec fs:=by unfold mn;rw[if_pos h]
  rw[hE,if_neg h] at hr
  subst hr
  rw[hE]
  refine aj ?_
  intro w hw
  exact⟨⟨none,0,none,0,none,0,none,0⟩,trivial,rfl,(oL hw).msub ms⟩
 have h:ec fs=0:=by simpa using h
 have hF:=nH h
 obtain⟨q,hq⟩:∃q,pq s=q:=⟨_,rfl⟩
 refine aj ?_
 refine eL rfl Tryz.call119 (fun w hw=>IP s q hq hl w) (fun g0 _=>aj ?_)
 refine fun g3 _=>aj ?_
 obtain⟨q,b⟩:=q
 cases ht:iG s with
 | none=>
  have hE:mn fs s=1:=by unfold mn;rw[if_neg (fun e=>e h),ht]
  rw[hE,if_neg (by decide)] at hr
  subst hr
  have hb:b=false:=by
   unfold pq at hq
   rw[ht] at hq
   exact(Prod.mk.inj hq).2.symm
  subst hb
  rw[hE]
  refine cT (t:=22) (v':= .bool true) rfl (rfl) ?_
  refine bo rfl<|aj ?_
  intro w hw
  exact⟨⟨none,0,none,0,none,0,none,0⟩,trivial,rfl,(oL hw).msub ms⟩
 | some m0=>
  have hE:mn fs s=fm fs m0:=by unfold mn;rw[if_neg (fun e=>e h),ht]
  have hq2:m0=q/\true=b:=by
   unfold pq at hq
   rw[ht] at hq
   exact Prod.mk.inj hq
  obtain⟨rfl,rfl⟩:=hq2
  rw[hq] at hr
  have hfit:=IN ht
  refine cT (t:=22) (v':= .bool false) rfl (rfl) ?_
  refine bR rfl<|aj ?_
  refine cA rfl Rn (fun w hw=>rk Ap cp fs g0 m0 w (hw.ro hs) (oy hw fc fc fc fc rfl rfl rfl rfl (zC ht).1 (zC ht).2) hF hfit)<|aj ?_
  rw[hE]
  refine jJ rfl (fun h2=>?_) (fun h2=>?_)
  ·rw[hE,if_neg h2] at hr
   subst hr
   refine aj ?_
   intro w hw
   exact⟨⟨none,0,none,0,none,0,none,0⟩,trivial,rfl,(oL hw).msub ms⟩
  have h2:fm fs m0=0:=by simpa using h2
  rw[hE,if_pos h2] at hr
  subst hr
  rw[h2]
  refine aj ?_
  intro w hw
  exact⟨g0,trivial,rfl,hw.msub ms⟩
end
section
def cF (l:List aH):List Int:=(l.filter fun v=>v.ref && decide (0<v.n)).map fun v=>v.n
def py (m:ar):List Int:=m.F.flatMap fun x=>cF x.L++cF x.K
theorem JX (a b:List aH):cF (a++b)=cF a++cF b:=by unfold cF;rw[List.filter_append,dr]
theorem JW (v:aH):cF [v]=if v.ref=true/\0<v.n then [v.n] else []:=by
 unfold cF
 by_cases h:v.ref=true/\0<v.n
 ·rw[if_pos h,List.filter_cons_of_pos (by simp[h.1,h.2])];rfl
 rw[if_neg h,List.filter_cons_of_neg (by simpa using h)];rfl
theorem yf {l:List aH} {k:Nat} (hk:k<l.length):cF (l.take (k+1))=cF (l.take k)++cF [l.getD k default]:=by rw[ei l k default hk,JX]
theorem mX (l:List aH):(cF l).length<=l.length:=by
 unfold cF
 rw[aW]
 exact List.length_filter_le _ _
section
variable {B:Nat} {w0:World} {H:List aC}
theorem Dd {A:Option Addr} {m c k:Nat} {xs:List aH} (h:bE w0 B (.slice A m c) xs) (hk:k<m):aF (xs.getD k default).n:=by
 obtain⟨cs,⟨_,hi⟩,_⟩:=h.elr hk default
 exact hi
theorem BK (go b o:Nat) (v:aH) (hi:aF v.n) (hv:∀(H:List aC) (w:World),Cw B w0 H w->∀j u,([.bool v.ref,.int .i64 v.n]:List Value)[j]? =some u->w.cell? ⟨b,o+j,none⟩=some u) (acc:List Int) (A:Option Addr) (c:Nat) (hb:acc.length<=1000000) (w:World)
  (hw:Cw B w0 (am go [.slice A acc.length c] 35::an (.slice A acc.length c) acc::H) w) :
  Calls Tryz.prog 166 #[.pointer (some ⟨b,o,none⟩),.pointer (some ⟨go,0,none⟩)] w fun e w'=> ∃g:Option Addr×Nat,True/\e= .returned (.tuple #[])/\Cw B w0 (am go [.slice g.1 (acc++cF [v]).length g.2] 35::an (.slice g.1 (acc++cF [v]).length g.2) (acc++cF [v])::H) w':=by
 obtain⟨r,n⟩:=v
 have hg:=JW ⟨r,n⟩
 refine aY Tryz.func166 rfl Tryz.ntmps166 rfl hw<|aj ?_
 refine eM rfl (fun w hw=>hv _ w hw 0 _ rfl) ?_
 refine aD ?_
 cases r
 ·rw[if_neg (by simp)] at hg
  rw[hg,dS]
  refine bW (t:=7) (v':= .bool false) rfl (rfl)<|aj ?_
  refine bR rfl<|aj ?_
  intro w hw
  exact⟨(A,c),trivial,rfl,hw.msub ms⟩
 refine bW (t:=7) (v':= .bool true) rfl (rfl)<|aj ?_
 refine eM rfl (fun w hw=>hv _ w hw 1 _ rfl)<|az (fun hn=>?_) (fun hn=>?_)
 ·have hn:0<n:=hn
  rw[if_pos ⟨rfl,hn⟩] at hg
  rw[hg]
  refine dP [0,3,6,9,12,17,20,23] [7] rfl [am go [.slice A acc.length c] 35]<|aj ?_
  refine tE rfl (dT (fun w hw=>hv _ w hw 1 _ rfl) rfl rfl du)<|aj ?_
  intro g1 _
  refine pE rfl (cV (α:=Int) (bytes:=8) n [] rfl aV (bM ge) rfl (fT fc fc) (tJ hi) (by omega) (by omega) rfl rfl rfl) (fun⟨A3,c3⟩ _=>?_)
  refine aJ ?_
  intro w hw
  exact⟨(A3,c3),trivial,rfl,hw.msub ms⟩
 have hn:¬0<n:=hn
 rw[if_neg (fun h=>hn h.2)] at hg
 rw[hg,dS]
 refine aj ?_
 intro w hw
 exact⟨(A,c),trivial,rfl,hw.msub ms⟩
theorem xE {m:ar} {i:Nat} (hi:i<m.F.length):((m.F.take (i+1)).flatMap fun x=>cF x.L++cF x.K)=((m.F.take i).flatMap fun x=>cF x.L++cF x.K)++(cF (aP m.F i).L++cF (aP m.F i).K):=by
 rw[Dh hi,pk]
 simp
theorem ES {m:ar} (_:m.F.length<=6) (hf:∀x∈m.F,x.L.length<=1000/\x.K.length<=8) (i:Nat):((m.F.take i).flatMap fun x=>cF x.L++cF x.K).length<=1008*i:=by
 induction i with
 | zero=>simp
 | succ i ih=>
  by_cases h:i<m.F.length
  ·rw[xE h,aq,aq]
   have h1:=hf _ (fY h)
   have h2:=mX (aP m.F i).L
   have h3:=mX (aP m.F i).K
   omega
  rw[bg (by omega)]
  rw[bg (by omega)] at ih
  omega
theorem HG (g go:Nat) (a:MA) (m:ar) (hm:fi B w0 a m) (hn6:m.F.length<=6) (hfs:∀x∈m.F,x.L.length<=1000/\x.K.length<=8) (A:Option Addr) (c:Nat) (w:World)
  (hw:Cw B w0 (am g [.slice a.Af m.F.length a.cf,.slice a.Ab m.B.length a.cb,.slice a.Ai m.I.length a.ci,.slice a.Ao m.out.length a.co,.int .i64 m.S,.int .i64 m.T] 43::am go [.slice A 0 c] 35::an (.slice A 0 c) ([]:List Int)::H) w) :
  Calls Tryz.prog 163 #[.pointer (some ⟨g,0,none⟩),.func (.func 166) #[] #[.pointer (some ⟨go,0,none⟩)]] w fun e w'=> ∃q:Option Addr×Nat,True/\e= .returned (.tuple #[])/\Cw B w0 (am g [.slice a.Af m.F.length a.cf,.slice a.Ab m.B.length a.cb,.slice a.Ai m.I.length a.ci,.slice a.Ao m.out.length a.co,.int .i64 m.S,.int .i64 m.T] 43::am go [.slice q.1 (py m).length q.2] 35::an (.slice q.1 (py m).length q.2) (py m)::H) w':=by
 have bf:=bx hm.f
 refine aY Tryz.func163 rfl Tryz.ntmps163 rfl hw<|aj ?_
 refine dG (fun g2:Nat×(Option Addr×Nat)=>g2.1<=m.F.length) (fun g2=>m.F.length - g2.1) (fun g2=> [(0,.pointer (some ⟨g,0,none⟩)),(1,.func (.func 166) #[] #[.pointer (some ⟨go,0,none⟩)]),(12,.int .i64 (m.F.length:Int)),(13,.int .i64 (g2.1:Int))]) (fun g2=>am g [.slice a.Af m.F.length a.cf,.slice a.Ab m.B.length a.cb,.slice a.Ai m.I.length a.ci,.slice a.Ao m.out.length a.co,.int .i64 m.S,.int .i64 m.T] 43::am go [.slice g2.2.1 ((m.F.take g2.1).flatMap fun x=>cF x.L++cF x.K).length g2.2.2] 35::an (.slice g2.2.1 ((m.F.take g2.1).flatMap fun x=>cF x.L++cF x.K).length g2.2.2) ((m.F.take g2.1).flatMap fun x=>cF x.L++cF x.K)::H) (0,(A,c)) (bi _) ?_ (hh:=(fun w h=>h.msub ms))
 rintro⟨i,⟨A1,c1⟩⟩ hi'
 try dsimp only
 have hi:i<=m.F.length:=hi'
 have hsm:=ES hn6 hfs i
 refine az (fun hlt=>?_) (fun hlt=>?_)
 ·have hil:i<m.F.length:=by omega
  obtain⟨F1,d1,F2,d2,hl,hst,hI,hcell⟩:=hm.f.fr hil
  have hxs:=hfs _ (fY hil)
  have hsn:=xE hil
  generalize hacc:((m.F.take i).flatMap fun x=>cF x.L++cF x.K)=acc at hsm hsn
  generalize hx:aP m.F i=x at hl hst hI hcell hxs hsn
  have hg1:=mX x.L
  have hg2:=mX x.K
  refine aj ?_
  refine bU [0,3,6,9,12,15,18,21,24,27,30,33,36,39,42,45,54,50,51] [] rfl<|aj ?_
  refine tE rfl (bZ (k:=i) eR fC (.ro hm.f) (by omega) rfl rfl rfl)<|aj ?_
  refine tE rfl (dT (fun w hw=>hcell _ w hw 2 _ rfl) rfl rfl sd)<|aj ?_
  refine tE rfl (bZ (k:=i) eR fC (.ro hm.f) (by omega) rfl rfl rfl)<|aj ?_
  refine tE rfl (dT (fun w hw=>hcell _ w hw 3 _ rfl) rfl rfl sd)<|aj ?_
  refine fun g1 _=>aj ?_
  refine dG (fun q:Nat×(Option Addr×Nat)=>q.1<=2) (fun q=>2 - q.1) (fun q=> [(0,.pointer (some ⟨g,0,none⟩)),(1,.func (.func 166) #[] #[.pointer (some ⟨go,0,none⟩)]),(12,.int .i64 (m.F.length:Int)),(13,.int .i64 (i:Int)),(32,.slice (some ⟨g1,0,none⟩) 2 2),(33,.int .i64 2),(34,.int .i64 (q.1:Int))]) (fun q=>am go [.slice q.2.1 (acc++(if q.1=0 then [] else if q.1=1 then cF x.L else cF x.L++cF x.K)).length q.2.2] 35::an (.slice q.2.1 (acc++(if q.1=0 then [] else if q.1=1 then cF x.L else cF x.L++cF x.K)).length q.2.2) (acc++(if q.1=0 then [] else if q.1=1 then cF x.L else cF x.L++cF x.K))::am g1 [.slice F1 x.L.length d1,.slice F2 x.K.length d2] 116::am g [.slice a.Af m.F.length a.cf,.slice a.Ab m.B.length a.cb,.slice a.Ai m.I.length a.ci,.slice a.Ao m.out.length a.co,.int .i64 m.S,.int .i64 m.T] 43::H) (0,(A1,c1)) (bi _) ?_ (hh:=(fun w h=>(show Cw _ _ (am go [.slice A1 (acc++ []).length c1] 35::an (.slice A1 (acc++ []).length c1) (acc++ [])::am g1 [.slice F1 x.L.length d1,.slice F2 x.K.length d2] 116::am g [.slice a.Af m.F.length a.cf,.slice a.Ab m.B.length a.cb,.slice a.Ai m.I.length a.ci,.slice a.Ao m.out.length a.co,.int .i64 m.S,.int .i64 m.T] 43::H) w from by rw[dS];exact h.msub ms)))
  rintro⟨j,⟨A2,c2⟩⟩ hj'
  try dsimp only
  have hj:j<=2:=hj'
  refine az (fun hlt2=>?_) (fun hlt2=>?_)
  ·rcases(show j=0\/j=1 by omega) with rfl | rfl
   ·try dsimp only
    rw[if_pos rfl,dS]
    refine aj ?_
    refine sE (lQ (k:=0) ma lM rfl (by decide) rfl rfl rfl) ?_
    refine eM rfl (fun w hw=>fg (v:= .slice F1 x.L.length d1) fc rfl w hw)<|aj ?_
    refine dG (fun q:Nat×(Option Addr×Nat)=>q.1<=x.L.length) (fun q=>x.L.length - q.1) (fun q=> [(0,.pointer (some ⟨g,0,none⟩)),(1,.func (.func 166) #[] #[.pointer (some ⟨go,0,none⟩)]),(6,.slice F1 x.L.length d1),(12,.int .i64 (m.F.length:Int)),(13,.int .i64 (i:Int)),(32,.slice (some ⟨g1,0,none⟩) 2 2),(33,.int .i64 2),(34,.int .i64 0),(39,.int .i64 (x.L.length:Int)),(40,.int .i64 (q.1:Int))]) (fun q=>am go [.slice q.2.1 (acc++cF (x.L.take q.1)).length q.2.2] 35::an (.slice q.2.1 (acc++cF (x.L.take q.1)).length q.2.2) (acc++cF (x.L.take q.1))::am g1 [.slice F1 x.L.length d1,.slice F2 x.K.length d2] 116::am g [.slice a.Af m.F.length a.cf,.slice a.Ab m.B.length a.cb,.slice a.Ai m.I.length a.ci,.slice a.Ao m.out.length a.co,.int .i64 m.S,.int .i64 m.T] 43::H) (0,(A2,c2)) (bi _) ?_ (hh:=(fun w h=>(show Cw _ _ (am go [.slice A2 (acc++cF (x.L.take 0)).length c2] 35::an (.slice A2 (acc++cF (x.L.take 0)).length c2) (acc++cF (x.L.take 0))::am g1 [.slice F1 x.L.length d1,.slice F2 x.K.length d2] 116::am g [.slice a.Af m.F.length a.cf,.slice a.Ab m.B.length a.cb,.slice a.Ai m.I.length a.ci,.slice a.Ao m.out.length a.co,.int .i64 m.S,.int .i64 m.T] 43::H) w from by rw[List.take_zero,show cF []= [] from rfl,dS];exact h.msub ms)))
    rintro⟨k,⟨A3,c3⟩⟩ hk'
    try dsimp only
    have hk:k<=x.L.length:=hk'
    refine az (fun hlt3=>?_) (fun hlt3=>?_)
    ·have hkl:k<x.L.length:=by omega
     have hgk:=mX (x.L.take k)
     rw[ax] at hgk
     have hsk:=yf hkl
     refine aj ?_
     refine dA (k) rfl ((.ro hl)) ?_
     refine oE (fU rfl rfl rfl Tryz.call166 (fun w hw=>BK go (ab F1) (ao F1+k*2) (x.L.getD k default) (Dd hl hkl) (fun H w hw j u hu=>SF.val (SF.ro hl) hkl default w hw j u hu) (acc++cF (x.L.take k)) A3 c3 (by simp only[aq];omega) w (hw.msub (.s fc (.s fc .r))))) (fun⟨A4,c4⟩ _=>?_)
     refine aJ ?_
     rw[aX,<-hsk]
     refine dv (k+1,(A4,c4)) (by show k+1<=_;omega) (by show _ - _<_ - _;omega) (hh:=(fun w h=>h.msub ms))
    obtain rfl:k=x.L.length:=by omega
    rw[aQ]
    refine aj ?_
    refine dv (1,(A3,c3)) ((by decide:1<=2)) (by show 2 - 1<2 - 0;decide) (hh:=(fun w h=>h.msub ms))
   try dsimp only
   rw[if_neg (by decide),if_pos rfl]
   refine aj ?_
   refine sE (lQ (k:=1) ma lM rfl (by decide) rfl rfl rfl) ?_
   refine eM rfl (fun w hw=>fg (v:= .slice F2 x.K.length d2) fc rfl w hw)<|aj ?_
   refine dG (fun q:Nat×(Option Addr×Nat)=>q.1<=x.K.length) (fun q=>x.K.length - q.1) (fun q=> [(0,.pointer (some ⟨g,0,none⟩)),(1,.func (.func 166) #[] #[.pointer (some ⟨go,0,none⟩)]),(6,.slice F2 x.K.length d2),(12,.int .i64 (m.F.length:Int)),(13,.int .i64 (i:Int)),(32,.slice (some ⟨g1,0,none⟩) 2 2),(33,.int .i64 2),(34,.int .i64 1),(39,.int .i64 (x.K.length:Int)),(40,.int .i64 (q.1:Int))]) (fun q=>am go [.slice q.2.1 ((acc++cF x.L)++cF (x.K.take q.1)).length q.2.2] 35::an (.slice q.2.1 ((acc++cF x.L)++cF (x.K.take q.1)).length q.2.2) ((acc++cF x.L)++cF (x.K.take q.1))::am g1 [.slice F1 x.L.length d1,.slice F2 x.K.length d2] 116::am g [.slice a.Af m.F.length a.cf,.slice a.Ab m.B.length a.cb,.slice a.Ai m.I.length a.ci,.slice a.Ao m.out.length a.co,.int .i64 m.S,.int .i64 m.T] 43::H) (0,(A2,c2)) (bi _) ?_ (hh:=(fun w h=>(show Cw _ _ (am go [.slice A2 ((acc++cF x.L)++cF (x.K.take 0)).length c2] 35::an (.slice A2 ((acc++cF x.L)++cF (x.K.take 0)).length c2) ((acc++cF x.L)++cF (x.K.take 0))::am g1 [.slice F1 x.L.length d1,.slice F2 x.K.length d2] 116::am g [.slice a.Af m.F.length a.cf,.slice a.Ab m.B.length a.cb,.slice a.Ai m.I.length a.ci,.slice a.Ao m.out.length a.co,.int .i64 m.S,.int .i64 m.T] 43::H) w from by rw[List.take_zero,show cF []= [] from rfl,dS];exact h.msub ms)))
   rintro⟨k,⟨A3,c3⟩⟩ hk'
   try dsimp only
   have hk:k<=x.K.length:=hk'
   refine az (fun hlt3=>?_) (fun hlt3=>?_)
   ·have hkl:k<x.K.length:=by omega
    have hgk:=mX (x.K.take k)
    rw[ax] at hgk
    have hsk:=yf hkl
    refine aj ?_
    refine dA (k) rfl ((.ro hst)) ?_
    refine oE (fU rfl rfl rfl Tryz.call166 (fun w hw=>BK go (ab F2) (ao F2+k*2) (x.K.getD k default) (Dd hst hkl) (fun H w hw j u hu=>SF.val (SF.ro hst) hkl default w hw j u hu) ((acc++cF x.L)++cF (x.K.take k)) A3 c3 (by simp only[aq];omega) w (hw.msub (.s fc (.s fc .r))))) (fun⟨A4,c4⟩ _=>?_)
    refine aJ ?_
    rw[aX,<-hsk]
    refine dv (k+1,(A4,c4)) (by show k+1<=_;omega) (by show _ - _<_ - _;omega) (hh:=(fun w h=>h.msub ms))
   obtain rfl:k=x.K.length:=by omega
   rw[aQ]
   refine aj ?_
   rw[aX]
   refine dv (2,(A3,c3)) ((by decide:2<=2)) (by show 2 - 2<2 - 1;decide) (hh:=(fun w h=>h.msub ms))
  obtain rfl:j=2:=by omega
  try dsimp only
  rw[if_neg (by decide),if_neg (by decide),<-hsn]
  refine aj ?_
  refine dv (i+1,(A2,c2)) (by show i+1<=_;omega) (by show _ - _<_ - _;omega) (hh:=(fun w h=>h.msub ms))
 obtain rfl:i=m.F.length:=by omega
 rw[aQ]
 refine aj ?_
 intro w hw
 exact⟨(A1,c1),trivial,rfl,hw.msub ms⟩
end
end
section
theorem rs {l:List aH} {n:Int} :n∈cF l↔0<n/\∃v∈l,v.ref=true/\v.n=n:=by
 unfold cF
 rw[oB]
 constructor
 ·rintro⟨v,hv,rfl⟩
  obtain⟨h1,h2⟩:=List.mem_filter.1 hv
  simp only[cY,decide_eq_true_eq] at h2
  exact⟨h2.2,v,h1,h2.1,rfl⟩
 rintro⟨h0,v,hv,hr,rfl⟩
 exact⟨v,List.mem_filter.2 ⟨hv,by simp[hr,h0]⟩,rfl⟩
theorem Gl {m:ar} {n:Int} :n∈py m↔0<n/\Bo m n=true:=by
 unfold py
 rw[List.mem_flatMap,uW]
 constructor
 ·rintro⟨x,hx,h⟩
  rcases cG.1 h with h | h
  ·obtain⟨h0,v,hv,hr,e⟩:=rs.1 h
   exact⟨h0,x,hx,v,fQ _ hv,hr,e⟩
  obtain⟨h0,v,hv,hr,e⟩:=rs.1 h
  exact⟨h0,x,hx,v,gK _ hv,hr,e⟩
 rintro⟨h0,x,hx,v,hv,hr,e⟩
 refine⟨x,hx,?_⟩
 rcases cG.1 hv with h | h
 ·exact fQ _ (rs.2 ⟨h0,v,h,hr,e⟩)
 exact gK _ (rs.2 ⟨h0,v,h,hr,e⟩)
theorem Ly {fs:List au} {m:ar} (hR:bz fs m):Lib.compact (ld (py m))=eO m:=by
 obtain⟨h1,h2⟩:=wz (xJ (py m))
 refine sC h1 (Cv m) fun n=>?_
 rw[h2,oG]
 unfold ld
 rw[List.mem_mergeSort,Gl]
 constructor
 ·rintro⟨h0,h⟩
  obtain⟨x,hx,v,hv,hr,rfl⟩:=uW.1 h
  have:=wO hR hx hv hr
  exact⟨by omega,h⟩
 rintro⟨h0,h⟩
 exact⟨by omega,h⟩
theorem Gn {m:ar} :(eO m).length<=m.B.length:=by
 unfold eO
 rw[aW]
 exact dc (List.length_filter_le _ _) (by rw[nM];exact aA _)
theorem Md (w : World) : Calls Tryz.prog 274 #[.int .u64 0] w fun e w' => e = .returned (.int .i64 0) /\ w = w' := by
  go_enter Tryz.func274, Tryz.ntmps274
  go_wp2
  all_goals (go_ret; exact ⟨fk (by kernel_rfl), rfl⟩)
theorem PR (w : World) : Calls Tryz.prog 220 #[.int .u64 0] w fun e w' => e = .returned (.int .i64 0) /\ w = w' := by
  go_enter Tryz.func220, Tryz.ntmps220
  go_wp2_with (first
    | (go_at_call 274; refine (Md _).mono ?_; rintro e w' ⟨rfl, rfl⟩))
  all_goals (go_ret; exact ⟨rfl, rfl⟩)
theorem JS (A:Option Addr) (c:Nat) (w:World):Calls Tryz.prog 264 #[.slice A 0 c,.int .i64 0,.int .i64 0] w fun e w'=>e= .returned (.tuple #[])/\Below w.heap.size w w':=by
 refine enter Tryz.func264 rfl Tryz.ntmps264 rfl<|aj ?_
 refine dG (fun _:Unit=>True) (fun _=>0) (fun _=> [(0,.slice A 0 c),(1,.int .i64 0),(2,.int .i64 0),(6,.int .i64 1)]) (fun _=> []) () (trivial) ?_
 rintro _ _
 refine az (fun h=>?_) (fun h=>?_)
 ·exact absurd h (by decide)
 refine aj ?_
 intro w hw
 exact⟨rfl,hw.below⟩
theorem Jv (A:Option Addr) (c:Nat) (l:Int) (w:World):Calls Tryz.prog 219 #[.slice A 0 c,.int .i64 0,.int .i64 0,.int .i64 l] w fun e w'=>e= .returned (.tuple #[])/\Below w.heap.size w w':=by
 refine enter Tryz.func219 rfl Tryz.ntmps219 rfl<|aj ?_
 refine dG (fun _:Unit=>True) (fun _=>0) (fun _=> [(0,.slice A 0 c),(1,.int .i64 0),(2,.int .i64 0),(3,.int .i64 l),(8,.bool true),(9,.bool true)]) (fun _=> []) () (trivial) ?_
 rintro _ _
 refine az (fun h=>?_) (fun h=>?_)
 ·refine aj ?_
  refine cA rfl Tryz.call264 (fun w hw=>JS A c w)<|aj ?_
  intro w hw
  exact⟨rfl,hw.below⟩
 exact absurd (show (0:Int)<=12 by decide) h
theorem FW (A : Option Addr) (c : Nat) (w : World) : Calls Tryz.prog 167 #[.slice A 0 c] w fun e w' => e = .returned (.tuple #[]) /\ Below w.heap.size w w' := by
  go_enter Tryz.func167, Tryz.ntmps167
  go_wp2_with (first
    | (go_at_call 220; refine (PR _).mono ?_; rintro e w' ⟨rfl, rfl⟩)
    | (go_at_call 219; refine (Jv _ _ _ _).mono ?_; rintro e w' ⟨rfl, hb⟩))
  all_goals (go_end0; exact ⟨rfl, (by repeat (first | exact Below.refl _ _ | assumption | refine Below.drew ?_ | refine Below.drewN_ ?_ _ | refine aK ?_ _ | refine bq (by assumption) ?_ | refine bD ?_ (by simp <;> omega) _))⟩)
theorem BO (A:Option Addr) (c:Nat) (w:World):Calls Tryz.prog 168 #[.slice A 0 c] w fun e w'=>e= .returned (.slice A 0 c)/\Below w.heap.size w w':=
 (Any.slices_Compact_int_empty oY A c w).mono fun _ _ ⟨h1,h2⟩=>⟨h1,by rw[h2];exact Below.refl _ _⟩
theorem AD (fs:List au) (a:MA) (m:ar) (w:World) (hm:fi w.heap.size w a m) (hF:fq fs) (hR:bz fs m) :
  Calls Tryz.prog 116 #[.agg #[.slice a.Af m.F.length a.cf,.slice a.Ab m.B.length a.cb,.slice a.Ai m.I.length a.ci,.slice a.Ao m.out.length a.co,.int .i64 m.S,.int .i64 m.T]] w fun e w'=> ∃q:Option Addr×Nat,True/\e= .returned (.slice q.1 (eO m).length q.2)/\Cw w.heap.size w [an (.slice q.1 (eO m).length q.2) (eO m)] w':=by
 have hfs:∀x∈m.F,x.L.length<=1000/\x.K.length<=8:=fun x hx=>by
  obtain⟨i,hi,rfl⟩:=db hx
  have h:=uX hF hR hi
  have e:aP m.F i=m.F[i]:=by
   unfold aP
   rw[ak,ap hi]
   rfl
  rw[e] at h
  exact⟨h.2,h.1⟩
 have heq:=Ly hR
 refine enter Tryz.func116 rfl Tryz.ntmps116 rfl<|aj ?_
 refine fun g1 _=>aj ?_
 intro g2 _
 refine bK<|dJ (fun w h=>Cw.nilO Int h)<|aj ?_
 refine cz rfl Tryz.call163 (fun w hw=>HG g1 g2 a m hm hR.n6 hfs none 0 w (hw.msub (.s fc (.s fc (.s fc .r))))) (fun⟨A1,c1⟩ _=>?_)
 refine aJ ?_
 generalize py m=l at heq⊢
 generalize eO m=r at heq⊢
 subst heq
 rcases l with _ | ⟨x,l⟩
 ·rw[show ld ([]:List Int)= [] from by unfold ld;simp,show Lib.compact ([]:List Int)= [] from by decide]
  refine cA rfl Rc (fun w hw=>FW A1 c1 w)<|aj ?_
  refine cA rfl Rb (fun w hw=>BO A1 c1 w)<|aj ?_
  intro w hw
  exact⟨(A1,c1),trivial,rfl,hw.msub ms⟩
 have hsl:(ld (x::l)).length=(x::l).length:=by unfold ld;exact List.length_mergeSort _
 refine cz rfl Rc (fun w hw=>zO (hw.msub (.s fc .r)) (Nat.succ_pos _) (xa hw fc)) (fun _ _=>aj ?_)
 refine cz rfl Rb (fun w hw=>uh (hw.msub (.s fc .r)) (Nat.succ_pos _) (xa hw fc)) (fun _ _=>aj ?_)
 intro w hw
 exact⟨(A1,c1),trivial,rfl,hw.msub ms⟩
end
section
theorem Hy {l:List Int} {v:Int} (h:v∈l):∃k:Nat,og l v=k/\k<l.length/\l.getD k 0=v:=by
 unfold og
 cases e:l.findIdx? (· == v) with
 | none=>
  rw[List.findIdx?_eq_none_iff] at e
  have:=e v h
  simp at this
 | some k=>
  rw[mF] at e
  obtain⟨h1,h2,_⟩:=e
  refine⟨k,rfl,h1,?_⟩
  rw[ak,ap h1]
  simpa using h2
def iT {α:Type} (l:List α) (f:α->α) (k:Nat):List α:=(l.take k).map f++l.drop k
section
variable {B:Nat} {w0:World} {H:List aC}
theorem BL (g4 g6:Nat) (R:List Int) (r:Int->Int) (hri:∀n∈R,aF (r n)) (T1 R1:Option Addr) (t1 r1:Nat) (A:Option Addr) (m c k:Nat) (xs:List aH) (hk:k<m) (hok:vQ (fun n=>n∈R) (xs.getD k default)) (hpos:(xs.getD k default).ref=true->0<=(xs.getD k default).n) (w:World)
  (hw:Cw B w0 (an (.slice A m c) xs::am g6 [.slice T1 (R.map r).length t1] 35::an (.slice T1 (R.map r).length t1) (R.map r)::am g4 [.slice R1 R.length r1] 35::an (.slice R1 R.length r1) R::H) w) :
  Calls Tryz.prog 164 #[.pointer (some ⟨ab A,ao A+k*2,none⟩),.pointer (some ⟨g6,0,none⟩),.pointer (some ⟨g4,0,none⟩)] w fun e w'=> ∃_:Unit,True/\e= .returned (.tuple #[])/\Cw B w0 (an (.slice A m c) (xs.set k (dp r (xs.getD k default)))::am g6 [.slice T1 (R.map r).length t1] 35::an (.slice T1 (R.map r).length t1) (R.map r)::am g4 [.slice R1 R.length r1] 35::an (.slice R1 R.length r1) R::H) w':=by
 have hl:xs.length=m:=by
  obtain⟨F,h,_⟩:=hw.rd bA.a
  exact bE.len_eq (bX.sl (show bX w F _ xs from h))
 have hself:xs.set k (xs.getD k default)=xs:=by
  apply en
  intro i
  rw[nN]
  split
  ·rename_i e
   subst e
   rw[ak,if_pos (by omega),ap (by omega)]
   rfl
  rfl
 generalize hv:xs.getD k default=v at hok hpos hself⊢
 refine aY Tryz.func164 rfl Tryz.ntmps164 rfl hw<|aj ?_
 refine eM rfl (fun w hw=>(SF.val (SF.own hl fc) hk default) w hw 0 _ rfl) ?_
 refine aD ?_
 rw[hv]
 rcases Bool.eq_false_or_eq_true v.ref with hr | hr
 ·rw[hr]
  refine bW (t:=8) (v':= .bool true) rfl (rfl)<|aj ?_
  refine eM rfl (fun w hw=>(SF.val (SF.own hl fc) hk default) w hw 1 _ rfl)<|aj ?_
  rw[hv]
  refine gJ rfl (fun hn=>?_) (fun hn=>?_)
  ·have hn:0<v.n:=hn
   have hin:=hok hr (by omega)
   obtain⟨q,hq1,hq2,hq3⟩:=Hy hin
   have hqm:q<(R.map r).length:=by rw[aW];exact hq2
   have hren:dp r v=⟨true,r v.n⟩:=by unfold dp;rw[if_pos ⟨hr,by omega⟩]
   have hat:(R.map r).getD q 0=r v.n:=by
    rw[ak,cD,ap hq2]
    rw[ak,ap hq2] at hq3
    show r R[q]=_
    rw[show R[q]=v.n from hq3]
   refine bU [0,3,6,9,12,15,18,23,24,27,30,33,38] [12] rfl<|aj ?_
   refine tE rfl (dT (fun w hw=>(SF.val (SF.own hl fc) hk default) w hw 1 _ rfl) rfl rfl du) ?_
   rw[hv]
   refine kW rfl rfl Tryz.call165 ((fun w hw=>nA ((fun w hw=>yc _ R v.n w (SF.at_ (SF.own rfl fc) hw)) w hw))) ?_
   rw[hq1]
   refine tE rfl (bZ (k:=q) aV cJ (SF.own (xs:=R.map r) rfl fc) (by omega) rfl rfl rfl) ?_
   refine tE rfl (dT (SF.int (SF.own (xs:=R.map r) rfl fc) (by omega)) rfl rfl du) ?_
   refine aD ?_
   refine aD ?_
   rw[hat]
   refine pE rfl (qp (α:=aH) (f:=1) (us:= [.int .i64 (r v.n)]) ⟨true,r v.n⟩ default (xs':=xs.set k (dp r v)) (by rw[hren]) fc hk (hri _ hin) cJ rfl rfl rfl rfl rfl rfl (by rw[hv];show [Value.bool v.ref,_]=_;rw[hr];rfl) rfl) (fun _ _=>aj ?_)
   intro w hw
   exact⟨(),trivial,rfl,hw.msub ms⟩
  have hn:¬0<v.n:=hn
  have hren:dp r v=v:=by unfold dp;rw[if_neg (fun h=>by have:=hpos hr;have:=h.2;omega)]
  rw[hren,hself]
  refine aj ?_
  intro w hw
  exact⟨(),trivial,rfl,hw.msub ms⟩
 rw[hr]
 have hren:dp r v=v:=AC hr
 rw[hren,hself]
 refine bW (t:=8) (v':= .bool false) rfl (rfl)<|aj ?_
 refine bR rfl<|aj ?_
 intro w hw
 exact⟨(),trivial,rfl,hw.msub ms⟩
theorem wP {α:Type} (l:List α) (f:α->α):iT l f 0=l:=by unfold iT;simp
theorem zz {α:Type} (l:List α) (f:α->α):iT l f l.length=l.map f:=by unfold iT;simp
theorem zy {α:Type} (l:List α) (f:α->α) (k:Nat):(iT l f k).length=l.length:=by unfold iT;simp;omega
theorem Ed {α:Type} [Inhabited α] {l:List α} {f:α->α} {k:Nat} (hk:k<l.length):(iT l f k).getD k default=l.getD k default:=by
 unfold iT
 rw[ak,cy (by simp;omega),aW,ax,Nat.min_eq_left (by omega),rN,cH,ak]
 rfl
theorem zx {α:Type} [Inhabited α] {l:List α} {f:α->α} {k:Nat} (hk:k<l.length):(iT l f k).set k (f (l.getD k default))=iT l f (k+1):=by
 unfold iT
 have h1:((l.take k).map f).length=k:=by rw[aW,ax];omega
 rw[List.set_append_right _ _ (by omega),h1,rN,ei l k default hk,dr,aX]
 congr 1
 rw[nk hk,List.set_cons_zero]
 rfl
def iq (r:Int->Int) (p:aI×aB):aI×aB:=(p.1,jW r p.2)
def er (l:List (aI×aB)) (r:Int->Int) (i:Nat):List (aI×aB):=(iT l (iq r) i).eraseIdx i
theorem Jb {l:List (aI×aB)} {i:Nat} (hi:i<l.length) {w:World} (h:Cw B w0 (dD l::H) w):∃A1 c1 A2 c2,l[i].1.lv= .slice A1 l[i].2.L.length c1/\l[i].1.sv= .slice A2 l[i].2.K.length c2:=by
 obtain⟨s1,s2⟩:=NX hi h
 obtain⟨A1,c1,e1,_⟩:=s1.form
 obtain⟨A2,c2,e2,_⟩:=s2.form
 exact⟨A1,c1,A2,c2,e1,e2⟩
theorem HF (g3 g4 g6:Nat) (R:List Int) (r:Int->Int) (hri:∀n∈R,aF (r n)) (T1 R1 Af:Option Addr) (t1 r1 n cf:Nat) (rest:List Value) (l:List (aI×aB)) (hs:List aI) (hln:l.length=n) (hls:l.map Prod.fst=hs) (hn6:n<=6)
  (hok:∀p∈l,vP (fun n=>n∈R) p.2) (hpos:∀p∈l,∀v∈p.2.L++p.2.K,v.ref=true->0<=v.n) (w:World)
  (hw:Cw B w0 (am g3 (.slice Af n cf::rest) 43::an (.slice Af n cf) hs::dD l::am g6 [.slice T1 (R.map r).length t1] 35::an (.slice T1 (R.map r).length t1) (R.map r)::am g4 [.slice R1 R.length r1] 35::an (.slice R1 R.length r1) R::H) w) :
  Calls Tryz.prog 163 #[.pointer (some ⟨g3,0,none⟩),.func (.func 164) #[] #[.pointer (some ⟨g6,0,none⟩),.pointer (some ⟨g4,0,none⟩)]] w fun e w'=> ∃_:Unit,True/\e= .returned (.tuple #[])/\Cw B w0 (am g3 (.slice Af n cf::rest) 43::an (.slice Af n cf) hs::dD (l.map (iq r))::am g6 [.slice T1 (R.map r).length t1] 35::an (.slice T1 (R.map r).length t1) (R.map r)::am g4 [.slice R1 R.length r1] 35::an (.slice R1 R.length r1) R::H) w':=by
 have hhl:hs.length=n:=by rw[<-hls,aW,hln]
 refine aY Tryz.func163 rfl Tryz.ntmps163 rfl hw<|aj ?_
 refine dG (fun i:Nat=>i<=n) (fun i=>n - i) (fun i=> [(0,.pointer (some ⟨g3,0,none⟩)),(1,.func (.func 164) #[] #[.pointer (some ⟨g6,0,none⟩),.pointer (some ⟨g4,0,none⟩)]),(12,.int .i64 (n:Int)),(13,.int .i64 (i:Int))]) (fun i=>dD (iT l (iq r) i)::am g3 (.slice Af n cf::rest) 43::an (.slice Af n cf) hs::am g6 [.slice T1 (R.map r).length t1] 35::an (.slice T1 (R.map r).length t1) (R.map r)::am g4 [.slice R1 R.length r1] 35::an (.slice R1 R.length r1) R::H) 0 (bi _) ?_ (hh:=(fun w h=>(show Cw _ _ (dD (iT l (iq r) 0)::am g3 (.slice Af n cf::rest) 43::an (.slice Af n cf) hs::am g6 [.slice T1 (R.map r).length t1] 35::an (.slice T1 (R.map r).length t1) (R.map r)::am g4 [.slice R1 R.length r1] 35::an (.slice R1 R.length r1) R::H) w from by rw[wP];exact h.msub ms)))
 rintro i hi'
 have hi:i<=n:=hi'
 refine az (fun hlt=>?_) (fun hlt=>?_)
 ·have hil:i<l.length:=by omega
  have hul:=zy l (iq r) i
  have hatI:(iT l (iq r) i)[i]'(by omega)=l[i]:=by
   have:=Ed (f:=iq r) hil
   rw[ak,ap (by omega),ak,ap hil] at this
   exact this
  refine gI (p:= ∃A1 c1 A2 c2,l[i].1.lv= .slice A1 l[i].2.L.length c1/\l[i].1.sv= .slice A2 l[i].2.K.length c2) (fun w hw=>by
   have:=Jb (l:=iT l (iq r) i) (i:=i) (by omega) hw
   rw[hatI] at this
   exact this) fun⟨A1,c1,A2,c2,e1,e2⟩=>?_
  refine dJ (fun w h=>sx (l:=iT l (iq r) i) (k:=i) (by omega) h) ?_
  rw[hatI]
  have hset:(iT l (iq r) i).set i (iq r l[i])=iT l (iq r) (i+1):=by
   have:=zx (f:=iq r) hil
   rw[ak,ap hil] at this
   exact this
  have hmemI:=cR hil
  obtain⟨hok1,hok2⟩:=hok _ hmemI
  have hpos1:∀v∈l[i].2.L,v.ref=true->0<=v.n:=fun v hv=>hpos _ hmemI v (fQ _ hv)
  have hpos2:∀v∈l[i].2.K,v.ref=true->0<=v.n:=fun v hv=>hpos _ hmemI v (gK _ hv)
  have hhd:hs.getD i default=⟨l[i].1.func,l[i].1.pc,.slice A1 l[i].2.L.length c1,.slice A2 l[i].2.K.length c2⟩:=by
   rw[<-hls,ak,cD,ap hil,<-e1,<-e2]
   rfl
  have hback:∀w,Cw B w0 (an l[i].1.lv (iq r l[i]).2.L::an l[i].1.sv (iq r l[i]).2.K::dD (er l r i)::am g3 (.slice Af n cf::rest) 43::an (.slice Af n cf) hs::am g6 [.slice T1 (R.map r).length t1] 35::an (.slice T1 (R.map r).length t1) (R.map r)::am g4 [.slice R1 R.length r1] 35::an (.slice R1 R.length r1) R::H) w->Cw B w0 (dD (iT l (iq r) (i+1))::am g3 (.slice Af n cf::rest) 43::an (.slice Af n cf) hs::am g6 [.slice T1 (R.map r).length t1] 35::an (.slice T1 (R.map r).length t1) (R.map r)::am g4 [.slice R1 R.length r1] 35::an (.slice R1 R.length r1) R::H) w:=fun w h=>by
   have:=Dr (l:=iT l (iq r) i) (k:=i) (q:=iq r l[i]) (by omega) h
   rwa [hset] at this
  show CW _ _ _ _ _ _ _ (an l[i].1.lv l[i].2.L::an l[i].1.sv l[i].2.K::dD (er l r i)::am g3 (.slice Af n cf::rest) 43::an (.slice Af n cf) hs::am g6 [.slice T1 (R.map r).length t1] 35::an (.slice T1 (R.map r).length t1) (R.map r)::am g4 [.slice R1 R.length r1] 35::an (.slice R1 R.length r1) R::H)
  rw[e1,e2] at hback⊢
  have hrl:(iq r l[i]).2.L=l[i].2.L.map (dp r):=rfl
  have hrs:(iq r l[i]).2.K=l[i].2.K.map (dp r):=rfl
  rw[hrl,hrs] at hback
  generalize l[i].1.func=hf0 at hhd
  generalize l[i].1.pc=hp0 at hhd
  generalize l[i].2.L=L1 at *
  generalize l[i].2.K=L2 at *
  refine gI (p:=L1.length<=140737488355328/\L2.length<=140737488355328) (fun w hw=>⟨bx (SF.at_ (SF.own (α:=aH) (xs:=L1) rfl fc) hw),bx (SF.at_ (SF.own (α:=aH) (xs:=L2) rfl fc) hw)⟩) fun⟨lb1,lb2⟩=>?_
  refine aj ?_
  refine bU [0,3,6,9,12,15,18,21,24,27,30,33,36,39,42,45,54,50,51] [] rfl<|aj ?_
  refine tE rfl (bZ (k:=i) eR fC (SF.own (α:=aI) hhl fc) (by omega) rfl rfl rfl)<|aj ?_
  refine tE rfl (dT (fun w hw=>(SF.hfr (SF.own (α:=aI) hhl fc) (k:=i) (by omega) hhd) w hw 2 _ rfl) rfl rfl sd)<|aj ?_
  refine tE rfl (bZ (k:=i) eR fC (SF.own (α:=aI) hhl fc) (by omega) rfl rfl rfl)<|aj ?_
  refine tE rfl (dT (fun w hw=>(SF.hfr (SF.own (α:=aI) hhl fc) (k:=i) (by omega) hhd) w hw 3 _ rfl) rfl rfl sd)<|aj ?_
  refine fun g1 _=>aj ?_
  refine dG (fun j:Nat=>j<=2) (fun j=>2 - j) (fun j=> [(0,.pointer (some ⟨g3,0,none⟩)),(1,.func (.func 164) #[] #[.pointer (some ⟨g6,0,none⟩),.pointer (some ⟨g4,0,none⟩)]),(12,.int .i64 (n:Int)),(13,.int .i64 (i:Int)),(32,.slice (some ⟨g1,0,none⟩) 2 2),(33,.int .i64 2),(34,.int .i64 (j:Int))]) (fun j=>an (.slice A1 L1.length c1) (if j=0 then L1 else L1.map (dp r))::an (.slice A2 L2.length c2) (if j=2 then L2.map (dp r) else L2)::dD (er l r i)::am g1 [.slice A1 L1.length c1,.slice A2 L2.length c2] 116::am g3 (.slice Af n cf::rest) 43::an (.slice Af n cf) hs::am g6 [.slice T1 (R.map r).length t1] 35::an (.slice T1 (R.map r).length t1) (R.map r)::am g4 [.slice R1 R.length r1] 35::an (.slice R1 R.length r1) R::H) 0 (bi _) ?_ (hh:=(fun w h=>h.msub ms))
  rintro j hj'
  have hj:j<=2:=hj'
  refine az (fun hlt2=>?_) (fun hlt2=>?_)
  ·rcases(show j=0\/j=1 by omega) with rfl | rfl
   ·rw[if_pos rfl,if_neg (by decide)]
    refine aj ?_
    refine sE (lQ (k:=0) ma lM rfl (by decide) rfl rfl rfl) ?_
    refine eM rfl (fun w hw=>fg (v:= .slice A1 L1.length c1) fc rfl w hw)<|aj ?_
    refine dG (fun k:Nat=>k<=L1.length) (fun k=>L1.length - k) (fun k=> [(0,.pointer (some ⟨g3,0,none⟩)),(1,.func (.func 164) #[] #[.pointer (some ⟨g6,0,none⟩),.pointer (some ⟨g4,0,none⟩)]),(6,.slice A1 L1.length c1),(12,.int .i64 (n:Int)),(13,.int .i64 (i:Int)),(32,.slice (some ⟨g1,0,none⟩) 2 2),(33,.int .i64 2),(34,.int .i64 0),(39,.int .i64 (L1.length:Int)),(40,.int .i64 (k:Int))]) (fun k=>an (.slice A1 L1.length c1) (iT L1 (dp r) k)::an (.slice A2 L2.length c2) L2::dD (er l r i)::am g1 [.slice A1 L1.length c1,.slice A2 L2.length c2] 116::am g3 (.slice Af n cf::rest) 43::an (.slice Af n cf) hs::am g6 [.slice T1 (R.map r).length t1] 35::an (.slice T1 (R.map r).length t1) (R.map r)::am g4 [.slice R1 R.length r1] 35::an (.slice R1 R.length r1) R::H) 0 (bi _) ?_ (hh:=(fun w h=>(show Cw _ _ (an (.slice A1 L1.length c1) (iT L1 (dp r) 0)::an (.slice A2 L2.length c2) L2::dD (er l r i)::am g1 [.slice A1 L1.length c1,.slice A2 L2.length c2] 116::am g3 (.slice Af n cf::rest) 43::an (.slice Af n cf) hs::am g6 [.slice T1 (R.map r).length t1] 35::an (.slice T1 (R.map r).length t1) (R.map r)::am g4 [.slice R1 R.length r1] 35::an (.slice R1 R.length r1) R::H) w from by rw[wP];exact h.msub ms)))
    rintro k hk'
    have hk:k<=L1.length:=hk'
    have hul:=zy L1 (dp r) k
    refine az (fun hlt3=>?_) (fun hlt3=>?_)
    ·have hkl:k<L1.length:=by omega
     have hat:=Ed (f:=dp r) hkl
     have hmem:=fW (d:=(default:aH)) hkl
     refine aj ?_
     refine dA (k) rfl ((SF.own (xs:=iT L1 (dp r) k) hul fc)) ?_
     refine oE (fU rfl rfl rfl Tryz.call164 (fun w hw=>BL g4 g6 R r hri T1 R1 t1 r1 A1 L1.length c1 k (iT L1 (dp r) k) hkl (by rw[hat];exact hok1 _ hmem) (by rw[hat];exact hpos1 _ hmem) w (hw.msub (.s fc (.s fc (.s fc (.s fc (.s fc .r)))))))) (fun _ _=>aj ?_)
     rw[hat,zx hkl]
     refine dv (k+1) (by show k+1<=_;omega) (by show _ - _<_ - _;omega) (hh:=(fun w h=>h.msub ms))
    obtain rfl:k=L1.length:=by omega
    rw[zz]
    refine aj ?_
    refine dv 1 ((by decide:1<=2)) (by show 2 - 1<2 - 0;decide) (hh:=(fun w h=>h.msub ms))
   rw[if_neg (by decide),if_neg (by decide)]
   refine aj ?_
   refine sE (lQ (k:=1) ma lM rfl (by decide) rfl rfl rfl) ?_
   refine eM rfl (fun w hw=>fg (v:= .slice A2 L2.length c2) fc rfl w hw)<|aj ?_
   refine dG (fun k:Nat=>k<=L2.length) (fun k=>L2.length - k) (fun k=> [(0,.pointer (some ⟨g3,0,none⟩)),(1,.func (.func 164) #[] #[.pointer (some ⟨g6,0,none⟩),.pointer (some ⟨g4,0,none⟩)]),(6,.slice A2 L2.length c2),(12,.int .i64 (n:Int)),(13,.int .i64 (i:Int)),(32,.slice (some ⟨g1,0,none⟩) 2 2),(33,.int .i64 2),(34,.int .i64 1),(39,.int .i64 (L2.length:Int)),(40,.int .i64 (k:Int))]) (fun k=>an (.slice A2 L2.length c2) (iT L2 (dp r) k)::an (.slice A1 L1.length c1) (L1.map (dp r))::dD (er l r i)::am g1 [.slice A1 L1.length c1,.slice A2 L2.length c2] 116::am g3 (.slice Af n cf::rest) 43::an (.slice Af n cf) hs::am g6 [.slice T1 (R.map r).length t1] 35::an (.slice T1 (R.map r).length t1) (R.map r)::am g4 [.slice R1 R.length r1] 35::an (.slice R1 R.length r1) R::H) 0 (bi _) ?_ (hh:=(fun w h=>(show Cw _ _ (an (.slice A2 L2.length c2) (iT L2 (dp r) 0)::an (.slice A1 L1.length c1) (L1.map (dp r))::dD (er l r i)::am g1 [.slice A1 L1.length c1,.slice A2 L2.length c2] 116::am g3 (.slice Af n cf::rest) 43::an (.slice Af n cf) hs::am g6 [.slice T1 (R.map r).length t1] 35::an (.slice T1 (R.map r).length t1) (R.map r)::am g4 [.slice R1 R.length r1] 35::an (.slice R1 R.length r1) R::H) w from by rw[wP];exact h.msub ms)))
   rintro k hk'
   have hk:k<=L2.length:=hk'
   have hul:=zy L2 (dp r) k
   refine az (fun hlt3=>?_) (fun hlt3=>?_)
   ·have hkl:k<L2.length:=by omega
    have hat:=Ed (f:=dp r) hkl
    have hmem:=fW (d:=(default:aH)) hkl
    refine aj ?_
    refine dA (k) rfl ((SF.own (xs:=iT L2 (dp r) k) hul fc)) ?_
    refine oE (fU rfl rfl rfl Tryz.call164 (fun w hw=>BL g4 g6 R r hri T1 R1 t1 r1 A2 L2.length c2 k (iT L2 (dp r) k) hkl (by rw[hat];exact hok2 _ hmem) (by rw[hat];exact hpos2 _ hmem) w (hw.msub (.s fc (.s fc (.s fc (.s fc (.s fc .r)))))))) (fun _ _=>aj ?_)
    rw[hat,zx hkl]
    refine dv (k+1) (by show k+1<=_;omega) (by show _ - _<_ - _;omega) (hh:=(fun w h=>h.msub ms))
   obtain rfl:k=L2.length:=by omega
   rw[zz]
   refine aj ?_
   refine dv 2 ((by decide:2<=2)) (by show 2 - 2<2 - 1;decide) (hh:=(fun w h=>h.msub ms))
  obtain rfl:j=2:=by omega
  rw[if_neg (by decide),if_pos rfl]
  refine aj ?_
  refine dv (i+1) (by show i+1<=_;omega) (by show _ - _<_ - _;omega) (hh:=(fun w h=>hback w (h.msub ms)))
 obtain rfl:i=n:=by omega
 rw[<-hln,zz]
 refine aj ?_
 intro w hw
 exact⟨(),trivial,rfl,hw.msub ms⟩
end
end
section
theorem Ko (m:ar):(eq m).F.length=m.F.length:=by unfold eq;simp
theorem Jg (r:Int->Int) (l:List (aI×aB)):(l.map (iq r)).map Prod.fst=l.map Prod.fst:=by rw[List.map_map];rfl
theorem Jf (r:Int->Int) (l:List (aI×aB)):(l.map (iq r)).map Prod.snd=(l.map Prod.snd).map (jW r):=by rw[List.map_map,List.map_map];rfl
theorem Lx {r:Int->Int} {l:List (aI×aB)} (h:fL l):fL (l.map (iq r)):=fun p hp=>by
 obtain⟨q,hq,rfl⟩:=oB.1 hp
 exact h q hq
theorem E7 (fs:List au) (a:MA) (m:ar) (w:World) (hm:fi w.heap.size w a m) (hF:fq fs) (hR:bz fs m) :
  Calls Tryz.prog 115 #[.agg #[.slice a.Af m.F.length a.cf,.slice a.Ab m.B.length a.cb,.slice a.Ai m.I.length a.ci,.slice a.Ao m.out.length a.co,.int .i64 m.S,.int .i64 m.T]] w fun e w'=> ∃g:MA,True/\
   e= .returned (.agg #[.slice g.Af (eq m).F.length g.cf,.slice g.Ab (eq m).B.length g.cb,.slice g.Ai (eq m).I.length g.ci,.slice g.Ao (eq m).out.length g.co,.int .i64 (eq m).S,.int .i64 (eq m).T])/\Cw w.heap.size w [an (.slice g.Af (eq m).F.length g.cf) (eq m).F,an (.slice g.Ab (eq m).B.length g.cb) (eq m).B,an (.slice g.Ai (eq m).I.length g.ci) (eq m).I,an (.slice g.Ao (eq m).out.length g.co) (eq m).out] w':=by
 have hb8:=(iZ hR.bl).1
 have hrl:=Gn (m:=m)
 have hin:∀r∈eO m,0<=r/\r<=m.B.length:=fun r hr=>by have:=(oG.1 hr).1;omega
 have hri:∀n∈eO m,aF (ek m.B (eO m) n):=fun n hn=>by
  have h1:=hin n hn
  have h2:=kO m.B (eO m) n.toNat
  unfold ek
  split
  ·exact⟨by omega,by omega⟩
  exact⟨by omega,by omega⟩
 rw[Ko]
 refine enter Tryz.func115 rfl Tryz.ntmps115 rfl<|aj ?_
 refine fun g1 _=>aj ?_
 refine fun g2 _=>aj ?_
 refine eL rfl oo (fun w hw=>kv a m w (fi.ro hw hm) (iz hF hR)) (fun g0 _=>aj ?_)
 refine fun g3 _=>aj ?_
 refine eL rfl Tryz.call116 (fun w hw=>AD fs a m w (fi.ro hw hm) hF hR) (fun⟨R1,r1⟩ _=>?_)
 refine aJ ?_
 refine fun g4 _=>aj ?_
 refine eL rfl Tryz.call162 (fun w hw=>PS a.Ab R1 a.cb r1 m.B (eO m) w (hw.ro hm.b) (SF.at_ (SF.own rfl fc) hw) (uu.of_check hR.bl) hin (by omega)) (fun⟨⟨K1,k1⟩,⟨T1,t1⟩⟩ _=>?_)
 refine aJ ?_
 intro g5 _
 refine aD ?_
 refine eV (eB _ fc lb rfl rfl rfl rfl rfl (by rfl) rfl (by rfl)) rfl rfl (fun _ _=>?_)
 refine bK<|cu<|bG<|aD ?_
 refine aD ?_
 refine eV (eB _ fc Tryz.sizeOf41 rfl rfl rfl rfl rfl (by rfl) rfl (by rfl)) rfl rfl (fun _ _=>?_)
 refine bK<|HO (xs:=m.F) (v:= .slice g0.Af m.F.length g0.cf) fc fun l hl hok=>?_
 have hll:l.length=m.F.length:=by rw[<-hl,aW]
 have hmem:∀p∈l,p.2∈m.F:=fun p hp=>by rw[<-hl];exact ph hp
 refine aj ?_
 refine cz rfl Tryz.call163 (fun w hw=>HF g3 g4 g5 (eO m) (ek m.B (eO m)) hri T1 R1 g0.Af t1 r1 m.F.length g0.cf [.slice K1 (bY m.B (eO m) m.B.length).length k1,.slice g0.Ai m.I.length g0.ci,.slice g0.Ao m.out.length g0.co,.int .i64 m.S,.int .i64 m.T] l (l.map Prod.fst) hll rfl hR.n6 (fun p hp=>HP hR _ (hmem p hp)) (fun p hp v hv hr=>(wO hR (hmem p hp) hv hr).1) w (hw.msub (.s fc (.s fc (.s fc (.s fc (.s fc (.s fc (.s fc .r))))))))) (fun _ _=>aj ?_)
 intro w hw
 refine⟨⟨g0.Af,g0.cf,K1,k1,g0.Ai,g0.ci,g0.Ao,g0.co⟩,trivial,rfl,?_⟩
 have h1:=sY (v:= .slice g0.Af m.F.length g0.cf) (l:=l.map (iq (ek m.B (eO m)))) (H:= [an (.slice K1 (bY m.B (eO m) m.B.length).length k1) (bY m.B (eO m) m.B.length),an (.slice g0.Ai m.I.length g0.ci) m.I,an (.slice g0.Ao m.out.length g0.co) m.out]) (Lx hok) (by rw[Jg];exact hw.msub ms)
 rw[Jf,hl] at h1
 exact h1
def Qv (fs:List au) (m:ar):ar×Int:=if fA fs m=0 then (eq m,(m.B.length:Int) - (eq m).B.length) else (default,0)
end
section
structure gg where
 kind:Int
 of_:Int
 n:Int
 deriving DecidableEq
instance:Inhabited gg:=⟨⟨0,0,0⟩⟩
def kH (n:Nat) (a:gg):Int:=
 if a.kind<1\/4<a.kind then 6 else if (a.kind=1/\a.of_≠0)\/(2<a.kind/\a.n≠0) then 1 else if a.of_<0\/(n:Int)<=a.of_ then 3 else 0
theorem Nu {B:Nat} {w0:World} {H:List aC} (gk:Nat) (Aw Ap:Option Addr) (n cw p cp:Nat) (vd:Value) (a:gg) (w:World) (_:n<=1000000) (hw:Cw B w0 (am gk [.slice Aw n cw,.slice Ap p cp,vd] 112::H) w) :
  Calls Tryz.prog 65 #[.pointer (some ⟨gk,0,none⟩),.agg #[.int .i64 a.kind,.int .i64 a.of_,.int .i64 a.n]] w fun e w'=> ∃_:Unit,True/\e= .returned (.int .i64 (kH n a))/\Cw B w0 (am gk [.slice Aw n cw,.slice Ap p cp,vd] 112::H) w':=by
 obtain⟨E,hE⟩:∃E,kH n a=E:=⟨_,rfl⟩
 rw[hE]
 unfold kH at hE
 refine aY Tryz.func65 rfl Tryz.ntmps65 rfl hw<|aj ?_
 refine fun g1 _=>df 9 (fun q1=>?_) (fun q1=>?_)
 ·have q1:a.kind<1:=of_decide_eq_true q1
  rw[if_pos (.inl q1)] at hE
  subst hE
  refine aj ?_
  refine bo rfl<|aj ?_
  intro w hw
  exact⟨(),trivial,rfl,hw.msub ms⟩
 have q1:¬a.kind<1:=of_decide_eq_false q1
 refine az (fun q2=>?_) (fun q2=>?_)
 ·have q2:4<a.kind:=q2
  rw[if_pos (.inr q2)] at hE
  subst hE
  refine aj ?_
  intro w hw
  exact⟨(),trivial,rfl,hw.msub ms⟩
 have q2:¬4<a.kind:=q2
 rw[if_neg (fun h=>h.elim q1 q2)] at hE
 refine dx (fun d:Bool=>d=decide ((a.kind=1/\a.of_≠0)\/(2<a.kind/\a.n≠0))) (fun d=> [(0,.pointer (some ⟨gk,0,none⟩)),(3,.pointer (some ⟨g1,0,none⟩)),(14,.bool d)]) (fun _=>am g1 [.int .i64 a.kind,.int .i64 a.of_,.int .i64 a.n] 33::am gk [.slice Aw n cw,.slice Ap p cp,vd] 112::H) ?_ ?_
 ·refine df 18 (fun q3=>?_) (fun q3=>?_)
  ·have q3:a.kind=1:=of_decide_eq_true q3
   refine df 23 (fun q4=>?_) (fun q4=>?_)
   ·have q4:¬a.of_=0:=by simpa using q4
    refine aj ?_
    refine nv true (by rw[eq_comm,decide_eq_true_iff];exact .inl ⟨q3,q4⟩)
   have q4:a.of_=0:=by simpa using q4
   refine df 27 (fun q5=>?_) (fun q5=>?_)
   ·exact absurd (of_decide_eq_true q5) (by omega)
   have q5:¬2<a.kind:=of_decide_eq_false q5
   refine aj ?_
   refine nv false (by rw[eq_comm,decide_eq_false_iff_not];omega)
  have q3:¬a.kind=1:=of_decide_eq_false q3
  refine df 27 (fun q5=>?_) (fun q5=>?_)
  ·have q5:2<a.kind:=of_decide_eq_true q5
   refine aj ?_
   refine nv (!decide (a.n=0)) (by rw[Bool.eq_iff_iff];simp[q3,q5])
  have q5:¬2<a.kind:=of_decide_eq_false q5
  refine aj ?_
  refine nv false (by rw[eq_comm,decide_eq_false_iff_not];omega)
 rintro d hd
 refine cB rfl (fun hb=>?_) (fun hb=>?_)
 ·rw[hb] at hd
  rw[if_pos (of_decide_eq_true hd.symm)] at hE
  subst hE
  refine aj ?_
  intro w hw
  exact⟨(),trivial,rfl,hw.msub ms⟩
 rw[hb] at hd
 rw[if_neg (of_decide_eq_false hd.symm)] at hE
 refine aj ?_
 refine bU [0,3,6,9,12,15,18,21,24,27,30,33,36,39,42] [] rfl<|aj ?_
 refine lD (t:=37) rfl (fun q6=>?_) (fun q6=>?_)
 ·have q6:a.of_<0:=of_decide_eq_true q6
  rw[if_pos (.inl q6)] at hE
  subst hE
  refine aj ?_
  refine bo rfl<|aj ?_
  intro w hw
  exact⟨(),trivial,rfl,hw.msub ms⟩
 have q6:¬a.of_<0:=of_decide_eq_false q6
 refine az (fun q7=>?_) (fun q7=>?_)
 ·have q7:(n:Int)<=a.of_:=q7
  rw[if_pos (.inr q7)] at hE
  subst hE
  refine aj ?_
  intro w hw
  exact⟨(),trivial,rfl,hw.msub ms⟩
 have q7:¬(n:Int)<=a.of_:=q7
 rw[if_neg (fun h=>h.elim q6 q7)] at hE
 subst hE
 refine aj ?_
 intro w hw
 exact⟨(),trivial,rfl,hw.msub ms⟩
theorem M1 (fs:List au) (a:MA) (m:ar) (w:World) (hm:fi w.heap.size w a m) (hF:fq fs) (hR:bz fs m) :
  Calls Tryz.prog 123 #[.agg #[.slice a.Af m.F.length a.cf,.slice a.Ab m.B.length a.cb,.slice a.Ai m.I.length a.ci,.slice a.Ao m.out.length a.co,.int .i64 m.S,.int .i64 m.T]] w fun e w'=> ∃g:MA,True/\
   e= .returned (.tuple #[.agg #[.slice g.Af (eq m).F.length g.cf,.slice g.Ab (eq m).B.length g.cb,.slice g.Ai (eq m).I.length g.ci,.slice g.Ao (eq m).out.length g.co,.int .i64 (eq m).S,.int .i64 (eq m).T],.int .i64 0])/\Cw w.heap.size w [an (.slice g.Af (eq m).F.length g.cf) (eq m).F,an (.slice g.Ab (eq m).B.length g.cb) (eq m).B,an (.slice g.Ai (eq m).I.length g.ci) (eq m).I,an (.slice g.Ao (eq m).out.length g.co) (eq m).out] w':=by
 refine enter Tryz.func123 rfl Tryz.ntmps123 rfl<|aj ?_
 refine fun g1 _=>aj ?_
 refine fun g2 _=>aj ?_
 refine eL rfl Tryz.call115 (fun w hw=>E7 fs a m w (fi.ro hw hm) hF hR) (fun g _=>aj ?_)
 intro w hw
 exact⟨g,trivial,rfl,hw.msub ms⟩
theorem CE {m:ar} (h:MI m):(jx m).length<=1000000:=by
 have qi:=mV h.i.1
 have qo:=mV h.o.1
 have qb:=sS (f:=fJ) m.B (fun l hl=>mV (h.b.2 l hl).1)
 have qf:=sS (f:=gE) m.F (fun x hx=>wk (h.f.2 x hx))
 have hb:=h.b.1
 have hf:=h.f.1
 unfold jx
 simp only[aR,aq]
 omega
theorem El {fs:List au} {m:ar} (hp:ec fs=0) (hF:fq fs) (hR:bz fs m):mn fs (jx m)=0/\zc fs (jx m)=m:=by
 have ht:=Ee (AA hF hR)
 have hE:mn fs (jx m)=0:=by
  unfold mn
  rw[if_neg (fun e=>e hp),ht]
  exact nw.2 hR
 refine⟨hE,?_⟩
 unfold zc pq
 rw[if_pos hE,ht]
theorem M0 {B:Nat} {w0:World} {H:List aC} (gp gk:Nat) (vw vd:Value) (Ap:Option Addr) (cp:Nat) (fs:List au) (hs:bE w0 B (.slice Ap fs.length cp) fs) (hp:ec fs=0) (hF:fq fs) (a:MA) (m:ar) (hR:bz fs m)
  (hm:fi B w0 a m) (w:World) (hw:Cw B w0 (am gp [.pointer (some ⟨gk,0,none⟩)] 110::am gk [vw,.slice Ap fs.length cp,vd] 112::H) w) :
  Calls Tryz.prog 124 #[.agg #[.slice a.Af m.F.length a.cf,.slice a.Ab m.B.length a.cb,.slice a.Ai m.I.length a.ci,.slice a.Ao m.out.length a.co,.int .i64 m.S,.int .i64 m.T],.pointer (some ⟨gp,0,none⟩)] w fun e w'=> ∃g:MA,True/\
   e= .returned (.tuple #[.agg #[.slice g.Af m.F.length g.cf,.slice g.Ab m.B.length g.cb,.slice g.Ai m.I.length g.ci,.slice g.Ao m.out.length g.co,.int .i64 m.S,.int .i64 m.T],.int .i64 0])/\Cw B w0 (an (.slice g.Af m.F.length g.cf) m.F::an (.slice g.Ab m.B.length g.cb) m.B::an (.slice g.Ai m.I.length g.ci) m.I::an (.slice g.Ao m.out.length g.co) m.out::am gp [.pointer (some ⟨gk,0,none⟩)] 110::am gk [vw,.slice Ap fs.length cp,vd] 112::H) w':=by
 obtain⟨hE,hm2⟩:=El hp hF hR
 have hmi:=AA hF hR
 have hil:=CE hmi
 have hrest:=fun w h=>G7 Ap cp fs (jx m) m hm2 (by omega) w h
 rw[hE] at hrest
 refine aY Tryz.func124 rfl Tryz.ntmps124 rfl hw<|aj ?_
 refine fun g1 _=>aj ?_
 refine fun g2 _=>aj ?_
 refine dP [0,3,6,9,12,17,20,21,24,29,30] [] rfl [am g1 [.slice a.Af m.F.length a.cf,.slice a.Ab m.B.length a.cb,.slice a.Ai m.I.length a.ci,.slice a.Ao m.out.length a.co,.int .i64 m.S,.int .i64 m.T] 43,am gp [.pointer (some ⟨gk,0,none⟩)] 110,am gk [vw,.slice Ap fs.length cp,vd] 112]<|aj ?_
 refine kW rfl rfl Tryz.call118 (fun w hw=>EM a m w (hm.ro hw) hmi) ?_
 refine jt rfl rfl Tryz.call60 (fun w hw=>hrest w (hw.ro hs)) (fun g _=>aj ?_)
 intro w hw
 exact⟨g,trivial,rfl,hw.msub ms⟩
theorem GD {α:Type} (X:List α) (c:α) (H Bx:List α):(X++c::(H++Bx)).Perm (X++(Bx++c::H)):=List.Perm.append_left X (show (c::H++Bx).Perm (Bx++c::H) from List.perm_append_comm)
theorem NS {l:List ar} {m:ar} {i k:Nat} (hk:k<l.length) (h:k≠i):(l.set i m).take (k+1)=(l.set i m).take k++ [aw l k]:=by
 rw[ei _ k default (by rw[dt];exact hk),ak,nN,if_neg (by omega)]
 rfl
theorem NT {l:List ar} {m:ar} {i:Nat} (hi:i<l.length):(l.set i m).take (i+1)=(l.set i m).take i++ [m]:=by
 rw[ei _ i default (by rw[dt];exact hi),ak,nN,if_pos rfl,if_pos hi]
 rfl
theorem zv {B:Nat} {w0:World} {H:List aC} (gk i:Nat) (Aw:Option Addr) (cw:Nat) (vp vd:Value) (fs:List au) (l:List ar) (m2:ar) (f:FuncId) (cap:Array Value) (hl:bE w0 B (.slice Aw l.length cw) l) (hW:ln fs l) (hi:i<l.length) (hI2:aF m2.S/\aF m2.T)
  (hcall:∀a w,(callFunc f a).run Tryz.prog w= .ok (.enter f a) w)
  (hdo:∀(a:MA) (H':List aC) (w:World),fi B w0 a (aw l i)->Cw B w0 (am gk [.slice Aw l.length cw,vp,vd] 112::H++H') w->Calls Tryz.prog f (([.agg #[.slice a.Af (aw l i).F.length a.cf,.slice a.Ab (aw l i).B.length a.cb,.slice a.Ai (aw l i).I.length a.ci,.slice a.Ao (aw l i).out.length a.co,.int .i64 (aw l i).S,.int .i64 (aw l i).T]]:List Value)++cap.toList).toArray w fun e w'=> ∃g:MA,True/\
   e= .returned (.tuple #[.agg #[.slice g.Af m2.F.length g.cf,.slice g.Ab m2.B.length g.cb,.slice g.Ai m2.I.length g.ci,.slice g.Ao m2.out.length g.co,.int .i64 m2.S,.int .i64 m2.T],.int .i64 0])/\Cw B w0 (an (.slice g.Af m2.F.length g.cf) m2.F::an (.slice g.Ab m2.B.length g.cb) m2.B::an (.slice g.Ai m2.I.length g.ci) m2.I::an (.slice g.Ao m2.out.length g.co) m2.out::am gk [.slice Aw l.length cw,vp,vd] 112::H++H') w')
  (w:World) (hw:Cw B w0 (am gk [.slice Aw l.length cw,vp,vd] 112::H) w) :
  Calls Tryz.prog 122 #[.pointer (some ⟨gk,0,none⟩),.int .i64 (i:Int),.func (.func f) #[] cap] w fun e w'=> ∃q:Option Addr×Nat,True/\e= .returned (.tuple #[.agg #[.slice q.1 (l.set i m2).length q.2],.int .i64 0])/\Cw B w0 (an (.slice q.1 (l.set i m2).length q.2) (l.set i m2)::am gk [.slice Aw l.length cw,vp,vd] 112::H) w':=by
 have bl:=bx hl
 have h4:=hW.n4
 have hll:(l.set i m2).length=l.length:=dt ..
 refine aY Tryz.func122 rfl Tryz.ntmps122 rfl hw<|aj ?_
 refine fun g1 _=>aj ?_
 refine fun g2 _=>aj ?_
 refine dJ (fun w h=>Cw.nilO ar h) ?_
 refine dG (fun g:Nat×Option Addr×Nat=>g.1<=l.length) (fun g=>l.length - g.1) (fun g=> [(1,.int .i64 (i:Int)),(2,.func (.func f) #[] cap),(6,.pointer (some ⟨g1,0,none⟩)),(8,.pointer (some ⟨g2,0,none⟩)),(17,.slice Aw l.length cw),(18,.int .i64 (l.length:Int)),(19,.int .i64 (g.1:Int))]) (fun g=> [am g1 [.slice none 0 0] 27,am g2 [.slice g.2.1 ((l.set i m2).take g.1).length g.2.2] 27,an (.slice g.2.1 ((l.set i m2).take g.1).length g.2.2) ((l.set i m2).take g.1)]++(am gk [.slice Aw l.length cw,vp,vd] 112::H)) (0,none,0) (bi _) ?_ (hh:=(fun _ h=>h.msub ms))
 rintro⟨k,A',c'⟩ hk
 try dsimp only
 have hk:k<=l.length:=hk
 have htl:((l.set i m2).take k).length=k:=by rw[ax];omega
 refine az (fun hlt=>?_) (fun hlt=>?_)
 ·have hkl:k<l.length:=by omega
  obtain⟨a,hm,hcell⟩:=hl.mc hkl
  have hI:=hW.i64 hkl
  refine fx (fw ?_)
  refine dx (fun _:Option Addr×Nat=>True) (fun _=> [(1,.int .i64 (i:Int)),(2,.func (.func f) #[] cap),(6,.pointer (some ⟨g1,0,none⟩)),(8,.pointer (some ⟨g2,0,none⟩)),(17,.slice Aw l.length cw),(18,.int .i64 (l.length:Int)),(19,.int .i64 (k:Int))]) (fun q=> [am g1 [.slice none 0 0] 27,am g2 [.slice q.1 ((l.set i m2).take (k+1)).length q.2] 27,an (.slice q.1 ((l.set i m2).take (k+1)).length q.2) ((l.set i m2).take (k+1))]++(am gk [.slice Aw l.length cw,vp,vd] 112::H)) ?_ ?_
  ·refine aj ?_
   refine dA (_) rfl ((.ro hl)) ?_
   refine iX rfl (hcell _)<|aj ?_
   refine fun g3 _=>bV (fun hki=>?_) (fun hki=>?_)
   ·have hki:k≠i:=by omega
    refine aj ?_
    refine dP [0,3,6,11,14,17,19,23] [5,6,7] rfl [am g2 [.slice A' ((l.set i m2).take k).length c'] 27,am g3 [.slice a.Af (aw l k).F.length a.cf,.slice a.Ab (aw l k).B.length a.cb,.slice a.Ai (aw l k).I.length a.ci,.slice a.Ao (aw l k).out.length a.co,.int .i64 (aw l k).S,.int .i64 (aw l k).T] 43]<|aj ?_
    refine jt rfl rfl oo (fun w hw=>kv a (aw l k) w (hm.ro hw) (iz hW.f (hW.r _ (fG hkl)))) (fun ga _=>aj ?_)
    intro g4 _
    refine pE rfl (cV (α:=ar) (bytes:=112) (aw l k) [an (.slice ga.Af (aw l k).F.length ga.cf) (aw l k).F,an (.slice ga.Ab (aw l k).B.length ga.cb) (aw l k).B,an (.slice ga.Ai (aw l k).I.length ga.ci) (aw l k).I,an (.slice ga.Ao (aw l k).out.length ga.co) (aw l k).out] (NS hkl hki) dQ (bM lp) rfl (vM fc fc fc fc fc fc) (oP hI) (by omega) (by omega) rfl rfl rfl) (fun⟨A5,c5⟩ _=>?_)
    refine aJ ?_
    refine dg (A5,c5) (trivial) (hh:=(fun _ h=>h.msub ms))
   obtain rfl:k=i:=by omega
   refine aj ?_
   refine oE (fU rfl rfl rfl hcall (fun w hw=>hdo a [am g1 [.slice none 0 0] 27,am g2 [.slice A' ((l.set k m2).take k).length c'] 27,an (.slice A' ((l.set k m2).take k).length c') ((l.set k m2).take k),am g3 [.slice a.Af (aw l k).F.length a.cf,.slice a.Ab (aw l k).B.length a.cb,.slice a.Ai (aw l k).I.length a.ci,.slice a.Ao (aw l k).out.length a.co,.int .i64 (aw l k).S,.int .i64 (aw l k).T] 43] w hm (Cw.perm (show Cw B w0 ([am g1 [.slice none 0 0] 27,am g2 [.slice A' ((l.set k m2).take k).length c'] 27,an (.slice A' ((l.set k m2).take k).length c') ((l.set k m2).take k),am g3 [.slice a.Af (aw l k).F.length a.cf,.slice a.Ab (aw l k).B.length a.cb,.slice a.Ai (aw l k).I.length a.ci,.slice a.Ao (aw l k).out.length a.co,.int .i64 (aw l k).S,.int .i64 (aw l k).T] 43]++(am gk [.slice Aw l.length cw,vp,vd] 112::H)) w from hw.msub ms) List.perm_append_comm))) (fun g _=>aj ?_)
   refine fun g5 _=>aj ?_
   refine cT (t:=41) (v':= .bool false) rfl (rfl) ?_
   refine bR rfl<|fx (fw ?_)
   refine dJ (fun w h=>h.perm (GD [_,_,_,_,_] _ H [am g1 [.slice none 0 0] 27,am g2 [.slice A' ((l.set k m2).take k).length c'] 27,an (.slice A' ((l.set k m2).take k).length c') ((l.set k m2).take k),am g3 [.slice a.Af (aw l k).F.length a.cf,.slice a.Ab (aw l k).B.length a.cb,.slice a.Ai (aw l k).I.length a.ci,.slice a.Ao (aw l k).out.length a.co,.int .i64 (aw l k).S,.int .i64 (aw l k).T] 43]))<|aj ?_
   intro g6 _
   refine oE (cV (α:=ar) (bytes:=112) m2 [an (.slice g.Af m2.F.length g.cf) m2.F,an (.slice g.Ab m2.B.length g.cb) m2.B,an (.slice g.Ai m2.I.length g.ci) m2.I,an (.slice g.Ao m2.out.length g.co) m2.out] (NT hi) dQ (bM lp) rfl (vM fc fc fc fc fc fc) (oP hI2) (by omega) (by omega) rfl rfl rfl) (fun⟨A5,c5⟩ _=>?_)
   refine aJ ?_
   refine dg (A5,c5) (trivial) (hh:=(fun _ h=>h.msub ms))
  rintro⟨A5,c5⟩ _
  refine aJ ?_
  refine dv (k+1,A5,c5) (by show k+1<=_;omega) (by show _ - _<_ - _;omega) (hh:=(fun _ h=>h.msub ms))
 obtain rfl:k=l.length:=by omega
 rw[bg (by omega)]
 refine aj ?_
 intro w hw
 exact⟨(A',c'),trivial,rfl,hw.msub ms⟩
end
