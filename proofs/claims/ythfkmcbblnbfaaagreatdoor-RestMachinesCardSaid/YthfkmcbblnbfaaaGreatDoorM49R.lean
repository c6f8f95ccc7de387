/- Lemmas of one proof. -/
import Derived.Test.YthfkmcbblnbfaaaGreatDoorM0R
import Derived.Test.YthfkmcbblnbfaaaGreatDoorM38R
import Derived.Test.YthfkmcbblnbfaaaGreatDoorM23R
import Derived.Test.YthfkmcbblnbfaaaGreatDoorM34R
import Derived.Test.YthfkmcbblnbfaaaGreatDoorM42R

namespace Go.Proofs.YthfkmcbblnbfaaaGreatDoor
set_option maxRecDepth 100000
set_option maxHeartbeats 16000000
open Go.RowKit
section
theorem K0:Tryz.prog.eqGuardType Tryz.prog.depth 86=false:=by kernel_rfl
theorem Ql:Tryz.prog.stoodInHeld 86=false:=by kernel_rfl
theorem Qh (w : World) (a b c d : Int) : (binOp .neq 86 (.agg #[.int .i64 a, .int .i64 b]) (.agg #[.int .i64 c, .int .i64 d])).run Tryz.prog w = .ok (.bool (!(a == c && b == d))) w := by
  have h := Ql
  by_cases h1 : a = c <;> by_cases h2 : b = d <;> simp [go_sem, h, h1, h2]
theorem O6 (x y : Operand) (u v : Array Value) (w : World) : (eqGuard .neq 86 x y (.agg u) (.agg v)).run Tryz.prog w = .ok () w := by
  have h := K0
  simp [eqGuard, go_sem, h]
theorem I3 {fs:List au} (hF:gu fs) {kf:Nat} (hk:kf<fs.length) {pc to_:Int} (hc:gJ (aq fs kf) pc to_=true) {t0:List Int} (h0:fy fs (aq fs kf) (pc - 1)=some t0) :
  (0<=to_/\to_<fs.length)/\∃t,fy fs (aq fs kf) pc=some t/\((aq fs to_.toNat).result≠0->1<=t.length):=by
 unfold gJ at hc
 simp only[db,decide_eq_true_eq] at hc
 obtain⟨hw,hcc,hca⟩:=hc
 have hw:=dN.1 hw
 obtain⟨_,h1,_,_,v0,hv0,hn0⟩:=(hF.e _ hk).at_ _ _ h0
 have hop:=(jM hF.p hk).1.op (pc - 1).toNat (by omega)
 generalize bx (aq fs kf).C (pc - 1).toNat=oz at hcc hca hv0 hn0 hop
 have h2:=hop.call hcc
 rw[hca] at h2
 obtain⟨t,ht,hle⟩:=hn0 pc (by simp[dy,hcc])
 obtain⟨T0,V0,e0,_,_,_,rfl⟩:=jm.1 hv0
 simp[tl,hcc] at e0
 obtain⟨rfl,rfl⟩:=e0
 rw[hca] at hle
 refine⟨h2,t,ht,fun hr=>?_⟩
 unfold bL at hle
 rw[if_neg hr] at hle
 have:=(uU hle).2.1
 omega
theorem Ot {A:Option Addr} {m c k:Nat} {xs:List Int} {B:Nat} {w0 w:World} {H:List aJ} (hk:k<=m) (h:Cw B w0 (lG (.slice A m c) xs::H) w):Cw B w0 (lG (.slice (iU A 0 c 1) k (c - 0)) (xs.take k)::H) w:=by
 refine h.upd fun F ho _=>⟨F,⟨ho.1,fun w' hw'=>?_⟩,rfl,rfl,rfl,aK _,fun _ _ _=>rfl,fun b hb=> .inl hb⟩
 have:=(ho.2 w' hw').cut 0 k (aX _) hk
 rw[th,oy] at this
 exact this
theorem Mw {A:Option Addr} {c:Nat} {xs:List Int} {B:Nat} {w0 w:World} {H:List aJ} (h:Cw B w0 (lG (.slice A xs.length c) xs::H) w):Cw B w0 (lG (.slice (iU A 0 c 1) xs.dropLast.length (c - 0)) xs.dropLast::H) w:=by
 have:=Ot (k:=xs.length - 1) (by omega) h
 rw[<-tk,<-List.length_dropLast] at this
 exact this
theorem FO (a:MA) (m:az) (Ap:Option Addr) (cp:Nat) (fs:List au) (i:Nat) (w:World) (hs:Sl w (.slice Ap fs.length cp) fs) (hm:dS w.heap.size w a m) (hF:gu fs) (hfit:jX m.F) (hi:i<m.F.length) (hfn:∀x∈m.F,0<=x.func/\x.func<fs.length) (E:Int) (hE:fO fs m.B.length m.F i=E) :
  Calls Tryz.prog 141 #[.agg #[.slice Ap fs.length cp],.agg #[.slice a.Af m.F.length a.cf,.slice a.Ab m.B.length a.cb,.slice a.Ai m.I.length a.ci,.slice a.Ao m.out.length a.co,.int .i64 m.S,.int .i64 m.T],.int .i64 (i:Int)] w fun e w'=>e= .returned (.int .i64 E)/\Below w.heap.size w w':=by
 have bf:=bE hm.f
 have bp:=bE hs
 have bb:=bE hm.b
 obtain⟨A1,c1,A2,c2,hl,hst,hI,hcell⟩:=hm.f.fr hi
 obtain⟨hb1,hb2⟩:=hfit.2 (aN m.F i) (fE hi)
 have hx:=hfn _ (fE hi)
 obtain⟨kf,hkf⟩:∃kf:Nat,(aN m.F i).func=kf:=⟨(aN m.F i).func.toNat,by omega⟩
 have hkl:kf<fs.length:=by omega
 obtain⟨hok,hn0⟩:=jM hF.p hkl
 have hty:=Gg hF.p hkl
 obtain⟨F1,d1,F2,d2,hfl,hfc,hfi,hfcell⟩:=hs.fn hkl
 have hfl6:(aq fs kf).L.length<=6:=(hok.op 0 hn0).par kf hkl |>.2
 have hlt2:=(kJ ((iz hF.p).2.2 _ (jp hkl))).2.2.2.1
 have hff:ji fs m.F i=aq fs kf:=by unfold ji;rw[hkf,bw]
 have hent:∀pc t,fy fs (aq fs kf) pc=some t->Ty t:=fun pc t h=>((hF.e kf hkl).at_ pc t h).2.2.2.1
 have hbeh:∀{pc to_:Int} (_:gJ (aq fs kf) pc to_=true) {t0:List Int},fy fs (aq fs kf) (pc - 1)=some t0->(0<=to_/\to_<fs.length)/\∃t,fy fs (aq fs kf) pc=some t/\((aq fs to_.toNat).result≠0->1<=t.length):=fun hc _ h0=>I3 hF hkl hc h0
 unfold fO at hE
 obtain⟨q,hq⟩:∃q,ig fs m.F i=q:=⟨_,rfl⟩
 rw[hff,hq] at hE
 unfold ig at hq
 rw[hff] at hq
 rw[hkf] at hcell
 have hrent:∀pc q0,fy fs (aq fs kf) pc=q0->∀w1,Sl w1 (.slice Ap fs.length cp) fs->Calls Tryz.prog 199 #[.agg #[.slice Ap fs.length cp],.int .i64 (kf:Int),.int .i64 pc] w1 fun e w'=> ∃g:Option Addr×Nat,True/\e= .returned (.tuple #[.slice g.1 (q0.getD []).length g.2,.bool q0.isSome])/\
   Cw w1.heap.size w1 [lG (.slice g.1 (q0.getD []).length g.2) (q0.getD [])] w':=fun pc q0 h w1 h1=>FQ Ap cp fs kf pc q0 h w1 h1 hkl hok hty hn0
 generalize aq fs kf=f at hE hfl hfc hfi hfcell hfl6 hlt2 hent hbeh hq hrent
 obtain⟨l,hlm⟩:∃l,m.F=l:=⟨_,rfl⟩
 generalize hxx:aN m.F i=x at hE hl hst hI hcell hb1 hb2 hq
 have bx1:=bE hl
 have bx2:=bE hst
 have bc:=bE hfc
 refine enter Tryz.func141 rfl Tryz.ntmps141 rfl<|aj ?_
 refine fun g1 _=>aj ?_
 refine fun g2 _=>aj ?_
 refine cS (i) rfl ((.ro hm.f)) ?_
 refine iY rfl (hcell _)<|aj ?_
 refine fun g3 _=>aj ?_
 refine cS (kf) rfl ((.ro hs)) ?_
 refine iY rfl (hfcell _)<|aj ?_
 refine fun g4 _=>cQ (fun h1=>?_) (fun h1=>?_)
 ·rw[if_pos (show x.L.length≠f.L.length from fun e=>h1 (by rw[e]))] at hE
  subst hE
  refine aj ?_
  intro w hw
  exact⟨rfl,hw.below⟩
 have h1:x.L.length=f.L.length:=by omega
 rw[if_neg (fun h=>h h1)] at hE
 have hal:(x.L++x.K).length=x.L.length+x.K.length:=ar
 refine gI (gF ?_)
 refine eh (fun _:Option Addr×Nat=>True) (fun g=> [(2,.int .i64 (i:Int)),(3,.pointer (some ⟨g1,0,none⟩)),(4,.pointer (some ⟨g2,0,none⟩)),(7,.pointer (some ⟨g3,0,none⟩)),(8,.pointer (some ⟨g4,0,none⟩)),(9,.slice g.1 (x.L++x.K).length g.2)]) (fun g=> [ak (.slice g.1 (x.L++x.K).length g.2) (x.L++x.K),am g3 [.int .i64 (kf:Int),.int .i64 x.pc,.slice A1 x.L.length c1,.slice A2 x.K.length c2] 118,am g4 [.int .i64 f.params,.slice F1 f.L.length d1,.int .i64 f.result,.slice F2 f.C.length d2] 84,am g2 [.slice a.Af m.F.length a.cf,.slice a.Ab m.B.length a.cb,.slice a.Ai m.I.length a.ci,.slice a.Ao m.out.length a.co,.int .i64 m.S,.int .i64 m.T] 43,am g1 [.slice Ap fs.length cp] 24]) ?_ ?_
 ·refine bz [3,6,12,15,2,11,20,22] [6,7] rfl ?_
  refine ay ?_
  refine cY rfl (cE fc dR rfl rfl (by rfl)) rfl rfl ha ?_
  refine ay ?_
  refine cY rfl (cE fc dR rfl rfl (by rfl)) rfl rfl ha ?_
  refine pE rfl ((fg (cs:= []) ax aI lI rfl rfl rfl rfl rfl).mem (H'':=fun g=>ak (.slice (some ⟨g,0,none⟩) 0 0) ([]:List aC)::_) fun g w h=>bt (α:=aC) (m:=0) [] rfl (by simp) rfl (by decide) h) (fun ge _=>?_)
  refine pE rfl (di (α:=aC) (bytes:=16) (xs:= []) (ys:=x.L) (bU x.L).symm ax (aV du) rfl fc (.ro hl) (by simp only[aD];omega) (by simp only[aD];omega) rfl rfl rfl) (fun⟨A5,c5⟩ _=>?_)
  try dsimp only
  refine pE rfl (di (α:=aC) (bytes:=16) (xs:=x.L) (ys:=x.K) rfl ax (aV du) rfl fc (.ro hst) (by omega) (by omega) rfl rfl rfl) (fun⟨A6,c6⟩ _=>?_)
  refine aO ?_
  refine bu<|bS (A6,c6) (trivial) (hh:=(fun _ h=>h.msub ms))
 rintro⟨A6,c6⟩ _
 refine aO ?_
 refine dA (fun k:Nat=>k<=(x.L++x.K).length/\∀j,j<k->eM m.B.length ((x.L++x.K).getD j default)=true) (fun k=>(x.L++x.K).length - k) (fun k=> [(2,.int .i64 (i:Int)),(3,.pointer (some ⟨g1,0,none⟩)),(4,.pointer (some ⟨g2,0,none⟩)),(7,.pointer (some ⟨g3,0,none⟩)),(8,.pointer (some ⟨g4,0,none⟩)),(9,.slice A6 (x.L++x.K).length c6),(10,.int .i64 (k:Int))]) (fun _=> [ak (.slice A6 (x.L++x.K).length c6) (x.L++x.K),am g3 [.int .i64 (kf:Int),.int .i64 x.pc,.slice A1 x.L.length c1,.slice A2 x.K.length c2] 118,am g4 [.int .i64 f.params,.slice F1 f.L.length d1,.int .i64 f.result,.slice F2 f.C.length d2] 84,am g2 [.slice a.Af m.F.length a.cf,.slice a.Ab m.B.length a.cb,.slice a.Ai m.I.length a.ci,.slice a.Ao m.out.length a.co,.int .i64 m.S,.int .i64 m.T] 43,am g1 [.slice Ap fs.length cp] 24]) 0 (⟨aX _,fun _ h=>absurd h (gN _)⟩) ?_
 rintro k hk'
 obtain⟨hk,hno⟩:k<=(x.L++x.K).length/\∀j,j<k->eM m.B.length ((x.L++x.K).getD j default)=true:=hk'
 refine av (fun hlt=>?_) (fun hlt=>?_)
 ·have hkl2:k<(x.L++x.K).length:=by omega
  obtain⟨vb,hvb⟩:∃b,eM m.B.length ((x.L++x.K).getD k default)=b:=⟨_,rfl⟩
  have hbad:vb=false->E=3:=fun e=>by rw[e] at hvb;rw[if_pos (Fo hkl2 hvb)] at hE;exact hE.symm
  have hgood:vb=true->∀j,j<k+1->eM m.B.length ((x.L++x.K).getD j default)=true:=fun e j hj=>(fK j k).elim (hno j) (fun h=>by obtain rfl:j=k:=(by omega);rw[hvb,e])
  refine aj ?_
  refine bz [0,3,6,9,12,15,18,21,24,27,30,33,36,39,44,45,48,51,54,57,60,63,66,69,72,75,78,81,84,87,92,93,96,99] [] rfl<|aj ?_
  refine tE rfl (bg (k:=k) ax aI (SF.own rfl fc) (by omega) rfl rfl rfl)<|aj ?_
  refine tE rfl (bQ (fun w hw=>(SF.val (SF.own rfl fc) hkl2 default) w hw 0 _ rfl) rfl rfl AL) ?_
  refine ay ?_
  rcases Bool.eq_false_or_eq_true ((x.L++x.K).getD k default).ref with hr | hr
  ·have hvb2:bq ((x.L++x.K).getD k default).n 0 m.B.length=vb:=by rw[<-hvb];unfold eM;rw[if_pos hr]
   rw[hr]
   refine cC (t:=54) (v':= .bool true) rfl (rfl)<|aj ?_
   refine tE rfl (bg (k:=k) ax aI (SF.own rfl fc) (by omega) rfl rfl rfl)<|aj ?_
   refine tE rfl (bQ (fun w hw=>(SF.val (SF.own rfl fc) hkl2 default) w hw 1 _ rfl) rfl rfl be)<|aj ?_
   refine km rfl rfl jA ((fun w hw=>fX ((fun w hw=>fk _ _ _ w) w hw))) ?_
   refine ay ?_
   refine ay ?_
   refine ay ?_
   rw[hvb2]
   cases vb
   ·refine cC (t:=66) (v':= .bool true) rfl (rfl)<|aj ?_
    refine nU rfl rfl rfl (.inr ha) ?_ gh
    refine aj ?_
    refine aU rfl<|aj ?_
    intro w hw
    exact⟨by rw[hbad rfl],hw.below⟩
   refine cC (t:=66) (v':= .bool false) rfl (rfl)<|aj ?_
   refine tE rfl (bg (k:=k) ax aI (SF.own rfl fc) (by omega) rfl rfl rfl)<|aj ?_
   refine tE rfl (bQ (fun w hw=>(SF.val (SF.own rfl fc) hkl2 default) w hw 0 _ rfl) rfl rfl AL) ?_
   refine ay ?_
   refine ay ?_
   rw[hr]
   refine cC (t:=73) (v':= .bool false) rfl (rfl)<|aj ?_
   refine nU rfl rfl rfl (.inr ha) ?_ gh
   refine aj ?_
   refine cu rfl<|aj ?_
   refine cU (k+1) (⟨by show k+1<=_;omega,hgood rfl⟩) (by show _ - _<_ - _;omega)
  have hvb2:cd ((x.L++x.K).getD k default).n=vb:=by rw[<-hvb];unfold eM;rw[if_neg (by rw[hr];decide)]
  rw[hr]
  refine cC (t:=54) (v':= .bool false) rfl (rfl)<|aj ?_
  refine nU rfl rfl rfl (.inr ha) ?_ gh
  refine aj ?_
  refine tE rfl (bg (k:=k) ax aI (SF.own rfl fc) (by omega) rfl rfl rfl)<|aj ?_
  refine tE rfl (bQ (fun w hw=>(SF.val (SF.own rfl fc) hkl2 default) w hw 0 _ rfl) rfl rfl AL) ?_
  refine ay ?_
  refine ay ?_
  rw[hr]
  refine cC (t:=73) (v':= .bool true) rfl (rfl)<|aj ?_
  refine tE rfl (bg (k:=k) ax aI (SF.own rfl fc) (by omega) rfl rfl rfl)<|aj ?_
  refine tE rfl (bQ (fun w hw=>(SF.val (SF.own rfl fc) hkl2 default) w hw 1 _ rfl) rfl rfl be) ?_
  refine km rfl rfl Tryz.call81 ((fun w hw=>fX ((fun w hw=>nt _ w) w hw)))<|aj ?_
  rw[hvb2]
  cases vb
  ·refine cK (t:=82) (v':= .bool true) rfl (rfl) ?_
   refine aU rfl<|aj ?_
   intro w hw
   exact⟨by rw[hbad rfl],hw.below⟩
  refine cK (t:=82) (v':= .bool false) rfl (rfl) ?_
  refine cu rfl<|aj ?_
  refine cU (k+1) (⟨by show k+1<=_;omega,hgood rfl⟩) (by show _ - _<_ - _;omega)
 obtain rfl:k=(x.L++x.K).length:=by omega
 rw[if_neg (De hno)] at hE
 refine aj ?_
 refine dA (fun k:Nat=>k<=x.L.length/\∀j,j<k->fL (x.L.getD j default) (f.L.getD j 0)=true) (fun k=>x.L.length - k) (fun k=> [(2,.int .i64 (i:Int)),(3,.pointer (some ⟨g1,0,none⟩)),(4,.pointer (some ⟨g2,0,none⟩)),(7,.pointer (some ⟨g3,0,none⟩)),(8,.pointer (some ⟨g4,0,none⟩)),(11,.int .i64 (k:Int))]) (fun _=> [am g3 [.int .i64 (kf:Int),.int .i64 x.pc,.slice A1 x.L.length c1,.slice A2 x.K.length c2] 118,am g4 [.int .i64 f.params,.slice F1 f.L.length d1,.int .i64 f.result,.slice F2 f.C.length d2] 84,am g2 [.slice a.Af m.F.length a.cf,.slice a.Ab m.B.length a.cb,.slice a.Ai m.I.length a.ci,.slice a.Ao m.out.length a.co,.int .i64 m.S,.int .i64 m.T] 43,am g1 [.slice Ap fs.length cp] 24]) 0 (⟨aX _,fun _ h=>absurd h (gN _)⟩) ?_
 rintro k hk'
 obtain⟨hk,hno2⟩:k<=x.L.length/\∀j,j<k->fL (x.L.getD j default) (f.L.getD j 0)=true:=hk'
 refine av (fun hlt=>?_) (fun hlt=>?_)
 ·have hkl2:k<x.L.length:=by omega
  have ht2:=hlt2 (f.L.getD k 0) (cI (d:=0) (by omega))
  refine aj ?_
  refine bz [0,3,6,9,12,15,18,21,24,27,32,33] [] rfl<|aj ?_
  refine tE rfl (bg (k:=k) ax aI (.ro hl) (by omega) rfl rfl rfl) ?_
  refine tE rfl (eF (SF.val (SF.ro hl) hkl2 default) rfl rfl ie aI)<|aj ?_
  refine tE rfl (bg (k:=k) aw bj (.ro hfl) (by omega) rfl rfl rfl) ?_
  refine tE rfl (bQ (SF.int (.ro hfl) (by omega)) rfl rfl be) ?_
  refine km rfl rfl Tryz.call198 (fun w hw=>zC (x.L.getD k default) (f.L.getD k 0) (by omega) w)<|aj ?_
  refine bT rfl (fun hb=>?_) (fun hb=>?_)
  ·have hb:fL (x.L.getD k default) (f.L.getD k 0)=false:=by simpa using hb
   rw[if_pos (ve hkl2 hb)] at hE
   subst hE
   refine aj ?_
   intro w hw
   exact⟨rfl,hw.below⟩
  have hb:fL (x.L.getD k default) (f.L.getD k 0)=true:=by simpa using hb
  refine aj ?_
  refine cU (k+1) (⟨by show k+1<=_;omega,fun j hj=>(fK j k).elim (hno2 j) (fun h=>by obtain rfl:j=k:=(by omega);exact hb)⟩) (by show _ - _<_ - _;omega)
 obtain rfl:k=x.L.length:=by omega
 rw[if_neg (by rw[lY.2 hno2];decide)] at hE
 obtain⟨q0,hq0⟩:∃q0,fy fs f x.pc=q0:=⟨_,rfl⟩
 rw[hq0] at hq
 refine aj ?_
 refine eb rfl Tryz.call199 (fun w hw=>hrent x.pc q0 hq0 w (hw.ro hs)) (fun⟨A7,c7⟩ _=>?_)
 refine aO ?_
 refine iQ (fun g:List Int×(Option Addr×Nat)=>q=some g.1/\Ty g.1) (fun g=> [(7,.pointer (some ⟨g3,0,none⟩)),(12,.slice g.2.1 g.1.length g.2.2)]) (fun g=> [lG (.slice g.2.1 g.1.length g.2.2) g.1,am g3 [.int .i64 (kf:Int),.int .i64 x.pc,.slice A1 x.L.length c1,.slice A2 x.K.length c2] 118,am g4 [.int .i64 f.params,.slice F1 f.L.length d1,.int .i64 f.result,.slice F2 f.C.length d2] 84,am g2 [.slice a.Af m.F.length a.cf,.slice a.Ab m.B.length a.cb,.slice a.Ai m.I.length a.ci,.slice a.Ao m.out.length a.co,.int .i64 m.S,.int .i64 m.T] 43,am g1 [.slice Ap fs.length cp] 24]) ?_ ?_
 ·refine eo rfl (fun hi2=>?_) (fun hi2=>?_)
  ·have hi1:i+1<m.F.length:=by omega
   obtain⟨A3,c3,A4,c4,_,_,hI2,hcell2⟩:=hm.f.fr (k:=i+1) hi1
   obtain⟨to_,hto⟩:∃t,(aN m.F (i+1)).func=t:=⟨_,rfl⟩
   have hy:=hfn _ (fE hi1)
   rw[hto] at hy hcell2 hq
   rw[if_neg (by omega)] at hq
   obtain⟨cb,hcb⟩:∃b,gJ f x.pc to_=b:=⟨_,rfl⟩
   have hbad:cb=false->E=5:=fun e=>by
    rw[hcb,e,if_pos rfl] at hq
    rw[<-hq] at hE
    exact hE.symm
   refine aj ?_
   refine bh (t:=120) (v':= .int .i64 ((i+1:Nat):Int)) rfl (congrArg (Value.int .i64) (by omega)) ?_
   refine sE (bg (k:=i+1) cD dI (.ro hm.f) (by omega) rfl rfl rfl)<|aj ?_
   refine eH rfl (fun w hw=>hcell2 _ w hw 0 _ rfl) ?_
   refine ay ?_
   refine bH<|cc<|cc<|bO<|ay ?_
   refine dT (cE fc be rfl rfl (by rfl)) rfl rfl ?_
   refine ay ?_
   refine ay ?_
   by_cases p1:x.pc<1
   ·have hc0:cb=false:=by rw[<-hcb];unfold gJ;rw[show bq x.pc 1 f.C.length=false from by rw[pd];exact fun h=>by have:=dN.1 h;omega];rfl
    refine bh (t:=127) (v':= .bool true) rfl (congrArg Value.bool (decide_eq_true p1))<|aj ?_
    refine aU rfl<|aj ?_
    intro w hw
    exact⟨by rw[hbad hc0],hw.below⟩
   refine bh (t:=127) (v':= .bool false) rfl (congrArg Value.bool (decide_eq_false p1)) ?_
   refine ay ?_
   refine dT (cE fc be rfl rfl (by rfl)) rfl rfl ?_
   refine ay ?_
   refine dT (cE fc pB rfl rfl (by rfl)) rfl rfl ?_
   refine dT (kT dW rfl rfl) rfl rfl<|ay ?_
   refine ay ?_
   refine ay ?_
   by_cases p2:(f.C.length:Int)<x.pc
   ·have hc0:cb=false:=by rw[<-hcb];unfold gJ;rw[show bq x.pc 1 f.C.length=false from by rw[pd];exact fun h=>by have:=dN.1 h;omega];rfl
    refine bh (t:=135) (v':= .bool true) rfl (congrArg Value.bool (decide_eq_true p2))<|aj ?_
    refine aU rfl<|aj ?_
    intro w hw
    exact⟨by rw[hbad hc0],hw.below⟩
   obtain⟨kp,hkp⟩:∃kp:Nat,x.pc - 1=kp:=⟨(x.pc - 1).toNat,by omega⟩
   have hcb2:((bx f.C kp).c == 12 && (bx f.C kp).a == to_)=cb:=by
    rw[<-hcb]
    unfold gJ
    rw[dN.2 (by omega),hkp,bw,Bool.true_and]
    rfl
   refine bh (t:=135) (v':= .bool false) rfl (congrArg Value.bool (decide_eq_false p2))<|aj ?_
   refine bh (t:=140) (v':= .int .i64 (kp:Int)) rfl (congrArg (Value.int .i64) hkp) ?_
   refine sE (bg (k:=kp) dW fM (.ro hfc) (by omega) rfl rfl rfl) ?_
   refine sE (eF (cs:= [_,_]) (SF.op (.ro hfc) (by omega)) rfl rfl wM fM)<|aj ?_
   refine sE (mL rfl rfl rfl (fun w=>Qh w _ _ _ _) (fun w=>O6 _ _ _ _ w))<|aj ?_
   rw[hcb2]
   cases cb
   ·refine cK (t:=146) (v':= .bool true) rfl (rfl) ?_
    refine aU rfl<|aj ?_
    intro w hw
    exact⟨by rw[hbad rfl],hw.below⟩
   refine cK (t:=146) (v':= .bool false) rfl (rfl) ?_
   refine cu rfl<|aj ?_
   rw[hcb,if_neg (by decide)] at hq
   obtain⟨q1,hq1⟩:∃q1,fy fs f (x.pc - 1)=q1:=⟨_,rfl⟩
   rw[hq1] at hq
   refine eb rfl Tryz.call199 (fun w hw=>hrent (x.pc - 1) q1 hq1 w (hw.ro hs)) (fun⟨A9,c9⟩ _=>?_)
   refine aO ?_
   cases q1 with
   | none=>
    rw[if_pos (show (none:Option (List Int)).isSome=false from rfl)] at hq
    rw[<-hq] at hE
    refine cK (t:=158) (v':= .bool true) rfl (rfl) ?_
    refine aU rfl<|aj ?_
    intro w hw
    exact⟨by rw[<-hE],hw.below⟩
   | some t0=>
    rw[if_neg (by simp)] at hq
    obtain⟨_,t,ht,htl⟩:=hbeh hcb hq1
    rw[hq0] at ht
    subst ht
    obtain⟨kt,hkt⟩:∃kt:Nat,to_=kt:=⟨to_.toNat,by omega⟩
    have hktl:kt<fs.length:=by omega
    obtain⟨G1,e1,G2,e2,_,_,hGi,hgcell⟩:=hs.fn hktl
    have hres:=(hty.res kt hktl).1
    have hTy:=hent _ _ hq0
    have hq:some (if (aq fs kt).result≠0 then t.dropLast else t)=q:=by
     rw[<-hq]
     unfold ji
     rw[hto,hkt,bw]
     rfl
    rw[hkt,bw] at htl
    refine cK (t:=158) (v':= .bool false) rfl (rfl) ?_
    refine cu rfl<|aj ?_
    refine bh (t:=161) (v':= .int .i64 (kt:Int)) rfl (congrArg (Value.int .i64) hkt) ?_
    refine sE (bg (k:=kt) eC eK (.ro hs) (by omega) rfl rfl rfl)<|aj ?_
    refine eH rfl (fun w hw=>hgcell _ w hw 2 _ rfl)<|av (fun hr=>?_) (fun hr=>?_)
    ·have hr:0<(aq fs kt).result:=hr
     rw[if_pos (by omega)] at hq
     have htl:=htl (by omega)
     have hgl:((some t).getD []).length=t.length:=rfl
     refine dY (p:=t.length<=140737488355328/\t.length<=c7) (fun w hw=>⟨bE (SF.at_ (SF.rd (xs:=t) (m:=t.length) (A:=A7) (c:=c7) rfl fc) hw),(SF.at_ (SF.rd (xs:=t) (m:=t.length) (A:=A7) (c:=c7) rfl fc) hw).cap⟩) fun⟨tb,tc⟩=>?_
     refine aj ?_
     refine bh (t:=169) (v':= .int .i64 ((t.length - 1:Nat):Int)) rfl (congrArg (Value.int .i64) (by omega)) ?_
     refine sE (zI (lo:=0) (hi:=t.length - 1) (k:=t.dropLast.length) aw bj ⟨by omega,by omega⟩ (by rw[List.length_dropLast];rfl) rfl rfl rfl rfl)<|aj ?_
     refine tp (t.dropLast,(iU A7 0 c7 1,c7 - 0)) (⟨hq.symm,fun y hy=>hTy y (List.dropLast_subset t hy)⟩) (hh:=(fun w h=>(Mw (h.msub (T:= [lG (.slice A7 t.length c7) t,am g3 [.int .i64 (kf:Int),.int .i64 x.pc,.slice A1 x.L.length c1,.slice A2 x.K.length c2] 118,am g4 [.int .i64 f.params,.slice F1 f.L.length d1,.int .i64 f.result,.slice F2 f.C.length d2] 84,am g2 [.slice a.Af m.F.length a.cf,.slice a.Ab m.B.length a.cb,.slice a.Ai m.I.length a.ci,.slice a.Ao m.out.length a.co,.int .i64 m.S,.int .i64 m.T] 43,am g1 [.slice Ap fs.length cp] 24]) ms)).msub ms))
    rw[if_neg (by omega)] at hq
    refine aj ?_
    refine bS (t,(A7,c7)) (⟨hq.symm,hTy⟩) (hh:=(fun w h=>h.msub ms))
  rw[if_pos (by omega)] at hq
  subst hq
  refine aj ?_
  cases q0 with
  | none=>
   refine cK (t:=172) (v':= .bool true) rfl (rfl) ?_
   refine aU rfl<|aj ?_
   intro w hw
   exact⟨by rw[<-hE],hw.below⟩
  | some t=>
   refine cK (t:=172) (v':= .bool false) rfl (rfl) ?_
   refine cu rfl<|aj ?_
   refine bS (t,(A7,c7)) (⟨rfl,hent _ _ hq0⟩) (hh:=(fun w h=>h.msub ms))
 rintro⟨t,⟨A8,c8⟩⟩ hqt
 obtain⟨hqt,hTy⟩:q=some t/\Ty t:=hqt
 subst hqt
 dsimp only at hE
 refine aO ?_
 refine jq rfl (fun h2=>?_) (fun h2=>?_)
 ·have h2:¬(t.length:Int)=x.K.length:=h2
  rw[if_pos (show t.length≠x.K.length from fun e=>h2 (by rw[e]))] at hE
  subst hE
  refine aj ?_
  intro w hw
  exact⟨rfl,hw.below⟩
 have h2:(t.length:Int)=x.K.length:=h2
 have h2:t.length=x.K.length:=by omega
 rw[if_neg (fun h=>h h2)] at hE
 refine aj ?_
 refine dA (fun k:Nat=>k<=t.length/\∀j,j<k->fL (x.K.getD j default) (t.getD j 0)=true) (fun k=>t.length - k) (fun k=> [(7,.pointer (some ⟨g3,0,none⟩)),(12,.slice A8 t.length c8),(17,.int .i64 (k:Int))]) (fun _=> [lG (.slice A8 t.length c8) t,am g3 [.int .i64 (kf:Int),.int .i64 x.pc,.slice A1 x.L.length c1,.slice A2 x.K.length c2] 118]) 0 (⟨aX _,fun _ h=>absurd h (gN _)⟩) ?_
 rintro k hk'
 obtain⟨hk,hno3⟩:k<=t.length/\∀j,j<k->fL (x.K.getD j default) (t.getD j 0)=true:=hk'
 refine av (fun hlt=>?_) (fun hlt=>?_)
 ·have hkl2:k<t.length:=by omega
  have hkl3:k<x.K.length:=by omega
  refine aj ?_
  refine bz [0,3,6,9,12,15,18,21,24,29,30] [] rfl<|aj ?_
  refine tE rfl (bg (k:=k) ax aI (.ro hst) (by omega) rfl rfl rfl) ?_
  refine tE rfl (eF (SF.val (SF.ro hst) hkl3 default) rfl rfl ie aI)<|aj ?_
  refine tE rfl (bg (k:=k) aw bj (SF.rd (xs:=t) rfl fc) (by omega) rfl rfl rfl) ?_
  refine tE rfl (bQ (SF.int (SF.rd (xs:=t) rfl fc) (by omega)) rfl rfl be) ?_
  refine km rfl rfl Tryz.call198 (fun w hw=>zC (x.K.getD k default) (t.getD k 0) (hTy _ (cI (d:=0) hkl2)) w)<|aj ?_
  refine bT rfl (fun hb=>?_) (fun hb=>?_)
  ·have hb:fL (x.K.getD k default) (t.getD k 0)=false:=by simpa using hb
   rw[if_pos (ve hkl2 hb)] at hE
   subst hE
   refine aj ?_
   intro w hw
   exact⟨rfl,hw.below⟩
  have hb:fL (x.K.getD k default) (t.getD k 0)=true:=by simpa using hb
  refine aj ?_
  refine cU (k+1) (⟨by show k+1<=_;omega,fun j hj=>(fK j k).elim (hno3 j) (fun h=>by obtain rfl:j=k:=(by omega);exact hb)⟩) (by show _ - _<_ - _;omega)
 obtain rfl:k=t.length:=by omega
 rw[if_neg (by rw[lY.2 hno3];decide)] at hE
 subst hE
 refine aj ?_
 intro w hw
 exact⟨rfl,hw.below⟩
end
section
def iP:az:=⟨[⟨0,0,[],[]⟩],[],[],[],0,0⟩
def lZ:az:=⟨[⟨0,1,[],[⟨false,3⟩]⟩],[],[],[],0,0⟩
def xB:az:=⟨[⟨0,0,[],[]⟩],[],[],[],1,0⟩
theorem xG:fl eP=0/\pS eP=iP/\dF eP iP=0/\lM eP iP=lZ/\dF eP lZ=0/\fl ec=0/\pS ec=iP/\dF ec iP=0/\lM ec iP=xB:=by
 refine⟨?_,?_,?_,?_,?_,?_,?_,?_,?_⟩ <;> kernel_rfl
theorem uX:jX iP.F:=by
 refine⟨by decide,fun x hx=>?_⟩
 have:x=⟨0,0,[],[]⟩:=by simpa [iP] using hx
 subst this
 decide
theorem M4:jX lZ.F:=by
 refine⟨by decide,fun x hx=>?_⟩
 have:x=⟨0,1,[],[⟨false,3⟩]⟩:=by simpa [lZ] using hx
 subst this
 decide
section
variable {fs:List au} {m:az} {n:Nat}
theorem qW (hp:fl fs=0) (hm:pS fs=iP) (hn:fs.length=n) (A:Option Addr) (c:Nat) (w:World) (hs:Sl w (.slice A n c) fs) :
  Calls Tryz.prog 54 #[.agg #[.slice A n c]] w fun e w'=> ∃g:MA,True/\
   e= .returned (.tuple #[.agg #[.slice g.Af 1 g.cf,.slice g.Ab 0 g.cb,.slice g.Ai 0 g.ci,.slice g.Ao 0 g.co,.int .i64 0,.int .i64 0],.int .i64 0])/\Cw w.heap.size w [ak (.slice g.Af 1 g.cf) iP.F,ak (.slice g.Ab 0 g.cb) iP.B,ak (.slice g.Ai 0 g.ci) iP.I,ak (.slice g.Ao 0 g.co) iP.out] w':=by
 subst hn
 have:=sw A c fs iP hm w hs
 rw[hp] at this
 exact this
theorem Ea (hn:fs.length=n) {E:Int} (hE:dF fs lZ=E) (A:Option Addr) (c:Nat) (a:MA) (w:World) (hs:Sl w (.slice A n c) fs) (hm:dS w.heap.size w a lZ) :
  Calls Tryz.prog 45 #[.agg #[.slice A n c],.agg #[.slice a.Af 1 a.cf,.slice a.Ab 0 a.cb,.slice a.Ai 0 a.ci,.slice a.Ao 0 a.co,.int .i64 0,.int .i64 0]] w fun e w'=>e= .returned (.int .i64 E)/\Below w.heap.size w w':=by
 subst hn
 subst hE
 exact kL A c fs a lZ w hs hm M4
theorem qV (hn:fs.length=n) (hE:dF fs iP=0) (hm2:lM fs iP=lZ) (A:Option Addr) (c:Nat) (a:MA) (w:World) (hs:Sl w (.slice A n c) fs) (hm:dS w.heap.size w a iP) :
  Calls Tryz.prog 52 #[.agg #[.slice A n c],.agg #[.slice a.Af 1 a.cf,.slice a.Ab 0 a.cb,.slice a.Ai 0 a.ci,.slice a.Ao 0 a.co,.int .i64 0,.int .i64 0]] w fun e w'=> ∃g:MA,True/\
   e= .returned (.tuple #[.agg #[.slice g.Af 1 g.cf,.slice g.Ab 0 g.cb,.slice g.Ai 0 g.ci,.slice g.Ao 0 g.co,.int .i64 0,.int .i64 0],.int .i64 0])/\Cw w.heap.size w [ak (.slice g.Af 1 g.cf) lZ.F,ak (.slice g.Ab 0 g.cb) lZ.B,ak (.slice g.Ai 0 g.ci) lZ.I,ak (.slice g.Ao 0 g.co) lZ.out] w':=by
 subst hn
 have:=uf A c fs a iP lZ hm2 w hs hm uX
 rw[hE] at this
 exact this
theorem qU (hn:fs.length=n) (hE:dF fs iP=0) (hm2:lM fs iP=xB) (A:Option Addr) (c:Nat) (a:MA) (w:World) (hs:Sl w (.slice A n c) fs) (hm:dS w.heap.size w a iP) :
  Calls Tryz.prog 52 #[.agg #[.slice A n c],.agg #[.slice a.Af 1 a.cf,.slice a.Ab 0 a.cb,.slice a.Ai 0 a.ci,.slice a.Ao 0 a.co,.int .i64 0,.int .i64 0]] w fun e w'=> ∃g:MA,True/\
   e= .returned (.tuple #[.agg #[.slice g.Af 1 g.cf,.slice g.Ab 0 g.cb,.slice g.Ai 0 g.ci,.slice g.Ao 0 g.co,.int .i64 1,.int .i64 0],.int .i64 0])/\Cw w.heap.size w [ak (.slice g.Af 1 g.cf) xB.F,ak (.slice g.Ab 0 g.cb) xB.B,ak (.slice g.Ai 0 g.ci) xB.I,ak (.slice g.Ao 0 g.co) xB.out] w':=by
 subst hn
 have:=uf A c fs a iP xB hm2 w hs hm uX
 rw[hE] at this
 exact this
end
section
variable {B:Nat} {w0 w:World} {H H1 H2 H3 H4:List aJ}
theorem dx {g:MA} {m:az} {nf nb ni no:Nat} (hw:Cw B w0 H w) (hf:cN H (ak (.slice g.Af nf g.cf) m.F) H1) (hb:cN H (ak (.slice g.Ab nb g.cb) m.B) H2) (hi:cN H (ak (.slice g.Ai ni g.ci) m.I) H3) (ho:cN H (ak (.slice g.Ao no g.co) m.out) H4) (e1:m.F.length=nf) (e2:m.B.length=nb) (e3:m.I.length=ni) (e4:m.out.length=no) (hs:aH m.S) (ht:aH m.T):dS w.heap.size w g m:=by
 subst e1 e2 e3 e4
 exact⟨SF.at_ (SF.own rfl hf) hw,SF.at_ (SF.own rfl hb) hw,SF.at_ (SF.own rfl hi) hw,SF.at_ (SF.own rfl ho) hw,hs,ht⟩
end
section
variable {P:Program} {n:NF} {B:Nat} {w0:World} {H H':List aJ} {Q:Exit->Act->World->Prop} {env:cy} {x:Code}
structure Rj (B:Nat) (w0:World) (X:aJ) (k:Nat) (A:Option Addr) (c:Nat) (fr:List aG) (hs:List aB):Prop where
 el:∀i,i<k->∃Al cl As cs,hs.getD i default=⟨(aN fr i).func,(aN fr i).pc,.slice Al (aN fr i).L.length cl,.slice As (aN fr i).K.length cs⟩/\
  (∀H H',cN H X H'->SF B w0 H Al (aN fr i).L.length cl (aN fr i).L/\SF B w0 H As (aN fr i).K.length cs (aN fr i).K)
 len:hs.length=k
 back:∀H H' H'' w,cN H (ak (.slice A k c) hs) H'->cN H' X H''->Cw B w0 H w->Cw B w0 (ak (.slice A k c) fr::H'') w
theorem SF.hfr {A:Option Addr} {xs:List aB} {m c k:Nat} {h:aB} (hs:SF B w0 H A m c xs) (hk:k<m) (e:xs.getD k default=h):∀w,Cw B w0 H w->∀j v,([.int .i64 h.func,.int .i64 h.pc,h.lv,h.sv]:List Value)[j]? =some v->w.cell? ⟨ab A,ao A+k*4+j,none⟩=some v:=fun w hw j v hv=>SF.cell hs hk default (by rw[e];exact hv) w hw
theorem xe {l:List (aB×aG)} {i:Nat} (hi:i<l.length) {w:World} (h:Cw B w0 (cM l::H) w):Sl w l[i].1.lv l[i].2.L/\Sl w l[i].1.sv l[i].2.K:=by
 have h1:Cw B w0 (ak l[i].1.lv l[i].2.L::ak l[i].1.sv l[i].2.K::(cM (l.eraseIdx i)::H)) w:=BW hi h
 obtain⟨F1,k1,_⟩:=h1.rd cN.a
 obtain⟨F2,k2,_⟩:=h1.rd (cN.s cN.a)
 exact⟨cL.sl k1,cL.sl k2⟩
theorem yd {A:Option Addr} {k c:Nat} {fr:List aG} (hk:fr.length=k) (hp:cN H (ak (.slice A k c) fr) H')
  (h:∀(X:aJ) (hs:List aB),Rj B w0 X k A c fr hs->CW P n B w0 x Q env (ak (.slice A k c) hs::X::H')):CW P n B w0 x Q env H:=fun a w hf hw=>by
 obtain⟨l,hl,hok,h3⟩:=Ck (hw.perm hp)
 have hll:l.length=k:=by rw[<-hk,<-hl,aQ]
 refine h (cM l) (l.map Prod.fst) ⟨fun i hi=>?_,by rw[aQ,hll],fun H1 H2 H3 w f1 f2 hw=>?_⟩ a w hf h3
 ·have hi':i<l.length:=by omega
  obtain⟨s1,s2⟩:=xe hi' (h3.perm (List.Perm.swap ..))
  have hfr:aN fr i=l[i].2:=by
   unfold aN
   rw[<-hl,an,dc,ap hi']
   rfl
  have hfi:=hok l[i] (da hi')
  obtain⟨Al,cl,e1,_⟩:=s1.form
  obtain⟨As,cs,e2,_⟩:=s2.form
  refine⟨Al,cl,As,cs,?_,fun H1 H2 f=>⟨⟨by rw[hfr],fun w hw=>?_⟩,⟨by rw[hfr],fun w hw=>?_⟩⟩⟩
  ·rw[an,dc,ap hi',hfr,<-e1,<-e2]
   show l[i].1=_
   have h1:l[i].1.func=l[i].2.func:=hfi.1
   have h2:l[i].1.pc=l[i].2.pc:=hfi.2
   rw[<-h1,<-h2]
  ·have:=(xe hi' (hw.perm f)).1
   rw[e1] at this
   rw[hfr];exact this
  have:=(xe hi' (hw.perm f)).2
  rw[e2] at this
  rw[hfr];exact this
 have:=rJ (v:= .slice A k c) (H:=H3) hok ((hw.perm f1).perm (List.Perm.cons _ f2))
 rw[hl] at this
 exact this
end
end
