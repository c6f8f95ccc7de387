/- Texts of one proof, one behind the other: lemmas alone. -/
import Derived.Test.YthfkmcbblnbfaaaGreatDoorM0U
import Derived.Tactics
import Derived.Tactics2
import Derived.Laws.Pointers
import Derived.Deep.QuietTactic
import Derived.BigQuiet
import Derived.Test.YthfkmcbblnbfaaaGreatDoorM34U
import Derived.Test.YthfkmcbblnbfaaaGreatDoorM18U
import Derived.Test.YthfkmcbblnbfaaaGreatDoorM13U
import Derived.Test.YthfkmcbblnbfaaaGreatDoorM20U
import Derived.Test.YthfkmcbblnbfaaaGreatDoorM22U
import Derived.Test.YthfkmcbblnbfaaaGreatDoorM32U
import Derived.Test.YthfkmcbblnbfaaaGreatDoorM17U
import Derived.Test.YthfkmcbblnbfaaaGreatDoorM24U
import Derived.Test.YthfkmcbblnbfaaaGreatDoorM28U
import Derived.Test.YthfkmcbblnbfaaaGreatDoorM26U
import Derived.Test.YthfkmcbblnbfaaaGreatDoorM25U
import Derived.Test.YthfkmcbblnbfaaaGreatDoorM23U
import Derived.Test.YthfkmcbblnbfaaaGreatDoorM27U

namespace Go.Proofs.YthfkmcbblnbfaaaGreatDoor
set_option maxRecDepth 100000
set_option maxHeartbeats 16000000
open Go.RowKit
section
theorem jd (n a b:Int) (w:World):Calls Tryz.prog 181 #[.int .i64 n,.int .i64 a,.int .i64 b] w fun e w'=>e= .returned (.bool (ax n a b))/\Below w.heap.size w w':=by
 refine enter Tryz.func181 rfl Tryz.ntmps181 rfl<|cD 10 (fun h1=>?_) (fun h1=>?_)
 ·refine aa ?_
  intro w hw
  exact⟨aS (by unfold ax;rw[h1];rfl),hw.below⟩
 refine aa ?_
 intro w hw
 exact⟨aS (by unfold ax;rw[h1];rfl),hw.below⟩
theorem yK (n:Nat) (hn:n*16<=140737488355328) (w:World):Calls Tryz.prog 315 #[.slice none 0 0,.int .i64 (n:Int)] w fun e w'=> ∃g:Option Addr×Nat,True/\e= .returned (.slice g.1 0 g.2)/\Cw w.heap.size w [aj (α:=aQ) (.slice g.1 0 g.2) []] w':=by
 refine enter Tryz.func315 rfl Tryz.ntmps315 rfl<|ak (fun h0=>?_) (fun h0=>?_)
 ·exact absurd h0 (by omega)
 refine aa ?_
 refine sE (yf bu rfl rfl)<|aa ?_
 refine cT (t:=1) (v':= .int .i64 (n:Int)) rfl (by congr 1) ?_
 refine ec rfl (fun h1=>?_) (fun h1=>?_)
 ·refine aa ?_
  refine sE (yf bu rfl rfl) ?_
  refine sE (kZ (k:=0) bu dN (ay _) rfl rfl rfl)<|aa ?_
  refine oE (CO (α:=aQ) (bytes:=16) bu hU gQ rfl (by decide) (by omega) (by omega) rfl rfl rfl) (fun⟨g,c⟩ _=>?_)
  refine a7 ?_
  refine sE (kZ (k:=0) bu dN (aC _) rfl rfl rfl)<|aa ?_
  intro w hw
  exact⟨(some ⟨g,0,none⟩,c),trivial,rfl,hw⟩
 refine aa ?_
 intro w hw
 exact⟨(none,0),trivial,rfl,Cw.nilO aQ hw⟩
theorem FB (v:aQ) (t:Int):eQ v t=((v.ref == !decide (t=1)) && ((!decide (t=3)) || decide (v.n=0))):=by
 unfold eQ
 cases v.ref <;> by_cases h1:t=1 <;> simp[h1]
theorem vT (v:aQ) (t:Int) (w:World):Calls Tryz.prog 293 #[.agg #[.bool v.ref,.int .i64 v.n],.int .i64 t] w fun e w'=>e= .returned (.bool (eQ v t))/\Below w.heap.size w w':=by
 have ha:=FB v t
 generalize hq:eQ v t=q at ha
 refine enter Tryz.func293 rfl Tryz.ntmps293 rfl<|aa ?_
 refine fun g1 _=>aa ?_
 refine sE (Es Tryz.underlying4 rfl rfl rfl)<|cD 10 (fun h1=>?_) (fun h1=>?_)
 ·rw[h1,Bool.true_and] at ha
  refine cD 13 (fun h2=>?_) (fun h2=>?_)
  ·rw[h2,Bool.true_or] at ha
   refine aa ?_
   intro w hw
   exact⟨aS ha.symm,hw.below⟩
  rw[h2,Bool.false_or] at ha
  refine aa ?_
  intro w hw
  exact⟨aS ha.symm,hw.below⟩
 rw[h1,Bool.false_and] at ha
 refine aa ?_
 intro w hw
 exact⟨aS ha.symm,hw.below⟩
def HK (a:MA) (m:av) (pv:Value):List Value:= [.slice a.Af m.frames.length a.cf,.slice a.Ab m.blocks.length a.cb,.slice a.Ai m.inn.length a.ci,.slice a.Ao m.out.length a.co,.int .i64 m.status,.int .i64 m.trap,pv]
section
variable {B:Nat} {w0:World} {H:List ar}
theorem xd (gc:Nat) (a:MA) (m:av) (pv:Value) (v:aQ) (w:World) (hw:Cw B w0 (af gc [.slice a.Af m.frames.length a.cf,.slice a.Ab m.blocks.length a.cb,.slice a.Ai m.inn.length a.ci,.slice a.Ao m.out.length a.co,.int .i64 m.status,.int .i64 m.trap,pv] 190::H) w) :
  Calls Tryz.prog 292 #[.pointer (some ⟨gc,0,none⟩),.agg #[.bool v.ref,.int .i64 v.n]] w fun e w'=> ∃_:Unit,True/\e= .returned (.int .i64 (if d9 m.blocks.length v=true then 0 else 3))/\Cw B w0 (af gc [.slice a.Af m.frames.length a.cf,.slice a.Ab m.blocks.length a.cb,.slice a.Ai m.inn.length a.ci,.slice a.Ao m.out.length a.co,.int .i64 m.status,.int .i64 m.trap,pv] 190::H) w':=by
 obtain⟨q,hq⟩:∃q,d9 m.blocks.length v=q:=⟨_,rfl⟩
 rw[hq]
 obtain⟨r,z⟩:=v
 refine bX Tryz.func292 rfl Tryz.ntmps292 rfl hw<|aa ?_
 refine fun g1 _=>aa ?_
 refine bF [0,3,6,9,12,15,18,21,24,27,30,35,36,39,42,45,48,51,54,57,60,65,66,69,72] [] rfl<|aa ?_
 refine lq (t:=7) rfl (fun hr=>?_) (fun hr=>?_)
 ·have hq2:ax z 0 m.blocks.length=q:=by rw[<-hq];unfold d9;rw[if_pos hr]
  refine aa ?_
  refine kG rfl rfl uA (fun w hw=>jd z 0 m.blocks.length w)<|aa ?_
  rw[hq2]
  refine lq (t:=19) rfl (fun hb=>?_) (fun hb=>?_)
  ·have hq3:q=false:=by simpa using hb
   subst hq3
   refine aa ?_
   refine j7 rfl rfl rfl (.inr ha) ?_ gC
   refine aa ?_
   refine aJ rfl<|aa ?_
   intro w hw
   exact⟨(),trivial,rfl,hw.msub ms⟩
  have hq3:q=true:=by simpa using hb
  subst hq3
  refine aa ?_
  refine lq (t:=23) rfl (fun h3=>?_) (fun h3=>?_)
  ·rw[hr] at h3
   cases h3
  refine aa ?_
  refine j7 rfl rfl rfl (.inr ha) ?_ gC
  refine aa ?_
  refine bO rfl<|aa ?_
  intro w hw
  exact⟨(),trivial,rfl,hw.msub ms⟩
 have hq2:bg z=q:=by rw[<-hq];unfold d9;rw[if_neg (by rw[hr];decide)]
 refine aa ?_
 refine j7 rfl rfl rfl (.inr ha) ?_ gC
 refine aa ?_
 refine lq (t:=23) rfl (fun h2=>?_) (fun h2=>?_)
 ·refine aa ?_
  refine kG rfl rfl HV ((fun w hw=>cW ((fun w hw=>mt z w) w hw)))<|aa ?_
  rw[hq2]
  refine aO rfl (fun h4=>?_) (fun h4=>?_)
  ·have hq3:q=false:=by simpa using h4
   subst hq3
   refine aa ?_
   intro w hw
   exact⟨(),trivial,rfl,hw.msub ms⟩
  have hq3:q=true:=by simpa using h4
  subst hq3
  refine aa ?_
  intro w hw
  exact⟨(),trivial,rfl,hw.msub ms⟩
 rw[hr] at h2
 cases h2
end
end
section
def Hh (pc:Int) (es:List eF):Option Nat:=es.findIdx? fun x=>decide (x.pc=pc)
def hent (l:List eF) (k:Nat):eF:=l.getD k ⟨0,.slice none 0 0⟩
theorem SF.hent {B:Nat} {w0:World} {H:List ar} {A:Option Addr} {xs:List eF} {m c k:Nat} (hs:SF B w0 H A m c xs) (hk:k<m):∀w,Cw B w0 H w->∀j v,([.int .i64 (hent xs k).pc,(hent xs k).v]:List Value)[j]? =some v->w.cell? ⟨ab A,ao A+k*2+j,none⟩=some v:=fun w hw _ _ hv=>SF.cell hs hk _ hv w hw
theorem Bn (g:Nat) (pc q:Int) (v:Value) (w:World) (hlt:g<w.heap.size) (hc:w.cell? ⟨g,0,none⟩=some (.int .i64 pc)) :
  Calls Tryz.prog 323 #[.agg #[.int .i64 q,v],.pointer (some ⟨g,0,none⟩)] w fun e w'=>e= .returned (.bool (decide (q=pc)))/\Below w.heap.size w w':=by
 refine enter Tryz.func323 rfl Tryz.ntmps323 rfl<|aa ?_
 refine fun g1 _=>aa ?_
 refine dQ rfl (fun w' hw=>(hw.below.cell hlt).trans hc)<|aa ?_
 intro w hw
 exact⟨rfl,hw.below⟩
theorem C7 (A:Option Addr) (c:Nat) (es:List eF) (g:Nat) (pc:Int) (w:World) (hs:Sl w (.slice A es.length c) es) (hlt:g<w.heap.size) (hc:w.cell? ⟨g,0,none⟩=some (.int .i64 pc)) :
  Calls Tryz.prog 322 #[.slice A es.length c,.func (.func 323) #[] #[.pointer (some ⟨g,0,none⟩)]] w fun e w'=> ∃r:Int,((r= -1/\∀i,i<es.length->(hent es i).pc≠pc)\/∃i:Nat,r=i/\i<es.length/\(hent es i).pc=pc/\∀j,j<i->(hent es j).pc≠pc)/\e= .returned (.int .i64 r)/\Cw w.heap.size w [] w':=by
 have b1:=be hs
 refine enter Tryz.func322 rfl Tryz.ntmps322 rfl<|aa ?_
 refine cN (fun k:Nat=>k<=es.length/\∀j,j<k->(hent es j).pc≠pc) (fun k=>es.length - k) (fun k=> [(0,.slice A es.length c),(1,.func (.func 323) #[] #[.pointer (some ⟨g,0,none⟩)]),(7,.int .i64 (es.length:Int)),(8,.int .i64 (k:Int))]) (fun _=> []) 0 (⟨aC _,fun _ h=>absurd h (eo _)⟩) ?_
 rintro k hk'
 obtain⟨hk,hno⟩:k<=es.length/\∀j,j<k->(hent es j).pc≠pc:=hk'
 refine ak (fun hlt'=>?_) (fun hlt'=>?_)
 ·have hkl:k<es.length:=by omega
  refine aa ?_
  refine cQ (_) rfl ((.ro hs)) ?_
  refine iW rfl (SF.hent (SF.ro hs) hkl) ?_
  refine oE (pC rfl rfl rfl Tryz.call323 (fun w hw=>Bn g pc _ _ w (Nat.lt_of_lt_of_le hlt hw.le) ((hw.below.cell hlt).trans hc))) (fun _ _=>ak (fun hp=>?_) (fun hp=>?_))
  ·refine aa ?_
   intro w hw
   exact⟨(k:Int),.inr ⟨k,rfl,hkl,hp,hno⟩,rfl,hw⟩
  refine aa ?_
  refine bN (k+1) (⟨by show k+1<=_;omega,fun j hj=>(dZ j k).elim (hno j) (fun h=>by obtain rfl:j=k:=(by omega);exact hp)⟩) (by show _ - _<_ - _;omega)
 obtain rfl:k=es.length:=by omega
 refine aa ?_
 intro w hw
 exact⟨-1,.inl ⟨rfl,hno⟩,rfl,hw⟩
section
variable {B:Nat} {w0:World} {H:List ar}
theorem o6 {L:List (Value×List Int)} {v:Value} {xs:List Int} {w:World} (hi:gH L v xs) (h:Cw B w0 (dI L::H) w):Cw B w0 (fL v xs::H) w:=by
 rcases hi with ⟨rfl,rfl⟩ | hi
 ·exact h.upd fun F ho _=>⟨fun _=>False,⟨fun _ h=>h.elim,fun _ _=>Sl.nil_⟩,rfl,rfl,rfl,ay _,fun _ _ _=>rfl,fun b hb=>hb.elim⟩
 refine h.upd fun F ho _=>?_
 obtain⟨F',h5,h6⟩:=Hs.mem (List.mem_map_of_mem (f:=fun p:Value×List Int=>fL p.1 p.2) hi) (show Hs w _ F from ho)
 exact⟨F',h5,rfl,rfl,rfl,ay _,fun _ _ _=>rfl,fun b hb=> .inl (h6 b hb)⟩
theorem Cz {A:Option Addr} {m c k:Nat} {xs:List Int} {w:World} (hk:k<=m) (h:Cw B w0 (fL (.slice A m c) xs::H) w):Cw B w0 (fL (.slice A k c) (xs.take k)::H) w:=by
 refine h.upd fun F ho _=>⟨F,⟨ho.1,fun w' hw'=>?_⟩,rfl,rfl,rfl,ay _,fun _ _ _=>rfl,fun b hb=> .inl hb⟩
 have:=(ho.2 w' hw').cut 0 k (aC _) hk
 rw[t6,Nat.sub_zero,Nat.sub_zero,lY] at this
 exact this
theorem ls {w:World} (h:Cw B w0 H w):Cw B w0 (fL (.slice none 0 0) ([]:List Int)::H) w:=o6 gH.nil_ (gL h)
end
theorem v7 {xs:List f8} {pc:Int} {i:Nat} (hi:i<xs.length) (h1:xs[i].pc=pc) (h2:∀j (_:j<i) (h:j<xs.length),xs[j].pc≠pc):(xs.find? fun e=>decide (e.pc=pc))=some xs[i]:=by
 induction xs generalizing i with
 | nil=>simp at hi
 | cons x xs ih=>
  cases i with
  | zero=>rw[List.find?_cons_of_pos (by simpa using h1)];rfl
  | succ i=>
   rw[List.find?_cons_of_neg (by have h3:=h2 0 (by omega) (by simp);rw[List.getElem_cons_zero] at h3;simpa using h3)]
   exact ih (by simpa using hi) h1 fun j hj h=>h2 (j+1) (by omega) (by simpa using h)
theorem v6 {xs:List f8} {pc:Int} (h2:∀j (h:j<xs.length),xs[j].pc≠pc):(xs.find? fun e=>decide (e.pc=pc))=none:=by
 rw[List.find?_eq_none]
 intro e he
 obtain⟨j,hj,rfl⟩:=bD he
 simpa using h2 j hj
theorem jI {es:List eF} {i:Nat} (h:i<es.length):hent es i=es[i]:=by
 unfold hent
 rw[ac,ae h]
 rfl
theorem rE (Ap:Option Addr) (cp:Nat) (fs:List ah) (k:Nat) (pc:Int) (q:Option (List Int)) (hq:eD fs (ai fs k) pc=q) (w:World) (hs:Sl w (.slice Ap fs.length cp) fs) (hk:k<fs.length) (hok:iY fs (ai fs k)) (hn0:0<(ai fs k).code.length) :
  Calls Tryz.prog 316 #[.agg #[.slice Ap fs.length cp],.int .i64 (k:Int),.int .i64 pc] w fun e w'=> ∃g:Option Addr×Nat,True/\e= .returned (.tuple #[.slice g.1 (q.getD []).length g.2,.bool q.isSome])/\
   Cw w.heap.size w [fL (.slice g.1 (q.getD []).length g.2) (q.getD [])] w':=by
 refine enter Tryz.func316 rfl Tryz.ntmps316 rfl<|aa ?_
 refine fun g1 _=>aa ?_
 refine fun g2 _=>aa ?_
 refine fE rfl Hy (fun w hw=>l6 Ap cp fs k w (hw.ro hs) hk hok hn0) (fun⟨⟨A1,c1⟩,es,L⟩ hre=>?_)
 refine a7 ?_
 refine fE rfl Tryz.call322 (fun w hw=>C7 A1 c1 es g2 pc w (SF.at_ (SF.own rfl fc) hw) (kM hw fc) (eX fc rfl w hw)) (fun r hr=>aa ?_)
 have hre:jv es L (aY fs (ai fs k)).1:=hre
 have hl:=hre.len
 refine ec rfl (fun h0=>?_) (fun h0=>?_)
 ·have hq2:q=none:=by
   rcases hr with ⟨_,h⟩ | ⟨i,h,_⟩
   ·rw[<-hq]
    unfold eD
    rw[v6 (fun j hj=>by
     have hj':j<es.length:=by omega
     have:=h j hj'
     rw[jI hj',(hre.el j hj' hj).1] at this
     exact this)]
    rfl
   omega
  subst hq2
  refine aa ?_
  intro w hw
  exact⟨(none,0),trivial,rfl,(ls hw).msub ms⟩
 obtain⟨i,hi,hlt,hpc,hno⟩:∃i:Nat,r=i/\i<es.length/\(hent es i).pc=pc/\∀j,j<i->(hent es j).pc≠pc:=hr.elim (fun h=>by omega) id
 subst hi
 have hlt2:i<(aY fs (ai fs k)).1.length:=by omega
 obtain⟨e1,e2⟩:=hre.el i hlt hlt2
 have hq2:q=some (aY fs (ai fs k)).1[i].stack:=by
  rw[<-hq]
  unfold eD
  rw[v7 hlt2 (by rw[<-e1,<-jI hlt];exact hpc) (fun j hj h=>by
   have hj':j<es.length:=by omega
   have:=hno j hj
   rw[jI hj',(hre.el j hj' h).1] at this
   exact this)]
  rfl
 subst hq2
 rw[<-jI hlt] at e2
 refine aa ?_
 refine cQ (i) rfl ((SF.own (xs:=es) rfl fc))<|aa ?_
 refine dQ rfl (fun w hw=>SF.hent (SF.own (xs:=es) rfl fc) hlt w hw 1 _ rfl)<|aa ?_
 intro w hw
 obtain⟨A5,c5,e5⟩:=e2.form hw fc
 rw[e5] at e2⊢
 exact⟨(A5,c5),trivial,rfl,(o6 e2 (hw.msub (T:=dI L:: []) ms)).msub ms⟩
end
section
theorem u9 {fs:List ah} (hF:iZ fs) {k:Nat} (hk:k<fs.length) {pc to_:Int} {t0 t:List Int} (hc:fK (ai fs k) pc to_=true) (h0:eD fs (ai fs k) (pc - 1)=some t0) (h1:eD fs (ai fs k) pc=some t) (hr:(ai fs to_.toNat).result≠0):1<=t.length:=by
 unfold fK at hc
 simp only[bI,decide_eq_true_eq] at hc
 obtain⟨_,hcc,hca⟩:=hc
 obtain⟨_,_,_,_,v0,hv0,hn0⟩:=(hF.e _ hk).at_ _ _ h0
 generalize aK (ai fs k).code (pc - 1).toNat=oz at hcc hca hv0 hn0
 obtain⟨t',ht',hle⟩:=hn0 pc (by simp[cH,hcc])
 rw[h1] at ht'
 have ht':=dF ht'
 subst ht'
 obtain⟨T0,V0,e0,_,_,_,rfl⟩:=iw.1 hv0
 simp[tl,hcc] at e0
 obtain⟨rfl,rfl⟩:=e0
 rw[hca] at hle
 unfold aR at hle
 rw[if_neg hr] at hle
 have:=(vV hle).2.1
 omega
theorem lW {f:ah} {pc to_:Int} :fK f pc to_=(ax pc 1 f.code.length && (decide ((aK f.code (pc - 1).toNat).c=12) && decide ((aK f.code (pc - 1).toNat).a=to_))):=rfl
section
variable {B:Nat} {w0:World} {H:List ar}
theorem y8 (gc:Nat) (a:MA) (m:av) (Ap:Option Addr) (cp:Nat) (fs:List ah) (hs:aT w0 B (.slice Ap fs.length cp) fs) (hm:fd B w0 a m) (hF:iZ fs) (i:Nat) (hi:i<m.frames.length) (hfn:∀x∈m.frames,0<=x.func/\x.func<fs.length) (q:Option (List Int)) (hq:ir fs m.frames i=q) (w:World) (hw:Cw B w0 (af gc [.slice a.Af m.frames.length a.cf,.slice a.Ab m.blocks.length a.cb,.slice a.Ai m.inn.length a.ci,.slice a.Ao m.out.length a.co,.int .i64 m.status,.int .i64 m.trap,.slice Ap fs.length cp] 190::H) w) :
  Calls Tryz.prog 294 #[.pointer (some ⟨gc,0,none⟩),.int .i64 (i:Int)] w fun e w'=> ∃g:Option Addr×Nat,True/\e= .returned (.tuple #[.slice g.1 (q.getD []).length g.2,.bool q.isSome])/\Cw B w0 (fL (.slice g.1 (q.getD []).length g.2) (q.getD [])::af gc [.slice a.Af m.frames.length a.cf,.slice a.Ab m.blocks.length a.cb,.slice a.Ai m.inn.length a.ci,.slice a.Ao m.out.length a.co,.int .i64 m.status,.int .i64 m.trap,.slice Ap fs.length cp] 190::H) w':=by
 have bf:=be hm.f
 have bp:=be hs
 obtain⟨A1,c1,A2,c2,hl,hst,hI,hcell⟩:=hm.f.fr hi
 have hx:=hfn _ (eW hi)
 obtain⟨kf,hkf⟩:∃kf:Nat,(aD m.frames i).func=kf:=⟨(aD m.frames i).func.toNat,by omega⟩
 have hkl:kf<fs.length:=by omega
 obtain⟨hok,hn0⟩:=jj hF.p hkl
 obtain⟨F1,d1,F2,d2,hfl,hfc,hfi,hfcell⟩:=hs.fn hkl
 have bc:=be hfc
 have hff:it fs m.frames i=ai fs kf:=by unfold it;rw[hkf,aV]
 obtain⟨pc,hpc⟩:∃pc,(aD m.frames i).pc=pc:=⟨_,rfl⟩
 unfold ir at hq
 rw[hff,hpc] at hq
 rw[hkf,hpc] at hcell
 rw[hpc] at hI
 obtain⟨q1,hq1⟩:∃q1,eD fs (ai fs kf) pc=q1:=⟨_,rfl⟩
 rw[hq1] at hq
 refine bX Tryz.func294 rfl Tryz.ntmps294 rfl hw<|aa ?_
 refine cQ (i) rfl ((.ro hm.f)) ?_
 refine iW rfl (hcell _)<|aa ?_
 refine fun g1 _=>aa ?_
 refine bF [0,3,6,9,12,15,18,21,26,27,30,33,36,39] [] rfl<|aa ?_
 refine vN rfl rfl Tryz.call316 (fun w hw=>rE Ap cp fs kf pc q1 hq1 w (hw.ro hs) hkl hok hn0) (fun⟨A5,c5⟩ _=>?_)
 refine a7 ?_
 refine ec rfl (fun h1=>?_) (fun h1=>?_)
 ·rw[if_pos (show i+1=m.frames.length by omega)] at hq
  subst hq
  refine aa ?_
  intro w hw
  exact⟨(A5,c5),trivial,rfl,hw.msub ms⟩
 rw[if_neg (show¬i+1=m.frames.length by omega)] at hq
 have hi2:i+1<m.frames.length:=by omega
 obtain⟨A3,c3,A4,c4,hl2,hst2,hI2,hcell2⟩:=hm.f.fr hi2
 have hy:=hfn _ (eW hi2)
 obtain⟨ky,hky⟩:∃ky:Nat,(aD m.frames (i+1)).func=ky:=⟨(aD m.frames (i+1)).func.toNat,by omega⟩
 have hkyl:ky<fs.length:=by omega
 have hfy:it fs m.frames (i+1)=ai fs ky:=by unfold it;rw[hky,aV]
 rw[hky] at hcell2
 rw[hfy,hky] at hq
 refine aa ?_
 refine cQ ((i+1)) rfl ((.ro hm.f))<|aa ?_
 refine dQ rfl (fun w hw=>hcell2 _ w hw 0 _ rfl)<|aa ?_
 refine bF [0,3,6,9,12,15,18,21,24,27,30] [] rfl<|aa ?_
 refine tE rfl (bt (k:=kf) gz ij (.ro hs) (by omega) rfl rfl rfl)<|aa ?_
 refine tE rfl (bT (fun w hw=>hfcell _ w hw 3 _ rfl) rfl rfl DY)<|aa ?_
 refine bw rfl uA (fun w hw=>jd pc 1 (ai fs kf).code.length w)<|cD 70 (fun h2=>?_) (fun h2=>?_)
 ·have hc:fK (ai fs kf) pc ky=false:=by
   rw[lW,show ax pc 1 (ai fs kf).code.length=false from by simpa using h2]
   rfl
  rw[if_pos hc] at hq
  subst hq
  refine aa ?_
  refine aJ rfl<|aa ?_
  intro w hw
  exact⟨(none,0),trivial,rfl,(ls hw).msub ms⟩
 have hw1:ax pc 1 (ai fs kf).code.length=true:=by simpa using h2
 have hw2:=di.1 hw1
 refine aa ?_
 refine nG rfl ((.ro hfc))<|aa ?_
 refine dQ rfl (SF.opc (.ro hfc) (by omega))<|cD 80 (fun h3=>?_) (fun h3=>?_)
 ·have hc:fK (ai fs kf) pc ky=false:=by
   have h3:decide ((aK (ai fs kf).code (pc - 1).toNat).c=12)=false:=by simpa using h3
   rw[lW,h3]
   simp
  rw[if_pos hc] at hq
  subst hq
  refine aa ?_
  refine aJ rfl<|aa ?_
  intro w hw
  exact⟨(none,0),trivial,rfl,(ls hw).msub ms⟩
 have h3:decide ((aK (ai fs kf).code (pc - 1).toNat).c=12)=true:=by simpa using h3
 refine aa ?_
 refine nG rfl ((.ro hfc))<|aa ?_
 refine dQ rfl (SF.opa (.ro hfc) (by omega))<|cq (fun h4=>?_) (fun h4=>?_)
 ·have hc:fK (ai fs kf) pc ky=false:=by
   rw[lW,decide_eq_false (p:=(aK (ai fs kf).code (pc - 1).toNat).a=ky) h4]
   simp
  rw[if_pos hc] at hq
  subst hq
  refine aa ?_
  intro w hw
  exact⟨(none,0),trivial,rfl,(ls hw).msub ms⟩
 have hc:fK (ai fs kf) pc ky=true:=by
  rw[lW,hw1,h3,decide_eq_true (p:=(aK (ai fs kf).code (pc - 1).toNat).a=ky) h4]
  rfl
 rw[if_neg (by rw[hc];decide)] at hq
 obtain⟨q0,hq0⟩:∃q0,eD fs (ai fs kf) (pc - 1)=q0:=⟨_,rfl⟩
 rw[hq0] at hq
 refine aa ?_
 refine bF [0,3,6,9,12,15,18,21,24,29,30,33,36,39,42] [] rfl<|aa ?_
 refine vN rfl rfl Tryz.call316 (fun w hw=>rE Ap cp fs kf (pc - 1) q0 hq0 w (hw.ro hs) hkl hok hn0) (fun⟨A6,c6⟩ _=>?_)
 refine a7 ?_
 refine ft (t:=106) rfl (fun h5=>?_) (fun h5=>?_)
 ·have h5:q0.isSome=false:=by simpa using h5
  rw[if_pos h5] at hq
  subst hq
  refine aa ?_
  refine aJ rfl<|aa ?_
  intro w hw
  exact⟨(none,0),trivial,rfl,(ls hw).msub ms⟩
 have h5:q0.isSome=true:=by simpa using h5
 rw[if_neg (by rw[h5];decide)] at hq
 refine aa ?_
 refine aO rfl (fun h6=>?_) (fun h6=>?_)
 ·have h6:q1=none:=by simpa using h6
  subst h6
  have hq:none=q:=hq
  subst hq
  refine aa ?_
  intro w hw
  exact⟨(none,0),trivial,rfl,(ls hw).msub ms⟩
 obtain⟨t,rfl⟩:∃t,q1=some t:=by cases q1 with
  | none=>simp at h6
  | some t=>exact⟨t,rfl⟩
 obtain⟨t0,rfl⟩:∃t0,q0=some t0:=by cases q0 with
  | none=>simp at h5
  | some t0=>exact⟨t0,rfl⟩
 obtain⟨G1,b1,G2,b2,hgl,hgc,hgi,hgcell⟩:=hs.fn hkyl
 have hq:some (if (ai fs ky).result≠0 then t.dropLast else t)=q:=hq
 subst hq
 refine aa ?_
 refine cQ (ky) rfl ((.ro hs))<|aa ?_
 refine dQ rfl (fun w hw=>hgcell _ w hw 2 _ rfl)<|cq (fun h7=>?_) (fun h7=>?_)
 ·have hone:=u9 hF hkl hc hq0 hq1 (by rw[aV];exact h7)
  rw[if_pos h7,List.dropLast_eq_take]
  refine ia (fun w hw=>(hw.rdSl (v:= .slice A5 t.length c5) (xs:=t) fc).form) ?_
  rintro⟨_,_,e,hle,_⟩
  injection e with _ _ e
  have ht8:=((hF.e _ hkl).at_ _ _ hq1).2.2.1
  refine cT (t:=7) (v':= .slice A5 t.length c5) rfl (rfl)<|aa ?_
  refine bq (t:=123) (v':= .int .i64 ((t.length - 1:Nat):Int)) rfl (by show Value.int _ ((t.length:Int) - 1)=_;congr 1;omega) ?_
  refine sE (kZ (k:=t.length - 1) ap bJ (by omega) rfl rfl rfl)<|aa ?_
  intro w hw
  have hlt:(t.take (t.length - 1)).length=t.length - 1:=by rw[an];omega
  refine⟨(A5,c5),trivial,by show _=Ending.returned (.tuple #[.slice A5 (t.take (t.length - 1)).length c5,.bool true]);rw[hlt],?_⟩
  show Cw B w0 (fL (.slice A5 (t.take (t.length - 1)).length c5) (t.take (t.length - 1))::_::H) w
  rw[hlt]
  exact(Cz (k:=t.length - 1) (by omega) (hw.msub (T:=fL (.slice A5 t.length c5) t::af gc [.slice a.Af m.frames.length a.cf,.slice a.Ab m.blocks.length a.cb,.slice a.Ai m.inn.length a.ci,.slice a.Ao m.out.length a.co,.int .i64 m.status,.int .i64 m.trap,.slice Ap fs.length cp] 190::H) ms)).msub ms
 rw[if_neg (fun h=>h h7)]
 refine aa ?_
 intro w hw
 exact⟨(A5,c5),trivial,rfl,hw.msub ms⟩
end
end
section
theorem rA {α:Type} {L:List (List α)} {k:Nat} (hk:k<L.length):(L.take (k+1)).flatten=(L.take k).flatten++L.getD k []:=by
 rw[eI L k [] hk,List.flatten_append]
 simp
theorem uQ {α:Type} (L:List (List α)) (k:Nat):(L.take k).flatten.length<=L.flatten.length:=by
 rw[<-congrArg List.length (congrArg List.flatten (List.take_append_drop k L)),List.flatten_append,ag]
 omega
theorem xe (g n:Nat) (hd:Nat->Option Addr×Nat) (L:List (List aQ)) (hn:L.length=n) (w:World) (hlt:g<w.heap.size) (hc:∀k,k<n->w.cell? ⟨g,0+k*1,none⟩=some (.slice (hd k).1 (L.getD k []).length (hd k).2))
  (hs:∀k,k<n->Sl w (.slice (hd k).1 (L.getD k []).length (hd k).2) (L.getD k [])) (hb:L.flatten.length*16<=140737488355328) (hn':n<=1000) :
  Calls Tryz.prog 291 #[.slice (some ⟨g,0,none⟩) n n] w fun e w'=> ∃u,e= .returned u/\Below w.heap.size w w'/\dx w' w.heap.size u L.flatten:=by
 subst hn
 have hfl:=uQ L
 refine enter Tryz.func291 rfl Tryz.ntmps291 rfl<|aa ?_
 refine cN (fun k:Nat=>k<=L.length) (fun k=>L.length - k) (fun k=> [(0,.slice (some ⟨g,0,none⟩) L.length L.length),(3,.int .i64 ((L.take k).flatten.length:Int)),(9,.slice (some ⟨g,0,none⟩) L.length L.length),(10,.int .i64 (L.length:Int)),(11,.int .i64 (k:Int))]) (fun _=> []) 0 (aC _) ?_
 rintro k hk
 have hk:k<=L.length:=hk
 refine ak (fun h1=>?_) (fun h1=>?_)
 ·have hkn:k<L.length:=by omega
  have hft:=congrArg List.length (rA (L:=L) (k:=k) (by omega))
  rw[ag] at hft
  have hfk:=hfl (k+1)
  refine aa ?_
  refine sE (fT (k:=k) jL jz rfl hkn rfl rfl rfl) ?_
  refine dQ rfl (fun w' hw=>(hw.below.cell hlt).trans (hc k hkn))<|ak (fun h2=>?_) (fun h2=>?_)
  ·exact absurd h2 (by omega)
  refine cT (t:=3) (v':= .int .i64 ((L.take (k+1)).flatten.length:Int)) rfl (by congr 1;omega)<|aa ?_
  refine bN (k+1) (by show k+1<=_;omega) (by show _ - _<_ - _;omega)
 obtain rfl:k=L.length:=by omega
 rw[bh]
 refine aa ?_
 refine fE rfl Tryz.call315 (fun w hw=>yK L.flatten.length hb w) (fun⟨A2,c2⟩ _=>?_)
 refine a7 ?_
 refine cN (fun g:Nat×Option Addr×Nat=>g.1<=L.length) (fun g=>L.length - g.1) (fun q=> [(6,.slice q.2.1 (L.take q.1).flatten.length q.2.2),(25,.slice (some ⟨g,0,none⟩) L.length L.length),(26,.int .i64 (L.length:Int)),(27,.int .i64 (q.1:Int))]) (fun q=> [aj (.slice q.2.1 (L.take q.1).flatten.length q.2.2) (L.take q.1).flatten]) (0,A2,c2) (aC _) ?_
 rintro⟨k,A3,c3⟩ hk
 try dsimp only
 have hk:k<=L.length:=hk
 refine ak (fun h1=>?_) (fun h1=>?_)
 ·have hkn:k<L.length:=by omega
  have hft:=rA (L:=L) (k:=k) (by omega)
  have hft2:=congrArg List.length hft
  rw[ag] at hft2
  have hfk:=hfl (k+1)
  refine aa ?_
  refine sE (fT (k:=k) jL jz rfl hkn rfl rfl rfl) ?_
  refine dQ rfl (fun w' hw=>(hw.below.cell hlt).trans (hc k hkn))<|aa ?_
  refine oE (gE (α:=aQ) (bytes:=16) (xs:=(L.take k).flatten) (ys:=L.getD k []) hft bu (bP gQ) rfl fc (.ro (hs k hkn)) (by omega) (by omega) rfl rfl rfl) (fun⟨A5,c5⟩ _=>?_)
  refine a7 ?_
  refine bN (k+1,A5,c5) (by show k+1<=_;omega) (by show _ - _<_ - _;omega)
 obtain rfl:k=L.length:=by omega
 rw[bh]
 refine aa ?_
 intro w hw
 exact⟨_,rfl,jD hw⟩
end
section
theorem wj {nb:Nat} {l:List aQ} {k:Nat} (hk:k<l.length) (h:d9 nb (l.getD k default)=false):l.any (fun v=>!d9 nb v)=true:=cM.2 ⟨_,eb hk,by rw[h];rfl⟩
theorem uo {nb:Nat} {l:List aQ} (h:∀j,j<l.length->d9 nb (l.getD j default)=true):¬l.any (fun v=>!d9 nb v)=true:=fun ha=>by
 obtain⟨v,hv,h2⟩:=cM.1 ha
 obtain⟨j,hj,rfl⟩:=bD hv
 have:=h j hj
 rw[ac,ae hj,lK] at this
 rw[this] at h2
 cases h2
theorem ow {s:List aQ} {t:List Int} {n k:Nat} (hk:k<n) (h:eQ (s.getD k default) (t.getD k 0)=false):wi s t n=false:=by
 cases e:wi s t n with
 | false=>rfl
 | true=>rw[iS.1 e k hk] at h;cases h
section
variable {B:Nat} {w0:World} {H:List ar}
theorem qh (gc:Nat) (a:MA) (m:av) (Ap:Option Addr) (cp:Nat) (fs:List ah) (hs:aT w0 B (.slice Ap fs.length cp) fs) (hm:fd B w0 a m) (hF:iZ fs) (hfit:jw m.frames) (i:Nat) (hi:i<m.frames.length) (hfn:∀x∈m.frames,0<=x.func/\x.func<fs.length) (E:Int) (hE:dK fs m.blocks.length m.frames i=E) (w:World) (hw:Cw B w0 (af gc [.slice a.Af m.frames.length a.cf,.slice a.Ab m.blocks.length a.cb,.slice a.Ai m.inn.length a.ci,.slice a.Ao m.out.length a.co,.int .i64 m.status,.int .i64 m.trap,.slice Ap fs.length cp] 190::H) w) :
  Calls Tryz.prog 238 #[.pointer (some ⟨gc,0,none⟩),.int .i64 (i:Int)] w fun e w'=> ∃_:Unit,True/\e= .returned (.int .i64 E)/\Cw B w0 (af gc [.slice a.Af m.frames.length a.cf,.slice a.Ab m.blocks.length a.cb,.slice a.Ai m.inn.length a.ci,.slice a.Ao m.out.length a.co,.int .i64 m.status,.int .i64 m.trap,.slice Ap fs.length cp] 190::H) w':=by
 have bf:=be hm.f
 have bp:=be hs
 obtain⟨A1,c1,A2,c2,hl,hst,hI,hcell⟩:=hm.f.fr hi
 obtain⟨hb1,hb2⟩:=hfit.2 (aD m.frames i) (eW hi)
 have hx:=hfn _ (eW hi)
 obtain⟨kf,hkf⟩:∃kf:Nat,(aD m.frames i).func=kf:=⟨(aD m.frames i).func.toNat,by omega⟩
 have hkl:kf<fs.length:=by omega
 obtain⟨hok,hn0⟩:=jj hF.p hkl
 obtain⟨F1,d1,F2,d2,hfl,hfc,hfi,hfcell⟩:=hs.fn hkl
 have hfl6:(ai fs kf).locals.length<=6:=(hok.op 0 hn0).par kf hkl |>.2
 have hff:it fs m.frames i=ai fs kf:=by unfold it;rw[hkf,aV]
 unfold dK at hE
 rw[hff] at hE
 rw[hkf] at hcell
 obtain⟨q,hq⟩:∃q,ir fs m.frames i=q:=⟨_,rfl⟩
 rw[hq] at hE
 generalize ai fs kf=f at hE hfl hfc hfi hfcell hfl6
 generalize aD m.frames i=x at hE hl hst hI hcell hb1 hb2
 have bx1:=be hl
 have bx2:=be hst
 refine bX Tryz.func238 rfl Tryz.ntmps238 rfl hw<|aa ?_
 refine cQ (i) rfl ((.ro hm.f)) ?_
 refine iW rfl (hcell _)<|aa ?_
 refine fun g1 _=>aa ?_
 refine bF [0,3,6,9,12,15,18,21,24,29,32] [10] rfl<|aa ?_
 refine tE rfl (bt (k:=kf) gz ij (.ro hs) (by omega) rfl rfl rfl) ?_
 refine tE rfl (gV (hfcell _) rfl rfl Hr ij)<|aa ?_
 refine fun g2 _=>cq (fun h1=>?_) (fun h1=>?_)
 ·rw[if_pos (show x.locals.length≠f.locals.length from fun e=>h1 (by rw[e]))] at hE
  subst hE
  refine aa ?_
  intro w hw
  exact⟨(),trivial,rfl,hw.msub ms⟩
 have h1:x.locals.length=f.locals.length:=by omega
 rw[if_neg (fun h=>h h1)] at hE
 have hcat: [x.locals,x.stack].flatten.length*16<=140737488355328:=by simp only[List.flatten_cons,List.flatten_nil,ag,aH];omega
 refine aa ?_
 intro g3 _
 refine oE (eO rfl rfl rfl Tryz.call291 (fun w hw=>xe g3 2 (fun k=>if k=0 then (A1,c1) else (A2,c2)) [x.locals,x.stack] rfl w (kM hw fc) (fun k hk=>by rcases(show k=0\/k=1 by omega) with rfl | rfl;exact eX fc rfl w hw;exact eX fc rfl w hw) (fun k hk=>by rcases(show k=0\/k=1 by omega) with rfl | rfl;exact hw.ro hl;exact hw.ro hst) hcat (by decide))) (fun⟨A5,c5⟩ _=>?_)
 refine a7 ?_
 have hfe: [x.locals,x.stack].flatten=x.locals++x.stack:=by simp
 rw[hfe]
 rw[hfe] at hcat
 refine cN (fun k:Nat=>k<=(x.locals++x.stack).length/\∀j,j<k->d9 m.blocks.length ((x.locals++x.stack).getD j default)=true) (fun k=>(x.locals++x.stack).length - k) (fun k=> [(0,.pointer (some ⟨gc,0,none⟩)),(1,.int .i64 (i:Int)),(5,.pointer (some ⟨g1,0,none⟩)),(6,.pointer (some ⟨g2,0,none⟩)),(45,.slice A5 (x.locals++x.stack).length c5),(46,.int .i64 ((x.locals++x.stack).length:Int)),(47,.int .i64 (k:Int))]) (fun _=>aj (.slice A5 (x.locals++x.stack).length c5) (x.locals++x.stack)::af g1 [.int .i64 (kf:Int),.int .i64 x.pc,.slice A1 x.locals.length c1,.slice A2 x.stack.length c2] 118::af g2 [.int .i64 f.params,.slice F1 f.locals.length d1,.int .i64 f.result,.slice F2 f.code.length d2] 84::af gc [.slice a.Af m.frames.length a.cf,.slice a.Ab m.blocks.length a.cb,.slice a.Ai m.inn.length a.ci,.slice a.Ao m.out.length a.co,.int .i64 m.status,.int .i64 m.trap,.slice Ap fs.length cp] 190::H) 0 (⟨aC _,fun _ h=>absurd h (eo _)⟩) ?_ (hh:=(fun w h=>h.msub ms))
 rintro k hk'
 obtain⟨hk,hno⟩:k<=(x.locals++x.stack).length/\∀j,j<k->d9 m.blocks.length ((x.locals++x.stack).getD j default)=true:=hk'
 refine ak (fun hlt=>?_) (fun hlt=>?_)
 ·have hkl2:k<(x.locals++x.stack).length:=by omega
  refine aa ?_
  refine cQ (_) rfl ((SF.own rfl fc)) ?_
  refine iW rfl (SF.val (SF.own rfl fc) hkl2 default)<|aa ?_
  refine fun g4 _=>aa ?_
  refine ei rfl Tryz.call292 (fun w hw=>xd gc a m (.slice Ap fs.length cp) ((x.locals++x.stack).getD k default) w (hw.msub (.s fc .r))) (fun _ _=>aa ?_)
  obtain⟨vb,hvb⟩:∃b,d9 m.blocks.length ((x.locals++x.stack).getD k default)=b:=⟨_,rfl⟩
  rw[hvb]
  cases vb
  ·rw[if_pos (wj hkl2 hvb)] at hE
   subst hE
   rw[if_neg (by decide)]
   refine ko rfl (fun hz=>?_) (fun hz=>?_)
   ·refine aa ?_
    intro w hw
    exact⟨(),trivial,rfl,hw.msub ms⟩
   exact absurd hz (by decide)
  rw[if_pos rfl]
  refine ko rfl (fun hz=>?_) (fun hz=>?_)
  ·exact absurd rfl hz
  refine aa ?_
  refine bN (k+1) (⟨by show k+1<=_;omega,fun j hj=>(dZ j k).elim (hno j) (fun h=>by obtain rfl:j=k:=(by omega);exact hvb)⟩) (by show _ - _<_ - _;omega) (hh:=(fun w h=>h.msub ms))
 obtain rfl:k=(x.locals++x.stack).length:=by omega
 rw[if_neg (uo hno)] at hE
 refine aa ?_
 refine cN (fun k:Nat=>k<=x.locals.length/\∀j,j<k->eQ (x.locals.getD j default) (f.locals.getD j 0)=true) (fun k=>x.locals.length - k) (fun k=> [(0,.pointer (some ⟨gc,0,none⟩)),(1,.int .i64 (i:Int)),(5,.pointer (some ⟨g1,0,none⟩)),(6,.pointer (some ⟨g2,0,none⟩)),(59,.slice A1 x.locals.length c1),(60,.int .i64 (x.locals.length:Int)),(61,.int .i64 (k:Int))]) (fun _=>af g1 [.int .i64 (kf:Int),.int .i64 x.pc,.slice A1 x.locals.length c1,.slice A2 x.stack.length c2] 118::af g2 [.int .i64 f.params,.slice F1 f.locals.length d1,.int .i64 f.result,.slice F2 f.code.length d2] 84::af gc [.slice a.Af m.frames.length a.cf,.slice a.Ab m.blocks.length a.cb,.slice a.Ai m.inn.length a.ci,.slice a.Ao m.out.length a.co,.int .i64 m.status,.int .i64 m.trap,.slice Ap fs.length cp] 190::H) 0 (⟨aC _,fun _ h=>absurd h (eo _)⟩) ?_ (hh:=(fun w h=>h.msub ms))
 rintro k hk'
 obtain⟨hk,hno2⟩:k<=x.locals.length/\∀j,j<k->eQ (x.locals.getD j default) (f.locals.getD j 0)=true:=hk'
 refine ak (fun hlt=>?_) (fun hlt=>?_)
 ·have hkl2:k<x.locals.length:=by omega
  refine aa ?_
  refine cQ (_) rfl ((.ro hl)) ?_
  refine iW rfl (SF.val (SF.ro hl) hkl2 default)<|aa ?_
  refine fun g5 _=>aa ?_
  refine bF [0,3,6,9,12,15,20,21] [] rfl<|aa ?_
  refine tE rfl (bt (k:=k) ap bJ (.ro hfl) (by omega) rfl rfl rfl) ?_
  refine tE rfl (bT (SF.int (.ro hfl) (by omega)) rfl rfl bd) ?_
  refine kG rfl rfl Tryz.call293 (fun w hw=>vT (x.locals.getD k default) (f.locals.getD k 0) w)<|aa ?_
  refine aO rfl (fun hb=>?_) (fun hb=>?_)
  ·have hb:eQ (x.locals.getD k default) (f.locals.getD k 0)=false:=by simpa using hb
   rw[if_pos (ow hkl2 hb)] at hE
   subst hE
   refine aa ?_
   intro w hw
   exact⟨(),trivial,rfl,hw.msub ms⟩
  have hb:eQ (x.locals.getD k default) (f.locals.getD k 0)=true:=by simpa using hb
  refine aa ?_
  refine bN (k+1) (⟨by show k+1<=_;omega,fun j hj=>(dZ j k).elim (hno2 j) (fun h=>by obtain rfl:j=k:=(by omega);exact hb)⟩) (by show _ - _<_ - _;omega) (hh:=(fun w h=>h.msub ms))
 obtain rfl:k=x.locals.length:=by omega
 rw[if_neg (by rw[iS.2 hno2];decide)] at hE
 refine aa ?_
 refine ei rfl Tryz.call294 (fun w hw=>y8 (H:=af g1 [.int .i64 (kf:Int),.int .i64 x.pc,.slice A1 x.locals.length c1,.slice A2 x.stack.length c2] 118::af g2 [.int .i64 f.params,.slice F1 f.locals.length d1,.int .i64 f.result,.slice F2 f.code.length d2] 84::H) gc a m Ap cp fs hs hm hF i hi hfn q hq w (hw.msub ms)) (fun⟨A6,c6⟩ _=>?_)
 refine a7 ?_
 refine aO rfl (fun hn=>?_) (fun hn=>?_)
 ·have hn:q=none:=by simpa using hn
  subst hn
  subst hE
  refine aa ?_
  intro w hw
  exact⟨(),trivial,rfl,hw.msub ms⟩
 obtain⟨t,rfl⟩:∃t,q=some t:=by cases q with
  | none=>simp at hn
  | some t=>exact⟨t,rfl⟩
 dsimp only[lK] at hE⊢
 refine cq (fun h2=>?_) (fun h2=>?_)
 ·have h2:¬(t.length:Int)=x.stack.length:=h2
  rw[if_pos (show t.length≠x.stack.length from fun e=>h2 (by rw[e]))] at hE
  subst hE
  refine aa ?_
  intro w hw
  exact⟨(),trivial,rfl,hw.msub ms⟩
 have h2:(t.length:Int)=x.stack.length:=h2
 have h2:t.length=x.stack.length:=by omega
 rw[if_neg (fun h=>h h2)] at hE
 refine aa ?_
 refine cN (fun k:Nat=>k<=x.stack.length/\∀j,j<k->eQ (x.stack.getD j default) (t.getD j 0)=true) (fun k=>x.stack.length - k) (fun k=> [(12,.slice A6 t.length c6),(90,.slice A2 x.stack.length c2),(91,.int .i64 (x.stack.length:Int)),(92,.int .i64 (k:Int))]) (fun _=>fL (.slice A6 t.length c6) t::af gc [.slice a.Af m.frames.length a.cf,.slice a.Ab m.blocks.length a.cb,.slice a.Ai m.inn.length a.ci,.slice a.Ao m.out.length a.co,.int .i64 m.status,.int .i64 m.trap,.slice Ap fs.length cp] 190::H) 0 (⟨aC _,fun _ h=>absurd h (eo _)⟩) ?_ (hh:=(fun w h=>h.msub ms))
 rintro k hk'
 obtain⟨hk,hno3⟩:k<=x.stack.length/\∀j,j<k->eQ (x.stack.getD j default) (t.getD j 0)=true:=hk'
 refine ak (fun hlt=>?_) (fun hlt=>?_)
 ·have hkl2:k<x.stack.length:=by omega
  refine aa ?_
  refine cQ (_) rfl ((.ro hst)) ?_
  refine iW rfl (SF.val (SF.ro hst) hkl2 default)<|aa ?_
  refine fun g6 _=>aa ?_
  refine bF [0,3,6,9,12,17,18] [] rfl<|aa ?_
  refine tE rfl (bt (k:=k) ap bJ (SF.rd (xs:=t) rfl fc) (by omega) rfl rfl rfl) ?_
  refine tE rfl (bT (SF.int (SF.rd (xs:=t) rfl fc) (by omega)) rfl rfl bd) ?_
  refine kG rfl rfl Tryz.call293 (fun w hw=>vT (x.stack.getD k default) (t.getD k 0) w)<|aa ?_
  refine aO rfl (fun hb=>?_) (fun hb=>?_)
  ·have hb:eQ (x.stack.getD k default) (t.getD k 0)=false:=by simpa using hb
   rw[if_pos (ow (by omega) hb)] at hE
   subst hE
   refine aa ?_
   intro w hw
   exact⟨(),trivial,rfl,hw.msub ms⟩
  have hb:eQ (x.stack.getD k default) (t.getD k 0)=true:=by simpa using hb
  refine aa ?_
  refine bN (k+1) (⟨by show k+1<=_;omega,fun j hj=>(dZ j k).elim (hno3 j) (fun h=>by obtain rfl:j=k:=(by omega);exact hb)⟩) (by show _ - _<_ - _;omega) (hh:=(fun w h=>h.msub ms))
 obtain rfl:k=x.stack.length:=by omega
 rw[if_neg (by rw[h2,iS.2 hno3];decide)] at hE
 subst hE
 refine aa ?_
 intro w hw
 exact⟨(),trivial,rfl,hw.msub ms⟩
end
end
section
theorem DW {r:Bool} {n t:Int} (h:1<=t/\t<=3):eQ ⟨r,n⟩ t=if t=1 then !r else (r && (decide (t=2) || decide (n=0))):=by
 unfold eQ
 rcases(show t=1\/t=2\/t=3 by omega) with rfl | rfl | rfl <;> cases r <;> simp
theorem q8 (v:aQ) (t:Int) (ht:1<=t/\t<=3) (w:World):Calls Tryz.prog 198 #[.agg #[.bool v.ref,.int .i64 v.n],.int .i64 t] w fun e w'=>e= .returned (.bool (eQ v t))/\Below w.heap.size w w':=by
 obtain⟨r,n⟩:=v
 have h2:=DW (r:=r) (n:=n) ht
 refine enter Tryz.func198 rfl Tryz.ntmps198 rfl<|aa ?_
 refine fun g1 _=>ak (fun h1=>?_) (fun h1=>?_)
 ·have h1:t=1:=h1
  rw[if_pos h1] at h2
  refine aa ?_
  intro w hw
  exact⟨aS h2.symm,hw.below⟩
 have h1:¬t=1:=h1
 rw[if_neg h1] at h2
 refine fU (eR ?_)
 refine cV<|cz<|aw ?_
 refine dJ (da fc FL rfl rfl (by rfl)) rfl rfl ?_
 refine aw ?_
 cases r with
 | false=>
  refine bq (t:=12) (v':= .bool false) rfl (rfl)<|aa ?_
  intro w hw
  exact⟨aS (by rw[h2];rfl),hw.below⟩
 | true=>
  refine bq (t:=12) (v':= .bool true) rfl (rfl)<|cD 15 (fun q=>?_) (fun q=>?_)
  ·have q:t=2:=of_decide_eq_true q
   refine aa ?_
   intro w hw
   exact⟨aS (by rw[h2];simp[q]),hw.below⟩
  have q:¬t=2:=of_decide_eq_false q
  refine aa ?_
  intro w hw
  exact⟨aS (by rw[h2];simp[q]),hw.below⟩
theorem wJ (Ap:Option Addr) (cp:Nat) (fs:List ah) (k:Nat) (pc:Int) (q:Option (List Int)) (hq:eD fs (ai fs k) pc=q) (w:World) (hs:Sl w (.slice Ap fs.length cp) fs) (hk:k<fs.length) (hok:iY fs (ai fs k)) (hty:lH fs (ai fs k)) (hn0:0<(ai fs k).code.length) :
  Calls Tryz.prog 199 #[.agg #[.slice Ap fs.length cp],.int .i64 (k:Int),.int .i64 pc] w fun e w'=> ∃g:Option Addr×Nat,True/\e= .returned (.tuple #[.slice g.1 (q.getD []).length g.2,.bool q.isSome])/\
   Cw w.heap.size w [fL (.slice g.1 (q.getD []).length g.2) (q.getD [])] w':=by
 refine enter Tryz.func199 rfl Tryz.ntmps199 rfl<|aa ?_
 refine fun g1 _=>aa ?_
 refine fE rfl Tryz.call139 (fun w hw=>ny Ap cp fs k w (hw.ro hs) hk hok hty hn0) (fun⟨⟨A1,c1⟩,es,L⟩ hre=>?_)
 refine a7 ?_
 have hre:jv es L (aY fs (ai fs k)).1:=hre
 have hl:=hre.len
 refine ia (p:=es.length<=140737488355328) (fun w hw=>be (SF.at_ (SF.own (α:=eF) (xs:=es) rfl fc) hw)) fun b1=>?_
 refine cN (fun i:Nat=>i<=es.length/\∀j,j<i->(hent es j).pc≠pc) (fun i=>es.length - i) (fun i=> [(2,.int .i64 pc),(8,.slice A1 es.length c1),(10,.int .i64 (i:Int))]) (fun _=> [aj (.slice A1 es.length c1) es,dI L]) 0 (⟨aC _,fun _ h=>absurd h (eo _)⟩) ?_
 rintro i hi'
 obtain⟨hi,hno⟩:i<=es.length/\∀j,j<i->(hent es j).pc≠pc:=hi'
 refine ak (fun hlt'=>?_) (fun hlt'=>?_)
 ·have hlt:i<es.length:=by omega
  have hlt2:i<(aY fs (ai fs k)).1.length:=by omega
  obtain⟨e1,e2⟩:=hre.el i hlt hlt2
  refine aa ?_
  refine cQ (i) rfl ((SF.own (xs:=es) rfl fc))<|aa ?_
  refine dQ rfl (fun w hw=>SF.hent (SF.own (xs:=es) rfl fc) hlt w hw 0 _ rfl)<|ak (fun hp=>?_) (fun hp=>?_)
  ·have hp:(hent es i).pc=pc:=hp
   have hq2:q=some (aY fs (ai fs k)).1[i].stack:=by
    rw[<-hq]
    unfold eD
    rw[v7 hlt2 (by rw[<-e1,<-jI hlt];exact hp) (fun j hj h=>by
     have hj':j<es.length:=by omega
     have:=hno j hj
     rw[jI hj',(hre.el j hj' h).1] at this
     exact this)]
    rfl
   subst hq2
   rw[<-jI hlt] at e2
   refine aa ?_
   refine cQ (i) rfl ((SF.own (xs:=es) rfl fc))<|aa ?_
   refine dQ rfl (fun w hw=>SF.hent (SF.own (xs:=es) rfl fc) hlt w hw 1 _ rfl)<|aa ?_
   intro w hw
   obtain⟨A5,c5,e5⟩:=e2.form hw fc
   rw[e5] at e2⊢
   exact⟨(A5,c5),trivial,rfl,(o6 e2 (hw.msub (T:=dI L:: []) ms)).msub ms⟩
  have hp:¬(hent es i).pc=pc:=hp
  refine aa ?_
  refine bN (i+1) (⟨by show i+1<=_;omega,fun j hj=>(dZ j i).elim (hno j) (fun h=>by obtain rfl:j=i:=(by omega);exact hp)⟩) (by show _ - _<_ - _;omega)
 obtain rfl:i=es.length:=by omega
 have hq2:q=none:=by
  rw[<-hq]
  unfold eD
  rw[v6 (fun j hj=>by
   have hj':j<es.length:=by omega
   have:=hno j hj'
   rw[jI hj',(hre.el j hj' hj).1] at this
   exact this)]
  rfl
 subst hq2
 refine aa ?_
 intro w hw
 exact⟨(none,0),trivial,rfl,(ls hw).msub ms⟩
end
section
theorem jQ {n k:Nat} (hk:k<n):(List.range n).getD k 0=k:=by
 rw[ac,List.getElem?_range hk]
 rfl
theorem yN {l:List aP} {k n:Nat} (hk:k<l.length) (h:ax (aD l k).func 0 ((n:Int) - 1)=false):l.any (fun x=>!ax x.func 0 ((n:Int) - 1))=true:=cM.2 ⟨_,eW hk,by rw[h];rfl⟩
theorem vZ {l:List aP} {n:Nat} (h:∀j,j<l.length->ax (aD l j).func 0 ((n:Int) - 1)=true):(¬l.any (fun x=>!ax x.func 0 ((n:Int) - 1))=true)/\∀x∈l,0<=x.func/\x.func<n:=by
 have h2:∀x∈l,ax x.func 0 ((n:Int) - 1)=true:=fun x hx=>by
  obtain⟨j,hj,rfl⟩:=bD hx
  have:=h j hj
  unfold aD at this
  rwa [ac,ae hj] at this
 refine⟨fun ha=>?_,fun x hx=>?_⟩
 ·obtain⟨x,hx,h3⟩:=cM.1 ha
  rw[h2 x hx] at h3
  cases h3
 have:=di.1 (h2 x hx)
 omega
section
variable {B:Nat} {w0:World} {H:List ar}
theorem uZ (gc:Nat) (a:MA) (m:av) (Ap:Option Addr) (cp:Nat) (fs:List ah) (hs:aT w0 B (.slice Ap fs.length cp) fs) (hm:fd B w0 a m) (hF:iZ fs) (hfit:jw m.frames) (E:Int) (hE:iP fs m=E) (w:World) (hw:Cw B w0 (af gc [.slice a.Af m.frames.length a.cf,.slice a.Ab m.blocks.length a.cb,.slice a.Ai m.inn.length a.ci,.slice a.Ao m.out.length a.co,.int .i64 m.status,.int .i64 m.trap,.slice Ap fs.length cp] 190::H) w) :
  Calls Tryz.prog 184 #[.pointer (some ⟨gc,0,none⟩)] w fun e w'=> ∃_:Unit,True/\e= .returned (.int .i64 E)/\Cw B w0 (af gc [.slice a.Af m.frames.length a.cf,.slice a.Ab m.blocks.length a.cb,.slice a.Ai m.inn.length a.ci,.slice a.Ao m.out.length a.co,.int .i64 m.status,.int .i64 m.trap,.slice Ap fs.length cp] 190::H) w':=by
 have bf:=be hm.f
 have bp:=be hs
 unfold iP at hE
 refine bX Tryz.func184 rfl Tryz.ntmps184 rfl hw ?_
 refine cV<|cz<|aw ?_
 refine bV<|dw (fun _:Unit=> ¬6<m.frames.length/\¬(m.frames.length=0/\m.status≠2)/\¬(0<m.frames.length/\m.status=2)) (fun _=> [(0,.pointer (some ⟨gc,0,none⟩))]) (fun _=>af gc [.slice a.Af m.frames.length a.cf,.slice a.Ab m.blocks.length a.cb,.slice a.Ai m.inn.length a.ci,.slice a.Ao m.out.length a.co,.int .i64 m.status,.int .i64 m.trap,.slice Ap fs.length cp] 190::H) ?_ ?_
 ·refine ak (fun h6=>?_) (fun h6=>?_)
  ·rw[if_pos (by omega)] at hE
   subst hE
   refine aa ?_
   intro w hw
   exact⟨(),trivial,rfl,hw.msub ms⟩
  have h6:¬6<m.frames.length:=by omega
  rw[if_neg h6] at hE
  refine cD 21 (fun h0=>?_) (fun h0=>?_)
  ·have h0:=of_decide_eq_true h0
   have h0:m.frames.length=0:=by omega
   refine cq (fun h2=>?_) (fun h2=>?_)
   ·rw[if_pos ⟨h0,h2⟩] at hE
    subst hE
    refine aa ?_
    intro w hw
    exact⟨(),trivial,rfl,hw.msub ms⟩
   refine cD 32 (fun h3=>?_) (fun h3=>?_)
   ·have h3:=of_decide_eq_true h3
    exact absurd h3 (by omega)
   refine aa ?_
   refine bO rfl<|aa ?_
   refine cG () (⟨h6,fun h=>h.2 h2,fun h=>by omega⟩) (hh:=(fun _ h=>h.msub ms))
  have h0:=of_decide_eq_false h0
  have h0:¬m.frames.length=0:=by omega
  rw[if_neg (fun h=>h0 h.1)] at hE
  refine aa ?_
  refine bO rfl<|cD 32 (fun h3=>?_) (fun h3=>?_)
  ·refine ak (fun h2=>?_) (fun h2=>?_)
   ·rw[if_pos ⟨by omega,h2⟩] at hE
    subst hE
    refine aa ?_
    intro w hw
    exact⟨(),trivial,rfl,hw.msub ms⟩
   refine aa ?_
   refine cG () (⟨h6,fun h=>h0 h.1,fun h=>h2 h.2⟩) (hh:=(fun _ h=>h.msub ms))
  have h3:=of_decide_eq_false h3
  exact absurd h3 (by omega)
 rintro⟨⟩ ⟨h1,h2,h3⟩
 rw[if_neg h1,if_neg h2,if_neg h3] at hE
 refine aa ?_
 refine cN (fun k:Nat=>k<=m.frames.length/\∀j,j<k->ax (aD m.frames j).func 0 ((fs.length:Int) - 1)=true) (fun k=>m.frames.length - k) (fun k=> [(0,.pointer (some ⟨gc,0,none⟩)),(44,.slice a.Af m.frames.length a.cf),(45,.int .i64 (m.frames.length:Int)),(46,.int .i64 (k:Int))]) (fun _=>af gc [.slice a.Af m.frames.length a.cf,.slice a.Ab m.blocks.length a.cb,.slice a.Ai m.inn.length a.ci,.slice a.Ao m.out.length a.co,.int .i64 m.status,.int .i64 m.trap,.slice Ap fs.length cp] 190::H) 0 (⟨aC _,fun _ h=>absurd h (eo _)⟩) ?_ (hh:=(fun w h=>h.msub ms))
 rintro k hk'
 obtain⟨hk,hno⟩:k<=m.frames.length/\∀j,j<k->ax (aD m.frames j).func 0 ((fs.length:Int) - 1)=true:=hk'
 refine ak (fun hlt=>?_) (fun hlt=>?_)
 ·have hkl:k<m.frames.length:=by omega
  obtain⟨A1,c1,A2,c2,hl,hst,hI,hcell⟩:=hm.f.fr hkl
  refine aa ?_
  refine cQ (_) rfl ((.ro hm.f)) ?_
  refine iW rfl (hcell _)<|aa ?_
  refine fun g1 _=>aa ?_
  refine bF [0,3,6,9,12,15,18,21,24,29,30] [] rfl<|aa ?_
  refine kG rfl rfl uA (fun w hw=>jd (aD m.frames k).func 0 ((fs.length:Int) - 1) w)<|aa ?_
  refine aO rfl (fun hb=>?_) (fun hb=>?_)
  ·have hb:ax (aD m.frames k).func 0 ((fs.length:Int) - 1)=false:=by simpa using hb
   rw[if_pos (yN hkl hb)] at hE
   subst hE
   refine aa ?_
   intro w hw
   exact⟨(),trivial,rfl,hw.msub ms⟩
  have hb:ax (aD m.frames k).func 0 ((fs.length:Int) - 1)=true:=by simpa using hb
  refine aa ?_
  refine bN (k+1) (⟨by show k+1<=_;omega,fun j hj=>(dZ j k).elim (hno j) (fun h=>by obtain rfl:j=k:=(by omega);exact hb)⟩) (by show _ - _<_ - _;omega) (hh:=(fun w h=>h.msub ms))
 obtain rfl:k=m.frames.length:=by omega
 obtain⟨hany,hfn⟩:=vZ hno
 rw[if_neg hany] at hE
 refine aa ?_
 refine cN (fun k:Nat=>k<=m.frames.length/\(0<k->¬(0<m.frames.length/\(aD m.frames 0).func≠0))/\db (dK fs m.blocks.length m.frames) ((List.range m.frames.length).take k)=0) (fun k=>m.frames.length - k) (fun k=> [(0,.pointer (some ⟨gc,0,none⟩)),(66,.slice a.Af m.frames.length a.cf),(67,.int .i64 (m.frames.length:Int)),(68,.int .i64 (k:Int))]) (fun _=>af gc [.slice a.Af m.frames.length a.cf,.slice a.Ab m.blocks.length a.cb,.slice a.Ai m.inn.length a.ci,.slice a.Ao m.out.length a.co,.int .i64 m.status,.int .i64 m.trap,.slice Ap fs.length cp] 190::H) 0 (⟨aC _,fun h=>absurd h (eo _),rfl⟩) ?_ (hh:=(fun w h=>h.msub ms))
 rintro k hk'
 obtain⟨hk,hz0,hno2⟩:k<=m.frames.length/\(0<k->¬(0<m.frames.length/\(aD m.frames 0).func≠0))/\db (dK fs m.blocks.length m.frames) ((List.range m.frames.length).take k)=0:=hk'
 refine ak (fun hlt=>?_) (fun hlt=>?_)
 ·have hkl:k<m.frames.length:=by omega
  obtain⟨A1,c1,A2,c2,hl,hst,hI,hcell⟩:=hm.f.fr hkl
  refine aa ?_
  refine cQ (_) rfl ((.ro hm.f)) ?_
  refine iW rfl (hcell _)<|aa ?_
  refine fun g2 _=>cD 75 (fun hz=>?_) (fun hz=>?_)
  ·have hz:=of_decide_eq_true hz
   obtain rfl:k=0:=by omega
   refine cq (fun hf=>?_) (fun hf=>?_)
   ·rw[if_pos ⟨hkl,hf⟩] at hE
    subst hE
    refine aa ?_
    intro w hw
    exact⟨(),trivial,rfl,hw.msub ms⟩
   have h0:¬(0<m.frames.length/\(aD m.frames 0).func≠0):=fun h=>h.2 hf
   refine aa ?_
   refine ei rfl Tryz.call238 (fun w hw=>qh gc a m Ap cp fs hs hm hF hfit 0 hkl hfn _ rfl w (hw.msub (.s fc .r))) (fun _ _=>cq (fun he=>?_) (fun he=>?_))
   ·have he:dK fs m.blocks.length m.frames 0≠0:=he
    have hsn:=gg (g:=dK fs m.blocks.length m.frames) (l:=List.range m.frames.length) 0 (by rw[gR];exact hkl) hno2
    rw[jQ hkl] at hsn
    rw[if_neg h0,kI (k:=0+1) (by rw[hsn];exact he),hsn] at hE
    subst hE
    refine aa ?_
    intro w hw
    exact⟨(),trivial,rfl,hw.msub ms⟩
   have he:dK fs m.blocks.length m.frames 0=0:=he
   have hsn:=gg (g:=dK fs m.blocks.length m.frames) (l:=List.range m.frames.length) 0 (by rw[gR];exact hkl) hno2
   rw[jQ hkl,he] at hsn
   refine aa ?_
   refine bN 1 (⟨by show 1<=_;omega,fun _=>h0,hsn⟩) (by show _ - _<_ - _;omega) (hh:=(fun w h=>h.msub ms))
  have hz:=of_decide_eq_false hz
  have h0:=hz0 (by omega)
  refine aa ?_
  refine bO rfl<|aa ?_
  refine ei rfl Tryz.call238 (fun w hw=>qh gc a m Ap cp fs hs hm hF hfit k hkl hfn _ rfl w (hw.msub (.s fc .r))) (fun _ _=>cq (fun he=>?_) (fun he=>?_))
  ·have he:dK fs m.blocks.length m.frames k≠0:=he
   have hsn:=gg (g:=dK fs m.blocks.length m.frames) (l:=List.range m.frames.length) 0 (by rw[gR];exact hkl) hno2
   rw[jQ hkl] at hsn
   rw[if_neg h0,kI (k:=k+1) (by rw[hsn];exact he),hsn] at hE
   subst hE
   refine aa ?_
   intro w hw
   exact⟨(),trivial,rfl,hw.msub ms⟩
  have he:dK fs m.blocks.length m.frames k=0:=he
  have hsn:=gg (g:=dK fs m.blocks.length m.frames) (l:=List.range m.frames.length) 0 (by rw[gR];exact hkl) hno2
  rw[jQ hkl,he] at hsn
  refine aa ?_
  refine bN (k+1) (⟨by show k+1<=_;omega,fun _=>h0,hsn⟩) (by show _ - _<_ - _;omega) (hh:=(fun w h=>h.msub ms))
 obtain rfl:k=m.frames.length:=by omega
 rw[a6 (by rw[gR];exact ay _)] at hno2
 have h0:¬(0<m.frames.length/\(aD m.frames 0).func≠0):=fun h=>hz0 h.1 h
 rw[if_neg h0,hno2] at hE
 subst hE
 refine aa ?_
 intro w hw
 exact⟨(),trivial,rfl,hw.msub ms⟩
end
end
section
theorem yv (n:Int) (w:World):Calls Tryz.prog 237 #[.int .i64 n] w fun e w'=>e= .returned (.bool (!bg n))/\Below w.heap.size w w':=by
 refine enter Tryz.func237 rfl Tryz.ntmps237 rfl<|aa ?_
 refine bw rfl HV ((fun w hw=>cW ((fun w hw=>mt n w) w hw)))<|aa ?_
 intro w hw
 exact⟨rfl,hw.below⟩
theorem tB (A:Option Addr) (c:Nat) (l:List Int) (w:World) (hs:Sl w (.slice A l.length c) l):Calls Tryz.prog 183 #[.slice A l.length c] w fun e w'=>e= .returned (.bool (cF l))/\Below w.heap.size w w':=by
 refine enter Tryz.func183 rfl Tryz.ntmps183 rfl<|aa ?_
 refine bw rfl D0 (fun w hw=>lB A c l 237 #[] (fun n=>!bg n) w (hw.ro hs) Tryz.call237 (fun w1 _ x _=>yv x w1))<|aa ?_
 intro w hw
 exact⟨rfl,hw.below⟩
theorem Bc (m:av):iQ m=aD m.frames (m.frames.length - 1):=by
 unfold iQ aD
 rw[List.getLastD_eq_getLast?,List.getLast?_eq_getElem?,ac]
section
variable {B:Nat} {w0:World} {H:List ar}
theorem uj (gc:Nat) (a:MA) (m:av) (Ap:Option Addr) (cp:Nat) (fs:List ah) (hs:aT w0 B (.slice Ap fs.length cp) fs) (hm:fd B w0 a m) (hF:iZ fs) (hfit:jw m.frames) (E:Int) (hE:kE fs m=E) (w:World) (hw:Cw B w0 (af gc [.slice a.Af m.frames.length a.cf,.slice a.Ab m.blocks.length a.cb,.slice a.Ai m.inn.length a.ci,.slice a.Ao m.out.length a.co,.int .i64 m.status,.int .i64 m.trap,.slice Ap fs.length cp] 190::H) w) :
  Calls Tryz.prog 131 #[.pointer (some ⟨gc,0,none⟩)] w fun e w'=> ∃_:Unit,True/\e= .returned (.int .i64 E)/\Cw B w0 (af gc [.slice a.Af m.frames.length a.cf,.slice a.Ab m.blocks.length a.cb,.slice a.Ai m.inn.length a.ci,.slice a.Ao m.out.length a.co,.int .i64 m.status,.int .i64 m.trap,.slice Ap fs.length cp] 190::H) w':=by
 have bf:=be hm.f
 have bp:=be hs
 unfold kE at hE
 refine bX Tryz.func131 rfl Tryz.ntmps131 rfl hw ?_
 refine cV<|cz<|aw ?_
 refine bV<|cV<|cz<|aw ?_
 refine aw ?_
 refine bV<|dw (fun _:Unit=>True) (fun _=> [(0,.pointer (some ⟨gc,0,none⟩)),(3,.int .i64 (if m.status=3 then 1 else 0)),(4,.int .i64 (if m.status=3 then 5 else 0))]) (fun _=>af gc [.slice a.Af m.frames.length a.cf,.slice a.Ab m.blocks.length a.cb,.slice a.Ai m.inn.length a.ci,.slice a.Ao m.out.length a.co,.int .i64 m.status,.int .i64 m.trap,.slice Ap fs.length cp] 190::H) ?_ ?_
 ·refine ak (fun h3=>?_) (fun h3=>?_)
  ·rw[if_pos h3,if_pos h3]
   refine aa ?_
   refine lO () (trivial) (hh:=(fun _ h=>h.msub ms))
  rw[if_neg h3,if_neg h3]
  refine aa ?_
  refine cG () (trivial) (hh:=(fun _ h=>h.msub ms))
 rintro⟨⟩ _
 refine aa ?_
 refine bw rfl uA (fun w hw=>jd m.status 0 3 w)<|aa ?_
 refine aO rfl (fun h1=>?_) (fun h1=>?_)
 ·rw[if_pos (by simpa using h1)] at hE
  subst hE
  refine aa ?_
  intro w hw
  exact⟨(),trivial,rfl,hw.msub ms⟩
 rw[if_neg (by simpa using h1)] at hE
 refine aa ?_
 refine bw rfl uA (fun w hw=>jd m.trap _ _ w)<|aa ?_
 refine aO rfl (fun h2=>?_) (fun h2=>?_)
 ·rw[if_pos (by simpa using h2)] at hE
  subst hE
  refine aa ?_
  intro w hw
  exact⟨(),trivial,rfl,hw.msub ms⟩
 rw[if_neg (by simpa using h2)] at hE
 refine aa ?_
 refine bw rfl Tryz.call182 (fun w hw=>xf _ m.blocks w (hw.ro hm.b))<|cq (fun h3=>?_) (fun h3=>?_)
 ·rw[if_pos h3] at hE
  subst hE
  refine aa ?_
  intro w hw
  exact⟨(),trivial,rfl,hw.msub ms⟩
 rw[if_neg (fun h=>h h3)] at hE
 refine fU (eR ?_)
 refine dw (fun _:Unit=>(¬(10<m.inn.length\/10<m.out.length))/\¬(cF m.inn=true\/cF m.out=true)) (fun _=> [(0,.pointer (some ⟨gc,0,none⟩))]) (fun _=>af gc [.slice a.Af m.frames.length a.cf,.slice a.Ab m.blocks.length a.cb,.slice a.Ai m.inn.length a.ci,.slice a.Ao m.out.length a.co,.int .i64 m.status,.int .i64 m.trap,.slice Ap fs.length cp] 190::H) ?_ ?_
 ·refine cD 49 (fun h4=>?_) (fun h4=>?_)
  ·have h4:=of_decide_eq_true h4
   rw[if_pos (.inl (by omega))] at hE
   subst hE
   refine aa ?_
   refine aJ rfl<|aa ?_
   intro w hw
   exact⟨(),trivial,rfl,hw.msub ms⟩
  have h4:=of_decide_eq_false h4
  refine ak (fun h5=>?_) (fun h5=>?_)
  ·rw[if_pos (.inr (by omega))] at hE
   subst hE
   refine aa ?_
   intro w hw
   exact⟨(),trivial,rfl,hw.msub ms⟩
  have h45:¬(10<m.inn.length\/10<m.out.length):=by omega
  rw[if_neg h45] at hE
  refine aa ?_
  refine bw rfl Tryz.call183 (fun w hw=>tB a.Ai a.ci m.inn w (hw.ro hm.i))<|cD 65 (fun h6=>?_) (fun h6=>?_)
  ·rw[if_pos (.inl h6)] at hE
   subst hE
   refine aa ?_
   refine aJ rfl<|aa ?_
   intro w hw
   exact⟨(),trivial,rfl,hw.msub ms⟩
  refine aa ?_
  refine bw rfl Tryz.call183 (fun w hw=>tB a.Ao a.co m.out w (hw.ro hm.o))<|aa ?_
  refine aO rfl (fun h7=>?_) (fun h7=>?_)
  ·rw[if_pos (.inr h7)] at hE
   subst hE
   refine aa ?_
   intro w hw
   exact⟨(),trivial,rfl,hw.msub ms⟩
  have h67:¬(cF m.inn=true\/cF m.out=true):=by rw[h6,h7];simp
  refine aa ?_
  refine cG () (⟨h45,h67⟩) (hh:=(fun _ h=>h.msub ms))
 rintro⟨⟩ ⟨h4,h5⟩
 rw[if_neg h4,if_neg h5] at hE
 refine aa ?_
 refine ei rfl Tryz.call184 (fun w hw=>uZ gc a m Ap cp fs hs hm hF hfit _ rfl w (hw.msub (.s fc .r))) (fun _ _=>cq (fun h6=>?_) (fun h6=>?_))
 ·rw[if_pos h6] at hE
  subst hE
  refine aa ?_
  intro w hw
  exact⟨(),trivial,rfl,hw.msub ms⟩
 rw[if_neg (fun h=>h h6)] at hE
 refine cq (fun h7=>?_) (fun h7=>?_)
 ·rw[if_pos h7] at hE
  subst hE
  refine aa ?_
  intro w hw
  exact⟨(),trivial,rfl,hw.msub ms⟩
 rw[if_neg (fun h=>h h7)] at hE
 obtain⟨_,hdn,hfn,_,hfr⟩:=l5.1 h6
 have hne:m.frames.length≠0:=fun h=>by
  have:=hdn.1 (aN h)
  omega
 obtain⟨k,hk⟩:∃k,m.frames.length=k+1:=⟨m.frames.length - 1,by omega⟩
 have hkl:k<m.frames.length:=by omega
 obtain⟨A1,c1,A2,c2,hl,hst,hI,hcell⟩:=hm.f.fr hkl
 have hx:=hfn _ (eW hkl)
 obtain⟨kf,hkf⟩:∃kf:Nat,(aD m.frames k).func=kf:=⟨(aD m.frames k).func.toNat,by omega⟩
 have hkfl:kf<fs.length:=by omega
 obtain⟨F1,d1,F2,d2,hfl,hfc,hfi,hfcell⟩:=hs.fn hkfl
 obtain⟨t,ht,_⟩:=hfr k hkl
 unfold ir it at ht
 rw[if_pos hk.symm,hkf,aV] at ht
 obtain⟨hp0,hp1,_⟩:=(hF.e _ hkfl).at_ _ _ ht
 have hop:ea fs m=aK (ai fs kf).code (aD m.frames k).pc.toNat:=by
  unfold ea
  rw[Bc,hk,Nat.add_sub_cancel,hkf,aV]
 rw[hop] at hE
 rw[hkf] at hcell
 refine aa ?_
 refine bF [0,3,6,9,12,15,18,21,24,27,30,33,36,39,44,47] [15] rfl<|aa ?_
 refine fN (t:=95) (v':= .int .i64 (k:Int)) rfl (by rw[hk];congr 1;omega) ?_
 refine tE rfl (bt (k:=k) ef fh (.ro hm.f) hkl rfl rfl rfl) ?_
 refine tE rfl (gV (hcell _) rfl rfl Tryz.isAgg118 fh)<|aa ?_
 refine fun g1 _=>aa ?_
 refine bF [0,3,6,9,12,15,18,21,24,27,30,33,36,39,42,45,48,51,54,57,60,63,66,69,72] [] rfl<|aa ?_
 refine lq (t:=105) rfl (fun h8=>?_) (fun h8=>?_)
 ·have h8:=of_decide_eq_true h8
  rw[if_pos (.inl (by omega))] at hE
  subst hE
  refine aa ?_
  refine aJ rfl<|aa ?_
  intro w hw
  exact⟨(),trivial,rfl,hw.msub ms⟩
 have h8:=of_decide_eq_false h8
 refine aa ?_
 refine tE rfl (bt (k:=kf) gz ij (.ro hs) (by omega) rfl rfl rfl)<|aa ?_
 refine tE rfl (bT (fun w hw=>hfcell _ w hw 3 _ rfl) rfl rfl DY)<|aa ?_
 refine tE rfl (j9 fH j4 (.ro hfc) (by omega) rfl rfl rfl)<|aa ?_
 refine tE rfl (bT (SF.opc (.ro hfc) (by omega)) rfl rfl bd)<|cq (fun h9=>?_) (fun h9=>?_)
 ·rw[if_pos (.inr h9)] at hE
  subst hE
  refine aa ?_
  intro w hw
  exact⟨(),trivial,rfl,hw.msub ms⟩
 have h9:(aK (ai fs kf).code (aD m.frames k).pc.toNat).c=21:=h9
 rw[if_neg (fun h=>h.elim (fun h=>h8 (by omega)) (fun h=>h h9))] at hE
 subst hE
 refine aa ?_
 intro w hw
 exact⟨(),trivial,rfl,hw.msub ms⟩
end
theorem wQ (Ap:Option Addr) (cp:Nat) (fs:List ah) (a:MA) (m:av) (w:World) (hs:Sl w (.slice Ap fs.length cp) fs) (hm:fd w.heap.size w a m) (hF:iZ fs) (hfit:jw m.frames) :
  Calls Tryz.prog 74 #[.agg #[.slice Ap fs.length cp],.agg #[.slice a.Af m.frames.length a.cf,.slice a.Ab m.blocks.length a.cb,.slice a.Ai m.inn.length a.ci,.slice a.Ao m.out.length a.co,.int .i64 m.status,.int .i64 m.trap]] w fun e w'=>e= .returned (.int .i64 (kE fs m))/\Below w.heap.size w w':=by
 refine enter Tryz.func74 rfl Tryz.ntmps74 rfl<|aa ?_
 refine fun g1 _=>aa ?_
 refine fun g2 _=>aa ?_
 refine fun g3 _=>aa ?_
 refine ei rfl Tryz.call131 (fun w hw=>uj g3 a m Ap cp fs hs hm hF hfit _ rfl w (hw.msub (.s fc .r))) (fun _ _=>aa ?_)
 intro w hw
 exact⟨rfl,hw.below⟩
theorem pK (Ap:Option Addr) (cp:Nat) (fs:List ah) (a:MA) (m:av) (w:World) (hs:Sl w (.slice Ap fs.length cp) fs) (hm:fd w.heap.size w a m) (hfit:jw m.frames) :
  Calls Tryz.prog 45 #[.agg #[.slice Ap fs.length cp],.agg #[.slice a.Af m.frames.length a.cf,.slice a.Ab m.blocks.length a.cb,.slice a.Ai m.inn.length a.ci,.slice a.Ao m.out.length a.co,.int .i64 m.status,.int .i64 m.trap]] w fun e w'=>e= .returned (.int .i64 (dB fs m))/\Below w.heap.size w w':=by
 obtain⟨E,hE⟩:∃E,dB fs m=E:=⟨_,rfl⟩
 rw[hE]
 unfold dB at hE
 refine enter Tryz.func45 rfl Tryz.ntmps45 rfl<|aa ?_
 refine fun g1 _=>aa ?_
 refine fun g2 _=>aa ?_
 refine bw rfl Tryz.call72 (fun w hw=>qV Ap cp fs w (hw.ro hs))<|cq (fun h=>?_) (fun h=>?_)
 ·rw[if_pos h] at hE
  subst hE
  refine aa ?_
  intro w hw
  exact⟨rfl,hw.below⟩
 have h:eL fs=0:=h
 rw[if_neg (fun h'=>h' h)] at hE
 subst hE
 refine aa ?_
 refine bw rfl Tryz.call74 (fun w hw=>wQ Ap cp fs a m w (hw.ro hs) (fd.ro hw hm) (qL h) hfit)<|aa ?_
 intro w hw
 exact⟨rfl,hw.below⟩
end
section
theorem nA {fs:List ah} (hF:iZ fs):0<fs.length:=by
 have:=(je hF.p).1
 omega
theorem tN {fs:List ah} (hF:iZ fs) {m:av} (hR:gY fs m) {i:Nat} (hi:i<m.frames.length):(aD m.frames i).stack.length<=8/\(aD m.frames i).locals.length<=1000:=by
 obtain⟨u,hu,hul,hus⟩:=hR.fr i hi
 have hz:=hR.fn _ (eW hi)
 have hkz:(aD m.frames i).func.toNat<fs.length:=by omega
 rw[hus.len,hul.len]
 have hn40:=((jj hF.p (nA hF)).1.op 0 (jj hF.p (nA hF)).2).par _ hkz |>.2
 refine⟨?_,by unfold it;omega⟩
 unfold ir it at hu
 split at hu
 ·have:=((hF.e _ hkz).at_ _ _ hu).2.2.1
  omega
 split at hu
 ·cases hu
 split at hu
 ·cases hu
 cases h5:eD fs (ai fs (aD m.frames i).func.toNat) (aD m.frames i).pc with
 | none=>rw[h5] at hu;cases hu
 | some t2=>
  rw[h5] at hu
  have hu:(if (ai fs (aD m.frames (i+1)).func.toNat).result≠0 then t2.dropLast else t2)=u:=dF hu
  have:=((hF.e _ hkz).at_ _ _ h5).2.2.1
  rw[<-hu]
  split
  ·rw[List.length_dropLast];omega
  omega
theorem Da {fs:List ah} (hF:iZ fs) {m:av} (hR:gY fs m):FH m:=by
 refine⟨⟨by have:=hR.n6;omega,fun x hx=>?_⟩,qm.of_check hR.bl,by have:=hR.ib;omega,by have:=hR.ob;omega⟩
 obtain⟨i,hi,rfl⟩:=bD hx
 have h:=tN hF hR hi
 have e:aD m.frames i=m.frames[i]:=by
  unfold aD
  rw[ac,ae hi]
  rfl
 rw[e] at h
 omega
def iX (fs:List ah):av:=⟨[⟨0,0,eP (ai fs 0).locals,[]⟩],[],[],[],0,0⟩
def sC (fs:List ah):av:=if eL fs=0 then iX fs else default
def G9 (fs:List ah) (m:av):av:=if dB fs m=0 then gI fs m else default
theorem mD {fs:List ah} (h:eL fs=0):0<fs.length:=by
 have:=(je (qL h).p).1
 omega
theorem AK (Ap:Option Addr) (cp:Nat) (fs:List ah) (w:World) (hs:Sl w (.slice Ap fs.length cp) fs) (h0:0<fs.length) (hl6:(ai fs 0).locals.length<=1000) :
  Calls Tryz.prog 73 #[.agg #[.slice Ap fs.length cp]] w fun e w'=> ∃g:MA,True/\
   e= .returned (.agg #[.slice g.Af (iX fs).frames.length g.cf,.slice g.Ab (iX fs).blocks.length g.cb,.slice g.Ai (iX fs).inn.length g.ci,.slice g.Ao (iX fs).out.length g.co,.int .i64 (iX fs).status,.int .i64 (iX fs).trap])/\
   Cw w.heap.size w [aj (.slice g.Af (iX fs).frames.length g.cf) (iX fs).frames,aj (.slice g.Ab (iX fs).blocks.length g.cb) (iX fs).blocks,aj (.slice g.Ai (iX fs).inn.length g.ci) (iX fs).inn,aj (.slice g.Ao (iX fs).out.length g.co) (iX fs).out] w':=by
 obtain⟨A1,c1,A2,c2,hl,hc,hi,hcell⟩:=hs.fn h0
 have hF:(eP (ai fs 0).locals).length=(ai fs 0).locals.length:=pS _
 refine enter Tryz.func73 rfl Tryz.ntmps73 rfl<|aa ?_
 refine fun g1 _=>aa ?_
 refine fun g2 _=>aa ?_
 refine cQ (0) rfl ((.ro hs)) ?_
 refine iW rfl (hcell _) ?_
 refine oE (eO rfl rfl rfl Tryz.call130 (fun w hw=>yM (ai fs 0).params (ai fs 0).result A1 A2 c1 c2 _ (ai fs 0).locals w (hw.ro hl) (by omega))) (fun⟨A3,c3⟩ _=>?_)
 refine a7 ?_
 refine fun g3 _=>aa ?_
 intro w hw
 refine⟨⟨some ⟨g3,0,none⟩,1,none,0,none,0,none,0⟩,trivial,rfl,?_⟩
 have h1:=vw (H:= []) (xs:=(iX fs).frames) (g:=g3) (oS.cons (Hel:= [aj (.slice A3 (eP (ai fs 0).locals).length c3) (eP (ai fs 0).locals),aj (.slice none 0 0) ([]:List aQ)]) (cs:= [_,_,_,_]) (yI (x:=⟨0,0,eP (ai fs 0).locals,[]⟩) (by show aI 0/\aI 0;decide)) oS.nil_) rfl (by show 1<=_;decide) ((Cw.nilO aQ hw).msub (T:= [af g3 _ _,aj (.slice A3 (eP (ai fs 0).locals).length c3) (eP (ai fs 0).locals),aj (.slice none 0 0) ([]:List aQ)]) ms)
 exact(Cw.nilO (List Int) (Cw.nilO Int (Cw.nilO Int h1))).msub ms
theorem AJ {B:Nat} {w0 w:World} {H:List ar} (h:Cw B w0 H w):Cw B w0 (aj (α:=aP) (.slice none 0 0) []::aj (α:=List Int) (.slice none 0 0) []::aj (α:=Int) (.slice none 0 0) []::aj (α:=Int) (.slice none 0 0) []::H) w:=Cw.nilO aP (Cw.nilO (List Int) (Cw.nilO Int (Cw.nilO Int h)))
theorem wP (Ap:Option Addr) (cp:Nat) (fs:List ah) (m:av) (hmm:sC fs=m) (w:World) (hs:Sl w (.slice Ap fs.length cp) fs) :
  Calls Tryz.prog 54 #[.agg #[.slice Ap fs.length cp]] w fun e w'=> ∃g:MA,True/\
   e= .returned (.tuple #[.agg #[.slice g.Af m.frames.length g.cf,.slice g.Ab m.blocks.length g.cb,.slice g.Ai m.inn.length g.ci,.slice g.Ao m.out.length g.co,.int .i64 m.status,.int .i64 m.trap],.int .i64 (eL fs)])/\Cw w.heap.size w [aj (.slice g.Af m.frames.length g.cf) m.frames,aj (.slice g.Ab m.blocks.length g.cb) m.blocks,aj (.slice g.Ai m.inn.length g.ci) m.inn,aj (.slice g.Ao m.out.length g.co) m.out] w':=by
 refine enter Tryz.func54 rfl Tryz.ntmps54 rfl<|aa ?_
 refine fun g1 _=>aa ?_
 refine fun g2 _=>aa ?_
 refine bw rfl Tryz.call72 (fun w hw=>qV Ap cp fs w (hw.ro hs))<|aa ?_
 unfold sC at hmm
 refine ko rfl (fun h=>?_) (fun h=>?_)
 ·rw[if_neg h] at hmm
  subst hmm
  refine aa ?_
  intro w hw
  exact⟨⟨none,0,none,0,none,0,none,0⟩,trivial,rfl,(AJ hw).msub ms⟩
 have h:eL fs=0:=h
 rw[if_pos h] at hmm
 subst hmm
 refine aa ?_
 refine fE rfl Tryz.call73 (fun w hw=>AK Ap cp fs w (hw.ro hs) (mD h) (by have:=((jj (qL h).p (mD h)).1.op 0 (jj (qL h).p (mD h)).2).par 0 (mD h) |>.2;omega)) (fun g _=>aa ?_)
 intro w hw
 exact⟨g,trivial,by rw[h],hw.msub ms⟩
end
section
theorem Bm:Tryz.prog.eqGuardType Tryz.prog.depth 86=false:=by kernel_rfl
theorem Gf:Tryz.prog.stoodInHeld 86=false:=by kernel_rfl
theorem F9 (w : World) (a b c d : Int) : (binOp .neq 86 (.agg #[.int .i64 a, .int .i64 b]) (.agg #[.int .i64 c, .int .i64 d])).run Tryz.prog w = .ok (.bool (!(a == c && b == d))) w := by
  have h := Gf
  by_cases h1 : a = c <;> by_cases h2 : b = d <;> simp [go_sem, h, h1, h2]
theorem EY (x y : Operand) (u v : Array Value) (w : World) : (eqGuard .neq 86 x y (.agg u) (.agg v)).run Tryz.prog w = .ok () w := by
  have h := Bm
  simp [eqGuard, go_sem, h]
theorem zd {fs:List ah} (hF:iZ fs) {kf:Nat} (hk:kf<fs.length) {pc to_:Int} (hc:fK (ai fs kf) pc to_=true) {t0:List Int} (h0:eD fs (ai fs kf) (pc - 1)=some t0) :
  (0<=to_/\to_<fs.length)/\∃t,eD fs (ai fs kf) pc=some t/\((ai fs to_.toNat).result≠0->1<=t.length):=by
 unfold fK at hc
 simp only[bI,decide_eq_true_eq] at hc
 obtain⟨hw,hcc,hca⟩:=hc
 have hw:=di.1 hw
 obtain⟨_,h1,_,_,v0,hv0,hn0⟩:=(hF.e _ hk).at_ _ _ h0
 have hop:=(jj hF.p hk).1.op (pc - 1).toNat (by omega)
 generalize aK (ai fs kf).code (pc - 1).toNat=oz at hcc hca hv0 hn0 hop
 have h2:=hop.call hcc
 rw[hca] at h2
 obtain⟨t,ht,hle⟩:=hn0 pc (by simp[cH,hcc])
 obtain⟨T0,V0,e0,_,_,_,rfl⟩:=iw.1 hv0
 simp[tl,hcc] at e0
 obtain⟨rfl,rfl⟩:=e0
 rw[hca] at hle
 refine⟨h2,t,ht,fun hr=>?_⟩
 unfold aR at hle
 rw[if_neg hr] at hle
 have:=(vV hle).2.1
 omega
theorem Eo {A:Option Addr} {m c k:Nat} {xs:List Int} {B:Nat} {w0 w:World} {H:List ar} (hk:k<=m) (h:Cw B w0 (fL (.slice A m c) xs::H) w):Cw B w0 (fL (.slice (fS A 0 c 1) k (c - 0)) (xs.take k)::H) w:=by
 refine h.upd fun F ho _=>⟨F,⟨ho.1,fun w' hw'=>?_⟩,rfl,rfl,rfl,ay _,fun _ _ _=>rfl,fun b hb=> .inl hb⟩
 have:=(ho.2 w' hw').cut 0 k (aC _) hk
 rw[Nat.sub_zero,lY] at this
 exact this
theorem CE {A:Option Addr} {c:Nat} {xs:List Int} {B:Nat} {w0 w:World} {H:List ar} (h:Cw B w0 (fL (.slice A xs.length c) xs::H) w):Cw B w0 (fL (.slice (fS A 0 c 1) xs.dropLast.length (c - 0)) xs.dropLast::H) w:=by
 have:=Eo (k:=xs.length - 1) (by omega) h
 rw[<-List.dropLast_eq_take,<-List.length_dropLast] at this
 exact this
theorem wH (a:MA) (m:av) (Ap:Option Addr) (cp:Nat) (fs:List ah) (i:Nat) (w:World) (hs:Sl w (.slice Ap fs.length cp) fs) (hm:fd w.heap.size w a m) (hF:iZ fs) (hfit:jw m.frames) (hi:i<m.frames.length) (hfn:∀x∈m.frames,0<=x.func/\x.func<fs.length) (E:Int) (hE:dK fs m.blocks.length m.frames i=E) :
  Calls Tryz.prog 141 #[.agg #[.slice Ap fs.length cp],.agg #[.slice a.Af m.frames.length a.cf,.slice a.Ab m.blocks.length a.cb,.slice a.Ai m.inn.length a.ci,.slice a.Ao m.out.length a.co,.int .i64 m.status,.int .i64 m.trap],.int .i64 (i:Int)] w fun e w'=>e= .returned (.int .i64 E)/\Below w.heap.size w w':=by
 have bf:=be hm.f
 have bp:=be hs
 have bb:=be hm.b
 obtain⟨A1,c1,A2,c2,hl,hst,hI,hcell⟩:=hm.f.fr hi
 obtain⟨hb1,hb2⟩:=hfit.2 (aD m.frames i) (eW hi)
 have hx:=hfn _ (eW hi)
 obtain⟨kf,hkf⟩:∃kf:Nat,(aD m.frames i).func=kf:=⟨(aD m.frames i).func.toNat,by omega⟩
 have hkl:kf<fs.length:=by omega
 obtain⟨hok,hn0⟩:=jj hF.p hkl
 have hty:=w4 hF.p hkl
 obtain⟨F1,d1,F2,d2,hfl,hfc,hfi,hfcell⟩:=hs.fn hkl
 have hfl6:(ai fs kf).locals.length<=6:=(hok.op 0 hn0).par kf hkl |>.2
 have hlt2:=(kh ((je hF.p).2.2 _ (jr hkl))).2.2.2.1
 have hff:it fs m.frames i=ai fs kf:=by unfold it;rw[hkf,aV]
 have hent:∀pc t,eD fs (ai fs kf) pc=some t->Ty t:=fun pc t h=>((hF.e kf hkl).at_ pc t h).2.2.2.1
 have hbeh:∀{pc to_:Int} (_:fK (ai fs kf) pc to_=true) {t0:List Int},eD fs (ai fs kf) (pc - 1)=some t0->(0<=to_/\to_<fs.length)/\∃t,eD fs (ai fs kf) pc=some t/\((ai fs to_.toNat).result≠0->1<=t.length):=fun hc _ h0=>zd hF hkl hc h0
 unfold dK at hE
 obtain⟨q,hq⟩:∃q,ir fs m.frames i=q:=⟨_,rfl⟩
 rw[hff,hq] at hE
 unfold ir at hq
 rw[hff] at hq
 rw[hkf] at hcell
 have hrent:∀pc q0,eD fs (ai fs kf) pc=q0->∀w1,Sl w1 (.slice Ap fs.length cp) fs->Calls Tryz.prog 199 #[.agg #[.slice Ap fs.length cp],.int .i64 (kf:Int),.int .i64 pc] w1 fun e w'=> ∃g:Option Addr×Nat,True/\e= .returned (.tuple #[.slice g.1 (q0.getD []).length g.2,.bool q0.isSome])/\
   Cw w1.heap.size w1 [fL (.slice g.1 (q0.getD []).length g.2) (q0.getD [])] w':=fun pc q0 h w1 h1=>wJ Ap cp fs kf pc q0 h w1 h1 hkl hok hty hn0
 generalize ai fs kf=f at hE hfl hfc hfi hfcell hfl6 hlt2 hent hbeh hq hrent
 obtain⟨l,hlm⟩:∃l,m.frames=l:=⟨_,rfl⟩
 generalize hxx:aD m.frames i=x at hE hl hst hI hcell hb1 hb2 hq
 have bx1:=be hl
 have bx2:=be hst
 have bc:=be hfc
 refine enter Tryz.func141 rfl Tryz.ntmps141 rfl<|aa ?_
 refine fun g1 _=>aa ?_
 refine fun g2 _=>aa ?_
 refine cQ (i) rfl ((.ro hm.f)) ?_
 refine iW rfl (hcell _)<|aa ?_
 refine fun g3 _=>aa ?_
 refine cQ (kf) rfl ((.ro hs)) ?_
 refine iW rfl (hfcell _)<|aa ?_
 refine fun g4 _=>cq (fun h1=>?_) (fun h1=>?_)
 ·rw[if_pos (show x.locals.length≠f.locals.length from fun e=>h1 (by rw[e]))] at hE
  subst hE
  refine aa ?_
  intro w hw
  exact⟨rfl,hw.below⟩
 have h1:x.locals.length=f.locals.length:=by omega
 rw[if_neg (fun h=>h h1)] at hE
 have hal:(x.locals++x.stack).length=x.locals.length+x.stack.length:=ag
 refine fU (eR ?_)
 refine dw (fun _:Option Addr×Nat=>True) (fun g=> [(2,.int .i64 (i:Int)),(3,.pointer (some ⟨g1,0,none⟩)),(4,.pointer (some ⟨g2,0,none⟩)),(7,.pointer (some ⟨g3,0,none⟩)),(8,.pointer (some ⟨g4,0,none⟩)),(9,.slice g.1 (x.locals++x.stack).length g.2)]) (fun g=> [aj (.slice g.1 (x.locals++x.stack).length g.2) (x.locals++x.stack),af g3 [.int .i64 (kf:Int),.int .i64 x.pc,.slice A1 x.locals.length c1,.slice A2 x.stack.length c2] 118,af g4 [.int .i64 f.params,.slice F1 f.locals.length d1,.int .i64 f.result,.slice F2 f.code.length d2] 84,af g2 [.slice a.Af m.frames.length a.cf,.slice a.Ab m.blocks.length a.cb,.slice a.Ai m.inn.length a.ci,.slice a.Ao m.out.length a.co,.int .i64 m.status,.int .i64 m.trap] 43,af g1 [.slice Ap fs.length cp] 24]) ?_ ?_
 ·refine bF [3,6,12,15,2,11,20,22] [6,7] rfl ?_
  refine aw ?_
  refine fM rfl (da fc ne rfl rfl (by rfl)) rfl rfl ha ?_
  refine aw ?_
  refine fM rfl (da fc ne rfl rfl (by rfl)) rfl rfl ha ?_
  refine pE rfl ((pD (cs:= []) bu dN Tryz.zeroValue159 rfl rfl rfl rfl rfl).mem (H'':=fun g=>aj (.slice (some ⟨g,0,none⟩) 0 0) ([]:List aQ)::_) fun g w h=>bW (α:=aQ) (m:=0) [] rfl (by simp) rfl (by decide) h) (fun ge _=>?_)
  refine pE rfl (gE (α:=aQ) (bytes:=16) (xs:= []) (ys:=x.locals) (e9 x.locals).symm bu (bP gQ) rfl fc (.ro hl) (by simp only[aH];omega) (by simp only[aH];omega) rfl rfl rfl) (fun⟨A5,c5⟩ _=>?_)
  try dsimp only
  refine pE rfl (gE (α:=aQ) (bytes:=16) (xs:=x.locals) (ys:=x.stack) rfl bu (bP gQ) rfl fc (.ro hst) (by omega) (by omega) rfl rfl rfl) (fun⟨A6,c6⟩ _=>?_)
  refine a7 ?_
  refine eS<|cG (A6,c6) (trivial) (hh:=(fun _ h=>h.msub ms))
 rintro⟨A6,c6⟩ _
 refine a7 ?_
 refine cN (fun k:Nat=>k<=(x.locals++x.stack).length/\∀j,j<k->d9 m.blocks.length ((x.locals++x.stack).getD j default)=true) (fun k=>(x.locals++x.stack).length - k) (fun k=> [(2,.int .i64 (i:Int)),(3,.pointer (some ⟨g1,0,none⟩)),(4,.pointer (some ⟨g2,0,none⟩)),(7,.pointer (some ⟨g3,0,none⟩)),(8,.pointer (some ⟨g4,0,none⟩)),(9,.slice A6 (x.locals++x.stack).length c6),(10,.int .i64 (k:Int))]) (fun _=> [aj (.slice A6 (x.locals++x.stack).length c6) (x.locals++x.stack),af g3 [.int .i64 (kf:Int),.int .i64 x.pc,.slice A1 x.locals.length c1,.slice A2 x.stack.length c2] 118,af g4 [.int .i64 f.params,.slice F1 f.locals.length d1,.int .i64 f.result,.slice F2 f.code.length d2] 84,af g2 [.slice a.Af m.frames.length a.cf,.slice a.Ab m.blocks.length a.cb,.slice a.Ai m.inn.length a.ci,.slice a.Ao m.out.length a.co,.int .i64 m.status,.int .i64 m.trap] 43,af g1 [.slice Ap fs.length cp] 24]) 0 (⟨aC _,fun _ h=>absurd h (eo _)⟩) ?_
 rintro k hk'
 obtain⟨hk,hno⟩:k<=(x.locals++x.stack).length/\∀j,j<k->d9 m.blocks.length ((x.locals++x.stack).getD j default)=true:=hk'
 refine ak (fun hlt=>?_) (fun hlt=>?_)
 ·have hkl2:k<(x.locals++x.stack).length:=by omega
  obtain⟨vb,hvb⟩:∃b,d9 m.blocks.length ((x.locals++x.stack).getD k default)=b:=⟨_,rfl⟩
  have hbad:vb=false->E=3:=fun e=>by rw[e] at hvb;rw[if_pos (wj hkl2 hvb)] at hE;exact hE.symm
  have hgood:vb=true->∀j,j<k+1->d9 m.blocks.length ((x.locals++x.stack).getD j default)=true:=fun e j hj=>(dZ j k).elim (hno j) (fun h=>by obtain rfl:j=k:=(by omega);rw[hvb,e])
  refine aa ?_
  refine bF [0,3,6,9,12,15,18,21,24,27,30,33,36,39,44,45,48,51,54,57,60,63,66,69,72,75,78,81,84,87,92,93,96,99] [] rfl<|aa ?_
  refine tE rfl (bt (k:=k) bu dN (SF.own rfl fc) (by omega) rfl rfl rfl)<|aa ?_
  refine tE rfl (bT (fun w hw=>(SF.val (SF.own rfl fc) hkl2 default) w hw 0 _ rfl) rfl rfl FL) ?_
  refine aw ?_
  rcases Bool.eq_false_or_eq_true ((x.locals++x.stack).getD k default).ref with hr | hr
  ·have hvb2:ax ((x.locals++x.stack).getD k default).n 0 m.blocks.length=vb:=by rw[<-hvb];unfold d9;rw[if_pos hr]
   rw[hr]
   refine fN (t:=54) (v':= .bool true) rfl (rfl)<|aa ?_
   refine tE rfl (bt (k:=k) bu dN (SF.own rfl fc) (by omega) rfl rfl rfl)<|aa ?_
   refine tE rfl (bT (fun w hw=>(SF.val (SF.own rfl fc) hkl2 default) w hw 1 _ rfl) rfl rfl bd)<|aa ?_
   refine kG rfl rfl eq ((fun w hw=>cW ((fun w hw=>dL _ _ _ w) w hw))) ?_
   refine aw ?_
   refine aw ?_
   refine aw ?_
   rw[hvb2]
   cases vb
   ·refine fN (t:=66) (v':= .bool true) rfl (rfl)<|aa ?_
    refine j7 rfl rfl rfl (.inr ha) ?_ gC
    refine aa ?_
    refine aJ rfl<|aa ?_
    intro w hw
    exact⟨by rw[hbad rfl],hw.below⟩
   refine fN (t:=66) (v':= .bool false) rfl (rfl)<|aa ?_
   refine tE rfl (bt (k:=k) bu dN (SF.own rfl fc) (by omega) rfl rfl rfl)<|aa ?_
   refine tE rfl (bT (fun w hw=>(SF.val (SF.own rfl fc) hkl2 default) w hw 0 _ rfl) rfl rfl FL) ?_
   refine aw ?_
   refine aw ?_
   rw[hr]
   refine fN (t:=73) (v':= .bool false) rfl (rfl)<|aa ?_
   refine j7 rfl rfl rfl (.inr ha) ?_ gC
   refine aa ?_
   refine bO rfl<|aa ?_
   refine bN (k+1) (⟨by show k+1<=_;omega,hgood rfl⟩) (by show _ - _<_ - _;omega)
  have hvb2:bg ((x.locals++x.stack).getD k default).n=vb:=by rw[<-hvb];unfold d9;rw[if_neg (by rw[hr];decide)]
  rw[hr]
  refine fN (t:=54) (v':= .bool false) rfl (rfl)<|aa ?_
  refine j7 rfl rfl rfl (.inr ha) ?_ gC
  refine aa ?_
  refine tE rfl (bt (k:=k) bu dN (SF.own rfl fc) (by omega) rfl rfl rfl)<|aa ?_
  refine tE rfl (bT (fun w hw=>(SF.val (SF.own rfl fc) hkl2 default) w hw 0 _ rfl) rfl rfl FL) ?_
  refine aw ?_
  refine aw ?_
  rw[hr]
  refine fN (t:=73) (v':= .bool true) rfl (rfl)<|aa ?_
  refine tE rfl (bt (k:=k) bu dN (SF.own rfl fc) (by omega) rfl rfl rfl)<|aa ?_
  refine tE rfl (bT (fun w hw=>(SF.val (SF.own rfl fc) hkl2 default) w hw 1 _ rfl) rfl rfl bd) ?_
  refine kG rfl rfl FM ((fun w hw=>cW ((fun w hw=>gJ _ w) w hw)))<|aa ?_
  rw[hvb2]
  cases vb
  ·refine cT (t:=82) (v':= .bool true) rfl (rfl) ?_
   refine aJ rfl<|aa ?_
   intro w hw
   exact⟨by rw[hbad rfl],hw.below⟩
  refine cT (t:=82) (v':= .bool false) rfl (rfl) ?_
  refine bO rfl<|aa ?_
  refine bN (k+1) (⟨by show k+1<=_;omega,hgood rfl⟩) (by show _ - _<_ - _;omega)
 obtain rfl:k=(x.locals++x.stack).length:=by omega
 rw[if_neg (uo hno)] at hE
 refine aa ?_
 refine cN (fun k:Nat=>k<=x.locals.length/\∀j,j<k->eQ (x.locals.getD j default) (f.locals.getD j 0)=true) (fun k=>x.locals.length - k) (fun k=> [(2,.int .i64 (i:Int)),(3,.pointer (some ⟨g1,0,none⟩)),(4,.pointer (some ⟨g2,0,none⟩)),(7,.pointer (some ⟨g3,0,none⟩)),(8,.pointer (some ⟨g4,0,none⟩)),(11,.int .i64 (k:Int))]) (fun _=> [af g3 [.int .i64 (kf:Int),.int .i64 x.pc,.slice A1 x.locals.length c1,.slice A2 x.stack.length c2] 118,af g4 [.int .i64 f.params,.slice F1 f.locals.length d1,.int .i64 f.result,.slice F2 f.code.length d2] 84,af g2 [.slice a.Af m.frames.length a.cf,.slice a.Ab m.blocks.length a.cb,.slice a.Ai m.inn.length a.ci,.slice a.Ao m.out.length a.co,.int .i64 m.status,.int .i64 m.trap] 43,af g1 [.slice Ap fs.length cp] 24]) 0 (⟨aC _,fun _ h=>absurd h (eo _)⟩) ?_
 rintro k hk'
 obtain⟨hk,hno2⟩:k<=x.locals.length/\∀j,j<k->eQ (x.locals.getD j default) (f.locals.getD j 0)=true:=hk'
 refine ak (fun hlt=>?_) (fun hlt=>?_)
 ·have hkl2:k<x.locals.length:=by omega
  have ht2:=hlt2 (f.locals.getD k 0) (eb (d:=0) (by omega))
  refine aa ?_
  refine bF [0,3,6,9,12,15,18,21,24,27,32,33] [] rfl<|aa ?_
  refine tE rfl (bt (k:=k) bu dN (.ro hl) (by omega) rfl rfl rfl) ?_
  refine tE rfl (gV (SF.val (SF.ro hl) hkl2 default) rfl rfl GZ dN)<|aa ?_
  refine tE rfl (bt (k:=k) ap bJ (.ro hfl) (by omega) rfl rfl rfl) ?_
  refine tE rfl (bT (SF.int (.ro hfl) (by omega)) rfl rfl bd) ?_
  refine kG rfl rfl Tryz.call198 (fun w hw=>q8 (x.locals.getD k default) (f.locals.getD k 0) (by omega) w)<|aa ?_
  refine aO rfl (fun hb=>?_) (fun hb=>?_)
  ·have hb:eQ (x.locals.getD k default) (f.locals.getD k 0)=false:=by simpa using hb
   rw[if_pos (ow hkl2 hb)] at hE
   subst hE
   refine aa ?_
   intro w hw
   exact⟨rfl,hw.below⟩
  have hb:eQ (x.locals.getD k default) (f.locals.getD k 0)=true:=by simpa using hb
  refine aa ?_
  refine bN (k+1) (⟨by show k+1<=_;omega,fun j hj=>(dZ j k).elim (hno2 j) (fun h=>by obtain rfl:j=k:=(by omega);exact hb)⟩) (by show _ - _<_ - _;omega)
 obtain rfl:k=x.locals.length:=by omega
 rw[if_neg (by rw[iS.2 hno2];decide)] at hE
 obtain⟨q0,hq0⟩:∃q0,eD fs f x.pc=q0:=⟨_,rfl⟩
 rw[hq0] at hq
 refine aa ?_
 refine fE rfl Tryz.call199 (fun w hw=>hrent x.pc q0 hq0 w (hw.ro hs)) (fun⟨A7,c7⟩ _=>?_)
 refine a7 ?_
 refine ic (fun g:List Int×(Option Addr×Nat)=>q=some g.1/\Ty g.1) (fun g=> [(7,.pointer (some ⟨g3,0,none⟩)),(12,.slice g.2.1 g.1.length g.2.2)]) (fun g=> [fL (.slice g.2.1 g.1.length g.2.2) g.1,af g3 [.int .i64 (kf:Int),.int .i64 x.pc,.slice A1 x.locals.length c1,.slice A2 x.stack.length c2] 118,af g4 [.int .i64 f.params,.slice F1 f.locals.length d1,.int .i64 f.result,.slice F2 f.code.length d2] 84,af g2 [.slice a.Af m.frames.length a.cf,.slice a.Ab m.blocks.length a.cb,.slice a.Ai m.inn.length a.ci,.slice a.Ao m.out.length a.co,.int .i64 m.status,.int .i64 m.trap] 43,af g1 [.slice Ap fs.length cp] 24]) ?_ ?_
 ·refine ec rfl (fun hi2=>?_) (fun hi2=>?_)
  ·have hi1:i+1<m.frames.length:=by omega
   obtain⟨A3,c3,A4,c4,_,_,hI2,hcell2⟩:=hm.f.fr (k:=i+1) hi1
   obtain⟨to_,hto⟩:∃t,(aD m.frames (i+1)).func=t:=⟨_,rfl⟩
   have hy:=hfn _ (eW hi1)
   rw[hto] at hy hcell2 hq
   rw[if_neg (by omega)] at hq
   obtain⟨cb,hcb⟩:∃b,fK f x.pc to_=b:=⟨_,rfl⟩
   have hbad:cb=false->E=5:=fun e=>by
    rw[hcb,e,if_pos rfl] at hq
    rw[<-hq] at hE
    exact hE.symm
   refine aa ?_
   refine bq (t:=120) (v':= .int .i64 ((i+1:Nat):Int)) rfl (congrArg (Value.int .i64) (by omega)) ?_
   refine sE (bt (k:=i+1) ef fh (.ro hm.f) (by omega) rfl rfl rfl)<|aa ?_
   refine dQ rfl (fun w hw=>hcell2 _ w hw 0 _ rfl) ?_
   refine aw ?_
   refine bV<|cV<|cV<|cz<|aw ?_
   refine dJ (da fc bd rfl rfl (by rfl)) rfl rfl ?_
   refine aw ?_
   refine aw ?_
   by_cases p1:x.pc<1
   ·have hc0:cb=false:=by rw[<-hcb];unfold fK;rw[show ax x.pc 1 f.code.length=false from by rw[Bool.eq_false_iff];exact fun h=>by have:=di.1 h;omega];rfl
    refine bq (t:=127) (v':= .bool true) rfl (congrArg Value.bool (decide_eq_true p1))<|aa ?_
    refine aJ rfl<|aa ?_
    intro w hw
    exact⟨by rw[hbad hc0],hw.below⟩
   refine bq (t:=127) (v':= .bool false) rfl (congrArg Value.bool (decide_eq_false p1)) ?_
   refine aw ?_
   refine dJ (da fc bd rfl rfl (by rfl)) rfl rfl ?_
   refine aw ?_
   refine dJ (da fc DY rfl rfl (by rfl)) rfl rfl ?_
   refine dJ (lw fH rfl rfl) rfl rfl<|aw ?_
   refine aw ?_
   refine aw ?_
   by_cases p2:(f.code.length:Int)<x.pc
   ·have hc0:cb=false:=by rw[<-hcb];unfold fK;rw[show ax x.pc 1 f.code.length=false from by rw[Bool.eq_false_iff];exact fun h=>by have:=di.1 h;omega];rfl
    refine bq (t:=135) (v':= .bool true) rfl (congrArg Value.bool (decide_eq_true p2))<|aa ?_
    refine aJ rfl<|aa ?_
    intro w hw
    exact⟨by rw[hbad hc0],hw.below⟩
   obtain⟨kp,hkp⟩:∃kp:Nat,x.pc - 1=kp:=⟨(x.pc - 1).toNat,by omega⟩
   have hcb2:((aK f.code kp).c == 12 && (aK f.code kp).a == to_)=cb:=by
    rw[<-hcb]
    unfold fK
    rw[di.2 (by omega),hkp,aV,Bool.true_and]
    rfl
   refine bq (t:=135) (v':= .bool false) rfl (congrArg Value.bool (decide_eq_false p2))<|aa ?_
   refine bq (t:=140) (v':= .int .i64 (kp:Int)) rfl (congrArg (Value.int .i64) hkp) ?_
   refine sE (bt (k:=kp) fH j4 (.ro hfc) (by omega) rfl rfl rfl) ?_
   refine sE (gV (cs:= [_,_]) (SF.op (.ro hfc) (by omega)) rfl rfl Hk j4)<|aa ?_
   refine sE (Aq rfl rfl rfl (fun w=>F9 w _ _ _ _) (fun w=>EY _ _ _ _ w))<|aa ?_
   rw[hcb2]
   cases cb
   ·refine cT (t:=146) (v':= .bool true) rfl (rfl) ?_
    refine aJ rfl<|aa ?_
    intro w hw
    exact⟨by rw[hbad rfl],hw.below⟩
   refine cT (t:=146) (v':= .bool false) rfl (rfl) ?_
   refine bO rfl<|aa ?_
   rw[hcb,if_neg (by decide)] at hq
   obtain⟨q1,hq1⟩:∃q1,eD fs f (x.pc - 1)=q1:=⟨_,rfl⟩
   rw[hq1] at hq
   refine fE rfl Tryz.call199 (fun w hw=>hrent (x.pc - 1) q1 hq1 w (hw.ro hs)) (fun⟨A9,c9⟩ _=>?_)
   refine a7 ?_
   cases q1 with
   | none=>
    rw[if_pos (show (none:Option (List Int)).isSome=false from rfl)] at hq
    rw[<-hq] at hE
    refine cT (t:=158) (v':= .bool true) rfl (rfl) ?_
    refine aJ rfl<|aa ?_
    intro w hw
    exact⟨by rw[<-hE],hw.below⟩
   | some t0=>
    rw[if_neg (by simp)] at hq
    obtain⟨_,t,ht,htl⟩:=hbeh hcb hq1
    rw[hq0] at ht
    subst ht
    obtain⟨kt,hkt⟩:∃kt:Nat,to_=kt:=⟨to_.toNat,by omega⟩
    have hktl:kt<fs.length:=by omega
    obtain⟨G1,e1,G2,e2,_,_,hGi,hgcell⟩:=hs.fn hktl
    have hres:=(hty.res kt hktl).1
    have hTy:=hent _ _ hq0
    have hq:some (if (ai fs kt).result≠0 then t.dropLast else t)=q:=by
     rw[<-hq]
     unfold it
     rw[hto,hkt,aV]
     rfl
    rw[hkt,aV] at htl
    refine cT (t:=158) (v':= .bool false) rfl (rfl) ?_
    refine bO rfl<|aa ?_
    refine bq (t:=161) (v':= .int .i64 (kt:Int)) rfl (congrArg (Value.int .i64) hkt) ?_
    refine sE (bt (k:=kt) gz ij (.ro hs) (by omega) rfl rfl rfl)<|aa ?_
    refine dQ rfl (fun w hw=>hgcell _ w hw 2 _ rfl)<|ak (fun hr=>?_) (fun hr=>?_)
    ·have hr:0<(ai fs kt).result:=hr
     rw[if_pos (by omega)] at hq
     have htl:=htl (by omega)
     have hgl:((some t).getD []).length=t.length:=rfl
     refine ia (p:=t.length<=140737488355328/\t.length<=c7) (fun w hw=>⟨be (SF.at_ (SF.rd (xs:=t) (m:=t.length) (A:=A7) (c:=c7) rfl fc) hw),(SF.at_ (SF.rd (xs:=t) (m:=t.length) (A:=A7) (c:=c7) rfl fc) hw).cap⟩) fun⟨tb,tc⟩=>?_
     refine aa ?_
     refine bq (t:=169) (v':= .int .i64 ((t.length - 1:Nat):Int)) rfl (congrArg (Value.int .i64) (by omega)) ?_
     refine sE (yd (lo:=0) (hi:=t.length - 1) (k:=t.dropLast.length) ap bJ ⟨by omega,by omega⟩ (by rw[List.length_dropLast];rfl) rfl rfl rfl rfl)<|aa ?_
     refine lO (t.dropLast,(fS A7 0 c7 1,c7 - 0)) (⟨hq.symm,fun y hy=>hTy y (List.dropLast_subset t hy)⟩) (hh:=(fun w h=>(CE (h.msub (T:= [fL (.slice A7 t.length c7) t,af g3 [.int .i64 (kf:Int),.int .i64 x.pc,.slice A1 x.locals.length c1,.slice A2 x.stack.length c2] 118,af g4 [.int .i64 f.params,.slice F1 f.locals.length d1,.int .i64 f.result,.slice F2 f.code.length d2] 84,af g2 [.slice a.Af m.frames.length a.cf,.slice a.Ab m.blocks.length a.cb,.slice a.Ai m.inn.length a.ci,.slice a.Ao m.out.length a.co,.int .i64 m.status,.int .i64 m.trap] 43,af g1 [.slice Ap fs.length cp] 24]) ms)).msub ms))
    rw[if_neg (by omega)] at hq
    refine aa ?_
    refine cG (t,(A7,c7)) (⟨hq.symm,hTy⟩) (hh:=(fun w h=>h.msub ms))
  rw[if_pos (by omega)] at hq
  subst hq
  refine aa ?_
  cases q0 with
  | none=>
   refine cT (t:=172) (v':= .bool true) rfl (rfl) ?_
   refine aJ rfl<|aa ?_
   intro w hw
   exact⟨by rw[<-hE],hw.below⟩
  | some t=>
   refine cT (t:=172) (v':= .bool false) rfl (rfl) ?_
   refine bO rfl<|aa ?_
   refine cG (t,(A7,c7)) (⟨rfl,hent _ _ hq0⟩) (hh:=(fun w h=>h.msub ms))
 rintro⟨t,⟨A8,c8⟩⟩ hqt
 obtain⟨hqt,hTy⟩:q=some t/\Ty t:=hqt
 subst hqt
 dsimp only at hE
 refine a7 ?_
 refine ko rfl (fun h2=>?_) (fun h2=>?_)
 ·have h2:¬(t.length:Int)=x.stack.length:=h2
  rw[if_pos (show t.length≠x.stack.length from fun e=>h2 (by rw[e]))] at hE
  subst hE
  refine aa ?_
  intro w hw
  exact⟨rfl,hw.below⟩
 have h2:(t.length:Int)=x.stack.length:=h2
 have h2:t.length=x.stack.length:=by omega
 rw[if_neg (fun h=>h h2)] at hE
 refine aa ?_
 refine cN (fun k:Nat=>k<=t.length/\∀j,j<k->eQ (x.stack.getD j default) (t.getD j 0)=true) (fun k=>t.length - k) (fun k=> [(7,.pointer (some ⟨g3,0,none⟩)),(12,.slice A8 t.length c8),(17,.int .i64 (k:Int))]) (fun _=> [fL (.slice A8 t.length c8) t,af g3 [.int .i64 (kf:Int),.int .i64 x.pc,.slice A1 x.locals.length c1,.slice A2 x.stack.length c2] 118]) 0 (⟨aC _,fun _ h=>absurd h (eo _)⟩) ?_
 rintro k hk'
 obtain⟨hk,hno3⟩:k<=t.length/\∀j,j<k->eQ (x.stack.getD j default) (t.getD j 0)=true:=hk'
 refine ak (fun hlt=>?_) (fun hlt=>?_)
 ·have hkl2:k<t.length:=by omega
  have hkl3:k<x.stack.length:=by omega
  refine aa ?_
  refine bF [0,3,6,9,12,15,18,21,24,29,30] [] rfl<|aa ?_
  refine tE rfl (bt (k:=k) bu dN (.ro hst) (by omega) rfl rfl rfl) ?_
  refine tE rfl (gV (SF.val (SF.ro hst) hkl3 default) rfl rfl GZ dN)<|aa ?_
  refine tE rfl (bt (k:=k) ap bJ (SF.rd (xs:=t) rfl fc) (by omega) rfl rfl rfl) ?_
  refine tE rfl (bT (SF.int (SF.rd (xs:=t) rfl fc) (by omega)) rfl rfl bd) ?_
  refine kG rfl rfl Tryz.call198 (fun w hw=>q8 (x.stack.getD k default) (t.getD k 0) (hTy _ (eb (d:=0) hkl2)) w)<|aa ?_
  refine aO rfl (fun hb=>?_) (fun hb=>?_)
  ·have hb:eQ (x.stack.getD k default) (t.getD k 0)=false:=by simpa using hb
   rw[if_pos (ow hkl2 hb)] at hE
   subst hE
   refine aa ?_
   intro w hw
   exact⟨rfl,hw.below⟩
  have hb:eQ (x.stack.getD k default) (t.getD k 0)=true:=by simpa using hb
  refine aa ?_
  refine bN (k+1) (⟨by show k+1<=_;omega,fun j hj=>(dZ j k).elim (hno3 j) (fun h=>by obtain rfl:j=k:=(by omega);exact hb)⟩) (by show _ - _<_ - _;omega)
 obtain rfl:k=t.length:=by omega
 rw[if_neg (by rw[iS.2 hno3];decide)] at hE
 subst hE
 refine aa ?_
 intro w hw
 exact⟨rfl,hw.below⟩
end
section
def HJ:av:=⟨[⟨0,0,[],[]⟩],[],[],[],0,0⟩
def HI:av:=⟨[⟨0,1,[],[⟨false,3⟩]⟩],[],[],[],0,0⟩
def HH:av:=⟨[⟨0,0,[],[]⟩],[],[],[],1,0⟩
section
variable {fs:List ah} {m:av} {n:Nat}
end
section
variable {B:Nat} {w0 w:World} {H H1 H2 H3 H4:List ar}
theorem qE {g:MA} {m:av} {nf nb ni no:Nat} (hw:Cw B w0 H w) (hf:bY H (aj (.slice g.Af nf g.cf) m.frames) H1) (hb:bY H (aj (.slice g.Ab nb g.cb) m.blocks) H2) (hi:bY H (aj (.slice g.Ai ni g.ci) m.inn) H3) (ho:bY H (aj (.slice g.Ao no g.co) m.out) H4) (e1:m.frames.length=nf) (e2:m.blocks.length=nb) (e3:m.inn.length=ni) (e4:m.out.length=no) (hs:aI m.status) (ht:aI m.trap):fd w.heap.size w g m:=by
 subst e1 e2 e3 e4
 exact⟨SF.at_ (SF.own rfl hf) hw,SF.at_ (SF.own rfl hb) hw,SF.at_ (SF.own rfl hi) hw,SF.at_ (SF.own rfl ho) hw,hs,ht⟩
end
section
variable {P:Program} {n:NF} {B:Nat} {w0:World} {H H':List ar} {Q:Exit->Act->World->Prop} {env:aZ} {x:Code}
structure HQ (B:Nat) (w0:World) (X:ar) (k:Nat) (A:Option Addr) (c:Nat) (fr:List aP) (hs:List bx):Prop where
 el:∀i,i<k->∃Al cl As cs,hs.getD i default=⟨(aD fr i).func,(aD fr i).pc,.slice Al (aD fr i).locals.length cl,.slice As (aD fr i).stack.length cs⟩/\
  (∀H H',bY H X H'->SF B w0 H Al (aD fr i).locals.length cl (aD fr i).locals/\SF B w0 H As (aD fr i).stack.length cs (aD fr i).stack)
 len:hs.length=k
 back:∀H H' H'' w,bY H (aj (.slice A k c) hs) H'->bY H' X H''->Cw B w0 H w->Cw B w0 (aj (.slice A k c) fr::H'') w
theorem SF.hfr {A:Option Addr} {xs:List bx} {m c k:Nat} {h:bx} (hs:SF B w0 H A m c xs) (hk:k<m) (e:xs.getD k default=h):∀w,Cw B w0 H w->∀j v,([.int .i64 h.func,.int .i64 h.pc,h.lv,h.sv]:List Value)[j]? =some v->w.cell? ⟨ab A,ao A+k*4+j,none⟩=some v:=fun w hw j v hv=>SF.cell hs hk default (by rw[e];exact hv) w hw
theorem Ec {l:List (bx×aP)} {i:Nat} (hi:i<l.length) {w:World} (h:Cw B w0 (gi l::H) w):Sl w l[i].1.lv l[i].2.locals/\Sl w l[i].1.sv l[i].2.stack:=by
 have h1:Cw B w0 (aj l[i].1.lv l[i].2.locals::aj l[i].1.sv l[i].2.stack::(gi (l.eraseIdx i)::H)) w:=xU hi h
 obtain⟨F1,k1,_⟩:=h1.rd bY.a
 obtain⟨F2,k2,_⟩:=h1.rd (bY.s bY.a)
 exact⟨bS.sl k1,bS.sl k2⟩
end
end
section
theorem D5 {fs:List ah} {m:av} {li:List aP} {x:aP} (e:m.frames=li++ [x]):aD m.frames li.length=x/\m.frames.length=li.length+1/\ea fs m=aK (ai fs x.func.toNat).code x.pc.toNat:=by
 refine⟨by rw[e,sc],by rw[e];simp,?_⟩
 unfold ea iQ
 rw[e,rS]
end
section
theorem wh {l r:List Int} :cF (l++r)=true↔cF l=true\/cF r=true:=by
 unfold cF
 rw[List.any_append,Bool.or_eq_true]
theorem Fz {l:List Int} {k:Nat} (hk:k<l.length) (h:bg (l.getD k 0)=false):cF l=true:=cM.2 ⟨_,eb (d:=0) hk,by rw[h];rfl⟩
theorem Fy {l:List Int} (h:∀j,j<l.length->bg (l.getD j 0)=true):¬cF l=true:=fun hb=>by
 obtain⟨x,hx,h2⟩:=cM.1 hb
 obtain⟨j,hj,rfl⟩:=bD hx
 have:=h j hj
 rw[ac,ae hj] at this
 have this:bg l[j]=true:=this
 rw[this] at h2
 cases h2
theorem wF (a:MA) (m:av) (Ap:Option Addr) (cp:Nat) (fs:List ah) (w:World) (hs:Sl w (.slice Ap fs.length cp) fs) (hm:fd w.heap.size w a m) (hF:iZ fs) (hfit:jw m.frames) (E:Int) (hE:kE fs m=E) :
  Calls Tryz.prog 79 #[.agg #[.slice Ap fs.length cp],.agg #[.slice a.Af m.frames.length a.cf,.slice a.Ab m.blocks.length a.cb,.slice a.Ai m.inn.length a.ci,.slice a.Ao m.out.length a.co,.int .i64 m.status,.int .i64 m.trap]] w fun e w'=>e= .returned (.int .i64 E)/\Below w.heap.size w w':=by
 have bf:=be hm.f
 have bp:=be hs
 have bi:=be hm.i
 have bo:=be hm.o
 have hp1:=nA hF
 obtain⟨sb,hsb⟩:∃b,ax m.status 0 3=b:=⟨_,rfl⟩
 obtain⟨tb,htb⟩:∃b,ax m.trap (if m.status=3 then 1 else 0) (if m.status=3 then 5 else 0)=b:=⟨_,rfl⟩
 unfold kE at hE
 rw[hsb,htb] at hE
 refine enter Tryz.func79 rfl Tryz.ntmps79 rfl<|aa ?_
 refine fun g1 _=>aa ?_
 refine fun g2 _=>aa ?_
 refine bw rfl eq ((fun w hw=>cW ((fun w hw=>dL _ _ _ w) w hw)))<|aa ?_
 rw[hsb]
 cases sb
 ·rw[if_pos rfl] at hE
  subst hE
  refine cT (t:=15) (v':= .bool true) rfl (rfl) ?_
  refine aJ rfl<|aa ?_
  intro w hw
  exact⟨rfl,hw.below⟩
 rw[if_neg (by decide)] at hE
 refine cT (t:=15) (v':= .bool false) rfl (rfl) ?_
 refine bO rfl<|aa ?_
 refine ln 15 rfl [(2,_),(3,_)] [(34,.bool (!tb))] ⟨rfl,rfl,trivial⟩ (fun K=>?_) ?_
 ·refine ft (t:=19) rfl (fun s3=>?_) (fun s3=>?_)
  ·have s3:=of_decide_eq_true s3
   rw[if_pos s3,if_pos s3] at htb
   refine aa ?_
   refine bw rfl eq ((fun w hw=>cW ((fun w hw=>dL _ _ _ w) w hw)))<|aa ?_
   rw[htb]
   cases tb
   ·refine bq (t:=25) (v':= .bool true) rfl (rfl) ?_
    refine aw ?_
    refine aw ?_
    refine aw ?_
    refine aw ?_
    refine aw ?_
    refine aw ?_
    refine aw ?_
    refine aw ?_
    refine aw ?_
    refine bq (t:=34) (v':= .bool (!false)) rfl (rfl) ?_
    exact gB K ⟨rfl,rfl,rfl,trivial⟩
   refine bq (t:=25) (v':= .bool false) rfl (rfl) ?_
   refine aw ?_
   refine dJ (da fc bd rfl rfl (by rfl)) rfl rfl ?_
   refine aw ?_
   refine aw ?_
   refine bq (t:=29) (v':= .bool false) rfl (congrArg Value.bool (by rw[s3];rfl)) ?_
   refine aw ?_
   refine aw ?_
   refine aw ?_
   refine aw ?_
   refine aw ?_
   refine bq (t:=34) (v':= .bool (!true)) rfl (rfl) ?_
   exact gB K ⟨rfl,rfl,rfl,trivial⟩
  have s3:=of_decide_eq_false s3
  rw[if_neg s3,if_neg s3] at htb
  refine aw ?_
  refine aw ?_
  refine aw ?_
  refine aw ?_
  refine aw ?_
  refine aw ?_
  refine aw ?_
  refine dJ (da fc bd rfl rfl (by rfl)) rfl rfl ?_
  refine aw ?_
  refine aw ?_
  refine bq (t:=29) (v':= .bool true) rfl (congrArg Value.bool (by simp[s3])) ?_
  refine aw ?_
  refine dJ (da fc bd rfl rfl (by rfl)) rfl rfl ?_
  refine aw ?_
  refine aw ?_
  refine aw ?_
  refine bq (t:=34) (v':= .bool (!tb)) rfl (congrArg Value.bool (by rw[<-htb];unfold ax;by_cases h0:m.trap=0;rw[h0];rfl;rw[Bool.eq_iff_iff];simp[h0];omega)) ?_
  exact gB K ⟨rfl,rfl,rfl,trivial⟩
 refine aa ?_
 cases tb
 ·rw[if_pos rfl] at hE
  subst hE
  refine cT (t:=34) (v':= .bool true) rfl (rfl) ?_
  refine aJ rfl<|aa ?_
  intro w hw
  exact⟨rfl,hw.below⟩
 rw[if_neg (by decide)] at hE
 refine cT (t:=34) (v':= .bool false) rfl (rfl) ?_
 refine bO rfl<|aa ?_
 refine bw rfl Tryz.call140 ((fun w hw=>cW ((fun w hw=>o4 _ m.blocks w (hw.ro hm.b)) w hw)))<|cq (fun hb=>?_) (fun hb=>?_)
 ·have hb:¬dc m.blocks=0:=hb
  rw[if_pos hb] at hE
  refine aa ?_
  intro w hw
  exact⟨by rw[<-hE],hw.below⟩
 have hb:dc m.blocks=0:=hb
 rw[if_neg (fun h=>h hb)] at hE
 refine aa ?_
 refine ln 5 rfl [(2,_),(3,_)] [(50,.bool (decide (10<m.inn.length\/10<m.out.length)))] ⟨rfl,rfl,trivial⟩ (fun K=>?_) ?_
 ·refine ft (t:=45) rfl (fun u1=>?_) (fun u1=>?_)
  ·have u1:=of_decide_eq_true u1
   refine aw ?_
   refine aw ?_
   refine aw ?_
   refine aw ?_
   refine aw ?_
   refine bq (t:=50) (v':= .bool (decide (10<m.inn.length\/10<m.out.length))) rfl (congrArg Value.bool (decide_eq_true (.inl (by omega))).symm) ?_
   exact gB K ⟨rfl,rfl,rfl,trivial⟩
  have u1:=of_decide_eq_false u1
  refine aw ?_
  refine dJ (da fc i6 rfl rfl (by rfl)) rfl rfl ?_
  refine dJ (lw ap rfl rfl) rfl rfl<|aw ?_
  refine aw ?_
  refine bq (t:=50) (v':= .bool (decide (10<m.inn.length\/10<m.out.length))) rfl (congrArg Value.bool (decide_eq_decide.2 (by omega))) ?_
  exact gB K ⟨rfl,rfl,rfl,trivial⟩
 refine ak (fun h10=>?_) (fun h10=>?_)
 ·rw[if_pos h10] at hE
  subst hE
  refine aa ?_
  intro w hw
  exact⟨rfl,hw.below⟩
 have h10:¬(10<m.inn.length\/10<m.out.length):=h10
 rw[if_neg h10] at hE
 have hal:(m.inn++m.out).length=m.inn.length+m.out.length:=ag
 refine fU (eR ?_)
 refine dw (fun _:Option Addr×Nat=>True) (fun g=> [(2,.pointer (some ⟨g1,0,none⟩)),(3,.pointer (some ⟨g2,0,none⟩)),(6,.slice g.1 (m.inn++m.out).length g.2)]) (fun g=> [aj (.slice g.1 (m.inn++m.out).length g.2) (m.inn++m.out),af g2 [.slice a.Af m.frames.length a.cf,.slice a.Ab m.blocks.length a.cb,.slice a.Ai m.inn.length a.ci,.slice a.Ao m.out.length a.co,.int .i64 m.status,.int .i64 m.trap] 43,af g1 [.slice Ap fs.length cp] 24]) ?_ ?_
 ·refine bF [3,6,12,15,2,11,20,22] [6,7] rfl ?_
  refine aw ?_
  refine fM rfl (da fc i6 rfl rfl (by rfl)) rfl rfl ha ?_
  refine aw ?_
  refine fM rfl (da fc i6 rfl rfl (by rfl)) rfl rfl ha ?_
  refine pE rfl ((pD (cs:= []) ap bJ Tryz.zeroValue3 rfl rfl rfl rfl rfl).mem (H'':=fun g=>aj (.slice (some ⟨g,0,none⟩) 0 0) ([]:List Int)::_) fun g w h=>bW (α:=Int) (m:=0) [] rfl (by simp) rfl (by decide) h) (fun ge _=>?_)
  refine pE rfl (gE (α:=Int) (bytes:=8) (xs:= []) (ys:=m.inn) (e9 m.inn).symm ap (bP dA) rfl fc (.ro hm.i) (by simp only[aH];omega) (by simp only[aH];omega) rfl rfl rfl) (fun⟨A5,c5⟩ _=>?_)
  try dsimp only
  refine pE rfl (gE (α:=Int) (bytes:=8) (xs:=m.inn) (ys:=m.out) rfl ap (bP dA) rfl fc (.ro hm.o) (by omega) (by omega) rfl rfl rfl) (fun⟨A6,c6⟩ _=>?_)
  refine a7 ?_
  refine eS<|cG (A6,c6) (trivial) (hh:=(fun _ h=>h.msub ms))
 rintro⟨A6,c6⟩ _
 refine a7 ?_
 refine cN (fun k:Nat=>k<=(m.inn++m.out).length/\∀j,j<k->bg ((m.inn++m.out).getD j 0)=true) (fun k=>(m.inn++m.out).length - k) (fun k=> [(2,.pointer (some ⟨g1,0,none⟩)),(3,.pointer (some ⟨g2,0,none⟩)),(6,.slice A6 (m.inn++m.out).length c6),(7,.int .i64 (k:Int))]) (fun _=> [aj (.slice A6 (m.inn++m.out).length c6) (m.inn++m.out),af g2 [.slice a.Af m.frames.length a.cf,.slice a.Ab m.blocks.length a.cb,.slice a.Ai m.inn.length a.ci,.slice a.Ao m.out.length a.co,.int .i64 m.status,.int .i64 m.trap] 43,af g1 [.slice Ap fs.length cp] 24]) 0 (⟨aC _,fun _ h=>absurd h (eo _)⟩) ?_
 rintro k hk'
 obtain⟨hk,hno⟩:k<=(m.inn++m.out).length/\∀j,j<k->bg ((m.inn++m.out).getD j 0)=true:=hk'
 refine ak (fun hlt=>?_) (fun hlt=>?_)
 ·have hkl:k<(m.inn++m.out).length:=by omega
  refine aa ?_
  refine cQ (k) rfl ((SF.own rfl fc)) ?_
  refine jG rfl ((SF.own rfl fc)) ?_
  refine bw rfl FM ((fun w hw=>cW ((fun w hw=>gJ _ w) w hw)))<|aa ?_
  refine aO rfl (fun hb2=>?_) (fun hb2=>?_)
  ·have hb2:bg ((m.inn++m.out).getD k 0)=false:=by simpa using hb2
   rw[if_pos (wh.1 (Fz hkl hb2))] at hE
   subst hE
   refine aa ?_
   intro w hw
   exact⟨rfl,hw.below⟩
  have hb2:bg ((m.inn++m.out).getD k 0)=true:=by simpa using hb2
  refine aa ?_
  refine bN (k+1) (⟨by show k+1<=_;omega,fun j hj=>(dZ j k).elim (hno j) (fun h=>by obtain rfl:j=k:=(by omega);exact hb2)⟩) (by show _ - _<_ - _;omega)
 obtain rfl:k=(m.inn++m.out).length:=by omega
 rw[if_neg (fun h=>Fy hno (wh.2 h))] at hE
 obtain⟨FE,hFE⟩:∃e,iP fs m=e:=⟨_,rfl⟩
 rw[hFE] at hE
 unfold iP at hFE
 have hbadE:FE≠0->E=FE:=fun h=>by rw[if_pos h] at hE;exact hE.symm
 refine ak (fun h6=>?_) (fun h6=>?_)
 ·rw[if_pos (by omega)] at hFE
  subst hFE
  refine aa ?_
  intro w hw
  exact⟨by rw[hbadE (by decide)],hw.below⟩
 have h6:¬6<m.frames.length:=by omega
 rw[if_neg h6] at hFE
 refine aa ?_
 refine ln 4 rfl [(2,_),(3,_),(8,_)] [(81,.bool (decide (m.frames.length=0/\m.status≠2)))] ⟨rfl,rfl,rfl,trivial⟩ (fun K=>?_) ?_
 ·refine ft (t:=77) rfl (fun v1=>?_) (fun v1=>?_)
  ·have v1:=of_decide_eq_true v1
   refine aw ?_
   refine dJ (da fc bd rfl rfl (by rfl)) rfl rfl ?_
   refine aw ?_
   refine aw ?_
   refine bq (t:=81) (v':= .bool (decide (m.frames.length=0/\m.status≠2))) rfl (congrArg Value.bool (by rw[<-decide_not];exact decide_eq_decide.2 ⟨fun h=>⟨by omega,h⟩,fun h=>h.2⟩)) ?_
   exact gB K ⟨rfl,rfl,rfl,rfl,trivial⟩
  have v1:=of_decide_eq_false v1
  refine aw ?_
  refine aw ?_
  refine aw ?_
  refine aw ?_
  refine bq (t:=81) (v':= .bool (decide (m.frames.length=0/\m.status≠2))) rfl (congrArg Value.bool (decide_eq_false (by omega)).symm) ?_
  exact gB K ⟨rfl,rfl,rfl,rfl,trivial⟩
 refine ak (fun v2=>?_) (fun v2=>?_)
 ·rw[if_pos v2] at hFE
  subst hFE
  refine aa ?_
  intro w hw
  exact⟨by rw[hbadE (by decide)],hw.below⟩
 rw[if_neg v2] at hFE
 refine aa ?_
 refine ln 4 rfl [(2,_),(3,_),(8,_)] [(88,.bool (decide (0<m.frames.length/\m.status=2)))] ⟨rfl,rfl,rfl,trivial⟩ (fun K=>?_) ?_
 ·refine ft (t:=84) rfl (fun v3=>?_) (fun v3=>?_)
  ·have v3:=of_decide_eq_true v3
   refine aw ?_
   refine dJ (da fc bd rfl rfl (by rfl)) rfl rfl ?_
   refine aw ?_
   refine aw ?_
   refine bq (t:=88) (v':= .bool (decide (0<m.frames.length/\m.status=2))) rfl (congrArg Value.bool (decide_eq_decide.2 (by omega))) ?_
   exact gB K ⟨rfl,rfl,rfl,rfl,trivial⟩
  have v3:=of_decide_eq_false v3
  refine aw ?_
  refine aw ?_
  refine aw ?_
  refine aw ?_
  refine bq (t:=88) (v':= .bool (decide (0<m.frames.length/\m.status=2))) rfl (congrArg Value.bool (decide_eq_false (by omega)).symm) ?_
  exact gB K ⟨rfl,rfl,rfl,rfl,trivial⟩
 refine ak (fun v4=>?_) (fun v4=>?_)
 ·rw[if_pos v4] at hFE
  subst hFE
  refine aa ?_
  intro w hw
  exact⟨by rw[hbadE (by decide)],hw.below⟩
 rw[if_neg v4] at hFE
 refine aa ?_
 refine cN (fun k:Nat=>k<=m.frames.length/\∀j,j<k->ax (aD m.frames j).func 0 ((fs.length:Int) - 1)=true) (fun k=>m.frames.length - k) (fun k=> [(2,.pointer (some ⟨g1,0,none⟩)),(3,.pointer (some ⟨g2,0,none⟩)),(8,.int .i64 (m.frames.length:Int)),(9,.int .i64 (k:Int))]) (fun _=> [af g2 [.slice a.Af m.frames.length a.cf,.slice a.Ab m.blocks.length a.cb,.slice a.Ai m.inn.length a.ci,.slice a.Ao m.out.length a.co,.int .i64 m.status,.int .i64 m.trap] 43,af g1 [.slice Ap fs.length cp] 24]) 0 (⟨aC _,fun _ h=>absurd h (eo _)⟩) ?_
 rintro k hk'
 obtain⟨hk,hno2⟩:k<=m.frames.length/\∀j,j<k->ax (aD m.frames j).func 0 ((fs.length:Int) - 1)=true:=hk'
 refine ak (fun hlt=>?_) (fun hlt=>?_)
 ·have hkl:k<m.frames.length:=by omega
  obtain⟨A1,c1,A2,c2,hl,hst,hI,hcell⟩:=hm.f.fr hkl
  refine aa ?_
  refine bF [0,3,6,9,12,15,18,21,24,27,32,33] [] rfl<|aa ?_
  refine tE rfl (bt (k:=k) ef fh (.ro hm.f) (by omega) rfl rfl rfl)<|aa ?_
  refine tE rfl (bT (fun w hw=>hcell _ w hw 0 _ rfl) rfl rfl bd)<|aa ?_
  refine kG rfl rfl eq ((fun w hw=>cW ((fun w hw=>dL _ _ _ w) w hw)))<|aa ?_
  refine aO rfl (fun hb2=>?_) (fun hb2=>?_)
  ·have hb2:ax (aD m.frames k).func 0 ((fs.length:Int) - 1)=false:=by simpa using hb2
   rw[if_pos (yN hkl hb2)] at hFE
   subst hFE
   refine aa ?_
   intro w hw
   exact⟨by rw[hbadE (by decide)],hw.below⟩
  have hb2:ax (aD m.frames k).func 0 ((fs.length:Int) - 1)=true:=by simpa using hb2
  refine aa ?_
  refine bN (k+1) (⟨by show k+1<=_;omega,fun j hj=>(dZ j k).elim (hno2 j) (fun h=>by obtain rfl:j=k:=(by omega);exact hb2)⟩) (by show _ - _<_ - _;omega)
 obtain rfl:k=m.frames.length:=by omega
 obtain⟨hany,hfn⟩:=vZ hno2
 rw[if_neg hany] at hFE
 refine aa ?_
 refine ln 7 rfl [(2,_),(3,_),(8,_)] [(115,.bool (decide (0<m.frames.length/\(aD m.frames 0).func≠0)))] ⟨rfl,rfl,rfl,trivial⟩ (fun K=>?_) ?_
 ·refine ft (t:=108) rfl (fun w1=>?_) (fun w1=>?_)
  ·have w1:=of_decide_eq_true w1
   obtain⟨A1,c1,A2,c2,hl,hst,hI,hcell⟩:=hm.f.fr (k:=0) (by omega)
   refine aa ?_
   refine cQ (0) rfl ((.ro hm.f))<|aa ?_
   refine dQ rfl (fun w hw=>hcell _ w hw 0 _ rfl) ?_
   refine aw ?_
   refine aw ?_
   refine bq (t:=115) (v':= .bool (decide (0<m.frames.length/\(aD m.frames 0).func≠0))) rfl (congrArg Value.bool (by rw[<-decide_not];exact decide_eq_decide.2 ⟨fun h=>⟨by omega,h⟩,fun h=>h.2⟩)) ?_
   exact gB K ⟨rfl,rfl,rfl,rfl,trivial⟩
  have w1:=of_decide_eq_false w1
  refine aw ?_
  refine aw ?_
  refine aw ?_
  refine aw ?_
  refine aw ?_
  refine aw ?_
  refine aw ?_
  refine bq (t:=115) (v':= .bool (decide (0<m.frames.length/\(aD m.frames 0).func≠0))) rfl (congrArg Value.bool (decide_eq_false (fun h=>by omega)).symm) ?_
  exact gB K ⟨rfl,rfl,rfl,rfl,trivial⟩
 refine ak (fun w2=>?_) (fun w2=>?_)
 ·rw[if_pos w2] at hFE
  subst hFE
  refine aa ?_
  intro w hw
  exact⟨by rw[hbadE (by decide)],hw.below⟩
 rw[if_neg w2] at hFE
 refine aa ?_
 refine cN (fun k:Nat=>k<=m.frames.length/\db (dK fs m.blocks.length m.frames) ((List.range m.frames.length).take k)=0) (fun k=>m.frames.length - k) (fun k=> [(2,.pointer (some ⟨g1,0,none⟩)),(3,.pointer (some ⟨g2,0,none⟩)),(8,.int .i64 (m.frames.length:Int)),(10,.int .i64 (k:Int))]) (fun _=> [af g2 [.slice a.Af m.frames.length a.cf,.slice a.Ab m.blocks.length a.cb,.slice a.Ai m.inn.length a.ci,.slice a.Ao m.out.length a.co,.int .i64 m.status,.int .i64 m.trap] 43,af g1 [.slice Ap fs.length cp] 24]) 0 (⟨aC _,rfl⟩) ?_
 rintro k hk'
 obtain⟨hk,hno3⟩:k<=m.frames.length/\db (dK fs m.blocks.length m.frames) ((List.range m.frames.length).take k)=0:=hk'
 refine ak (fun hlt=>?_) (fun hlt=>?_)
 ·have hkl:k<m.frames.length:=by omega
  have hsn:=gg (g:=dK fs m.blocks.length m.frames) (l:=List.range m.frames.length) 0 (by rw[gR];exact hkl) hno3
  rw[jQ hkl] at hsn
  refine aa ?_
  refine bw rfl Tryz.call141 (fun w hw=>wH a m Ap cp fs k w (hw.ro hs) (fd.ro hw hm) hF hfit hkl hfn _ rfl)<|cq (fun he=>?_) (fun he=>?_)
  ·have he:dK fs m.blocks.length m.frames k≠0:=he
   rw[kI (k:=k+1) (by rw[hsn];exact he),hsn] at hFE
   rw[hFE] at he
   refine aa ?_
   intro w hw
   exact⟨by rw[hbadE he,<-hFE],hw.below⟩
  have he:dK fs m.blocks.length m.frames k=0:=he
  rw[he] at hsn
  refine aa ?_
  refine bN (k+1) (⟨by show k+1<=_;omega,hsn⟩) (by show _ - _<_ - _;omega)
 obtain rfl:k=m.frames.length:=by omega
 rw[a6 (by rw[gR];exact ay _)] at hno3
 rw[hno3] at hFE
 subst hFE
 rw[if_neg (fun h=>h rfl)] at hE
 refine aa ?_
 refine bF [0,3,6,9,12,15,18,21,24,27,30,33,36,39,42,45,48,51,54,57,60,63,66,69,72,75,78,81,84,87,90,93,96,99] [] rfl ?_
 refine aw ?_
 refine fM rfl (da fc bd rfl rfl (by rfl)) rfl rfl ha ?_
 refine aw ?_
 refine aw ?_
 by_cases s1:m.status=1
 ·rw[if_neg (fun h=>h s1)] at hE
  refine fN (t:=131) (v':= .bool true) rfl (congrArg Value.bool (by rw[s1];rfl)) ?_
  refine aw ?_
  refine fM rfl (da fc i6 rfl rfl (by rfl)) rfl rfl ha ?_
  refine fM rfl (lw ap rfl rfl) rfl rfl ha ?_
  refine aw ?_
  refine aw ?_
  by_cases i0:0<m.inn.length
  ·rw[if_pos (.inl i0)] at hE
   subst hE
   refine fN (t:=136) (v':= .bool true) rfl (congrArg Value.bool (decide_eq_true (by omega)))<|aa ?_
   refine aJ rfl<|aa ?_
   intro w hw
   exact⟨rfl,hw.below⟩
  have hne:m.frames≠[]:=fun e=>v2 ⟨by rw[e];rfl,by omega⟩
  obtain⟨li,x,e⟩:∃li x,m.frames=li++ [x]:=by
   rcases List.eq_nil_or_concat m.frames with h1 | ⟨l,z,h1⟩
   ·exact absurd h1 hne
   exact⟨l,z,by rw[h1];simp⟩
  obtain⟨hx,hkk,hop⟩:=D5 (fs:=fs) e
  obtain⟨k,hkl⟩:∃k,li.length=k:=⟨_,rfl⟩
  rw[hkl] at hx hkk
  have hfr:=mS.1 (lb hno3 k (fe.2 (by omega)))
  have hfx:=hfn x (by rw[e];simp)
  rw[e,<-hkl] at hfr
  obtain⟨_,hloc,t,he,hts⟩:=(vo hfx).1 hfr
  obtain⟨hp0,hp1',_⟩:=(hF.e x.func.toNat (by omega)).at_ _ _ he
  obtain⟨A1,c1,A2,c2,h1,h2,hi,hc⟩:=hm.f.fr (k:=k) (by omega)
  rw[hx] at h1 h2 hi hc
  obtain⟨kf,hkf⟩:∃kf:Nat,x.func=kf:=⟨x.func.toNat,by omega⟩
  obtain⟨kp,hkp⟩:∃kp:Nat,x.pc=kp:=⟨x.pc.toNat,by omega⟩
  rw[hkf,aV] at hp1' hop
  rw[hkp,aV] at hop
  rw[hkp] at hp1'
  have hkfl:kf<fs.length:=by omega
  have hkpl:kp<(ai fs kf).code.length:=by omega
  obtain⟨F1,d1,F2,d2,hfl,hfc,hfi,hfcell⟩:=hs.fn hkfl
  have bc:=be hfc
  rw[hop] at hE
  refine fN (t:=136) (v':= .bool false) rfl (congrArg Value.bool (decide_eq_false (by omega)))<|aa ?_
  refine fN (t:=142) (v':= .int .i64 (k:Int)) rfl (congrArg (Value.int .i64) (by omega)) ?_
  refine tE rfl (bt (k:=k) ef fh (.ro hm.f) (by omega) rfl rfl rfl)<|aa ?_
  refine tE rfl (bT (fun w hw=>hc _ w hw 0 _ rfl) rfl rfl bd) ?_
  refine fN (t:=145) (v':= .int .i64 (kf:Int)) rfl (congrArg (Value.int .i64) hkf) ?_
  refine tE rfl (bt (k:=kf) gz ij (.ro hs) (by omega) rfl rfl rfl)<|aa ?_
  refine tE rfl (bT (fun w hw=>hfcell _ w hw 3 _ rfl) rfl rfl DY)<|aa ?_
  refine fN (t:=152) (v':= .int .i64 (k:Int)) rfl (congrArg (Value.int .i64) (by omega)) ?_
  refine tE rfl (bt (k:=k) ef fh (.ro hm.f) (by omega) rfl rfl rfl)<|aa ?_
  refine tE rfl (bT (fun w hw=>hc _ w hw 1 _ rfl) rfl rfl bd) ?_
  refine fN (t:=155) (v':= .int .i64 (kp:Int)) rfl (congrArg (Value.int .i64) hkp) ?_
  refine tE rfl (bt (k:=kp) fH j4 (.ro hfc) (by omega) rfl rfl rfl)<|aa ?_
  refine tE rfl (bT (SF.opc (.ro hfc) hkpl) rfl rfl bd)<|cq (fun c21=>?_) (fun c21=>?_)
  ·rw[if_pos (.inr c21)] at hE
   subst hE
   refine aa ?_
   intro w hw
   exact⟨rfl,hw.below⟩
  have c21:(aK (ai fs kf).code kp).c=21:=c21
  rw[if_neg (fun h=>h.elim i0 (fun h=>h c21))] at hE
  subst hE
  refine aa ?_
  intro w hw
  exact⟨rfl,hw.below⟩
 rw[if_pos s1] at hE
 subst hE
 refine fN (t:=131) (v':= .bool false) rfl (congrArg Value.bool (decide_eq_false s1))<|aa ?_
 refine bO rfl<|aa ?_
 intro w hw
 exact⟨rfl,hw.below⟩
theorem xY (Ap:Option Addr) (cp:Nat) (fs:List ah) (a:MA) (m:av) (w:World) (hs:Sl w (.slice Ap fs.length cp) fs) (hm:fd w.heap.size w a m) (hfit:jw m.frames) :
  Calls Tryz.prog 23 #[.agg #[.slice Ap fs.length cp],.agg #[.slice a.Af m.frames.length a.cf,.slice a.Ab m.blocks.length a.cb,.slice a.Ai m.inn.length a.ci,.slice a.Ao m.out.length a.co,.int .i64 m.status,.int .i64 m.trap]] w fun e w'=>e= .returned (.int .i64 (dB fs m))/\Below w.heap.size w w':=by
 refine enter Tryz.func23 rfl Tryz.ntmps23 rfl<|aa ?_
 refine fun g1 _=>aa ?_
 refine fun g2 _=>aa ?_
 refine bw rfl Tryz.call78 (fun w hw=>qy Ap cp fs w (hw.ro hs))<|ak (fun h=>?_) (fun h=>?_)
 ·have h:eL fs=0:=h
  refine aa ?_
  refine bw rfl Tryz.call79 (fun w hw=>wF a m Ap cp fs w (hw.ro hs) (fd.ro hw hm) (qL h) hfit _ rfl)<|aa ?_
  intro w hw
  exact⟨by unfold dB;rw[if_neg (fun h'=>h' h)],hw.below⟩
 have h:¬eL fs=0:=h
 refine aa ?_
 intro w hw
 exact⟨by unfold dB;rw[if_pos h],hw.below⟩
end
section
theorem qF {fs:List ah} {m:av} (h:dB fs m=0):iZ fs/\gY fs m:=by
 unfold dB at h
 split at h
 ·rename_i h2;exact absurd h h2
 rename_i h2;exact⟨qL (gS.1 h2),xZ.1 h⟩
end
section
def bL (l:List aQ):List Int:=(l.filter fun v=>v.ref && decide (0<v.n)).map fun v=>v.n
def lQ (m:av):List Int:=m.frames.flatMap fun x=>bL x.locals++bL x.stack
theorem Ba (a b:List aQ):bL (a++b)=bL a++bL b:=by unfold bL;rw[List.filter_append,iq]
theorem AZ (v:aQ):bL [v]=if v.ref=true/\0<v.n then [v.n] else []:=by
 unfold bL
 by_cases h:v.ref=true/\0<v.n
 ·rw[if_pos h,List.filter_cons_of_pos (by simp[h.1,h.2])];rfl
 rw[if_neg h,List.filter_cons_of_neg (by simpa using h)];rfl
theorem rs {l:List aQ} {k:Nat} (hk:k<l.length):bL (l.take (k+1))=bL (l.take k)++bL [l.getD k default]:=by rw[eI l k default hk,Ba]
theorem kl (l:List aQ):(bL l).length<=l.length:=by
 unfold bL
 rw[bH]
 exact List.length_filter_le _ _
section
variable {B:Nat} {w0:World} {H:List ar}
theorem vl {A:Option Addr} {m c k:Nat} {xs:List aQ} (h:aT w0 B (.slice A m c) xs) (hk:k<m):aI (xs.getD k default).n:=by
 obtain⟨cs,⟨_,hi⟩,_⟩:=h.elr hk default
 exact hi
theorem t7 (go b o:Nat) (v:aQ) (hi:aI v.n) (hv:∀(H:List ar) (w:World),Cw B w0 H w->∀j u,([.bool v.ref,.int .i64 v.n]:List Value)[j]? =some u->w.cell? ⟨b,o+j,none⟩=some u) (acc:List Int) (A:Option Addr) (c:Nat) (hb:acc.length<=1000000) (w:World)
  (hw:Cw B w0 (af go [.slice A acc.length c] 35::aj (.slice A acc.length c) acc::H) w) :
  Calls Tryz.prog 166 #[.pointer (some ⟨b,o,none⟩),.pointer (some ⟨go,0,none⟩)] w fun e w'=> ∃g:Option Addr×Nat,True/\e= .returned (.tuple #[])/\Cw B w0 (af go [.slice g.1 (acc++bL [v]).length g.2] 35::aj (.slice g.1 (acc++bL [v]).length g.2) (acc++bL [v])::H) w':=by
 obtain⟨r,n⟩:=v
 have hg:=AZ ⟨r,n⟩
 refine bX Tryz.func166 rfl Tryz.ntmps166 rfl hw<|aa ?_
 refine dQ rfl (fun w hw=>hv _ w hw 0 _ rfl) ?_
 refine aw ?_
 cases r
 ·rw[if_neg (by simp)] at hg
  rw[hg,fD]
  refine bq (t:=7) (v':= .bool false) rfl (rfl)<|aa ?_
  refine bO rfl<|aa ?_
  intro w hw
  exact⟨(A,c),trivial,rfl,hw.msub ms⟩
 refine bq (t:=7) (v':= .bool true) rfl (rfl)<|aa ?_
 refine dQ rfl (fun w hw=>hv _ w hw 1 _ rfl)<|ak (fun hn=>?_) (fun hn=>?_)
 ·have hn:0<n:=hn
  rw[if_pos ⟨rfl,hn⟩] at hg
  rw[hg]
  refine iG [0,3,6,9,12,17,20,23] [7] rfl [af go [.slice A acc.length c] 35]<|aa ?_
  refine tE rfl (bT (fun w hw=>hv _ w hw 1 _ rfl) rfl rfl bd)<|aa ?_
  intro g1 _
  refine pE rfl (cZ (α:=Int) (bytes:=8) n [] rfl ap (bP dA) rfl (eM fc fc) (qJ hi) (by omega) (by omega) rfl rfl rfl) (fun⟨A3,c3⟩ _=>?_)
  refine a7 ?_
  intro w hw
  exact⟨(A3,c3),trivial,rfl,hw.msub ms⟩
 have hn:¬0<n:=hn
 rw[if_neg (fun h=>hn h.2)] at hg
 rw[hg,fD]
 refine aa ?_
 intro w hw
 exact⟨(A,c),trivial,rfl,hw.msub ms⟩
theorem qW {m:av} {i:Nat} (hi:i<m.frames.length):((m.frames.take (i+1)).flatMap fun x=>bL x.locals++bL x.stack)=((m.frames.take i).flatMap fun x=>bL x.locals++bL x.stack)++(bL (aD m.frames i).locals++bL (aD m.frames i).stack):=by
 rw[vp hi,List.flatMap_append]
 simp
theorem w5 {m:av} (_:m.frames.length<=6) (hf:∀x∈m.frames,x.locals.length<=1000/\x.stack.length<=8) (i:Nat):((m.frames.take i).flatMap fun x=>bL x.locals++bL x.stack).length<=1008*i:=by
 induction i with
 | zero=>simp
 | succ i ih=>
  by_cases h:i<m.frames.length
  ·rw[qW h,ag,ag]
   have h1:=hf _ (eW h)
   have h2:=kl (aD m.frames i).locals
   have h3:=kl (aD m.frames i).stack
   omega
  rw[a6 (by omega)]
  rw[a6 (by omega)] at ih
  omega
theorem yY (g go:Nat) (a:MA) (m:av) (hm:fd B w0 a m) (hn6:m.frames.length<=6) (hfs:∀x∈m.frames,x.locals.length<=1000/\x.stack.length<=8) (A:Option Addr) (c:Nat) (w:World)
  (hw:Cw B w0 (af g [.slice a.Af m.frames.length a.cf,.slice a.Ab m.blocks.length a.cb,.slice a.Ai m.inn.length a.ci,.slice a.Ao m.out.length a.co,.int .i64 m.status,.int .i64 m.trap] 43::af go [.slice A 0 c] 35::aj (.slice A 0 c) ([]:List Int)::H) w) :
  Calls Tryz.prog 163 #[.pointer (some ⟨g,0,none⟩),.func (.func 166) #[] #[.pointer (some ⟨go,0,none⟩)]] w fun e w'=> ∃q:Option Addr×Nat,True/\e= .returned (.tuple #[])/\Cw B w0 (af g [.slice a.Af m.frames.length a.cf,.slice a.Ab m.blocks.length a.cb,.slice a.Ai m.inn.length a.ci,.slice a.Ao m.out.length a.co,.int .i64 m.status,.int .i64 m.trap] 43::af go [.slice q.1 (lQ m).length q.2] 35::aj (.slice q.1 (lQ m).length q.2) (lQ m)::H) w':=by
 have bf:=be hm.f
 refine bX Tryz.func163 rfl Tryz.ntmps163 rfl hw<|aa ?_
 refine cN (fun g2:Nat×(Option Addr×Nat)=>g2.1<=m.frames.length) (fun g2=>m.frames.length - g2.1) (fun g2=> [(0,.pointer (some ⟨g,0,none⟩)),(1,.func (.func 166) #[] #[.pointer (some ⟨go,0,none⟩)]),(12,.int .i64 (m.frames.length:Int)),(13,.int .i64 (g2.1:Int))]) (fun g2=>af g [.slice a.Af m.frames.length a.cf,.slice a.Ab m.blocks.length a.cb,.slice a.Ai m.inn.length a.ci,.slice a.Ao m.out.length a.co,.int .i64 m.status,.int .i64 m.trap] 43::af go [.slice g2.2.1 ((m.frames.take g2.1).flatMap fun x=>bL x.locals++bL x.stack).length g2.2.2] 35::aj (.slice g2.2.1 ((m.frames.take g2.1).flatMap fun x=>bL x.locals++bL x.stack).length g2.2.2) ((m.frames.take g2.1).flatMap fun x=>bL x.locals++bL x.stack)::H) (0,(A,c)) (aC _) ?_ (hh:=(fun w h=>h.msub ms))
 rintro⟨i,⟨A1,c1⟩⟩ hi'
 try dsimp only
 have hi:i<=m.frames.length:=hi'
 have hsm:=w5 hn6 hfs i
 refine ak (fun hlt=>?_) (fun hlt=>?_)
 ·have hil:i<m.frames.length:=by omega
  obtain⟨F1,d1,F2,d2,hl,hst,hI,hcell⟩:=hm.f.fr hil
  have hxs:=hfs _ (eW hil)
  have hsn:=qW hil
  generalize hacc:((m.frames.take i).flatMap fun x=>bL x.locals++bL x.stack)=acc at hsm hsn
  generalize hx:aD m.frames i=x at hl hst hI hcell hxs hsn
  have hg1:=kl x.locals
  have hg2:=kl x.stack
  refine aa ?_
  refine bF [0,3,6,9,12,15,18,21,24,27,30,33,36,39,42,45,54,50,51] [] rfl<|aa ?_
  refine tE rfl (bt (k:=i) ef fh (.ro hm.f) (by omega) rfl rfl rfl)<|aa ?_
  refine tE rfl (bT (fun w hw=>hcell _ w hw 2 _ rfl) rfl rfl ne)<|aa ?_
  refine tE rfl (bt (k:=i) ef fh (.ro hm.f) (by omega) rfl rfl rfl)<|aa ?_
  refine tE rfl (bT (fun w hw=>hcell _ w hw 3 _ rfl) rfl rfl ne)<|aa ?_
  refine fun g1 _=>aa ?_
  refine cN (fun q:Nat×(Option Addr×Nat)=>q.1<=2) (fun q=>2 - q.1) (fun q=> [(0,.pointer (some ⟨g,0,none⟩)),(1,.func (.func 166) #[] #[.pointer (some ⟨go,0,none⟩)]),(12,.int .i64 (m.frames.length:Int)),(13,.int .i64 (i:Int)),(32,.slice (some ⟨g1,0,none⟩) 2 2),(33,.int .i64 2),(34,.int .i64 (q.1:Int))]) (fun q=>af go [.slice q.2.1 (acc++(if q.1=0 then [] else if q.1=1 then bL x.locals else bL x.locals++bL x.stack)).length q.2.2] 35::aj (.slice q.2.1 (acc++(if q.1=0 then [] else if q.1=1 then bL x.locals else bL x.locals++bL x.stack)).length q.2.2) (acc++(if q.1=0 then [] else if q.1=1 then bL x.locals else bL x.locals++bL x.stack))::af g1 [.slice F1 x.locals.length d1,.slice F2 x.stack.length d2] 116::af g [.slice a.Af m.frames.length a.cf,.slice a.Ab m.blocks.length a.cb,.slice a.Ai m.inn.length a.ci,.slice a.Ao m.out.length a.co,.int .i64 m.status,.int .i64 m.trap] 43::H) (0,(A1,c1)) (aC _) ?_ (hh:=(fun w h=>(show Cw _ _ (af go [.slice A1 (acc++ []).length c1] 35::aj (.slice A1 (acc++ []).length c1) (acc++ [])::af g1 [.slice F1 x.locals.length d1,.slice F2 x.stack.length d2] 116::af g [.slice a.Af m.frames.length a.cf,.slice a.Ab m.blocks.length a.cb,.slice a.Ai m.inn.length a.ci,.slice a.Ao m.out.length a.co,.int .i64 m.status,.int .i64 m.trap] 43::H) w from by rw[fD];exact h.msub ms)))
  rintro⟨j,⟨A2,c2⟩⟩ hj'
  try dsimp only
  have hj:j<=2:=hj'
  refine ak (fun hlt2=>?_) (fun hlt2=>?_)
  ·rcases(show j=0\/j=1 by omega) with rfl | rfl
   ·try dsimp only
    rw[if_pos rfl,fD]
    refine aa ?_
    refine sE (fT (k:=0) jL jz rfl (by decide) rfl rfl rfl) ?_
    refine dQ rfl (fun w hw=>eX (v:= .slice F1 x.locals.length d1) fc rfl w hw)<|aa ?_
    refine cN (fun q:Nat×(Option Addr×Nat)=>q.1<=x.locals.length) (fun q=>x.locals.length - q.1) (fun q=> [(0,.pointer (some ⟨g,0,none⟩)),(1,.func (.func 166) #[] #[.pointer (some ⟨go,0,none⟩)]),(6,.slice F1 x.locals.length d1),(12,.int .i64 (m.frames.length:Int)),(13,.int .i64 (i:Int)),(32,.slice (some ⟨g1,0,none⟩) 2 2),(33,.int .i64 2),(34,.int .i64 0),(39,.int .i64 (x.locals.length:Int)),(40,.int .i64 (q.1:Int))]) (fun q=>af go [.slice q.2.1 (acc++bL (x.locals.take q.1)).length q.2.2] 35::aj (.slice q.2.1 (acc++bL (x.locals.take q.1)).length q.2.2) (acc++bL (x.locals.take q.1))::af g1 [.slice F1 x.locals.length d1,.slice F2 x.stack.length d2] 116::af g [.slice a.Af m.frames.length a.cf,.slice a.Ab m.blocks.length a.cb,.slice a.Ai m.inn.length a.ci,.slice a.Ao m.out.length a.co,.int .i64 m.status,.int .i64 m.trap] 43::H) (0,(A2,c2)) (aC _) ?_ (hh:=(fun w h=>(show Cw _ _ (af go [.slice A2 (acc++bL (x.locals.take 0)).length c2] 35::aj (.slice A2 (acc++bL (x.locals.take 0)).length c2) (acc++bL (x.locals.take 0))::af g1 [.slice F1 x.locals.length d1,.slice F2 x.stack.length d2] 116::af g [.slice a.Af m.frames.length a.cf,.slice a.Ab m.blocks.length a.cb,.slice a.Ai m.inn.length a.ci,.slice a.Ao m.out.length a.co,.int .i64 m.status,.int .i64 m.trap] 43::H) w from by rw[List.take_zero,show bL []= [] from rfl,fD];exact h.msub ms)))
    rintro⟨k,⟨A3,c3⟩⟩ hk'
    try dsimp only
    have hk:k<=x.locals.length:=hk'
    refine ak (fun hlt3=>?_) (fun hlt3=>?_)
    ·have hkl:k<x.locals.length:=by omega
     have hgk:=kl (x.locals.take k)
     rw[an] at hgk
     have hsk:=rs hkl
     refine aa ?_
     refine cQ (k) rfl ((.ro hl)) ?_
     refine oE (gN rfl rfl rfl Tryz.call166 (fun w hw=>t7 go (ab F1) (ao F1+k*2) (x.locals.getD k default) (vl hl hkl) (fun H w hw j u hu=>SF.val (SF.ro hl) hkl default w hw j u hu) (acc++bL (x.locals.take k)) A3 c3 (by simp only[ag];omega) w (hw.msub (.s fc (.s fc .r))))) (fun⟨A4,c4⟩ _=>?_)
     refine a7 ?_
     rw[cu,<-hsk]
     refine bN (k+1,(A4,c4)) (by show k+1<=_;omega) (by show _ - _<_ - _;omega) (hh:=(fun w h=>h.msub ms))
    obtain rfl:k=x.locals.length:=by omega
    rw[bh]
    refine aa ?_
    refine bN (1,(A3,c3)) ((by decide:1<=2)) (by show 2 - 1<2 - 0;decide) (hh:=(fun w h=>h.msub ms))
   try dsimp only
   rw[if_neg (by decide),if_pos rfl]
   refine aa ?_
   refine sE (fT (k:=1) jL jz rfl (by decide) rfl rfl rfl) ?_
   refine dQ rfl (fun w hw=>eX (v:= .slice F2 x.stack.length d2) fc rfl w hw)<|aa ?_
   refine cN (fun q:Nat×(Option Addr×Nat)=>q.1<=x.stack.length) (fun q=>x.stack.length - q.1) (fun q=> [(0,.pointer (some ⟨g,0,none⟩)),(1,.func (.func 166) #[] #[.pointer (some ⟨go,0,none⟩)]),(6,.slice F2 x.stack.length d2),(12,.int .i64 (m.frames.length:Int)),(13,.int .i64 (i:Int)),(32,.slice (some ⟨g1,0,none⟩) 2 2),(33,.int .i64 2),(34,.int .i64 1),(39,.int .i64 (x.stack.length:Int)),(40,.int .i64 (q.1:Int))]) (fun q=>af go [.slice q.2.1 ((acc++bL x.locals)++bL (x.stack.take q.1)).length q.2.2] 35::aj (.slice q.2.1 ((acc++bL x.locals)++bL (x.stack.take q.1)).length q.2.2) ((acc++bL x.locals)++bL (x.stack.take q.1))::af g1 [.slice F1 x.locals.length d1,.slice F2 x.stack.length d2] 116::af g [.slice a.Af m.frames.length a.cf,.slice a.Ab m.blocks.length a.cb,.slice a.Ai m.inn.length a.ci,.slice a.Ao m.out.length a.co,.int .i64 m.status,.int .i64 m.trap] 43::H) (0,(A2,c2)) (aC _) ?_ (hh:=(fun w h=>(show Cw _ _ (af go [.slice A2 ((acc++bL x.locals)++bL (x.stack.take 0)).length c2] 35::aj (.slice A2 ((acc++bL x.locals)++bL (x.stack.take 0)).length c2) ((acc++bL x.locals)++bL (x.stack.take 0))::af g1 [.slice F1 x.locals.length d1,.slice F2 x.stack.length d2] 116::af g [.slice a.Af m.frames.length a.cf,.slice a.Ab m.blocks.length a.cb,.slice a.Ai m.inn.length a.ci,.slice a.Ao m.out.length a.co,.int .i64 m.status,.int .i64 m.trap] 43::H) w from by rw[List.take_zero,show bL []= [] from rfl,fD];exact h.msub ms)))
   rintro⟨k,⟨A3,c3⟩⟩ hk'
   try dsimp only
   have hk:k<=x.stack.length:=hk'
   refine ak (fun hlt3=>?_) (fun hlt3=>?_)
   ·have hkl:k<x.stack.length:=by omega
    have hgk:=kl (x.stack.take k)
    rw[an] at hgk
    have hsk:=rs hkl
    refine aa ?_
    refine cQ (k) rfl ((.ro hst)) ?_
    refine oE (gN rfl rfl rfl Tryz.call166 (fun w hw=>t7 go (ab F2) (ao F2+k*2) (x.stack.getD k default) (vl hst hkl) (fun H w hw j u hu=>SF.val (SF.ro hst) hkl default w hw j u hu) ((acc++bL x.locals)++bL (x.stack.take k)) A3 c3 (by simp only[ag];omega) w (hw.msub (.s fc (.s fc .r))))) (fun⟨A4,c4⟩ _=>?_)
    refine a7 ?_
    rw[cu,<-hsk]
    refine bN (k+1,(A4,c4)) (by show k+1<=_;omega) (by show _ - _<_ - _;omega) (hh:=(fun w h=>h.msub ms))
   obtain rfl:k=x.stack.length:=by omega
   rw[bh]
   refine aa ?_
   rw[cu]
   refine bN (2,(A3,c3)) ((by decide:2<=2)) (by show 2 - 2<2 - 1;decide) (hh:=(fun w h=>h.msub ms))
  obtain rfl:j=2:=by omega
  try dsimp only
  rw[if_neg (by decide),if_neg (by decide),<-hsn]
  refine aa ?_
  refine bN (i+1,(A2,c2)) (by show i+1<=_;omega) (by show _ - _<_ - _;omega) (hh:=(fun w h=>h.msub ms))
 obtain rfl:i=m.frames.length:=by omega
 rw[bh]
 refine aa ?_
 intro w hw
 exact⟨(A1,c1),trivial,rfl,hw.msub ms⟩
end
end
section
theorem mQ {l:List aQ} {n:Int} :n∈bL l↔0<n/\∃v∈l,v.ref=true/\v.n=n:=by
 unfold bL
 rw[i7]
 constructor
 ·rintro⟨v,hv,rfl⟩
  obtain⟨h1,h2⟩:=List.mem_filter.1 hv
  simp only[bI,decide_eq_true_eq] at h2
  exact⟨h2.2,v,h1,h2.1,rfl⟩
 rintro⟨h0,v,hv,hr,rfl⟩
 exact⟨v,List.mem_filter.2 ⟨hv,by simp[hr,h0]⟩,rfl⟩
theorem x4 {m:av} {n:Int} :n∈lQ m↔0<n/\tK m n=true:=by
 unfold lQ
 rw[List.mem_flatMap,pf]
 constructor
 ·rintro⟨x,hx,h⟩
  rcases cS.1 h with h | h
  ·obtain⟨h0,v,hv,hr,e⟩:=mQ.1 h
   exact⟨h0,x,hx,v,iV _ hv,hr,e⟩
  obtain⟨h0,v,hv,hr,e⟩:=mQ.1 h
  exact⟨h0,x,hx,v,jW _ hv,hr,e⟩
 rintro⟨h0,x,hx,v,hv,hr,e⟩
 refine⟨x,hx,?_⟩
 rcases cS.1 hv with h | h
 ·exact iV _ (mQ.2 ⟨h0,v,h,hr,e⟩)
 exact jW _ (mQ.2 ⟨h0,v,h,hr,e⟩)
theorem Cy {fs:List ah} {m:av} (hR:gY fs m):Lib.compact (jb (lQ m))=dH m:=by
 obtain⟨h1,h2⟩:=qa (q4 (lQ m))
 refine lP h1 (uF m) fun n=>?_
 rw[h2,o3]
 unfold jb
 rw[List.mem_mergeSort,x4]
 constructor
 ·rintro⟨h0,h⟩
  obtain⟨x,hx,v,hv,hr,rfl⟩:=pf.1 h
  have:=qq hR hx hv hr
  exact⟨by omega,h⟩
 rintro⟨h0,h⟩
 exact⟨by omega,h⟩
theorem x6 {m:av} :(dH m).length<=m.blocks.length:=by
 unfold dH
 rw[bH]
 exact eu (List.length_filter_le _ _) (by rw[gR];exact ay _)
theorem C3 (w : World) : Calls Tryz.prog 274 #[.int .u64 0] w fun e w' => e = .returned (.int .i64 0) /\ w = w' := by
  go_enter Tryz.func274, Tryz.ntmps274
  go_wp2
  all_goals (go_ret; exact ⟨cK (by kernel_rfl), rfl⟩)
theorem Gc (w : World) : Calls Tryz.prog 220 #[.int .u64 0] w fun e w' => e = .returned (.int .i64 0) /\ w = w' := by
  go_enter Tryz.func220, Tryz.ntmps220
  go_wp2_with (first
    | (go_at_call 274; refine (C3 _).mono ?_; rintro e w' ⟨rfl, rfl⟩))
  all_goals (go_ret; exact ⟨rfl, rfl⟩)
theorem AV (A:Option Addr) (c:Nat) (w:World):Calls Tryz.prog 264 #[.slice A 0 c,.int .i64 0,.int .i64 0] w fun e w'=>e= .returned (.tuple #[])/\Below w.heap.size w w':=by
 refine enter Tryz.func264 rfl Tryz.ntmps264 rfl<|aa ?_
 refine cN (fun _:Unit=>True) (fun _=>0) (fun _=> [(0,.slice A 0 c),(1,.int .i64 0),(2,.int .i64 0),(6,.int .i64 1)]) (fun _=> []) () (trivial) ?_
 rintro _ _
 refine ak (fun h=>?_) (fun h=>?_)
 ·exact absurd h (by decide)
 refine aa ?_
 intro w hw
 exact⟨rfl,hw.below⟩
theorem AC (A:Option Addr) (c:Nat) (l:Int) (w:World):Calls Tryz.prog 219 #[.slice A 0 c,.int .i64 0,.int .i64 0,.int .i64 l] w fun e w'=>e= .returned (.tuple #[])/\Below w.heap.size w w':=by
 refine enter Tryz.func219 rfl Tryz.ntmps219 rfl<|aa ?_
 refine cN (fun _:Unit=>True) (fun _=>0) (fun _=> [(0,.slice A 0 c),(1,.int .i64 0),(2,.int .i64 0),(3,.int .i64 l),(8,.bool true),(9,.bool true)]) (fun _=> []) () (trivial) ?_
 rintro _ _
 refine ak (fun h=>?_) (fun h=>?_)
 ·refine aa ?_
  refine bw rfl Tryz.call264 (fun w hw=>AV A c w)<|aa ?_
  intro w hw
  exact⟨rfl,hw.below⟩
 exact absurd (show (0:Int)<=12 by decide) h
theorem xP (A : Option Addr) (c : Nat) (w : World) : Calls Tryz.prog 167 #[.slice A 0 c] w fun e w' => e = .returned (.tuple #[]) /\ Below w.heap.size w w' := by
  go_enter Tryz.func167, Tryz.ntmps167
  go_wp2_with (first
    | (go_at_call 220; refine (Gc _).mono ?_; rintro e w' ⟨rfl, rfl⟩)
    | (go_at_call 219; refine (AC _ _ _ _).mono ?_; rintro e w' ⟨rfl, hb⟩))
  all_goals (go_end0; exact ⟨rfl, (by repeat (first | exact Below.refl _ _ | assumption | refine Below.drew ?_ | refine Below.drewN_ ?_ _ | refine aB ?_ _ | refine a8 (by assumption) ?_ | refine bz ?_ (by simp <;> omega) _))⟩)
theorem ud (A:Option Addr) (c:Nat) (w:World):Calls Tryz.prog 168 #[.slice A 0 c] w fun e w'=>e= .returned (.slice A 0 c)/\Below w.heap.size w w':=
 (Any.slices_Compact_int_empty lD A c w).mono fun _ _ ⟨h1,h2⟩=>⟨h1,by rw[h2];exact Below.refl _ _⟩
theorem sR (fs:List ah) (a:MA) (m:av) (w:World) (hm:fd w.heap.size w a m) (hF:iZ fs) (hR:gY fs m) :
  Calls Tryz.prog 116 #[.agg #[.slice a.Af m.frames.length a.cf,.slice a.Ab m.blocks.length a.cb,.slice a.Ai m.inn.length a.ci,.slice a.Ao m.out.length a.co,.int .i64 m.status,.int .i64 m.trap]] w fun e w'=> ∃q:Option Addr×Nat,True/\e= .returned (.slice q.1 (dH m).length q.2)/\Cw w.heap.size w [aj (.slice q.1 (dH m).length q.2) (dH m)] w':=by
 have hfs:∀x∈m.frames,x.locals.length<=1000/\x.stack.length<=8:=fun x hx=>by
  obtain⟨i,hi,rfl⟩:=bD hx
  have h:=tN hF hR hi
  have e:aD m.frames i=m.frames[i]:=by
   unfold aD
   rw[ac,ae hi]
   rfl
  rw[e] at h
  exact⟨h.2,h.1⟩
 have heq:=Cy hR
 refine enter Tryz.func116 rfl Tryz.ntmps116 rfl<|aa ?_
 refine fun g1 _=>aa ?_
 intro g2 _
 refine bV<|dg (fun w h=>Cw.nilO Int h)<|aa ?_
 refine ei rfl Tryz.call163 (fun w hw=>yY g1 g2 a m hm hR.n6 hfs none 0 w (hw.msub (.s fc (.s fc (.s fc .r))))) (fun⟨A1,c1⟩ _=>?_)
 refine a7 ?_
 generalize lQ m=l at heq⊢
 generalize dH m=r at heq⊢
 subst heq
 rcases l with _ | ⟨x,l⟩
 ·rw[show jb ([]:List Int)= [] from by unfold jb;simp,show Lib.compact ([]:List Int)= [] from by decide]
  refine bw rfl Hw (fun w hw=>xP A1 c1 w)<|aa ?_
  refine bw rfl Hv (fun w hw=>ud A1 c1 w)<|aa ?_
  intro w hw
  exact⟨(A1,c1),trivial,rfl,hw.msub ms⟩
 have hsl:(jb (x::l)).length=(x::l).length:=by unfold jb;exact List.length_mergeSort _
 refine ei rfl Hw (fun w hw=>sI (hw.msub (.s fc .r)) (Nat.succ_pos _) (qA hw fc)) (fun _ _=>aa ?_)
 refine ei rfl Hv (fun w hw=>oK (hw.msub (.s fc .r)) (Nat.succ_pos _) (qA hw fc)) (fun _ _=>aa ?_)
 intro w hw
 exact⟨(A1,c1),trivial,rfl,hw.msub ms⟩
end
section
theorem yS {l:List Int} {v:Int} (h:v∈l):∃k:Nat,lc l v=k/\k<l.length/\l.getD k 0=v:=by
 unfold lc
 cases e:l.findIdx? (· == v) with
 | none=>
  rw[List.findIdx?_eq_none_iff] at e
  have:=e v h
  simp at this
 | some k=>
  rw[jY] at e
  obtain⟨h1,h2,_⟩:=e
  refine⟨k,rfl,h1,?_⟩
  rw[ac,ae h1]
  simpa using h2
def fW {α:Type} (l:List α) (f:α->α) (k:Nat):List α:=(l.take k).map f++l.drop k
section
variable {B:Nat} {w0:World} {H:List ar}
theorem t8 (g4 g6:Nat) (R:List Int) (r:Int->Int) (hri:∀n∈R,aI (r n)) (T1 R1:Option Addr) (t1 r1:Nat) (A:Option Addr) (m c k:Nat) (xs:List aQ) (hk:k<m) (hok:BI (fun n=>n∈R) (xs.getD k default)) (hpos:(xs.getD k default).ref=true->0<=(xs.getD k default).n) (w:World)
  (hw:Cw B w0 (aj (.slice A m c) xs::af g6 [.slice T1 (R.map r).length t1] 35::aj (.slice T1 (R.map r).length t1) (R.map r)::af g4 [.slice R1 R.length r1] 35::aj (.slice R1 R.length r1) R::H) w) :
  Calls Tryz.prog 164 #[.pointer (some ⟨ab A,ao A+k*2,none⟩),.pointer (some ⟨g6,0,none⟩),.pointer (some ⟨g4,0,none⟩)] w fun e w'=> ∃_:Unit,True/\e= .returned (.tuple #[])/\Cw B w0 (aj (.slice A m c) (xs.set k (dk r (xs.getD k default)))::af g6 [.slice T1 (R.map r).length t1] 35::aj (.slice T1 (R.map r).length t1) (R.map r)::af g4 [.slice R1 R.length r1] 35::aj (.slice R1 R.length r1) R::H) w':=by
 have hl:xs.length=m:=by
  obtain⟨F,h,_⟩:=hw.rd bY.a
  exact aT.len_eq (bS.sl (show bS w F _ xs from h))
 have hself:xs.set k (xs.getD k default)=xs:=by
  apply dT
  intro i
  rw[List.getElem?_set]
  split
  ·rename_i e
   subst e
   rw[ac,if_pos (by omega),ae (by omega)]
   rfl
  rfl
 generalize hv:xs.getD k default=v at hok hpos hself⊢
 refine bX Tryz.func164 rfl Tryz.ntmps164 rfl hw<|aa ?_
 refine dQ rfl (fun w hw=>(SF.val (SF.own hl fc) hk default) w hw 0 _ rfl) ?_
 refine aw ?_
 rw[hv]
 rcases Bool.eq_false_or_eq_true v.ref with hr | hr
 ·rw[hr]
  refine bq (t:=8) (v':= .bool true) rfl (rfl)<|aa ?_
  refine dQ rfl (fun w hw=>(SF.val (SF.own hl fc) hk default) w hw 1 _ rfl)<|aa ?_
  rw[hv]
  refine ec rfl (fun hn=>?_) (fun hn=>?_)
  ·have hn:0<v.n:=hn
   have hin:=hok hr (by omega)
   obtain⟨q,hq1,hq2,hq3⟩:=yS hin
   have hqm:q<(R.map r).length:=by rw[bH];exact hq2
   have hren:dk r v=⟨true,r v.n⟩:=by unfold dk;rw[if_pos ⟨hr,by omega⟩]
   have hat:(R.map r).getD q 0=r v.n:=by
    rw[ac,cE,ae hq2]
    rw[ac,ae hq2] at hq3
    show r R[q]=_
    rw[show R[q]=v.n from hq3]
   refine bF [0,3,6,9,12,15,18,23,24,27,30,33,38] [12] rfl<|aa ?_
   refine tE rfl (bT (fun w hw=>(SF.val (SF.own hl fc) hk default) w hw 1 _ rfl) rfl rfl bd) ?_
   rw[hv]
   refine kG rfl rfl Tryz.call165 ((fun w hw=>cW ((fun w hw=>rp _ R v.n w (SF.at_ (SF.own rfl fc) hw)) w hw))) ?_
   rw[hq1]
   refine tE rfl (bt (k:=q) ap bJ (SF.own (xs:=R.map r) rfl fc) (by omega) rfl rfl rfl) ?_
   refine tE rfl (bT (SF.int (SF.own (xs:=R.map r) rfl fc) (by omega)) rfl rfl bd) ?_
   refine aw ?_
   refine aw ?_
   rw[hat]
   refine pE rfl (tm (α:=aQ) (f:=1) (us:= [.int .i64 (r v.n)]) ⟨true,r v.n⟩ default (xs':=xs.set k (dk r v)) (by rw[hren]) fc hk (hri _ hin) bJ rfl rfl rfl rfl rfl rfl (by rw[hv];show [Value.bool v.ref,_]=_;rw[hr];rfl) rfl) (fun _ _=>aa ?_)
   intro w hw
   exact⟨(),trivial,rfl,hw.msub ms⟩
  have hn:¬0<v.n:=hn
  have hren:dk r v=v:=by unfold dk;rw[if_neg (fun h=>by have:=hpos hr;have:=h.2;omega)]
  rw[hren,hself]
  refine aa ?_
  intro w hw
  exact⟨(),trivial,rfl,hw.msub ms⟩
 rw[hr]
 have hren:dk r v=v:=z7 hr
 rw[hren,hself]
 refine bq (t:=8) (v':= .bool false) rfl (rfl)<|aa ?_
 refine bO rfl<|aa ?_
 intro w hw
 exact⟨(),trivial,rfl,hw.msub ms⟩
theorem qr {α:Type} (l:List α) (f:α->α):fW l f 0=l:=by unfold fW;simp
theorem ss {α:Type} (l:List α) (f:α->α):fW l f l.length=l.map f:=by unfold fW;simp
theorem sr {α:Type} (l:List α) (f:α->α) (k:Nat):(fW l f k).length=l.length:=by unfold fW;simp;omega
theorem ww {α:Type} [Inhabited α] {l:List α} {f:α->α} {k:Nat} (hk:k<l.length):(fW l f k).getD k default=l.getD k default:=by
 unfold fW
 rw[ac,bB (by simp;omega),bH,an,Nat.min_eq_left (by omega),pj,bM,ac]
 rfl
theorem sq {α:Type} [Inhabited α] {l:List α} {f:α->α} {k:Nat} (hk:k<l.length):(fW l f k).set k (f (l.getD k default))=fW l f (k+1):=by
 unfold fW
 have h1:((l.take k).map f).length=k:=by rw[bH,an];omega
 rw[List.set_append_right _ _ (by omega),h1,pj,eI l k default hk,iq,cu]
 congr 1
 rw[ku hk,List.set_cons_zero]
 rfl
def fA (r:Int->Int) (p:bx×aP):bx×aP:=(p.1,jm r p.2)
def er (l:List (bx×aP)) (r:Int->Int) (i:Nat):List (bx×aP):=(fW l (fA r) i).eraseIdx i
theorem zZ {l:List (bx×aP)} {i:Nat} (hi:i<l.length) {w:World} (h:Cw B w0 (gi l::H) w):∃A1 c1 A2 c2,l[i].1.lv= .slice A1 l[i].2.locals.length c1/\l[i].1.sv= .slice A2 l[i].2.stack.length c2:=by
 obtain⟨s1,s2⟩:=Ec hi h
 obtain⟨A1,c1,e1,_⟩:=s1.form
 obtain⟨A2,c2,e2,_⟩:=s2.form
 exact⟨A1,c1,A2,c2,e1,e2⟩
theorem yX (g3 g4 g6:Nat) (R:List Int) (r:Int->Int) (hri:∀n∈R,aI (r n)) (T1 R1 Af:Option Addr) (t1 r1 n cf:Nat) (rest:List Value) (l:List (bx×aP)) (hs:List bx) (hln:l.length=n) (hls:l.map Prod.fst=hs) (hn6:n<=6)
  (hok:∀p∈l,pF (fun n=>n∈R) p.2) (hpos:∀p∈l,∀v∈p.2.locals++p.2.stack,v.ref=true->0<=v.n) (w:World)
  (hw:Cw B w0 (af g3 (.slice Af n cf::rest) 43::aj (.slice Af n cf) hs::gi l::af g6 [.slice T1 (R.map r).length t1] 35::aj (.slice T1 (R.map r).length t1) (R.map r)::af g4 [.slice R1 R.length r1] 35::aj (.slice R1 R.length r1) R::H) w) :
  Calls Tryz.prog 163 #[.pointer (some ⟨g3,0,none⟩),.func (.func 164) #[] #[.pointer (some ⟨g6,0,none⟩),.pointer (some ⟨g4,0,none⟩)]] w fun e w'=> ∃_:Unit,True/\e= .returned (.tuple #[])/\Cw B w0 (af g3 (.slice Af n cf::rest) 43::aj (.slice Af n cf) hs::gi (l.map (fA r))::af g6 [.slice T1 (R.map r).length t1] 35::aj (.slice T1 (R.map r).length t1) (R.map r)::af g4 [.slice R1 R.length r1] 35::aj (.slice R1 R.length r1) R::H) w':=by
 have hhl:hs.length=n:=by rw[<-hls,bH,hln]
 refine bX Tryz.func163 rfl Tryz.ntmps163 rfl hw<|aa ?_
 refine cN (fun i:Nat=>i<=n) (fun i=>n - i) (fun i=> [(0,.pointer (some ⟨g3,0,none⟩)),(1,.func (.func 164) #[] #[.pointer (some ⟨g6,0,none⟩),.pointer (some ⟨g4,0,none⟩)]),(12,.int .i64 (n:Int)),(13,.int .i64 (i:Int))]) (fun i=>gi (fW l (fA r) i)::af g3 (.slice Af n cf::rest) 43::aj (.slice Af n cf) hs::af g6 [.slice T1 (R.map r).length t1] 35::aj (.slice T1 (R.map r).length t1) (R.map r)::af g4 [.slice R1 R.length r1] 35::aj (.slice R1 R.length r1) R::H) 0 (aC _) ?_ (hh:=(fun w h=>(show Cw _ _ (gi (fW l (fA r) 0)::af g3 (.slice Af n cf::rest) 43::aj (.slice Af n cf) hs::af g6 [.slice T1 (R.map r).length t1] 35::aj (.slice T1 (R.map r).length t1) (R.map r)::af g4 [.slice R1 R.length r1] 35::aj (.slice R1 R.length r1) R::H) w from by rw[qr];exact h.msub ms)))
 rintro i hi'
 have hi:i<=n:=hi'
 refine ak (fun hlt=>?_) (fun hlt=>?_)
 ·have hil:i<l.length:=by omega
  have hul:=sr l (fA r) i
  have hatI:(fW l (fA r) i)[i]'(by omega)=l[i]:=by
   have:=ww (f:=fA r) hil
   rw[ac,ae (by omega),ac,ae hil] at this
   exact this
  refine ia (p:= ∃A1 c1 A2 c2,l[i].1.lv= .slice A1 l[i].2.locals.length c1/\l[i].1.sv= .slice A2 l[i].2.stack.length c2) (fun w hw=>by
   have:=zZ (l:=fW l (fA r) i) (i:=i) (by omega) hw
   rw[hatI] at this
   exact this) fun⟨A1,c1,A2,c2,e1,e2⟩=>?_
  refine dg (fun w h=>xU (l:=fW l (fA r) i) (k:=i) (by omega) h) ?_
  rw[hatI]
  have hset:(fW l (fA r) i).set i (fA r l[i])=fW l (fA r) (i+1):=by
   have:=sq (f:=fA r) hil
   rw[ac,ae hil] at this
   exact this
  have hmemI:=cL hil
  obtain⟨hok1,hok2⟩:=hok _ hmemI
  have hpos1:∀v∈l[i].2.locals,v.ref=true->0<=v.n:=fun v hv=>hpos _ hmemI v (iV _ hv)
  have hpos2:∀v∈l[i].2.stack,v.ref=true->0<=v.n:=fun v hv=>hpos _ hmemI v (jW _ hv)
  have hhd:hs.getD i default=⟨l[i].1.func,l[i].1.pc,.slice A1 l[i].2.locals.length c1,.slice A2 l[i].2.stack.length c2⟩:=by
   rw[<-hls,ac,cE,ae hil,<-e1,<-e2]
   rfl
  have hback:∀w,Cw B w0 (aj l[i].1.lv (fA r l[i]).2.locals::aj l[i].1.sv (fA r l[i]).2.stack::gi (er l r i)::af g3 (.slice Af n cf::rest) 43::aj (.slice Af n cf) hs::af g6 [.slice T1 (R.map r).length t1] 35::aj (.slice T1 (R.map r).length t1) (R.map r)::af g4 [.slice R1 R.length r1] 35::aj (.slice R1 R.length r1) R::H) w->Cw B w0 (gi (fW l (fA r) (i+1))::af g3 (.slice Af n cf::rest) 43::aj (.slice Af n cf) hs::af g6 [.slice T1 (R.map r).length t1] 35::aj (.slice T1 (R.map r).length t1) (R.map r)::af g4 [.slice R1 R.length r1] 35::aj (.slice R1 R.length r1) R::H) w:=fun w h=>by
   have:=Cp (l:=fW l (fA r) i) (k:=i) (q:=fA r l[i]) (by omega) h
   rwa [hset] at this
  show CW _ _ _ _ _ _ _ (aj l[i].1.lv l[i].2.locals::aj l[i].1.sv l[i].2.stack::gi (er l r i)::af g3 (.slice Af n cf::rest) 43::aj (.slice Af n cf) hs::af g6 [.slice T1 (R.map r).length t1] 35::aj (.slice T1 (R.map r).length t1) (R.map r)::af g4 [.slice R1 R.length r1] 35::aj (.slice R1 R.length r1) R::H)
  rw[e1,e2] at hback⊢
  have hrl:(fA r l[i]).2.locals=l[i].2.locals.map (dk r):=rfl
  have hrs:(fA r l[i]).2.stack=l[i].2.stack.map (dk r):=rfl
  rw[hrl,hrs] at hback
  generalize l[i].1.func=hf0 at hhd
  generalize l[i].1.pc=hp0 at hhd
  generalize l[i].2.locals=L1 at *
  generalize l[i].2.stack=L2 at *
  refine ia (p:=L1.length<=140737488355328/\L2.length<=140737488355328) (fun w hw=>⟨be (SF.at_ (SF.own (α:=aQ) (xs:=L1) rfl fc) hw),be (SF.at_ (SF.own (α:=aQ) (xs:=L2) rfl fc) hw)⟩) fun⟨lb1,lb2⟩=>?_
  refine aa ?_
  refine bF [0,3,6,9,12,15,18,21,24,27,30,33,36,39,42,45,54,50,51] [] rfl<|aa ?_
  refine tE rfl (bt (k:=i) ef fh (SF.own (α:=bx) hhl fc) (by omega) rfl rfl rfl)<|aa ?_
  refine tE rfl (bT (fun w hw=>(SF.hfr (SF.own (α:=bx) hhl fc) (k:=i) (by omega) hhd) w hw 2 _ rfl) rfl rfl ne)<|aa ?_
  refine tE rfl (bt (k:=i) ef fh (SF.own (α:=bx) hhl fc) (by omega) rfl rfl rfl)<|aa ?_
  refine tE rfl (bT (fun w hw=>(SF.hfr (SF.own (α:=bx) hhl fc) (k:=i) (by omega) hhd) w hw 3 _ rfl) rfl rfl ne)<|aa ?_
  refine fun g1 _=>aa ?_
  refine cN (fun j:Nat=>j<=2) (fun j=>2 - j) (fun j=> [(0,.pointer (some ⟨g3,0,none⟩)),(1,.func (.func 164) #[] #[.pointer (some ⟨g6,0,none⟩),.pointer (some ⟨g4,0,none⟩)]),(12,.int .i64 (n:Int)),(13,.int .i64 (i:Int)),(32,.slice (some ⟨g1,0,none⟩) 2 2),(33,.int .i64 2),(34,.int .i64 (j:Int))]) (fun j=>aj (.slice A1 L1.length c1) (if j=0 then L1 else L1.map (dk r))::aj (.slice A2 L2.length c2) (if j=2 then L2.map (dk r) else L2)::gi (er l r i)::af g1 [.slice A1 L1.length c1,.slice A2 L2.length c2] 116::af g3 (.slice Af n cf::rest) 43::aj (.slice Af n cf) hs::af g6 [.slice T1 (R.map r).length t1] 35::aj (.slice T1 (R.map r).length t1) (R.map r)::af g4 [.slice R1 R.length r1] 35::aj (.slice R1 R.length r1) R::H) 0 (aC _) ?_ (hh:=(fun w h=>h.msub ms))
  rintro j hj'
  have hj:j<=2:=hj'
  refine ak (fun hlt2=>?_) (fun hlt2=>?_)
  ·rcases(show j=0\/j=1 by omega) with rfl | rfl
   ·rw[if_pos rfl,if_neg (by decide)]
    refine aa ?_
    refine sE (fT (k:=0) jL jz rfl (by decide) rfl rfl rfl) ?_
    refine dQ rfl (fun w hw=>eX (v:= .slice A1 L1.length c1) fc rfl w hw)<|aa ?_
    refine cN (fun k:Nat=>k<=L1.length) (fun k=>L1.length - k) (fun k=> [(0,.pointer (some ⟨g3,0,none⟩)),(1,.func (.func 164) #[] #[.pointer (some ⟨g6,0,none⟩),.pointer (some ⟨g4,0,none⟩)]),(6,.slice A1 L1.length c1),(12,.int .i64 (n:Int)),(13,.int .i64 (i:Int)),(32,.slice (some ⟨g1,0,none⟩) 2 2),(33,.int .i64 2),(34,.int .i64 0),(39,.int .i64 (L1.length:Int)),(40,.int .i64 (k:Int))]) (fun k=>aj (.slice A1 L1.length c1) (fW L1 (dk r) k)::aj (.slice A2 L2.length c2) L2::gi (er l r i)::af g1 [.slice A1 L1.length c1,.slice A2 L2.length c2] 116::af g3 (.slice Af n cf::rest) 43::aj (.slice Af n cf) hs::af g6 [.slice T1 (R.map r).length t1] 35::aj (.slice T1 (R.map r).length t1) (R.map r)::af g4 [.slice R1 R.length r1] 35::aj (.slice R1 R.length r1) R::H) 0 (aC _) ?_ (hh:=(fun w h=>(show Cw _ _ (aj (.slice A1 L1.length c1) (fW L1 (dk r) 0)::aj (.slice A2 L2.length c2) L2::gi (er l r i)::af g1 [.slice A1 L1.length c1,.slice A2 L2.length c2] 116::af g3 (.slice Af n cf::rest) 43::aj (.slice Af n cf) hs::af g6 [.slice T1 (R.map r).length t1] 35::aj (.slice T1 (R.map r).length t1) (R.map r)::af g4 [.slice R1 R.length r1] 35::aj (.slice R1 R.length r1) R::H) w from by rw[qr];exact h.msub ms)))
    rintro k hk'
    have hk:k<=L1.length:=hk'
    have hul:=sr L1 (dk r) k
    refine ak (fun hlt3=>?_) (fun hlt3=>?_)
    ·have hkl:k<L1.length:=by omega
     have hat:=ww (f:=dk r) hkl
     have hmem:=eb (d:=(default:aQ)) hkl
     refine aa ?_
     refine cQ (k) rfl ((SF.own (xs:=fW L1 (dk r) k) hul fc)) ?_
     refine oE (gN rfl rfl rfl Tryz.call164 (fun w hw=>t8 g4 g6 R r hri T1 R1 t1 r1 A1 L1.length c1 k (fW L1 (dk r) k) hkl (by rw[hat];exact hok1 _ hmem) (by rw[hat];exact hpos1 _ hmem) w (hw.msub (.s fc (.s fc (.s fc (.s fc (.s fc .r)))))))) (fun _ _=>aa ?_)
     rw[hat,sq hkl]
     refine bN (k+1) (by show k+1<=_;omega) (by show _ - _<_ - _;omega) (hh:=(fun w h=>h.msub ms))
    obtain rfl:k=L1.length:=by omega
    rw[ss]
    refine aa ?_
    refine bN 1 ((by decide:1<=2)) (by show 2 - 1<2 - 0;decide) (hh:=(fun w h=>h.msub ms))
   rw[if_neg (by decide),if_neg (by decide)]
   refine aa ?_
   refine sE (fT (k:=1) jL jz rfl (by decide) rfl rfl rfl) ?_
   refine dQ rfl (fun w hw=>eX (v:= .slice A2 L2.length c2) fc rfl w hw)<|aa ?_
   refine cN (fun k:Nat=>k<=L2.length) (fun k=>L2.length - k) (fun k=> [(0,.pointer (some ⟨g3,0,none⟩)),(1,.func (.func 164) #[] #[.pointer (some ⟨g6,0,none⟩),.pointer (some ⟨g4,0,none⟩)]),(6,.slice A2 L2.length c2),(12,.int .i64 (n:Int)),(13,.int .i64 (i:Int)),(32,.slice (some ⟨g1,0,none⟩) 2 2),(33,.int .i64 2),(34,.int .i64 1),(39,.int .i64 (L2.length:Int)),(40,.int .i64 (k:Int))]) (fun k=>aj (.slice A2 L2.length c2) (fW L2 (dk r) k)::aj (.slice A1 L1.length c1) (L1.map (dk r))::gi (er l r i)::af g1 [.slice A1 L1.length c1,.slice A2 L2.length c2] 116::af g3 (.slice Af n cf::rest) 43::aj (.slice Af n cf) hs::af g6 [.slice T1 (R.map r).length t1] 35::aj (.slice T1 (R.map r).length t1) (R.map r)::af g4 [.slice R1 R.length r1] 35::aj (.slice R1 R.length r1) R::H) 0 (aC _) ?_ (hh:=(fun w h=>(show Cw _ _ (aj (.slice A2 L2.length c2) (fW L2 (dk r) 0)::aj (.slice A1 L1.length c1) (L1.map (dk r))::gi (er l r i)::af g1 [.slice A1 L1.length c1,.slice A2 L2.length c2] 116::af g3 (.slice Af n cf::rest) 43::aj (.slice Af n cf) hs::af g6 [.slice T1 (R.map r).length t1] 35::aj (.slice T1 (R.map r).length t1) (R.map r)::af g4 [.slice R1 R.length r1] 35::aj (.slice R1 R.length r1) R::H) w from by rw[qr];exact h.msub ms)))
   rintro k hk'
   have hk:k<=L2.length:=hk'
   have hul:=sr L2 (dk r) k
   refine ak (fun hlt3=>?_) (fun hlt3=>?_)
   ·have hkl:k<L2.length:=by omega
    have hat:=ww (f:=dk r) hkl
    have hmem:=eb (d:=(default:aQ)) hkl
    refine aa ?_
    refine cQ (k) rfl ((SF.own (xs:=fW L2 (dk r) k) hul fc)) ?_
    refine oE (gN rfl rfl rfl Tryz.call164 (fun w hw=>t8 g4 g6 R r hri T1 R1 t1 r1 A2 L2.length c2 k (fW L2 (dk r) k) hkl (by rw[hat];exact hok2 _ hmem) (by rw[hat];exact hpos2 _ hmem) w (hw.msub (.s fc (.s fc (.s fc (.s fc (.s fc .r)))))))) (fun _ _=>aa ?_)
    rw[hat,sq hkl]
    refine bN (k+1) (by show k+1<=_;omega) (by show _ - _<_ - _;omega) (hh:=(fun w h=>h.msub ms))
   obtain rfl:k=L2.length:=by omega
   rw[ss]
   refine aa ?_
   refine bN 2 ((by decide:2<=2)) (by show 2 - 2<2 - 1;decide) (hh:=(fun w h=>h.msub ms))
  obtain rfl:j=2:=by omega
  rw[if_neg (by decide),if_pos rfl]
  refine aa ?_
  refine bN (i+1) (by show i+1<=_;omega) (by show _ - _<_ - _;omega) (hh:=(fun w h=>hback w (h.msub ms)))
 obtain rfl:i=n:=by omega
 rw[<-hln,ss]
 refine aa ?_
 intro w hw
 exact⟨(),trivial,rfl,hw.msub ms⟩
end
end
section
theorem Bs (m:av):(io m).frames.length=m.frames.length:=by unfold io;simp
theorem Ac (r:Int->Int) (l:List (bx×aP)):(l.map (fA r)).map Prod.fst=l.map Prod.fst:=by rw[List.map_map];rfl
theorem z8 (r:Int->Int) (l:List (bx×aP)):(l.map (fA r)).map Prod.snd=(l.map Prod.snd).map (jm r):=by rw[List.map_map,List.map_map];rfl
theorem Cx {r:Int->Int} {l:List (bx×aP)} (h:jl l):jl (l.map (fA r)):=fun p hp=>by
 obtain⟨q,hq,rfl⟩:=i7.1 hp
 exact h q hq
theorem Gk (fs:List ah) (a:MA) (m:av) (w:World) (hm:fd w.heap.size w a m) (hF:iZ fs) (hR:gY fs m) :
  Calls Tryz.prog 115 #[.agg #[.slice a.Af m.frames.length a.cf,.slice a.Ab m.blocks.length a.cb,.slice a.Ai m.inn.length a.ci,.slice a.Ao m.out.length a.co,.int .i64 m.status,.int .i64 m.trap]] w fun e w'=> ∃g:MA,True/\
   e= .returned (.agg #[.slice g.Af (io m).frames.length g.cf,.slice g.Ab (io m).blocks.length g.cb,.slice g.Ai (io m).inn.length g.ci,.slice g.Ao (io m).out.length g.co,.int .i64 (io m).status,.int .i64 (io m).trap])/\Cw w.heap.size w [aj (.slice g.Af (io m).frames.length g.cf) (io m).frames,aj (.slice g.Ab (io m).blocks.length g.cb) (io m).blocks,aj (.slice g.Ai (io m).inn.length g.ci) (io m).inn,aj (.slice g.Ao (io m).out.length g.co) (io m).out] w':=by
 have hb8:=(lV hR.bl).1
 have hrl:=x6 (m:=m)
 have hin:∀r∈dH m,0<=r/\r<=m.blocks.length:=fun r hr=>by have:=(o3.1 hr).1;omega
 have hri:∀n∈dH m,aI (dY m.blocks (dH m) n):=fun n hn=>by
  have h1:=hin n hn
  have h2:=k9 m.blocks (dH m) n.toNat
  unfold dY
  split
  ·exact⟨by omega,by omega⟩
  exact⟨by omega,by omega⟩
 rw[Bs]
 refine enter Tryz.func115 rfl Tryz.ntmps115 rfl<|aa ?_
 refine fun g1 _=>aa ?_
 refine fun g2 _=>aa ?_
 refine fE rfl Tryz.call153 (fun w hw=>AD a m w (fd.ro hw hm) (Da hF hR)) (fun g0 _=>aa ?_)
 refine fun g3 _=>aa ?_
 refine fE rfl Tryz.call116 (fun w hw=>sR fs a m w (fd.ro hw hm) hF hR) (fun⟨R1,r1⟩ _=>?_)
 refine a7 ?_
 refine fun g4 _=>aa ?_
 refine fE rfl Tryz.call162 (fun w hw=>Gd a.Ab R1 a.cb r1 m.blocks (dH m) w (hw.ro hm.b) (SF.at_ (SF.own rfl fc) hw) (qm.of_check hR.bl) hin (by omega)) (fun⟨⟨K1,k1⟩,⟨T1,t1⟩⟩ _=>?_)
 refine a7 ?_
 intro g5 _
 refine aw ?_
 refine gu (iy _ fc i8 rfl rfl rfl rfl rfl (by rfl) rfl (by rfl)) rfl rfl (fun _ _=>?_)
 refine bV<|cV<|cz<|aw ?_
 refine aw ?_
 refine gu (iy _ fc Tryz.sizeOf41 rfl rfl rfl rfl rfl (by rfl) rfl (by rfl)) rfl rfl (fun _ _=>?_)
 refine bV<|Fu (xs:=m.frames) (v:= .slice g0.Af m.frames.length g0.cf) fc fun l hl hok=>?_
 have hll:l.length=m.frames.length:=by rw[<-hl,bH]
 have hmem:∀p∈l,p.2∈m.frames:=fun p hp=>by rw[<-hl];exact List.mem_map_of_mem hp
 refine aa ?_
 refine ei rfl Tryz.call163 (fun w hw=>yX g3 g4 g5 (dH m) (dY m.blocks (dH m)) hri T1 R1 g0.Af t1 r1 m.frames.length g0.cf [.slice K1 (cP m.blocks (dH m) m.blocks.length).length k1,.slice g0.Ai m.inn.length g0.ci,.slice g0.Ao m.out.length g0.co,.int .i64 m.status,.int .i64 m.trap] l (l.map Prod.fst) hll rfl hR.n6 (fun p hp=>Fv hR _ (hmem p hp)) (fun p hp v hv hr=>(qq hR (hmem p hp) hv hr).1) w (hw.msub (.s fc (.s fc (.s fc (.s fc (.s fc (.s fc (.s fc .r))))))))) (fun _ _=>aa ?_)
 intro w hw
 refine⟨⟨g0.Af,g0.cf,K1,k1,g0.Ai,g0.ci,g0.Ao,g0.co⟩,trivial,rfl,?_⟩
 have h1:=Fw (v:= .slice g0.Af m.frames.length g0.cf) (l:=l.map (fA (dY m.blocks (dH m)))) (H:= [aj (.slice K1 (cP m.blocks (dH m) m.blocks.length).length k1) (cP m.blocks (dH m) m.blocks.length),aj (.slice g0.Ai m.inn.length g0.ci) m.inn,aj (.slice g0.Ao m.out.length g0.co) m.out]) (Cx hok) (by rw[Ac];exact hw.msub ms)
 rw[z8,hl] at h1
 exact h1
def GS (fs:List ah) (m:av):av×Int:=if dB fs m=0 then (io m,(m.blocks.length:Int) - (io m).blocks.length) else (default,0)
end
section
def Eb (fs:List ah) (m:av) (k:Int):Int:=if dB fs m≠0 then dB fs m else if k<0\/10000<k then 3 else 0
def GB (fs:List ah) (m:av) (k:Int):av×Int:=if Eb fs m k=0 then nw fs m k else (default,0)
end
section
def fk:List ah:= [⟨0,[2],0,[⟨1,2⟩,⟨14,0⟩,⟨2,0⟩,⟨1,1⟩,⟨14,0⟩,⟨9,0⟩,⟨8,0⟩,⟨1,0⟩,⟨15,0⟩,⟨20,0⟩,⟨13,0⟩]⟩]
def jR:av:=⟨[⟨0,0,[⟨true,0⟩],[]⟩],[],[],[],0,0⟩
def BP:av:=⟨[⟨0,6,[⟨true,2⟩],[]⟩],[[0,0],[0]],[],[],0,0⟩
def G3:av:=⟨[⟨0,6,[⟨true,1⟩],[]⟩],[[0]],[],[],0,0⟩
theorem mP (w:World):Calls Tryz.prog 64 #[] w fun e w'=> ∃g:Nat,True/\e= .returned (.agg #[.slice (some ⟨g,0,none⟩) 1 1])/\Cw w.heap.size w [aj (.slice (some ⟨g,0,none⟩) 1 1) fk] w':=by
 refine enter Tryz.func64 rfl Tryz.ntmps64 rfl<|aa ?_
 refine fun g1 _=>aa ?_
 refine fun g2 _=>aa ?_
 refine fun g3 _=>aa ?_
 refine fun g4 _=>aa ?_
 intro w hw
 refine⟨_,trivial,rfl,?_⟩
 have h:=bW (α:=aW) (m:=11) [⟨1,2⟩,⟨14,0⟩,⟨2,0⟩,⟨1,1⟩,⟨14,0⟩,⟨9,0⟩,⟨8,0⟩,⟨1,0⟩,⟨15,0⟩,⟨20,0⟩,⟨13,0⟩] rfl (show∀o∈[(⟨1,2⟩:aW),⟨14,0⟩,⟨2,0⟩,⟨1,1⟩,⟨14,0⟩,⟨9,0⟩,⟨8,0⟩,⟨1,0⟩,⟨15,0⟩,⟨20,0⟩,⟨13,0⟩],aI o.c/\aI o.a from by decide) rfl (by decide) (hw.msub (T:= [af g3 _ _,af g2 _ _,af g4 _ _]) ms)
 have h:=bW (α:=Int) (m:=1) [2] rfl (jE (by decide)) rfl (by decide) (h.msub (T:= [af g2 _ _,aj (.slice (some ⟨g3,0,none⟩) 11 11) _,af g4 _ _]) ms)
 refine vw (H:= []) (xs:=fk) (oS.cons (Hel:= [aj (.slice (some ⟨g2,0,none⟩) 1 1) [(2:Int)],aj (.slice (some ⟨g3,0,none⟩) 11 11) [(⟨1,2⟩:aW),⟨14,0⟩,⟨2,0⟩,⟨1,1⟩,⟨14,0⟩,⟨9,0⟩,⟨8,0⟩,⟨1,0⟩,⟨15,0⟩,⟨20,0⟩,⟨13,0⟩]]) (cs:= [_,_,_,_]) (yJ (f:=⟨0,[2],0,[⟨1,2⟩,⟨14,0⟩,⟨2,0⟩,⟨1,1⟩,⟨14,0⟩,⟨9,0⟩,⟨8,0⟩,⟨1,0⟩,⟨15,0⟩,⟨20,0⟩,⟨13,0⟩]⟩) (by decide)) oS.nil_) rfl (by decide) ?_
 exact h.msub (T:= [af g4 _ _,aj (.slice (some ⟨g2,0,none⟩) 1 1) _,aj (.slice (some ⟨g3,0,none⟩) 11 11) _]) ms
theorem nH:eL fk=0/\sC fk=jR/\Eb fk jR 10=0/\GB fk jR 10=(BP,0)/\dB fk BP=0/\GS fk BP=(G3,1)/\dH BP= [2]:=by
 refine⟨?_,?_,?_,?_,?_,?_,?_⟩ <;> kernel_rfl
def sN (fs:List ah) (m:av):List Int:=if dB fs m=0 then dH m else []
theorem Gq (Ap:Option Addr) (cp:Nat) (fs:List ah) (a:MA) (m:av) (r:List Int) (hr:sN fs m=r) (w:World) (hs:Sl w (.slice Ap fs.length cp) fs) (hm:fd w.heap.size w a m) (hfit:jw m.frames) :
  Calls Tryz.prog 57 #[.agg #[.slice Ap fs.length cp],.agg #[.slice a.Af m.frames.length a.cf,.slice a.Ab m.blocks.length a.cb,.slice a.Ai m.inn.length a.ci,.slice a.Ao m.out.length a.co,.int .i64 m.status,.int .i64 m.trap]] w fun e w'=> ∃q:Option Addr×Nat,True/\e= .returned (.tuple #[.slice q.1 r.length q.2,.int .i64 (dB fs m)])/\Cw w.heap.size w [aj (.slice q.1 r.length q.2) r] w':=by
 refine enter Tryz.func57 rfl Tryz.ntmps57 rfl<|aa ?_
 refine fun g1 _=>aa ?_
 refine fun g2 _=>aa ?_
 refine bw rfl Tryz.call45 (fun w hw=>pK Ap cp fs a m w (hw.ro hs) (fd.ro hw hm) hfit)<|cq (fun h=>?_) (fun h=>?_)
 ·have h:¬dB fs m=0:=h
  have e:r= []:=by rw[<-hr];unfold sN;rw[if_neg h]
  subst e
  refine aa ?_
  intro w hw
  exact⟨(none,0),trivial,rfl,(Cw.nilO Int hw).msub ms⟩
 have h:dB fs m=0:=h
 obtain⟨hF,hR⟩:=qF h
 have e:r=dH m:=by rw[<-hr];unfold sN;rw[if_pos h]
 subst e
 refine aa ?_
 refine fE rfl Tryz.call116 (fun w hw=>sR fs a m w (fd.ro hw hm) hF hR) (fun⟨R1,r1⟩ _=>?_)
 refine a7 ?_
 intro w hw
 exact⟨(R1,r1),trivial,by rw[h],hw.msub ms⟩
theorem C9:jw jR.frames:=by
 refine⟨by decide,fun x hx=>?_⟩
 have:x=⟨0,0,[⟨true,0⟩],[]⟩:=by simpa [jR] using hx
 subst this
 decide
theorem wW (A:Option Addr) (c:Nat) (w:World) (hs:Sl w (.slice A 1 c) fk) :
  Calls Tryz.prog 54 #[.agg #[.slice A 1 c]] w fun e w'=> ∃g:MA,True/\
   e= .returned (.tuple #[.agg #[.slice g.Af 1 g.cf,.slice g.Ab 0 g.cb,.slice g.Ai 0 g.ci,.slice g.Ao 0 g.co,.int .i64 0,.int .i64 0],.int .i64 0])/\Cw w.heap.size w [aj (.slice g.Af 1 g.cf) jR.frames,aj (.slice g.Ab 0 g.cb) jR.blocks,aj (.slice g.Ai 0 g.ci) jR.inn,aj (.slice g.Ao 0 g.co) jR.out] w':=by
 have:=wP A c fk jR nH.2.1 w hs
 rw[nH.1] at this
 exact this
end
end Go.Proofs.YthfkmcbblnbfaaaGreatDoor
