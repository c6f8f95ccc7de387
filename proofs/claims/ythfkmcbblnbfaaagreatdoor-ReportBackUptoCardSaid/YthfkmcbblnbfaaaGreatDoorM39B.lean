/- Texts of one proof, one behind the other: lemmas alone. -/
import Derived.Test.YthfkmcbblnbfaaaGreatDoorM0B
import Derived.Test.YthfkmcbblnbfaaaGreatDoorM35B
import Derived.Test.YthfkmcbblnbfaaaGreatDoorM23B
import Derived.Test.YthfkmcbblnbfaaaGreatDoorM19B
import Derived.Test.YthfkmcbblnbfaaaGreatDoorM18B
import Derived.Test.YthfkmcbblnbfaaaGreatDoorM25B
import Derived.Test.YthfkmcbblnbfaaaGreatDoorM32B
import Derived.Test.YthfkmcbblnbfaaaGreatDoorM34B
import Derived.Test.YthfkmcbblnbfaaaGreatDoorM24B
import Derived.Test.YthfkmcbblnbfaaaGreatDoorM27B

namespace Go.Proofs.YthfkmcbblnbfaaaGreatDoor
set_option maxRecDepth 100000
set_option maxHeartbeats 16000000
open Go.RowKit
section
theorem iy (n a b:Int) (w:World):Calls Tryz.prog 181 #[.int .i64 n,.int .i64 a,.int .i64 b] w fun e w'=>e= .returned (.bool (aZ n a b))/\Below w.heap.size w w':=by
 refine enter Tryz.func181 rfl Tryz.ntmps181 rfl<|dq 10 (fun h1=>?_) (fun h1=>?_)
 ·refine aa ?_
  intro w hw
  exact⟨aQ (by unfold aZ;rw[h1];rfl),hw.below⟩
 refine aa ?_
 intro w hw
 exact⟨aQ (by unfold aZ;rw[h1];rfl),hw.below⟩
theorem yC (n:Nat) (hn:n*16<=140737488355328) (w:World):Calls Tryz.prog 315 #[.slice none 0 0,.int .i64 (n:Int)] w fun e w'=> ∃g:Option Addr×Nat,True/\e= .returned (.slice g.1 0 g.2)/\Cw w.heap.size w [af (α:=ax) (.slice g.1 0 g.2) []] w':=by
 refine enter Tryz.func315 rfl Tryz.ntmps315 rfl<|an (fun h0=>?_) (fun h0=>?_)
 ·exact absurd h0 (by omega)
 refine aa ?_
 refine sE (xZ bK rfl rfl)<|aa ?_
 refine dM (t:=1) (v':= .int .i64 (n:Int)) rfl (by congr 1) ?_
 refine gA rfl (fun h1=>?_) (fun h1=>?_)
 ·refine aa ?_
  refine sE (xZ bK rfl rfl) ?_
  refine sE (kZ (k:=0) bK eP (aD _) rfl rfl rfl)<|aa ?_
  refine oE (CO (α:=ax) (bytes:=16) bK Ei ik rfl (by decide) (by omega) (by omega) rfl rfl rfl) (fun⟨g,c⟩ _=>?_)
  refine aT ?_
  refine sE (kZ (k:=0) bK eP (br _) rfl rfl rfl)<|aa ?_
  intro w hw
  exact⟨(some ⟨g,0,none⟩,c),trivial,rfl,hw⟩
 refine aa ?_
 intro w hw
 exact⟨(none,0),trivial,rfl,Cw.nilO ax hw⟩
theorem FP (v:ax) (t:Int):gk v t=((v.ref == !decide (t=1)) && ((!decide (t=3)) || decide (v.n=0))):=by
 unfold gk
 cases v.ref <;> by_cases h1:t=1 <;> simp[h1]
theorem vG (v:ax) (t:Int) (w:World):Calls Tryz.prog 293 #[.agg #[.bool v.ref,.int .i64 v.n],.int .i64 t] w fun e w'=>e= .returned (.bool (gk v t))/\Below w.heap.size w w':=by
 have ha:=FP v t
 generalize hq:gk v t=q at ha
 refine enter Tryz.func293 rfl Tryz.ntmps293 rfl<|aa ?_
 refine fun g1 _=>aa ?_
 refine sE (EI Tryz.underlying4 rfl rfl rfl)<|dq 10 (fun h1=>?_) (fun h1=>?_)
 ·rw[h1,Bool.true_and] at ha
  refine dq 13 (fun h2=>?_) (fun h2=>?_)
  ·rw[h2,Bool.true_or] at ha
   refine aa ?_
   intro w hw
   exact⟨aQ ha.symm,hw.below⟩
  rw[h2,Bool.false_or] at ha
  refine aa ?_
  intro w hw
  exact⟨aQ ha.symm,hw.below⟩
 rw[h1,Bool.false_and] at ha
 refine aa ?_
 intro w hw
 exact⟨aQ ha.symm,hw.below⟩
def HJ (a:MA) (m:ar) (pv:Value):List Value:= [.slice a.Af m.frames.length a.cf,.slice a.Ab m.blocks.length a.cb,.slice a.Ai m.inn.length a.ci,.slice a.Ao m.out.length a.co,.int .i64 m.status,.int .i64 m.trap,pv]
section
variable {B:Nat} {w0:World} {H:List aq}
theorem wP (gc:Nat) (a:MA) (m:ar) (pv:Value) (v:ax) (w:World) (hw:Cw B w0 (ah gc [.slice a.Af m.frames.length a.cf,.slice a.Ab m.blocks.length a.cb,.slice a.Ai m.inn.length a.ci,.slice a.Ao m.out.length a.co,.int .i64 m.status,.int .i64 m.trap,pv] 190::H) w) :
  Calls Tryz.prog 292 #[.pointer (some ⟨gc,0,none⟩),.agg #[.bool v.ref,.int .i64 v.n]] w fun e w'=> ∃_:Unit,True/\e= .returned (.int .i64 (if eW m.blocks.length v=true then 0 else 3))/\Cw B w0 (ah gc [.slice a.Af m.frames.length a.cf,.slice a.Ab m.blocks.length a.cb,.slice a.Ai m.inn.length a.ci,.slice a.Ao m.out.length a.co,.int .i64 m.status,.int .i64 m.trap,pv] 190::H) w':=by
 obtain⟨q,hq⟩:∃q,eW m.blocks.length v=q:=⟨_,rfl⟩
 rw[hq]
 obtain⟨r,z⟩:=v
 refine a8 Tryz.func292 rfl Tryz.ntmps292 rfl hw<|aa ?_
 refine fun g1 _=>aa ?_
 refine bM [0,3,6,9,12,15,18,21,24,27,30,35,36,39,42,45,48,51,54,57,60,65,66,69,72] [] rfl<|aa ?_
 refine kz (t:=7) rfl (fun hr=>?_) (fun hr=>?_)
 ·have hq2:aZ z 0 m.blocks.length=q:=by rw[<-hq];unfold eW;rw[if_pos hr]
  refine aa ?_
  refine k0 rfl rfl un (fun w hw=>iy z 0 m.blocks.length w)<|aa ?_
  rw[hq2]
  refine kz (t:=19) rfl (fun hb=>?_) (fun hb=>?_)
  ·have hq3:q=false:=by simpa using hb
   subst hq3
   refine aa ?_
   refine oH rfl rfl rfl (.inr ha) ?_ fA
   refine aa ?_
   refine bx rfl<|aa ?_
   intro w hw
   exact⟨(),trivial,rfl,hw.msub ms⟩
  have hq3:q=true:=by simpa using hb
  subst hq3
  refine aa ?_
  refine kz (t:=23) rfl (fun h3=>?_) (fun h3=>?_)
  ·rw[hr] at h3
   cases h3
  refine aa ?_
  refine oH rfl rfl rfl (.inr ha) ?_ fA
  refine aa ?_
  refine di rfl<|aa ?_
  intro w hw
  exact⟨(),trivial,rfl,hw.msub ms⟩
 have hq2:b9 z=q:=by rw[<-hq];unfold eW;rw[if_neg (by rw[hr];decide)]
 refine aa ?_
 refine oH rfl rfl rfl (.inr ha) ?_ fA
 refine aa ?_
 refine kz (t:=23) rfl (fun h2=>?_) (fun h2=>?_)
 ·refine aa ?_
  refine k0 rfl rfl HP ((fun w hw=>kL ((fun w hw=>lN z w) w hw)))<|aa ?_
  rw[hq2]
  refine bw rfl (fun h4=>?_) (fun h4=>?_)
  ·have hq3:q=false:=by simpa using h4
   subst hq3
   refine aa ?_
   intro w hw
   exact⟨(),trivial,rfl,hw.msub ms⟩
  have hq3:q=true:=by simpa using h4
  subst hq3
  refine aa ?_
  intro w hw
  exact⟨(),trivial,rfl,hw.msub ms⟩
 rw[hr] at h2
 cases h2
end
end
section
def Hk (pc:Int) (es:List fJ):Option Nat:=es.findIdx? fun x=>decide (x.pc=pc)
def hent (l:List fJ) (k:Nat):fJ:=l.getD k ⟨0,.slice none 0 0⟩
theorem SF.hent {B:Nat} {w0:World} {H:List aq} {A:Option Addr} {xs:List fJ} {m c k:Nat} (hs:SF B w0 H A m c xs) (hk:k<m):∀w,Cw B w0 H w->∀j v,([.int .i64 (hent xs k).pc,(hent xs k).v]:List Value)[j]? =some v->w.cell? ⟨ab A,ao A+k*2+j,none⟩=some v:=fun w hw _j _v hv=>SF.cell hs hk _ hv w hw
theorem Bb (g:Nat) (pc q:Int) (v:Value) (w:World) (hlt:g<w.heap.size) (hc:w.cell? ⟨g,0,none⟩=some (.int .i64 pc)) :
  Calls Tryz.prog 323 #[.agg #[.int .i64 q,v],.pointer (some ⟨g,0,none⟩)] w fun e w'=>e= .returned (.bool (decide (q=pc)))/\Below w.heap.size w w':=by
 refine enter Tryz.func323 rfl Tryz.ntmps323 rfl<|aa ?_
 refine fun g1 _=>aa ?_
 refine eB rfl (fun w' hw=>(hw.below.cell hlt).trans hc)<|aa ?_
 intro w hw
 exact⟨rfl,hw.below⟩
theorem C9 (A:Option Addr) (c:Nat) (es:List fJ) (g:Nat) (pc:Int) (w:World) (hs:Sl w (.slice A es.length c) es) (hlt:g<w.heap.size) (hc:w.cell? ⟨g,0,none⟩=some (.int .i64 pc)) :
  Calls Tryz.prog 322 #[.slice A es.length c,.func (.func 323) #[] #[.pointer (some ⟨g,0,none⟩)]] w fun e w'=> ∃r:Int,((r= -1/\∀i,i<es.length->(hent es i).pc≠pc)\/∃i:Nat,r=i/\i<es.length/\(hent es i).pc=pc/\∀j,j<i->(hent es j).pc≠pc)/\e= .returned (.int .i64 r)/\Cw w.heap.size w [] w':=by
 have b1:=bt hs
 refine enter Tryz.func322 rfl Tryz.ntmps322 rfl<|aa ?_
 refine dH (fun k:Nat=>k<=es.length/\∀j,j<k->(hent es j).pc≠pc) (fun k=>es.length - k) (fun k=> [(0,.slice A es.length c),(1,.func (.func 323) #[] #[.pointer (some ⟨g,0,none⟩)]),(7,.int .i64 (es.length:Int)),(8,.int .i64 (k:Int))]) (fun _=> []) 0 (⟨br _,fun _ h=>absurd h (mz _)⟩) ?_
 rintro k hk'
 obtain⟨hk,hno⟩:k<=es.length/\∀j,j<k->(hent es j).pc≠pc:=hk'
 refine an (fun hlt'=>?_) (fun hlt'=>?_)
 ·have hkl:k<es.length:=by omega
  refine aa ?_
  refine dA (_) rfl ((.ro hs)) ?_
  refine i8 rfl (SF.hent (SF.ro hs) hkl) ?_
  refine oE (pi rfl rfl rfl Tryz.call323 (fun w hw=>Bb g pc _ _ w (Nat.lt_of_lt_of_le hlt hw.le) ((hw.below.cell hlt).trans hc))) (fun _ _=>an (fun hp=>?_) (fun hp=>?_))
  ·refine aa ?_
   intro w hw
   exact⟨(k:Int),.inr ⟨k,rfl,hkl,hp,hno⟩,rfl,hw⟩
  refine aa ?_
  refine dm (k+1) (⟨by show k+1<=_;omega,fun j hj=>(it j k).elim (hno j) (fun h=>by obtain rfl:j=k:=(by omega);exact hp)⟩) (by show _ - _<_ - _;omega)
 obtain rfl:k=es.length:=by omega
 refine aa ?_
 intro w hw
 exact⟨-1,.inl ⟨rfl,hno⟩,rfl,hw⟩
section
variable {B:Nat} {w0:World} {H:List aq}
theorem sP {L:List (Value×List Int)} {v:Value} {xs:List Int} {w:World} (hi:ir L v xs) (h:Cw B w0 (fq L::H) w):Cw B w0 (iq v xs::H) w:=by
 rcases hi with ⟨rfl,rfl⟩ | hi
 ·exact h.upd fun F ho _=>⟨fun _=>False,⟨fun _ h=>h.elim,fun _ _=>Sl.nil_⟩,rfl,rfl,rfl,aD _,fun _ _ _=>rfl,fun b hb=>hb.elim⟩
 refine h.upd fun F ho _=>?_
 obtain⟨F',h5,h6⟩:=Hs.mem (List.mem_map_of_mem (f:=fun p:Value×List Int=>iq p.1 p.2) hi) (show Hs w _ F from ho)
 exact⟨F',h5,rfl,rfl,rfl,aD _,fun _ _ _=>rfl,fun b hb=> .inl (h6 b hb)⟩
theorem Cu {A:Option Addr} {m c k:Nat} {xs:List Int} {w:World} (hk:k<=m) (h:Cw B w0 (iq (.slice A m c) xs::H) w):Cw B w0 (iq (.slice A k c) (xs.take k)::H) w:=by
 refine h.upd fun F ho _=>⟨F,⟨ho.1,fun w' hw'=>?_⟩,rfl,rfl,rfl,aD _,fun _ _ _=>rfl,fun b hb=> .inl hb⟩
 have:=(ho.2 w' hw').cut 0 k (br _) hk
 rw[tG,Nat.sub_zero,Nat.sub_zero,ld] at this
 exact this
theorem lD {w:World} (h:Cw B w0 H w):Cw B w0 (iq (.slice none 0 0) ([]:List Int)::H) w:=sP ir.nil_ (kB h)
end
theorem Dg {xs:List gH} {pc:Int} {i:Nat} (hi:i<xs.length) (h1:xs[i].pc=pc) (h2:∀j (_:j<i) (h:j<xs.length),xs[j].pc≠pc):(xs.find? fun e=>decide (e.pc=pc))=some xs[i]:=by
 induction xs generalizing i with
 | nil=>simp at hi
 | cons x xs ih=>
  cases i with
  | zero=>rw[List.find?_cons_of_pos (by simpa using h1)];rfl
  | succ i=>
   rw[List.find?_cons_of_neg (by have h3:=h2 0 (by omega) (by simp);rw[List.getElem_cons_zero] at h3;simpa using h3)]
   exact ih (by simpa using hi) h1 fun j hj h=>h2 (j+1) (by omega) (by simpa using h)
theorem Df {xs:List gH} {pc:Int} (h2:∀j (h:j<xs.length),xs[j].pc≠pc):(xs.find? fun e=>decide (e.pc=pc))=none:=by
 rw[List.find?_eq_none]
 intro e he
 obtain⟨j,hj,rfl⟩:=bN he
 simpa using h2 j hj
theorem nN {es:List fJ} {i:Nat} (h:i<es.length):hent es i=es[i]:=by
 unfold hent
 rw[ac,ae h]
 rfl
theorem rg (Ap:Option Addr) (cp:Nat) (fs:List ai) (k:Nat) (pc:Int) (q:Option (List Int)) (hq:fZ fs (aj fs k) pc=q) (w:World) (hs:Sl w (.slice Ap fs.length cp) fs) (hk:k<fs.length) (hok:lr fs (aj fs k)) (hn0:0<(aj fs k).code.length) :
  Calls Tryz.prog 316 #[.agg #[.slice Ap fs.length cp],.int .i64 (k:Int),.int .i64 pc] w fun e w'=> ∃g:Option Addr×Nat,True/\e= .returned (.tuple #[.slice g.1 (q.getD []).length g.2,.bool q.isSome])/\
   Cw w.heap.size w [iq (.slice g.1 (q.getD []).length g.2) (q.getD [])] w':=by
 refine enter Tryz.func316 rfl Tryz.ntmps316 rfl<|aa ?_
 refine fun g1 _=>aa ?_
 refine fun g2 _=>aa ?_
 refine eI rfl HA (fun w hw=>lj Ap cp fs k w (hw.ro hs) hk hok hn0) (fun⟨⟨A1,c1⟩,es,L⟩ hre=>?_)
 refine aT ?_
 refine eI rfl Tryz.call322 (fun w hw=>C9 A1 c1 es g2 pc w (SF.at_ (SF.own rfl fc) hw) (gZ hw fc) (dC fc rfl w hw)) (fun r hr=>aa ?_)
 have hre:kO es L (bX fs (aj fs k)).1:=hre
 have hl:=hre.len
 refine gA rfl (fun h0=>?_) (fun h0=>?_)
 ·have hq2:q=none:=by
   rcases hr with ⟨_,h⟩ | ⟨i,h,_⟩
   ·rw[<-hq]
    unfold fZ
    rw[Df (fun j hj=>by
     have hj':j<es.length:=by omega
     have:=h j hj'
     rw[nN hj',(hre.el j hj' hj).1] at this
     exact this)]
    rfl
   omega
  subst hq2
  refine aa ?_
  intro w hw
  exact⟨(none,0),trivial,rfl,(lD hw).msub ms⟩
 obtain⟨i,hi,hlt,hpc,hno⟩:∃i:Nat,r=i/\i<es.length/\(hent es i).pc=pc/\∀j,j<i->(hent es j).pc≠pc:=hr.elim (fun h=>by omega) id
 subst hi
 have hlt2:i<(bX fs (aj fs k)).1.length:=by omega
 obtain⟨e1,e2⟩:=hre.el i hlt hlt2
 have hq2:q=some (bX fs (aj fs k)).1[i].stack:=by
  rw[<-hq]
  unfold fZ
  rw[Dg hlt2 (by rw[<-e1,<-nN hlt];exact hpc) (fun j hj h=>by
   have hj':j<es.length:=by omega
   have:=hno j hj
   rw[nN hj',(hre.el j hj' h).1] at this
   exact this)]
  rfl
 subst hq2
 rw[<-nN hlt] at e2
 refine aa ?_
 refine dA (i) rfl ((SF.own (xs:=es) rfl fc))<|aa ?_
 refine eB rfl (fun w hw=>SF.hent (SF.own (xs:=es) rfl fc) hlt w hw 1 _ rfl)<|aa ?_
 intro w hw
 obtain⟨A5,c5,e5⟩:=e2.form hw fc
 rw[e5] at e2⊢
 exact⟨(A5,c5),trivial,rfl,(sP e2 (hw.msub (T:=fq L:: []) ms)).msub ms⟩
end
section
theorem uV {fs:List ai} (hF:iR fs) {k:Nat} (hk:k<fs.length) {pc to_:Int} {t0 t:List Int} (hc:j6 (aj fs k) pc to_=true) (h0:fZ fs (aj fs k) (pc - 1)=some t0) (h1:fZ fs (aj fs k) pc=some t) (hr:(aj fs to_.toNat).result≠0):1<=t.length:=by
 unfold j6 at hc
 simp only[cO,decide_eq_true_eq] at hc
 obtain⟨_,hcc,hca⟩:=hc
 obtain⟨_,_,_,_,v0,hv0,hn0⟩:=(hF.e _ hk).at_ _ _ h0
 generalize aY (aj fs k).code (pc - 1).toNat=oz at hcc hca hv0 hn0
 obtain⟨t',ht',hle⟩:=hn0 pc (by simp[cX,hcc])
 rw[h1] at ht'
 have ht':=du ht'
 subst ht'
 obtain⟨T0,V0,e0,_,_,_,rfl⟩:=jz.1 hv0
 simp[tl,hcc] at e0
 obtain⟨rfl,rfl⟩:=e0
 rw[hca] at hle
 unfold bi at hle
 rw[if_neg hr] at hle
 have:=(C5 hle).2.1
 omega
theorem lc {f:ai} {pc to_:Int} :j6 f pc to_=(aZ pc 1 f.code.length && (decide ((aY f.code (pc - 1).toNat).c=12) && decide ((aY f.code (pc - 1).toNat).a=to_))):=rfl
section
variable {B:Nat} {w0:World} {H:List aq}
theorem yS (gc:Nat) (a:MA) (m:ar) (Ap:Option Addr) (cp:Nat) (fs:List ai) (hs:aU w0 B (.slice Ap fs.length cp) fs) (hm:d9 B w0 a m) (hF:iR fs) (i:Nat) (hi:i<m.frames.length) (hfn:∀x∈m.frames,0<=x.func/\x.func<fs.length) (q:Option (List Int)) (hq:hU fs m.frames i=q) (w:World) (hw:Cw B w0 (ah gc [.slice a.Af m.frames.length a.cf,.slice a.Ab m.blocks.length a.cb,.slice a.Ai m.inn.length a.ci,.slice a.Ao m.out.length a.co,.int .i64 m.status,.int .i64 m.trap,.slice Ap fs.length cp] 190::H) w) :
  Calls Tryz.prog 294 #[.pointer (some ⟨gc,0,none⟩),.int .i64 (i:Int)] w fun e w'=> ∃g:Option Addr×Nat,True/\e= .returned (.tuple #[.slice g.1 (q.getD []).length g.2,.bool q.isSome])/\Cw B w0 (iq (.slice g.1 (q.getD []).length g.2) (q.getD [])::ah gc [.slice a.Af m.frames.length a.cf,.slice a.Ab m.blocks.length a.cb,.slice a.Ai m.inn.length a.ci,.slice a.Ao m.out.length a.co,.int .i64 m.status,.int .i64 m.trap,.slice Ap fs.length cp] 190::H) w':=by
 have bf:=bt hm.f
 have bp:=bt hs
 obtain⟨A1,c1,A2,c2,hl,hst,hI,hcell⟩:=hm.f.fr hi
 have hx:=hfn _ (fk hi)
 obtain⟨kf,hkf⟩:∃kf:Nat,(aG m.frames i).func=kf:=⟨(aG m.frames i).func.toNat,by omega⟩
 have hkl:kf<fs.length:=by omega
 obtain⟨hok,hn0⟩:=jq hF.p hkl
 obtain⟨F1,d1,F2,d2,hfl,hfc,hfi,hfcell⟩:=hs.fn hkl
 have bc:=bt hfc
 have hff:ip fs m.frames i=aj fs kf:=by unfold ip;rw[hkf,a6]
 obtain⟨pc,hpc⟩:∃pc,(aG m.frames i).pc=pc:=⟨_,rfl⟩
 unfold hU at hq
 rw[hff,hpc] at hq
 rw[hkf,hpc] at hcell
 rw[hpc] at hI
 obtain⟨q1,hq1⟩:∃q1,fZ fs (aj fs kf) pc=q1:=⟨_,rfl⟩
 rw[hq1] at hq
 refine a8 Tryz.func294 rfl Tryz.ntmps294 rfl hw<|aa ?_
 refine dA (i) rfl ((.ro hm.f)) ?_
 refine i8 rfl (hcell _)<|aa ?_
 refine fun g1 _=>aa ?_
 refine bM [0,3,6,9,12,15,18,21,26,27,30,33,36,39] [] rfl<|aa ?_
 refine lF rfl rfl Tryz.call316 (fun w hw=>rg Ap cp fs kf pc q1 hq1 w (hw.ro hs) hkl hok hn0) (fun⟨A5,c5⟩ _=>?_)
 refine aT ?_
 refine gA rfl (fun h1=>?_) (fun h1=>?_)
 ·rw[if_pos (show i+1=m.frames.length by omega)] at hq
  subst hq
  refine aa ?_
  intro w hw
  exact⟨(A5,c5),trivial,rfl,hw.msub ms⟩
 rw[if_neg (show¬i+1=m.frames.length by omega)] at hq
 have hi2:i+1<m.frames.length:=by omega
 obtain⟨A3,c3,A4,c4,hl2,hst2,hI2,hcell2⟩:=hm.f.fr hi2
 have hy:=hfn _ (fk hi2)
 obtain⟨ky,hky⟩:∃ky:Nat,(aG m.frames (i+1)).func=ky:=⟨(aG m.frames (i+1)).func.toNat,by omega⟩
 have hkyl:ky<fs.length:=by omega
 have hfy:ip fs m.frames (i+1)=aj fs ky:=by unfold ip;rw[hky,a6]
 rw[hky] at hcell2
 rw[hfy,hky] at hq
 refine aa ?_
 refine dA ((i+1)) rfl ((.ro hm.f))<|aa ?_
 refine eB rfl (fun w hw=>hcell2 _ w hw 0 _ rfl)<|aa ?_
 refine bM [0,3,6,9,12,15,18,21,24,27,30] [] rfl<|aa ?_
 refine tE rfl (bS (k:=kf) et eQ (.ro hs) (by omega) rfl rfl rfl)<|aa ?_
 refine tE rfl (cB (fun w hw=>hfcell _ w hw 3 _ rfl) rfl rfl D7)<|aa ?_
 refine cd rfl un (fun w hw=>iy pc 1 (aj fs kf).code.length w)<|dq 70 (fun h2=>?_) (fun h2=>?_)
 ·have hc:j6 (aj fs kf) pc ky=false:=by
   rw[lc,show aZ pc 1 (aj fs kf).code.length=false from by simpa using h2]
   rfl
  rw[if_pos hc] at hq
  subst hq
  refine aa ?_
  refine bx rfl<|aa ?_
  intro w hw
  exact⟨(none,0),trivial,rfl,(lD hw).msub ms⟩
 have hw1:aZ pc 1 (aj fs kf).code.length=true:=by simpa using h2
 have hw2:=cT.1 hw1
 refine aa ?_
 refine qo rfl ((.ro hfc))<|aa ?_
 refine eB rfl (SF.opc (.ro hfc) (by omega))<|dq 80 (fun h3=>?_) (fun h3=>?_)
 ·have hc:j6 (aj fs kf) pc ky=false:=by
   have h3:decide ((aY (aj fs kf).code (pc - 1).toNat).c=12)=false:=by simpa using h3
   rw[lc,h3]
   simp
  rw[if_pos hc] at hq
  subst hq
  refine aa ?_
  refine bx rfl<|aa ?_
  intro w hw
  exact⟨(none,0),trivial,rfl,(lD hw).msub ms⟩
 have h3:decide ((aY (aj fs kf).code (pc - 1).toNat).c=12)=true:=by simpa using h3
 refine aa ?_
 refine qo rfl ((.ro hfc))<|aa ?_
 refine eB rfl (SF.opa (.ro hfc) (by omega))<|cy (fun h4=>?_) (fun h4=>?_)
 ·have hc:j6 (aj fs kf) pc ky=false:=by
   rw[lc,decide_eq_false (p:=(aY (aj fs kf).code (pc - 1).toNat).a=ky) h4]
   simp
  rw[if_pos hc] at hq
  subst hq
  refine aa ?_
  intro w hw
  exact⟨(none,0),trivial,rfl,(lD hw).msub ms⟩
 have hc:j6 (aj fs kf) pc ky=true:=by
  rw[lc,hw1,h3,decide_eq_true (p:=(aY (aj fs kf).code (pc - 1).toNat).a=ky) h4]
  rfl
 rw[if_neg (by rw[hc];decide)] at hq
 obtain⟨q0,hq0⟩:∃q0,fZ fs (aj fs kf) (pc - 1)=q0:=⟨_,rfl⟩
 rw[hq0] at hq
 refine aa ?_
 refine bM [0,3,6,9,12,15,18,21,24,29,30,33,36,39,42] [] rfl<|aa ?_
 refine lF rfl rfl Tryz.call316 (fun w hw=>rg Ap cp fs kf (pc - 1) q0 hq0 w (hw.ro hs) hkl hok hn0) (fun⟨A6,c6⟩ _=>?_)
 refine aT ?_
 refine kw (t:=106) rfl (fun h5=>?_) (fun h5=>?_)
 ·have h5:q0.isSome=false:=by simpa using h5
  rw[if_pos h5] at hq
  subst hq
  refine aa ?_
  refine bx rfl<|aa ?_
  intro w hw
  exact⟨(none,0),trivial,rfl,(lD hw).msub ms⟩
 have h5:q0.isSome=true:=by simpa using h5
 rw[if_neg (by rw[h5];decide)] at hq
 refine aa ?_
 refine bw rfl (fun h6=>?_) (fun h6=>?_)
 ·have h6:q1=none:=by simpa using h6
  subst h6
  have hq:none=q:=hq
  subst hq
  refine aa ?_
  intro w hw
  exact⟨(none,0),trivial,rfl,(lD hw).msub ms⟩
 obtain⟨t,rfl⟩:∃t,q1=some t:=by cases q1 with
  | none=>simp at h6
  | some t=>exact⟨t,rfl⟩
 obtain⟨t0,rfl⟩:∃t0,q0=some t0:=by cases q0 with
  | none=>simp at h5
  | some t0=>exact⟨t0,rfl⟩
 obtain⟨G1,b1,G2,b2,hgl,hgc,hgi,hgcell⟩:=hs.fn hkyl
 have hq:some (if (aj fs ky).result≠0 then t.dropLast else t)=q:=hq
 subst hq
 refine aa ?_
 refine dA (ky) rfl ((.ro hs))<|aa ?_
 refine eB rfl (fun w hw=>hgcell _ w hw 2 _ rfl)<|cy (fun h7=>?_) (fun h7=>?_)
 ·have hone:=uV hF hkl hc hq0 hq1 (by rw[a6];exact h7)
  rw[if_pos h7,List.dropLast_eq_take]
  refine fB (fun w hw=>(hw.rdSl (v:= .slice A5 t.length c5) (xs:=t) fc).form) ?_
  rintro⟨_,_,e,hle,_⟩
  injection e with _ _ e
  have ht8:=((hF.e _ hkl).at_ _ _ hq1).2.2.1
  refine dM (t:=7) (v':= .slice A5 t.length c5) rfl (rfl)<|aa ?_
  refine eC (t:=123) (v':= .int .i64 ((t.length - 1:Nat):Int)) rfl (by show Value.int _ ((t.length:Int) - 1)=_;congr 1;omega) ?_
  refine sE (kZ (k:=t.length - 1) aJ bY (by omega) rfl rfl rfl)<|aa ?_
  intro w hw
  have hlt:(t.take (t.length - 1)).length=t.length - 1:=by rw[am];omega
  refine⟨(A5,c5),trivial,by show _=Ending.returned (.tuple #[.slice A5 (t.take (t.length - 1)).length c5,.bool true]);rw[hlt],?_⟩
  show Cw B w0 (iq (.slice A5 (t.take (t.length - 1)).length c5) (t.take (t.length - 1))::_::H) w
  rw[hlt]
  exact(Cu (k:=t.length - 1) (by omega) (hw.msub (T:=iq (.slice A5 t.length c5) t::ah gc [.slice a.Af m.frames.length a.cf,.slice a.Ab m.blocks.length a.cb,.slice a.Ai m.inn.length a.ci,.slice a.Ao m.out.length a.co,.int .i64 m.status,.int .i64 m.trap,.slice Ap fs.length cp] 190::H) ms)).msub ms
 rw[if_neg (fun h=>h h7)]
 refine aa ?_
 intro w hw
 exact⟨(A5,c5),trivial,rfl,hw.msub ms⟩
end
end
section
theorem rb {α:Type} {L:List (List α)} {k:Nat} (hk:k<L.length):(L.take (k+1)).flatten=(L.take k).flatten++L.getD k []:=by
 rw[dT L k [] hk,List.flatten_append]
 simp
theorem uD {α:Type} (L:List (List α)) (k:Nat):(L.take k).flatten.length<=L.flatten.length:=by
 rw[<-congrArg List.length (congrArg List.flatten (mB k L)),List.flatten_append,ag]
 omega
theorem wQ (g n:Nat) (hd:Nat->Option Addr×Nat) (L:List (List ax)) (hn:L.length=n) (w:World) (hlt:g<w.heap.size) (hc:∀k,k<n->w.cell? ⟨g,0+k*1,none⟩=some (.slice (hd k).1 (L.getD k []).length (hd k).2))
  (hs:∀k,k<n->Sl w (.slice (hd k).1 (L.getD k []).length (hd k).2) (L.getD k [])) (hb:L.flatten.length*16<=140737488355328) (hn':n<=1000) :
  Calls Tryz.prog 291 #[.slice (some ⟨g,0,none⟩) n n] w fun e w'=> ∃u,e= .returned u/\Below w.heap.size w w'/\cM w' w.heap.size u L.flatten:=by
 subst hn
 have hfl:=uD L
 refine enter Tryz.func291 rfl Tryz.ntmps291 rfl<|aa ?_
 refine dH (fun k:Nat=>k<=L.length) (fun k=>L.length - k) (fun k=> [(0,.slice (some ⟨g,0,none⟩) L.length L.length),(3,.int .i64 ((L.take k).flatten.length:Int)),(9,.slice (some ⟨g,0,none⟩) L.length L.length),(10,.int .i64 (L.length:Int)),(11,.int .i64 (k:Int))]) (fun _=> []) 0 (br _) ?_
 rintro k hk
 have hk:k<=L.length:=hk
 refine an (fun h1=>?_) (fun h1=>?_)
 ·have hkn:k<L.length:=by omega
  have hft:=congrArg List.length (rb (L:=L) (k:=k) (by omega))
  rw[ag] at hft
  have hfk:=hfl (k+1)
  refine aa ?_
  refine sE (iY (k:=k) jf iU rfl hkn rfl rfl rfl) ?_
  refine eB rfl (fun w' hw=>(hw.below.cell hlt).trans (hc k hkn))<|an (fun h2=>?_) (fun h2=>?_)
  ·exact absurd h2 (by omega)
  refine dM (t:=3) (v':= .int .i64 ((L.take (k+1)).flatten.length:Int)) rfl (by congr 1;omega)<|aa ?_
  refine dm (k+1) (by show k+1<=_;omega) (by show _ - _<_ - _;omega)
 obtain rfl:k=L.length:=by omega
 rw[bL]
 refine aa ?_
 refine eI rfl Tryz.call315 (fun w hw=>yC L.flatten.length hb w) (fun⟨A2,c2⟩ _=>?_)
 refine aT ?_
 refine dH (fun g:Nat×Option Addr×Nat=>g.1<=L.length) (fun g=>L.length - g.1) (fun q=> [(6,.slice q.2.1 (L.take q.1).flatten.length q.2.2),(25,.slice (some ⟨g,0,none⟩) L.length L.length),(26,.int .i64 (L.length:Int)),(27,.int .i64 (q.1:Int))]) (fun q=> [af (.slice q.2.1 (L.take q.1).flatten.length q.2.2) (L.take q.1).flatten]) (0,A2,c2) (br _) ?_
 rintro⟨k,A3,c3⟩ hk
 try dsimp only
 have hk:k<=L.length:=hk
 refine an (fun h1=>?_) (fun h1=>?_)
 ·have hkn:k<L.length:=by omega
  have hft:=rb (L:=L) (k:=k) (by omega)
  have hft2:=congrArg List.length hft
  rw[ag] at hft2
  have hfk:=hfl (k+1)
  refine aa ?_
  refine sE (iY (k:=k) jf iU rfl hkn rfl rfl rfl) ?_
  refine eB rfl (fun w' hw=>(hw.below.cell hlt).trans (hc k hkn))<|aa ?_
  refine oE (fV (α:=ax) (bytes:=16) (xs:=(L.take k).flatten) (ys:=L.getD k []) hft bK (bQ ik) rfl fc (.ro (hs k hkn)) (by omega) (by omega) rfl rfl rfl) (fun⟨A5,c5⟩ _=>?_)
  refine aT ?_
  refine dm (k+1,A5,c5) (by show k+1<=_;omega) (by show _ - _<_ - _;omega)
 obtain rfl:k=L.length:=by omega
 rw[bL]
 refine aa ?_
 intro w hw
 exact⟨_,rfl,ku hw⟩
end
section
theorem D4 {nb:Nat} {l:List ax} {k:Nat} (hk:k<l.length) (h:eW nb (l.getD k default)=false):l.any (fun v=>!eW nb v)=true:=dL.2 ⟨_,gz hk,by rw[h];rfl⟩
theorem BA {nb:Nat} {l:List ax} (h:∀j,j<l.length->eW nb (l.getD j default)=true):¬l.any (fun v=>!eW nb v)=true:=fun ha=>by
 obtain⟨v,hv,h2⟩:=dL.1 ha
 obtain⟨j,hj,rfl⟩:=bN hv
 have:=h j hj
 rw[ac,ae hj,ox] at this
 rw[this] at h2
 cases h2
theorem vU {s:List ax} {t:List Int} {n k:Nat} (hk:k<n) (h:gk (s.getD k default) (t.getD k 0)=false):vV s t n=false:=by
 cases e:vV s t n with
 | false=>rfl
 | true=>rw[jN.1 e k hk] at h;cases h
section
variable {B:Nat} {w0:World} {H:List aq}
theorem pU (gc:Nat) (a:MA) (m:ar) (Ap:Option Addr) (cp:Nat) (fs:List ai) (hs:aU w0 B (.slice Ap fs.length cp) fs) (hm:d9 B w0 a m) (hF:iR fs) (hfit:iS m.frames) (i:Nat) (hi:i<m.frames.length) (hfn:∀x∈m.frames,0<=x.func/\x.func<fs.length) (E:Int) (hE:fd fs m.blocks.length m.frames i=E) (w:World) (hw:Cw B w0 (ah gc [.slice a.Af m.frames.length a.cf,.slice a.Ab m.blocks.length a.cb,.slice a.Ai m.inn.length a.ci,.slice a.Ao m.out.length a.co,.int .i64 m.status,.int .i64 m.trap,.slice Ap fs.length cp] 190::H) w) :
  Calls Tryz.prog 238 #[.pointer (some ⟨gc,0,none⟩),.int .i64 (i:Int)] w fun e w'=> ∃_:Unit,True/\e= .returned (.int .i64 E)/\Cw B w0 (ah gc [.slice a.Af m.frames.length a.cf,.slice a.Ab m.blocks.length a.cb,.slice a.Ai m.inn.length a.ci,.slice a.Ao m.out.length a.co,.int .i64 m.status,.int .i64 m.trap,.slice Ap fs.length cp] 190::H) w':=by
 have bf:=bt hm.f
 have bp:=bt hs
 obtain⟨A1,c1,A2,c2,hl,hst,hI,hcell⟩:=hm.f.fr hi
 obtain⟨hb1,hb2⟩:=hfit.2 (aG m.frames i) (fk hi)
 have hx:=hfn _ (fk hi)
 obtain⟨kf,hkf⟩:∃kf:Nat,(aG m.frames i).func=kf:=⟨(aG m.frames i).func.toNat,by omega⟩
 have hkl:kf<fs.length:=by omega
 obtain⟨hok,hn0⟩:=jq hF.p hkl
 obtain⟨F1,d1,F2,d2,hfl,hfc,hfi,hfcell⟩:=hs.fn hkl
 have hfl6:(aj fs kf).locals.length<=6:=(hok.op 0 hn0).par kf hkl |>.2
 have hff:ip fs m.frames i=aj fs kf:=by unfold ip;rw[hkf,a6]
 unfold fd at hE
 rw[hff] at hE
 rw[hkf] at hcell
 obtain⟨q,hq⟩:∃q,hU fs m.frames i=q:=⟨_,rfl⟩
 rw[hq] at hE
 generalize aj fs kf=f at hE hfl hfc hfi hfcell hfl6
 generalize aG m.frames i=x at hE hl hst hI hcell hb1 hb2
 have bx1:=bt hl
 have bx2:=bt hst
 refine a8 Tryz.func238 rfl Tryz.ntmps238 rfl hw<|aa ?_
 refine dA (i) rfl ((.ro hm.f)) ?_
 refine i8 rfl (hcell _)<|aa ?_
 refine fun g1 _=>aa ?_
 refine bM [0,3,6,9,12,15,18,21,24,29,32] [10] rfl<|aa ?_
 refine tE rfl (bS (k:=kf) et eQ (.ro hs) (by omega) rfl rfl rfl) ?_
 refine tE rfl (gU (hfcell _) rfl rfl D6 eQ)<|aa ?_
 refine fun g2 _=>cy (fun h1=>?_) (fun h1=>?_)
 ·rw[if_pos (show x.locals.length≠f.locals.length from fun e=>h1 (by rw[e]))] at hE
  subst hE
  refine aa ?_
  intro w hw
  exact⟨(),trivial,rfl,hw.msub ms⟩
 have h1:x.locals.length=f.locals.length:=by omega
 rw[if_neg (fun h=>h h1)] at hE
 have hcat: [x.locals,x.stack].flatten.length*16<=140737488355328:=by simp only[List.flatten_cons,List.flatten_nil,ag,aK];omega
 refine aa ?_
 intro g3 _
 refine oE (ee rfl rfl rfl Tryz.call291 (fun w hw=>wQ g3 2 (fun k=>if k=0 then (A1,c1) else (A2,c2)) [x.locals,x.stack] rfl w (gZ hw fc) (fun k hk=>by rcases(show k=0\/k=1 by omega) with rfl | rfl;exact dC fc rfl w hw;exact dC fc rfl w hw) (fun k hk=>by rcases(show k=0\/k=1 by omega) with rfl | rfl;exact hw.ro hl;exact hw.ro hst) hcat (by decide))) (fun⟨A5,c5⟩ _=>?_)
 refine aT ?_
 have hfe: [x.locals,x.stack].flatten=x.locals++x.stack:=by simp
 rw[hfe]
 rw[hfe] at hcat
 refine dH (fun k:Nat=>k<=(x.locals++x.stack).length/\∀j,j<k->eW m.blocks.length ((x.locals++x.stack).getD j default)=true) (fun k=>(x.locals++x.stack).length - k) (fun k=> [(0,.pointer (some ⟨gc,0,none⟩)),(1,.int .i64 (i:Int)),(5,.pointer (some ⟨g1,0,none⟩)),(6,.pointer (some ⟨g2,0,none⟩)),(45,.slice A5 (x.locals++x.stack).length c5),(46,.int .i64 ((x.locals++x.stack).length:Int)),(47,.int .i64 (k:Int))]) (fun _=>af (.slice A5 (x.locals++x.stack).length c5) (x.locals++x.stack)::ah g1 [.int .i64 (kf:Int),.int .i64 x.pc,.slice A1 x.locals.length c1,.slice A2 x.stack.length c2] 118::ah g2 [.int .i64 f.params,.slice F1 f.locals.length d1,.int .i64 f.result,.slice F2 f.code.length d2] 84::ah gc [.slice a.Af m.frames.length a.cf,.slice a.Ab m.blocks.length a.cb,.slice a.Ai m.inn.length a.ci,.slice a.Ao m.out.length a.co,.int .i64 m.status,.int .i64 m.trap,.slice Ap fs.length cp] 190::H) 0 (⟨br _,fun _ h=>absurd h (mz _)⟩) ?_ (hh:=(fun w h=>h.msub ms))
 rintro k hk'
 obtain⟨hk,hno⟩:k<=(x.locals++x.stack).length/\∀j,j<k->eW m.blocks.length ((x.locals++x.stack).getD j default)=true:=hk'
 refine an (fun hlt=>?_) (fun hlt=>?_)
 ·have hkl2:k<(x.locals++x.stack).length:=by omega
  refine aa ?_
  refine dA (_) rfl ((SF.own rfl fc)) ?_
  refine i8 rfl (SF.val (SF.own rfl fc) hkl2 default)<|aa ?_
  refine fun g4 _=>aa ?_
  refine bU rfl Tryz.call292 (fun w hw=>wP gc a m (.slice Ap fs.length cp) ((x.locals++x.stack).getD k default) w (hw.msub (.s fc .r))) (fun _ _=>aa ?_)
  obtain⟨vb,hvb⟩:∃b,eW m.blocks.length ((x.locals++x.stack).getD k default)=b:=⟨_,rfl⟩
  rw[hvb]
  cases vb
  ·rw[if_pos (D4 hkl2 hvb)] at hE
   subst hE
   rw[if_neg (by decide)]
   refine iO rfl (fun hz=>?_) (fun hz=>?_)
   ·refine aa ?_
    intro w hw
    exact⟨(),trivial,rfl,hw.msub ms⟩
   exact absurd hz (by decide)
  rw[if_pos rfl]
  refine iO rfl (fun hz=>?_) (fun hz=>?_)
  ·exact absurd rfl hz
  refine aa ?_
  refine dm (k+1) (⟨by show k+1<=_;omega,fun j hj=>(it j k).elim (hno j) (fun h=>by obtain rfl:j=k:=(by omega);exact hvb)⟩) (by show _ - _<_ - _;omega) (hh:=(fun w h=>h.msub ms))
 obtain rfl:k=(x.locals++x.stack).length:=by omega
 rw[if_neg (BA hno)] at hE
 refine aa ?_
 refine dH (fun k:Nat=>k<=x.locals.length/\∀j,j<k->gk (x.locals.getD j default) (f.locals.getD j 0)=true) (fun k=>x.locals.length - k) (fun k=> [(0,.pointer (some ⟨gc,0,none⟩)),(1,.int .i64 (i:Int)),(5,.pointer (some ⟨g1,0,none⟩)),(6,.pointer (some ⟨g2,0,none⟩)),(59,.slice A1 x.locals.length c1),(60,.int .i64 (x.locals.length:Int)),(61,.int .i64 (k:Int))]) (fun _=>ah g1 [.int .i64 (kf:Int),.int .i64 x.pc,.slice A1 x.locals.length c1,.slice A2 x.stack.length c2] 118::ah g2 [.int .i64 f.params,.slice F1 f.locals.length d1,.int .i64 f.result,.slice F2 f.code.length d2] 84::ah gc [.slice a.Af m.frames.length a.cf,.slice a.Ab m.blocks.length a.cb,.slice a.Ai m.inn.length a.ci,.slice a.Ao m.out.length a.co,.int .i64 m.status,.int .i64 m.trap,.slice Ap fs.length cp] 190::H) 0 (⟨br _,fun _ h=>absurd h (mz _)⟩) ?_ (hh:=(fun w h=>h.msub ms))
 rintro k hk'
 obtain⟨hk,hno2⟩:k<=x.locals.length/\∀j,j<k->gk (x.locals.getD j default) (f.locals.getD j 0)=true:=hk'
 refine an (fun hlt=>?_) (fun hlt=>?_)
 ·have hkl2:k<x.locals.length:=by omega
  refine aa ?_
  refine dA (_) rfl ((.ro hl)) ?_
  refine i8 rfl (SF.val (SF.ro hl) hkl2 default)<|aa ?_
  refine fun g5 _=>aa ?_
  refine bM [0,3,6,9,12,15,20,21] [] rfl<|aa ?_
  refine tE rfl (bS (k:=k) aJ bY (.ro hfl) (by omega) rfl rfl rfl) ?_
  refine tE rfl (cB (SF.int (.ro hfl) (by omega)) rfl rfl bT) ?_
  refine k0 rfl rfl Tryz.call293 (fun w hw=>vG (x.locals.getD k default) (f.locals.getD k 0) w)<|aa ?_
  refine bw rfl (fun hb=>?_) (fun hb=>?_)
  ·have hb:gk (x.locals.getD k default) (f.locals.getD k 0)=false:=by simpa using hb
   rw[if_pos (vU hkl2 hb)] at hE
   subst hE
   refine aa ?_
   intro w hw
   exact⟨(),trivial,rfl,hw.msub ms⟩
  have hb:gk (x.locals.getD k default) (f.locals.getD k 0)=true:=by simpa using hb
  refine aa ?_
  refine dm (k+1) (⟨by show k+1<=_;omega,fun j hj=>(it j k).elim (hno2 j) (fun h=>by obtain rfl:j=k:=(by omega);exact hb)⟩) (by show _ - _<_ - _;omega) (hh:=(fun w h=>h.msub ms))
 obtain rfl:k=x.locals.length:=by omega
 rw[if_neg (by rw[jN.2 hno2];decide)] at hE
 refine aa ?_
 refine bU rfl Tryz.call294 (fun w hw=>yS (H:=ah g1 [.int .i64 (kf:Int),.int .i64 x.pc,.slice A1 x.locals.length c1,.slice A2 x.stack.length c2] 118::ah g2 [.int .i64 f.params,.slice F1 f.locals.length d1,.int .i64 f.result,.slice F2 f.code.length d2] 84::H) gc a m Ap cp fs hs hm hF i hi hfn q hq w (hw.msub ms)) (fun⟨A6,c6⟩ _=>?_)
 refine aT ?_
 refine bw rfl (fun hn=>?_) (fun hn=>?_)
 ·have hn:q=none:=by simpa using hn
  subst hn
  subst hE
  refine aa ?_
  intro w hw
  exact⟨(),trivial,rfl,hw.msub ms⟩
 obtain⟨t,rfl⟩:∃t,q=some t:=by cases q with
  | none=>simp at hn
  | some t=>exact⟨t,rfl⟩
 dsimp only[ox] at hE⊢
 refine cy (fun h2=>?_) (fun h2=>?_)
 ·have h2:¬(t.length:Int)=x.stack.length:=h2
  rw[if_pos (show t.length≠x.stack.length from fun e=>h2 (by rw[e]))] at hE
  subst hE
  refine aa ?_
  intro w hw
  exact⟨(),trivial,rfl,hw.msub ms⟩
 have h2:(t.length:Int)=x.stack.length:=h2
 have h2:t.length=x.stack.length:=by omega
 rw[if_neg (fun h=>h h2)] at hE
 refine aa ?_
 refine dH (fun k:Nat=>k<=x.stack.length/\∀j,j<k->gk (x.stack.getD j default) (t.getD j 0)=true) (fun k=>x.stack.length - k) (fun k=> [(12,.slice A6 t.length c6),(90,.slice A2 x.stack.length c2),(91,.int .i64 (x.stack.length:Int)),(92,.int .i64 (k:Int))]) (fun _=>iq (.slice A6 t.length c6) t::ah gc [.slice a.Af m.frames.length a.cf,.slice a.Ab m.blocks.length a.cb,.slice a.Ai m.inn.length a.ci,.slice a.Ao m.out.length a.co,.int .i64 m.status,.int .i64 m.trap,.slice Ap fs.length cp] 190::H) 0 (⟨br _,fun _ h=>absurd h (mz _)⟩) ?_ (hh:=(fun w h=>h.msub ms))
 rintro k hk'
 obtain⟨hk,hno3⟩:k<=x.stack.length/\∀j,j<k->gk (x.stack.getD j default) (t.getD j 0)=true:=hk'
 refine an (fun hlt=>?_) (fun hlt=>?_)
 ·have hkl2:k<x.stack.length:=by omega
  refine aa ?_
  refine dA (_) rfl ((.ro hst)) ?_
  refine i8 rfl (SF.val (SF.ro hst) hkl2 default)<|aa ?_
  refine fun g6 _=>aa ?_
  refine bM [0,3,6,9,12,17,18] [] rfl<|aa ?_
  refine tE rfl (bS (k:=k) aJ bY (SF.rd (xs:=t) rfl fc) (by omega) rfl rfl rfl) ?_
  refine tE rfl (cB (SF.int (SF.rd (xs:=t) rfl fc) (by omega)) rfl rfl bT) ?_
  refine k0 rfl rfl Tryz.call293 (fun w hw=>vG (x.stack.getD k default) (t.getD k 0) w)<|aa ?_
  refine bw rfl (fun hb=>?_) (fun hb=>?_)
  ·have hb:gk (x.stack.getD k default) (t.getD k 0)=false:=by simpa using hb
   rw[if_pos (vU (by omega) hb)] at hE
   subst hE
   refine aa ?_
   intro w hw
   exact⟨(),trivial,rfl,hw.msub ms⟩
  have hb:gk (x.stack.getD k default) (t.getD k 0)=true:=by simpa using hb
  refine aa ?_
  refine dm (k+1) (⟨by show k+1<=_;omega,fun j hj=>(it j k).elim (hno3 j) (fun h=>by obtain rfl:j=k:=(by omega);exact hb)⟩) (by show _ - _<_ - _;omega) (hh:=(fun w h=>h.msub ms))
 obtain rfl:k=x.stack.length:=by omega
 rw[if_neg (by rw[h2,jN.2 hno3];decide)] at hE
 subst hE
 refine aa ?_
 intro w hw
 exact⟨(),trivial,rfl,hw.msub ms⟩
end
end
section
theorem kj {n k:Nat} (hk:k<n):(List.range n).getD k 0=k:=by
 rw[ac,List.getElem?_range hk]
 rfl
theorem Fh {l:List au} {k n:Nat} (hk:k<l.length) (h:aZ (aG l k).func 0 ((n:Int) - 1)=false):l.any (fun x=>!aZ x.func 0 ((n:Int) - 1))=true:=dL.2 ⟨_,fk hk,by rw[h];rfl⟩
theorem Db {l:List au} {n:Nat} (h:∀j,j<l.length->aZ (aG l j).func 0 ((n:Int) - 1)=true):(¬l.any (fun x=>!aZ x.func 0 ((n:Int) - 1))=true)/\∀x∈l,0<=x.func/\x.func<n:=by
 have h2:∀x∈l,aZ x.func 0 ((n:Int) - 1)=true:=fun x hx=>by
  obtain⟨j,hj,rfl⟩:=bN hx
  have:=h j hj
  unfold aG at this
  rwa [ac,ae hj] at this
 refine⟨fun ha=>?_,fun x hx=>?_⟩
 ·obtain⟨x,hx,h3⟩:=dL.1 ha
  rw[h2 x hx] at h3
  cases h3
 have:=cT.1 (h2 x hx)
 omega
section
variable {B:Nat} {w0:World} {H:List aq}
theorem uO (gc:Nat) (a:MA) (m:ar) (Ap:Option Addr) (cp:Nat) (fs:List ai) (hs:aU w0 B (.slice Ap fs.length cp) fs) (hm:d9 B w0 a m) (hF:iR fs) (hfit:iS m.frames) (E:Int) (hE:jL fs m=E) (w:World) (hw:Cw B w0 (ah gc [.slice a.Af m.frames.length a.cf,.slice a.Ab m.blocks.length a.cb,.slice a.Ai m.inn.length a.ci,.slice a.Ao m.out.length a.co,.int .i64 m.status,.int .i64 m.trap,.slice Ap fs.length cp] 190::H) w) :
  Calls Tryz.prog 184 #[.pointer (some ⟨gc,0,none⟩)] w fun e w'=> ∃_:Unit,True/\e= .returned (.int .i64 E)/\Cw B w0 (ah gc [.slice a.Af m.frames.length a.cf,.slice a.Ab m.blocks.length a.cb,.slice a.Ai m.inn.length a.ci,.slice a.Ao m.out.length a.co,.int .i64 m.status,.int .i64 m.trap,.slice Ap fs.length cp] 190::H) w':=by
 have bf:=bt hm.f
 have bp:=bt hs
 unfold jL at hE
 refine a8 Tryz.func184 rfl Tryz.ntmps184 rfl hw ?_
 refine cR<|bJ<|aC ?_
 refine bE<|dV (fun _:Unit=> ¬6<m.frames.length/\¬(m.frames.length=0/\m.status≠2)/\¬(0<m.frames.length/\m.status=2)) (fun _=> [(0,.pointer (some ⟨gc,0,none⟩))]) (fun _=>ah gc [.slice a.Af m.frames.length a.cf,.slice a.Ab m.blocks.length a.cb,.slice a.Ai m.inn.length a.ci,.slice a.Ao m.out.length a.co,.int .i64 m.status,.int .i64 m.trap,.slice Ap fs.length cp] 190::H) ?_ ?_
 ·refine an (fun h6=>?_) (fun h6=>?_)
  ·rw[if_pos (by omega)] at hE
   subst hE
   refine aa ?_
   intro w hw
   exact⟨(),trivial,rfl,hw.msub ms⟩
  have h6:¬6<m.frames.length:=by omega
  rw[if_neg h6] at hE
  refine dq 21 (fun h0=>?_) (fun h0=>?_)
  ·have h0:=of_decide_eq_true h0
   have h0:m.frames.length=0:=by omega
   refine cy (fun h2=>?_) (fun h2=>?_)
   ·rw[if_pos ⟨h0,h2⟩] at hE
    subst hE
    refine aa ?_
    intro w hw
    exact⟨(),trivial,rfl,hw.msub ms⟩
   refine dq 32 (fun h3=>?_) (fun h3=>?_)
   ·have h3:=of_decide_eq_true h3
    exact absurd h3 (by omega)
   refine aa ?_
   refine di rfl<|aa ?_
   refine dh () (⟨h6,fun h=>h.2 h2,fun h=>by omega⟩) (hh:=(fun _ h=>h.msub ms))
  have h0:=of_decide_eq_false h0
  have h0:¬m.frames.length=0:=by omega
  rw[if_neg (fun h=>h0 h.1)] at hE
  refine aa ?_
  refine di rfl<|dq 32 (fun h3=>?_) (fun h3=>?_)
  ·refine an (fun h2=>?_) (fun h2=>?_)
   ·rw[if_pos ⟨by omega,h2⟩] at hE
    subst hE
    refine aa ?_
    intro w hw
    exact⟨(),trivial,rfl,hw.msub ms⟩
   refine aa ?_
   refine dh () (⟨h6,fun h=>h0 h.1,fun h=>h2 h.2⟩) (hh:=(fun _ h=>h.msub ms))
  have h3:=of_decide_eq_false h3
  exact absurd h3 (by omega)
 rintro⟨⟩ ⟨h1,h2,h3⟩
 rw[if_neg h1,if_neg h2,if_neg h3] at hE
 refine aa ?_
 refine dH (fun k:Nat=>k<=m.frames.length/\∀j,j<k->aZ (aG m.frames j).func 0 ((fs.length:Int) - 1)=true) (fun k=>m.frames.length - k) (fun k=> [(0,.pointer (some ⟨gc,0,none⟩)),(44,.slice a.Af m.frames.length a.cf),(45,.int .i64 (m.frames.length:Int)),(46,.int .i64 (k:Int))]) (fun _=>ah gc [.slice a.Af m.frames.length a.cf,.slice a.Ab m.blocks.length a.cb,.slice a.Ai m.inn.length a.ci,.slice a.Ao m.out.length a.co,.int .i64 m.status,.int .i64 m.trap,.slice Ap fs.length cp] 190::H) 0 (⟨br _,fun _ h=>absurd h (mz _)⟩) ?_ (hh:=(fun w h=>h.msub ms))
 rintro k hk'
 obtain⟨hk,hno⟩:k<=m.frames.length/\∀j,j<k->aZ (aG m.frames j).func 0 ((fs.length:Int) - 1)=true:=hk'
 refine an (fun hlt=>?_) (fun hlt=>?_)
 ·have hkl:k<m.frames.length:=by omega
  obtain⟨A1,c1,A2,c2,hl,hst,hI,hcell⟩:=hm.f.fr hkl
  refine aa ?_
  refine dA (_) rfl ((.ro hm.f)) ?_
  refine i8 rfl (hcell _)<|aa ?_
  refine fun g1 _=>aa ?_
  refine bM [0,3,6,9,12,15,18,21,24,29,30] [] rfl<|aa ?_
  refine k0 rfl rfl un (fun w hw=>iy (aG m.frames k).func 0 ((fs.length:Int) - 1) w)<|aa ?_
  refine bw rfl (fun hb=>?_) (fun hb=>?_)
  ·have hb:aZ (aG m.frames k).func 0 ((fs.length:Int) - 1)=false:=by simpa using hb
   rw[if_pos (Fh hkl hb)] at hE
   subst hE
   refine aa ?_
   intro w hw
   exact⟨(),trivial,rfl,hw.msub ms⟩
  have hb:aZ (aG m.frames k).func 0 ((fs.length:Int) - 1)=true:=by simpa using hb
  refine aa ?_
  refine dm (k+1) (⟨by show k+1<=_;omega,fun j hj=>(it j k).elim (hno j) (fun h=>by obtain rfl:j=k:=(by omega);exact hb)⟩) (by show _ - _<_ - _;omega) (hh:=(fun w h=>h.msub ms))
 obtain rfl:k=m.frames.length:=by omega
 obtain⟨hany,hfn⟩:=Db hno
 rw[if_neg hany] at hE
 refine aa ?_
 refine dH (fun k:Nat=>k<=m.frames.length/\(0<k->¬(0<m.frames.length/\(aG m.frames 0).func≠0))/\dB (fd fs m.blocks.length m.frames) ((List.range m.frames.length).take k)=0) (fun k=>m.frames.length - k) (fun k=> [(0,.pointer (some ⟨gc,0,none⟩)),(66,.slice a.Af m.frames.length a.cf),(67,.int .i64 (m.frames.length:Int)),(68,.int .i64 (k:Int))]) (fun _=>ah gc [.slice a.Af m.frames.length a.cf,.slice a.Ab m.blocks.length a.cb,.slice a.Ai m.inn.length a.ci,.slice a.Ao m.out.length a.co,.int .i64 m.status,.int .i64 m.trap,.slice Ap fs.length cp] 190::H) 0 (⟨br _,fun h=>absurd h (mz _),rfl⟩) ?_ (hh:=(fun w h=>h.msub ms))
 rintro k hk'
 obtain⟨hk,hz0,hno2⟩:k<=m.frames.length/\(0<k->¬(0<m.frames.length/\(aG m.frames 0).func≠0))/\dB (fd fs m.blocks.length m.frames) ((List.range m.frames.length).take k)=0:=hk'
 refine an (fun hlt=>?_) (fun hlt=>?_)
 ·have hkl:k<m.frames.length:=by omega
  obtain⟨A1,c1,A2,c2,hl,hst,hI,hcell⟩:=hm.f.fr hkl
  refine aa ?_
  refine dA (_) rfl ((.ro hm.f)) ?_
  refine i8 rfl (hcell _)<|aa ?_
  refine fun g2 _=>dq 75 (fun hz=>?_) (fun hz=>?_)
  ·have hz:=of_decide_eq_true hz
   obtain rfl:k=0:=by omega
   refine cy (fun hf=>?_) (fun hf=>?_)
   ·rw[if_pos ⟨hkl,hf⟩] at hE
    subst hE
    refine aa ?_
    intro w hw
    exact⟨(),trivial,rfl,hw.msub ms⟩
   have h0:¬(0<m.frames.length/\(aG m.frames 0).func≠0):=fun h=>h.2 hf
   refine aa ?_
   refine bU rfl Tryz.call238 (fun w hw=>pU gc a m Ap cp fs hs hm hF hfit 0 hkl hfn _ rfl w (hw.msub (.s fc .r))) (fun _ _=>cy (fun he=>?_) (fun he=>?_))
   ·have he:fd fs m.blocks.length m.frames 0≠0:=he
    have hsn:=iz (g:=fd fs m.blocks.length m.frames) (l:=List.range m.frames.length) 0 (by rw[mK];exact hkl) hno2
    rw[kj hkl] at hsn
    rw[if_neg h0,m9 (k:=0+1) (by rw[hsn];exact he),hsn] at hE
    subst hE
    refine aa ?_
    intro w hw
    exact⟨(),trivial,rfl,hw.msub ms⟩
   have he:fd fs m.blocks.length m.frames 0=0:=he
   have hsn:=iz (g:=fd fs m.blocks.length m.frames) (l:=List.range m.frames.length) 0 (by rw[mK];exact hkl) hno2
   rw[kj hkl,he] at hsn
   refine aa ?_
   refine dm 1 (⟨by show 1<=_;omega,fun _=>h0,hsn⟩) (by show _ - _<_ - _;omega) (hh:=(fun w h=>h.msub ms))
  have hz:=of_decide_eq_false hz
  have h0:=hz0 (by omega)
  refine aa ?_
  refine di rfl<|aa ?_
  refine bU rfl Tryz.call238 (fun w hw=>pU gc a m Ap cp fs hs hm hF hfit k hkl hfn _ rfl w (hw.msub (.s fc .r))) (fun _ _=>cy (fun he=>?_) (fun he=>?_))
  ·have he:fd fs m.blocks.length m.frames k≠0:=he
   have hsn:=iz (g:=fd fs m.blocks.length m.frames) (l:=List.range m.frames.length) 0 (by rw[mK];exact hkl) hno2
   rw[kj hkl] at hsn
   rw[if_neg h0,m9 (k:=k+1) (by rw[hsn];exact he),hsn] at hE
   subst hE
   refine aa ?_
   intro w hw
   exact⟨(),trivial,rfl,hw.msub ms⟩
  have he:fd fs m.blocks.length m.frames k=0:=he
  have hsn:=iz (g:=fd fs m.blocks.length m.frames) (l:=List.range m.frames.length) 0 (by rw[mK];exact hkl) hno2
  rw[kj hkl,he] at hsn
  refine aa ?_
  refine dm (k+1) (⟨by show k+1<=_;omega,fun _=>h0,hsn⟩) (by show _ - _<_ - _;omega) (hh:=(fun w h=>h.msub ms))
 obtain rfl:k=m.frames.length:=by omega
 rw[aN (by rw[mK];exact aD _)] at hno2
 have h0:¬(0<m.frames.length/\(aG m.frames 0).func≠0):=fun h=>hz0 h.1 h
 rw[if_neg h0,hno2] at hE
 subst hE
 refine aa ?_
 intro w hw
 exact⟨(),trivial,rfl,hw.msub ms⟩
end
end
section
theorem yl (n:Int) (w:World):Calls Tryz.prog 237 #[.int .i64 n] w fun e w'=>e= .returned (.bool (!b9 n))/\Below w.heap.size w w':=by
 refine enter Tryz.func237 rfl Tryz.ntmps237 rfl<|aa ?_
 refine cd rfl HP ((fun w hw=>kL ((fun w hw=>lN n w) w hw)))<|aa ?_
 intro w hw
 exact⟨rfl,hw.below⟩
theorem tc (A:Option Addr) (c:Nat) (l:List Int) (w:World) (hs:Sl w (.slice A l.length c) l):Calls Tryz.prog 183 #[.slice A l.length c] w fun e w'=>e= .returned (.bool (dy l))/\Below w.heap.size w w':=by
 refine enter Tryz.func183 rfl Tryz.ntmps183 rfl<|aa ?_
 refine cd rfl Ea (fun w hw=>kJ A c l 237 #[] (fun n=>!b9 n) w (hw.ro hs) Tryz.call237 (fun w1 _ x _=>yl x w1))<|aa ?_
 intro w hw
 exact⟨rfl,hw.below⟩
theorem AT (m:ar):gP m=aG m.frames (m.frames.length - 1):=by
 unfold gP aG
 rw[List.getLastD_eq_getLast?,List.getLast?_eq_getElem?,ac]
section
variable {B:Nat} {w0:World} {H:List aq}
theorem tR (gc:Nat) (a:MA) (m:ar) (Ap:Option Addr) (cp:Nat) (fs:List ai) (hs:aU w0 B (.slice Ap fs.length cp) fs) (hm:d9 B w0 a m) (hF:iR fs) (hfit:iS m.frames) (E:Int) (hE:lB fs m=E) (w:World) (hw:Cw B w0 (ah gc [.slice a.Af m.frames.length a.cf,.slice a.Ab m.blocks.length a.cb,.slice a.Ai m.inn.length a.ci,.slice a.Ao m.out.length a.co,.int .i64 m.status,.int .i64 m.trap,.slice Ap fs.length cp] 190::H) w) :
  Calls Tryz.prog 131 #[.pointer (some ⟨gc,0,none⟩)] w fun e w'=> ∃_:Unit,True/\e= .returned (.int .i64 E)/\Cw B w0 (ah gc [.slice a.Af m.frames.length a.cf,.slice a.Ab m.blocks.length a.cb,.slice a.Ai m.inn.length a.ci,.slice a.Ao m.out.length a.co,.int .i64 m.status,.int .i64 m.trap,.slice Ap fs.length cp] 190::H) w':=by
 have bf:=bt hm.f
 have bp:=bt hs
 unfold lB at hE
 refine a8 Tryz.func131 rfl Tryz.ntmps131 rfl hw ?_
 refine cR<|bJ<|aC ?_
 refine bE<|cR<|bJ<|aC ?_
 refine aC ?_
 refine bE<|dV (fun _:Unit=>True) (fun _=> [(0,.pointer (some ⟨gc,0,none⟩)),(3,.int .i64 (if m.status=3 then 1 else 0)),(4,.int .i64 (if m.status=3 then 5 else 0))]) (fun _=>ah gc [.slice a.Af m.frames.length a.cf,.slice a.Ab m.blocks.length a.cb,.slice a.Ai m.inn.length a.ci,.slice a.Ao m.out.length a.co,.int .i64 m.status,.int .i64 m.trap,.slice Ap fs.length cp] 190::H) ?_ ?_
 ·refine an (fun h3=>?_) (fun h3=>?_)
  ·rw[if_pos h3,if_pos h3]
   refine aa ?_
   refine xN () (trivial) (hh:=(fun _ h=>h.msub ms))
  rw[if_neg h3,if_neg h3]
  refine aa ?_
  refine dh () (trivial) (hh:=(fun _ h=>h.msub ms))
 rintro⟨⟩ _
 refine aa ?_
 refine cd rfl un (fun w hw=>iy m.status 0 3 w)<|aa ?_
 refine bw rfl (fun h1=>?_) (fun h1=>?_)
 ·rw[if_pos (by simpa using h1)] at hE
  subst hE
  refine aa ?_
  intro w hw
  exact⟨(),trivial,rfl,hw.msub ms⟩
 rw[if_neg (by simpa using h1)] at hE
 refine aa ?_
 refine cd rfl un (fun w hw=>iy m.trap _ _ w)<|aa ?_
 refine bw rfl (fun h2=>?_) (fun h2=>?_)
 ·rw[if_pos (by simpa using h2)] at hE
  subst hE
  refine aa ?_
  intro w hw
  exact⟨(),trivial,rfl,hw.msub ms⟩
 rw[if_neg (by simpa using h2)] at hE
 refine aa ?_
 refine cd rfl Tryz.call182 (fun w hw=>wT _ m.blocks w (hw.ro hm.b))<|cy (fun h3=>?_) (fun h3=>?_)
 ·rw[if_pos h3] at hE
  subst hE
  refine aa ?_
  intro w hw
  exact⟨(),trivial,rfl,hw.msub ms⟩
 rw[if_neg (fun h=>h h3)] at hE
 refine jc (iV ?_)
 refine dV (fun _:Unit=>(¬(10<m.inn.length\/10<m.out.length))/\¬(dy m.inn=true\/dy m.out=true)) (fun _=> [(0,.pointer (some ⟨gc,0,none⟩))]) (fun _=>ah gc [.slice a.Af m.frames.length a.cf,.slice a.Ab m.blocks.length a.cb,.slice a.Ai m.inn.length a.ci,.slice a.Ao m.out.length a.co,.int .i64 m.status,.int .i64 m.trap,.slice Ap fs.length cp] 190::H) ?_ ?_
 ·refine dq 49 (fun h4=>?_) (fun h4=>?_)
  ·have h4:=of_decide_eq_true h4
   rw[if_pos (.inl (by omega))] at hE
   subst hE
   refine aa ?_
   refine bx rfl<|aa ?_
   intro w hw
   exact⟨(),trivial,rfl,hw.msub ms⟩
  have h4:=of_decide_eq_false h4
  refine an (fun h5=>?_) (fun h5=>?_)
  ·rw[if_pos (.inr (by omega))] at hE
   subst hE
   refine aa ?_
   intro w hw
   exact⟨(),trivial,rfl,hw.msub ms⟩
  have h45:¬(10<m.inn.length\/10<m.out.length):=by omega
  rw[if_neg h45] at hE
  refine aa ?_
  refine cd rfl Tryz.call183 (fun w hw=>tc a.Ai a.ci m.inn w (hw.ro hm.i))<|dq 65 (fun h6=>?_) (fun h6=>?_)
  ·rw[if_pos (.inl h6)] at hE
   subst hE
   refine aa ?_
   refine bx rfl<|aa ?_
   intro w hw
   exact⟨(),trivial,rfl,hw.msub ms⟩
  refine aa ?_
  refine cd rfl Tryz.call183 (fun w hw=>tc a.Ao a.co m.out w (hw.ro hm.o))<|aa ?_
  refine bw rfl (fun h7=>?_) (fun h7=>?_)
  ·rw[if_pos (.inr h7)] at hE
   subst hE
   refine aa ?_
   intro w hw
   exact⟨(),trivial,rfl,hw.msub ms⟩
  have h67:¬(dy m.inn=true\/dy m.out=true):=by rw[h6,h7];simp
  refine aa ?_
  refine dh () (⟨h45,h67⟩) (hh:=(fun _ h=>h.msub ms))
 rintro⟨⟩ ⟨h4,h5⟩
 rw[if_neg h4,if_neg h5] at hE
 refine aa ?_
 refine bU rfl Tryz.call184 (fun w hw=>uO gc a m Ap cp fs hs hm hF hfit _ rfl w (hw.msub (.s fc .r))) (fun _ _=>cy (fun h6=>?_) (fun h6=>?_))
 ·rw[if_pos h6] at hE
  subst hE
  refine aa ?_
  intro w hw
  exact⟨(),trivial,rfl,hw.msub ms⟩
 rw[if_neg (fun h=>h h6)] at hE
 refine cy (fun h7=>?_) (fun h7=>?_)
 ·rw[if_pos h7] at hE
  subst hE
  refine aa ?_
  intro w hw
  exact⟨(),trivial,rfl,hw.msub ms⟩
 rw[if_neg (fun h=>h h7)] at hE
 obtain⟨_,hdn,hfn,_,hfr⟩:=lh.1 h6
 have hne:m.frames.length≠0:=fun h=>by
  have:=hdn.1 (aE h)
  omega
 obtain⟨k,hk⟩:∃k,m.frames.length=k+1:=⟨m.frames.length - 1,by omega⟩
 have hkl:k<m.frames.length:=by omega
 obtain⟨A1,c1,A2,c2,hl,hst,hI,hcell⟩:=hm.f.fr hkl
 have hx:=hfn _ (fk hkl)
 obtain⟨kf,hkf⟩:∃kf:Nat,(aG m.frames k).func=kf:=⟨(aG m.frames k).func.toNat,by omega⟩
 have hkfl:kf<fs.length:=by omega
 obtain⟨F1,d1,F2,d2,hfl,hfc,hfi,hfcell⟩:=hs.fn hkfl
 obtain⟨t,ht,_⟩:=hfr k hkl
 unfold hU ip at ht
 rw[if_pos hk.symm,hkf,a6] at ht
 obtain⟨hp0,hp1,_⟩:=(hF.e _ hkfl).at_ _ _ ht
 have hop:dS fs m=aY (aj fs kf).code (aG m.frames k).pc.toNat:=by
  unfold dS
  rw[AT,hk,Nat.add_sub_cancel,hkf,a6]
 rw[hop] at hE
 rw[hkf] at hcell
 refine aa ?_
 refine bM [0,3,6,9,12,15,18,21,24,27,30,33,36,39,44,47] [15] rfl<|aa ?_
 refine fg (t:=95) (v':= .int .i64 (k:Int)) rfl (by rw[hk];congr 1;omega) ?_
 refine tE rfl (bS (k:=k) cV ek (.ro hm.f) hkl rfl rfl rfl) ?_
 refine tE rfl (gU (hcell _) rfl rfl Tryz.isAgg118 ek)<|aa ?_
 refine fun g1 _=>aa ?_
 refine bM [0,3,6,9,12,15,18,21,24,27,30,33,36,39,42,45,48,51,54,57,60,63,66,69,72] [] rfl<|aa ?_
 refine kz (t:=105) rfl (fun h8=>?_) (fun h8=>?_)
 ·have h8:=of_decide_eq_true h8
  rw[if_pos (.inl (by omega))] at hE
  subst hE
  refine aa ?_
  refine bx rfl<|aa ?_
  intro w hw
  exact⟨(),trivial,rfl,hw.msub ms⟩
 have h8:=of_decide_eq_false h8
 refine aa ?_
 refine tE rfl (bS (k:=kf) et eQ (.ro hs) (by omega) rfl rfl rfl)<|aa ?_
 refine tE rfl (cB (fun w hw=>hfcell _ w hw 3 _ rfl) rfl rfl D7)<|aa ?_
 refine tE rfl (nF dD jx (.ro hfc) (by omega) rfl rfl rfl)<|aa ?_
 refine tE rfl (cB (SF.opc (.ro hfc) (by omega)) rfl rfl bT)<|cy (fun h9=>?_) (fun h9=>?_)
 ·rw[if_pos (.inr h9)] at hE
  subst hE
  refine aa ?_
  intro w hw
  exact⟨(),trivial,rfl,hw.msub ms⟩
 have h9:(aY (aj fs kf).code (aG m.frames k).pc.toNat).c=21:=h9
 rw[if_neg (fun h=>h.elim (fun h=>h8 (by omega)) (fun h=>h h9))] at hE
 subst hE
 refine aa ?_
 intro w hw
 exact⟨(),trivial,rfl,hw.msub ms⟩
end
theorem wk (Ap:Option Addr) (cp:Nat) (fs:List ai) (a:MA) (m:ar) (w:World) (hs:Sl w (.slice Ap fs.length cp) fs) (hm:d9 w.heap.size w a m) (hF:iR fs) (hfit:iS m.frames) :
  Calls Tryz.prog 74 #[.agg #[.slice Ap fs.length cp],.agg #[.slice a.Af m.frames.length a.cf,.slice a.Ab m.blocks.length a.cb,.slice a.Ai m.inn.length a.ci,.slice a.Ao m.out.length a.co,.int .i64 m.status,.int .i64 m.trap]] w fun e w'=>e= .returned (.int .i64 (lB fs m))/\Below w.heap.size w w':=by
 refine enter Tryz.func74 rfl Tryz.ntmps74 rfl<|aa ?_
 refine fun g1 _=>aa ?_
 refine fun g2 _=>aa ?_
 refine fun g3 _=>aa ?_
 refine bU rfl Tryz.call131 (fun w hw=>tR g3 a m Ap cp fs hs hm hF hfit _ rfl w (hw.msub (.s fc .r))) (fun _ _=>aa ?_)
 intro w hw
 exact⟨rfl,hw.below⟩
theorem jo (Ap:Option Addr) (cp:Nat) (fs:List ai) (a:MA) (m:ar) (w:World) (hs:Sl w (.slice Ap fs.length cp) fs) (hm:d9 w.heap.size w a m) (hfit:iS m.frames) :
  Calls Tryz.prog 45 #[.agg #[.slice Ap fs.length cp],.agg #[.slice a.Af m.frames.length a.cf,.slice a.Ab m.blocks.length a.cb,.slice a.Ai m.inn.length a.ci,.slice a.Ao m.out.length a.co,.int .i64 m.status,.int .i64 m.trap]] w fun e w'=>e= .returned (.int .i64 (da fs m))/\Below w.heap.size w w':=by
 obtain⟨E,hE⟩:∃E,da fs m=E:=⟨_,rfl⟩
 rw[hE]
 unfold da at hE
 refine enter Tryz.func45 rfl Tryz.ntmps45 rfl<|aa ?_
 refine fun g1 _=>aa ?_
 refine fun g2 _=>aa ?_
 refine cd rfl Tryz.call72 (fun w hw=>qC Ap cp fs w (hw.ro hs))<|cy (fun h=>?_) (fun h=>?_)
 ·rw[if_pos h] at hE
  subst hE
  refine aa ?_
  intro w hw
  exact⟨rfl,hw.below⟩
 have h:fm fs=0:=h
 rw[if_neg (fun h'=>h' h)] at hE
 subst hE
 refine aa ?_
 refine cd rfl Tryz.call74 (fun w hw=>wk Ap cp fs a m w (hw.ro hs) (d9.ro hw hm) (oT h) hfit)<|aa ?_
 intro w hw
 exact⟨rfl,hw.below⟩
end
section
theorem xy {B:Nat} {w:World} {Ap:Option Addr} {cp:Nat} {fs:List ai} (hs:aU w B (.slice Ap fs.length cp) fs) (hF:iR fs) {m:ar} (hR:fl fs m) (hst:¬(m.status=2\/m.status=3)):∃li x kf,ud fs m li x kf:=by
 have hne:m.frames≠[]:=fun e=>hst (.inl (hR.dn.1 e))
 obtain⟨li,x,e⟩:∃li x,m.frames=li++ [x]:=by
  rcases List.eq_nil_or_concat m.frames with h1 | ⟨l,z,h1⟩
  ·exact absurd h1 hne
  exact⟨l,z,by rw[h1];simp⟩
 obtain⟨hfn,hloc,t,he,hts⟩:=hR.top e
 obtain⟨kf,hkf⟩:∃kf:Nat,x.func=kf:=⟨x.func.toNat,by omega⟩
 rw[hkf,a6] at he hloc
 have hkl:kf<fs.length:=by omega
 obtain⟨hp0,hp1,ht8,_⟩:=(hF.e _ hkl).at_ _ _ he
 obtain⟨hok,_⟩:=jq hF.p hkl
 obtain⟨F1,d1,F2,d2,hfl,hfc,hfi,hfcell⟩:=hs.fn hkl
 have hn6:=hR.n6
 rw[e,ag,aS] at hn6
 refine⟨li,x,kf,e,hkf,hkl,⟨hp0,hp1⟩,AC hF hkl (x:= {x with pc:=x.pc+1}) hkf he hts hloc.len,hR.bl,by rw[hts.len];omega,fun y hy=>?_,by have:=hR.ob;omega,by omega,(sY hfc (by omega)).2,by have:=hok.n40;omega⟩
 obtain⟨i,hi,rfl⟩:=bN hy
 obtain⟨u,hu,_,hus⟩:=hR.fr i (by rw[e,ag];omega)
 have hfi2:aG m.frames i=li[i]:=by
  rw[e,Gk hi]
  unfold aG
  rw[ac,ae hi]
  rfl
 rw[hfi2] at hus
 rw[hus.len]
 have hz:=hR.fn _ (fk (l:=m.frames) (k:=i) (by rw[e,ag];omega))
 have hkz:(aG m.frames i).func.toNat<fs.length:=by omega
 unfold hU ip at hu
 split at hu
 ·have:=((hF.e _ hkz).at_ _ _ hu).2.2.1
  omega
 split at hu
 ·cases hu
 split at hu
 ·cases hu
 cases h5:fZ fs (aj fs (aG m.frames i).func.toNat) (aG m.frames i).pc with
 | none=>rw[h5] at hu;cases hu
 | some t2=>
  rw[h5] at hu
  have hu:(if (aj fs (aG m.frames (i+1)).func.toNat).result≠0 then t2.dropLast else t2)=u:=du hu
  have:=((hF.e _ hkz).at_ _ _ h5).2.2.1
  rw[<-hu]
  split
  ·rw[List.length_dropLast];omega
  omega
theorem qM {fs:List ai} (hF:iR fs):0<fs.length:=by
 have:=(iA hF.p).1
 omega
theorem tu {fs:List ai} (hF:iR fs) {m:ar} (hR:fl fs m) {i:Nat} (hi:i<m.frames.length):(aG m.frames i).stack.length<=8/\(aG m.frames i).locals.length<=1000:=by
 obtain⟨u,hu,hul,hus⟩:=hR.fr i hi
 have hz:=hR.fn _ (fk hi)
 have hkz:(aG m.frames i).func.toNat<fs.length:=by omega
 rw[hus.len,hul.len]
 have hn40:=((jq hF.p (qM hF)).1.op 0 (jq hF.p (qM hF)).2).par _ hkz |>.2
 refine⟨?_,by unfold ip;omega⟩
 unfold hU ip at hu
 split at hu
 ·have:=((hF.e _ hkz).at_ _ _ hu).2.2.1
  omega
 split at hu
 ·cases hu
 split at hu
 ·cases hu
 cases h5:fZ fs (aj fs (aG m.frames i).func.toNat) (aG m.frames i).pc with
 | none=>rw[h5] at hu;cases hu
 | some t2=>
  rw[h5] at hu
  have hu:(if (aj fs (aG m.frames (i+1)).func.toNat).result≠0 then t2.dropLast else t2)=u:=du hu
  have:=((hF.e _ hkz).at_ _ _ h5).2.2.1
  rw[<-hu]
  split
  ·rw[List.length_dropLast];omega
  omega
theorem vM {fs:List ai} (hF:iR fs) {m:ar} (hR:fl fs m):BD m:=by
 refine⟨⟨by have:=hR.n6;omega,fun x hx=>?_⟩,ow.of_check hR.bl,by have:=hR.ib;omega,by have:=hR.ob;omega⟩
 obtain⟨i,hi,rfl⟩:=bN hx
 have h:=tu hF hR hi
 have e:aG m.frames i=m.frames[i]:=by
  unfold aG
  rw[ac,ae hi]
  rfl
 rw[e] at h
 omega
def is (fs:List ai):ar:=⟨[⟨0,0,df (aj fs 0).locals,[]⟩],[],[],[],0,0⟩
def lx (fs:List ai):ar:=if fm fs=0 then is fs else default
def nB (fs:List ai) (m:ar):ar:=if da fs m=0 then en fs m else default
theorem l8 {fs:List ai} (h:fm fs=0):0<fs.length:=by
 have:=(iA (oT h).p).1
 omega
theorem AE (Ap:Option Addr) (cp:Nat) (fs:List ai) (w:World) (hs:Sl w (.slice Ap fs.length cp) fs) (h0:0<fs.length) (hl6:(aj fs 0).locals.length<=1000) :
  Calls Tryz.prog 73 #[.agg #[.slice Ap fs.length cp]] w fun e w'=> ∃g:MA,True/\
   e= .returned (.agg #[.slice g.Af (is fs).frames.length g.cf,.slice g.Ab (is fs).blocks.length g.cb,.slice g.Ai (is fs).inn.length g.ci,.slice g.Ao (is fs).out.length g.co,.int .i64 (is fs).status,.int .i64 (is fs).trap])/\
   Cw w.heap.size w [af (.slice g.Af (is fs).frames.length g.cf) (is fs).frames,af (.slice g.Ab (is fs).blocks.length g.cb) (is fs).blocks,af (.slice g.Ai (is fs).inn.length g.ci) (is fs).inn,af (.slice g.Ao (is fs).out.length g.co) (is fs).out] w':=by
 obtain⟨A1,c1,A2,c2,hl,hc,hi,hcell⟩:=hs.fn h0
 have hF:(df (aj fs 0).locals).length=(aj fs 0).locals.length:=mj _
 refine enter Tryz.func73 rfl Tryz.ntmps73 rfl<|aa ?_
 refine fun g1 _=>aa ?_
 refine fun g2 _=>aa ?_
 refine dA (0) rfl ((.ro hs)) ?_
 refine i8 rfl (hcell _) ?_
 refine oE (ee rfl rfl rfl Tryz.call130 (fun w hw=>q8 (aj fs 0).params (aj fs 0).result A1 A2 c1 c2 _ (aj fs 0).locals w (hw.ro hl) (by omega))) (fun⟨A3,c3⟩ _=>?_)
 refine aT ?_
 refine fun g3 _=>aa ?_
 intro w hw
 refine⟨⟨some ⟨g3,0,none⟩,1,none,0,none,0,none,0⟩,trivial,rfl,?_⟩
 have h1:=nE (H:= []) (xs:=(is fs).frames) (g:=g3) (kR.cons (Hel:= [af (.slice A3 (df (aj fs 0).locals).length c3) (df (aj fs 0).locals),af (.slice none 0 0) ([]:List ax)]) (cs:= [_,_,_,_]) (yB (x:=⟨0,0,df (aj fs 0).locals,[]⟩) (by show ay 0/\ay 0;decide)) kR.nil_) rfl (by show 1<=_;decide) ((Cw.nilO ax hw).msub (T:= [ah g3 _ _,af (.slice A3 (df (aj fs 0).locals).length c3) (df (aj fs 0).locals),af (.slice none 0 0) ([]:List ax)]) ms)
 exact(Cw.nilO (List Int) (Cw.nilO Int (Cw.nilO Int h1))).msub ms
theorem ta {B:Nat} {w0 w:World} {H:List aq} (h:Cw B w0 H w):Cw B w0 (af (α:=au) (.slice none 0 0) []::af (α:=List Int) (.slice none 0 0) []::af (α:=Int) (.slice none 0 0) []::af (α:=Int) (.slice none 0 0) []::H) w:=Cw.nilO au (Cw.nilO (List Int) (Cw.nilO Int (Cw.nilO Int h)))
theorem pm (Ap:Option Addr) (cp:Nat) (fs:List ai) (m:ar) (hmm:lx fs=m) (w:World) (hs:Sl w (.slice Ap fs.length cp) fs) :
  Calls Tryz.prog 54 #[.agg #[.slice Ap fs.length cp]] w fun e w'=> ∃g:MA,True/\
   e= .returned (.tuple #[.agg #[.slice g.Af m.frames.length g.cf,.slice g.Ab m.blocks.length g.cb,.slice g.Ai m.inn.length g.ci,.slice g.Ao m.out.length g.co,.int .i64 m.status,.int .i64 m.trap],.int .i64 (fm fs)])/\Cw w.heap.size w [af (.slice g.Af m.frames.length g.cf) m.frames,af (.slice g.Ab m.blocks.length g.cb) m.blocks,af (.slice g.Ai m.inn.length g.ci) m.inn,af (.slice g.Ao m.out.length g.co) m.out] w':=by
 refine enter Tryz.func54 rfl Tryz.ntmps54 rfl<|aa ?_
 refine fun g1 _=>aa ?_
 refine fun g2 _=>aa ?_
 refine cd rfl Tryz.call72 (fun w hw=>qC Ap cp fs w (hw.ro hs))<|aa ?_
 unfold lx at hmm
 refine iO rfl (fun h=>?_) (fun h=>?_)
 ·rw[if_neg h] at hmm
  subst hmm
  refine aa ?_
  intro w hw
  exact⟨⟨none,0,none,0,none,0,none,0⟩,trivial,rfl,(ta hw).msub ms⟩
 have h:fm fs=0:=h
 rw[if_pos h] at hmm
 subst hmm
 refine aa ?_
 refine eI rfl Tryz.call73 (fun w hw=>AE Ap cp fs w (hw.ro hs) (l8 h) (by have:=((jq (oT h).p (l8 h)).1.op 0 (jq (oT h).p (l8 h)).2).par 0 (l8 h) |>.2;omega)) (fun g _=>aa ?_)
 intro w hw
 exact⟨g,trivial,by rw[h],hw.msub ms⟩
theorem qR (Ap:Option Addr) (cp:Nat) (fs:List ai) (a:MA) (m m2:ar) (hm2:nB fs m=m2) (w:World) (hs:Sl w (.slice Ap fs.length cp) fs) (hm:d9 w.heap.size w a m) (hfit:iS m.frames) :
  Calls Tryz.prog 52 #[.agg #[.slice Ap fs.length cp],.agg #[.slice a.Af m.frames.length a.cf,.slice a.Ab m.blocks.length a.cb,.slice a.Ai m.inn.length a.ci,.slice a.Ao m.out.length a.co,.int .i64 m.status,.int .i64 m.trap]] w fun e w'=> ∃g:MA,True/\
   e= .returned (.tuple #[.agg #[.slice g.Af m2.frames.length g.cf,.slice g.Ab m2.blocks.length g.cb,.slice g.Ai m2.inn.length g.ci,.slice g.Ao m2.out.length g.co,.int .i64 m2.status,.int .i64 m2.trap],.int .i64 (da fs m)])/\Cw w.heap.size w [af (.slice g.Af m2.frames.length g.cf) m2.frames,af (.slice g.Ab m2.blocks.length g.cb) m2.blocks,af (.slice g.Ai m2.inn.length g.ci) m2.inn,af (.slice g.Ao m2.out.length g.co) m2.out] w':=by
 refine enter Tryz.func52 rfl Tryz.ntmps52 rfl<|aa ?_
 refine fun g1 _=>aa ?_
 refine fun g2 _=>aa ?_
 refine fun g3 _=>aa ?_
 refine cd rfl xe (fun w hw=>jo Ap cp fs a m w (hw.ro hs) (d9.ro hw hm) hfit)<|aa ?_
 unfold nB at hm2
 refine iO rfl (fun h=>?_) (fun h=>?_)
 ·rw[if_neg h] at hm2
  subst hm2
  refine aa ?_
  intro w hw
  exact⟨⟨none,0,none,0,none,0,none,0⟩,trivial,rfl,(ta hw).msub ms⟩
 have h:da fs m=0:=h
 rw[if_pos h] at hm2
 have h1:fm fs=0:=by
  unfold da at h
  split at h
  ·rename_i h2;exact absurd h h2
  rename_i h2;exact fu.1 h2
 have hR:fl fs m:=qJ.1 (by unfold da at h;rwa [if_neg (fun h2=>h2 h1)] at h)
 refine aa ?_
 refine eI rfl Tryz.call114 (fun w hw=>CB Ap cp fs a m m2 hm2 w (hw.ro hs) (d9.ro hw hm) (vM (oT h1) hR) (fun hst=>xy hs (oT h1) hR hst)) (fun g _=>aa ?_)
 intro w hw
 exact⟨g,trivial,by rw[h],hw.msub ms⟩
end
section
def io:ar:=⟨[⟨0,0,[],[]⟩],[],[],[],0,0⟩
def im:ar:=⟨[⟨0,1,[],[⟨false,3⟩]⟩],[],[],[],0,0⟩
def po:ar:=⟨[⟨0,0,[],[]⟩],[],[],[],1,0⟩
theorem wm:fm iQ=0/\lx iQ=io/\da iQ io=0/\nB iQ io=im/\da iQ im=0/\fm cF=0/\lx cF=io/\da cF io=0/\nB cF io=po:=by
 refine⟨?_,?_,?_,?_,?_,?_,?_,?_,?_⟩ <;> kernel_rfl
theorem vL:iS io.frames:=by
 refine⟨by decide,fun x hx=>?_⟩
 have:x=⟨0,0,[],[]⟩:=by simpa [io] using hx
 subst this
 decide
theorem Dd:iS im.frames:=by
 refine⟨by decide,fun x hx=>?_⟩
 have:x=⟨0,1,[],[⟨false,3⟩]⟩:=by simpa [im] using hx
 subst this
 decide
section
variable {fs:List ai} {m:ar} {n:Nat}
theorem n9 (hp:fm fs=0) (hm:lx fs=io) (hn:fs.length=n) (A:Option Addr) (c:Nat) (w:World) (hs:Sl w (.slice A n c) fs) :
  Calls Tryz.prog 54 #[.agg #[.slice A n c]] w fun e w'=> ∃g:MA,True/\
   e= .returned (.tuple #[.agg #[.slice g.Af 1 g.cf,.slice g.Ab 0 g.cb,.slice g.Ai 0 g.ci,.slice g.Ao 0 g.co,.int .i64 0,.int .i64 0],.int .i64 0])/\Cw w.heap.size w [af (.slice g.Af 1 g.cf) io.frames,af (.slice g.Ab 0 g.cb) io.blocks,af (.slice g.Ai 0 g.ci) io.inn,af (.slice g.Ao 0 g.co) io.out] w':=by
 subst hn
 have:=pm A c fs io hm w hs
 rw[hp] at this
 exact this
theorem uW (hn:fs.length=n) {E:Int} (hE:da fs im=E) (A:Option Addr) (c:Nat) (a:MA) (w:World) (hs:Sl w (.slice A n c) fs) (hm:d9 w.heap.size w a im) :
  Calls Tryz.prog 45 #[.agg #[.slice A n c],.agg #[.slice a.Af 1 a.cf,.slice a.Ab 0 a.cb,.slice a.Ai 0 a.ci,.slice a.Ao 0 a.co,.int .i64 0,.int .i64 0]] w fun e w'=>e= .returned (.int .i64 E)/\Below w.heap.size w w':=by
 subst hn
 subst hE
 exact jo A c fs a im w hs hm Dd
theorem lq (hn:fs.length=n) (hE:da fs io=0) (hm2:nB fs io=im) (A:Option Addr) (c:Nat) (a:MA) (w:World) (hs:Sl w (.slice A n c) fs) (hm:d9 w.heap.size w a io) :
  Calls Tryz.prog 52 #[.agg #[.slice A n c],.agg #[.slice a.Af 1 a.cf,.slice a.Ab 0 a.cb,.slice a.Ai 0 a.ci,.slice a.Ao 0 a.co,.int .i64 0,.int .i64 0]] w fun e w'=> ∃g:MA,True/\
   e= .returned (.tuple #[.agg #[.slice g.Af 1 g.cf,.slice g.Ab 0 g.cb,.slice g.Ai 0 g.ci,.slice g.Ao 0 g.co,.int .i64 0,.int .i64 0],.int .i64 0])/\Cw w.heap.size w [af (.slice g.Af 1 g.cf) im.frames,af (.slice g.Ab 0 g.cb) im.blocks,af (.slice g.Ai 0 g.ci) im.inn,af (.slice g.Ao 0 g.co) im.out] w':=by
 subst hn
 have:=qR A c fs a io im hm2 w hs hm vL
 rw[hE] at this
 exact this
theorem lp (hn:fs.length=n) (hE:da fs io=0) (hm2:nB fs io=po) (A:Option Addr) (c:Nat) (a:MA) (w:World) (hs:Sl w (.slice A n c) fs) (hm:d9 w.heap.size w a io) :
  Calls Tryz.prog 52 #[.agg #[.slice A n c],.agg #[.slice a.Af 1 a.cf,.slice a.Ab 0 a.cb,.slice a.Ai 0 a.ci,.slice a.Ao 0 a.co,.int .i64 0,.int .i64 0]] w fun e w'=> ∃g:MA,True/\
   e= .returned (.tuple #[.agg #[.slice g.Af 1 g.cf,.slice g.Ab 0 g.cb,.slice g.Ai 0 g.ci,.slice g.Ao 0 g.co,.int .i64 1,.int .i64 0],.int .i64 0])/\Cw w.heap.size w [af (.slice g.Af 1 g.cf) po.frames,af (.slice g.Ab 0 g.cb) po.blocks,af (.slice g.Ai 0 g.ci) po.inn,af (.slice g.Ao 0 g.co) po.out] w':=by
 subst hn
 have:=qR A c fs a io po hm2 w hs hm vL
 rw[hE] at this
 exact this
end
section
variable {B:Nat} {w0 w:World} {H H1 H2 H3 H4:List aq}
theorem ia {g:MA} {m:ar} {nf nb ni no:Nat} (hw:Cw B w0 H w) (hf:bu H (af (.slice g.Af nf g.cf) m.frames) H1) (hb:bu H (af (.slice g.Ab nb g.cb) m.blocks) H2) (hi:bu H (af (.slice g.Ai ni g.ci) m.inn) H3) (ho:bu H (af (.slice g.Ao no g.co) m.out) H4) (e1:m.frames.length=nf) (e2:m.blocks.length=nb) (e3:m.inn.length=ni) (e4:m.out.length=no) (hs:ay m.status) (ht:ay m.trap):d9 w.heap.size w g m:=by
 subst e1 e2 e3 e4
 exact⟨SF.at_ (SF.own rfl hf) hw,SF.at_ (SF.own rfl hb) hw,SF.at_ (SF.own rfl hi) hw,SF.at_ (SF.own rfl ho) hw,hs,ht⟩
end
section
variable {P:Program} {n:NF} {B:Nat} {w0:World} {H H':List aq} {Q:Exit->Act->World->Prop} {env:be} {x:Code}
structure G8 (B:Nat) (w0:World) (X:aq) (k:Nat) (A:Option Addr) (c:Nat) (fr:List au) (hs:List ap):Prop where
 el:∀i,i<k->∃Al cl As cs,hs.getD i default=⟨(aG fr i).func,(aG fr i).pc,.slice Al (aG fr i).locals.length cl,.slice As (aG fr i).stack.length cs⟩/\
  (∀H H',bu H X H'->SF B w0 H Al (aG fr i).locals.length cl (aG fr i).locals/\SF B w0 H As (aG fr i).stack.length cs (aG fr i).stack)
 len:hs.length=k
 back:∀H H' H'' w,bu H (af (.slice A k c) hs) H'->bu H' X H''->Cw B w0 H w->Cw B w0 (af (.slice A k c) fr::H'') w
theorem SF.hfr {A:Option Addr} {xs:List ap} {m c k:Nat} {h:ap} (hs:SF B w0 H A m c xs) (hk:k<m) (e:xs.getD k default=h):∀w,Cw B w0 H w->∀j v,([.int .i64 h.func,.int .i64 h.pc,h.lv,h.sv]:List Value)[j]? =some v->w.cell? ⟨ab A,ao A+k*4+j,none⟩=some v:=fun w hw j v hv=>SF.cell hs hk default (by rw[e];exact hv) w hw
theorem o8 {l:List (ap×au)} {i:Nat} (hi:i<l.length) {w:World} (h:Cw B w0 (cL l::H) w):Sl w l[i].1.lv l[i].2.locals/\Sl w l[i].1.sv l[i].2.stack:=by
 have h1:Cw B w0 (af l[i].1.lv l[i].2.locals::af l[i].1.sv l[i].2.stack::(cL (l.eraseIdx i)::H)) w:=xI hi h
 obtain⟨F1,k1,_⟩:=h1.rd bu.a
 obtain⟨F2,k2,_⟩:=h1.rd (bu.s bu.a)
 exact⟨bn.sl k1,bn.sl k2⟩
theorem yT {A:Option Addr} {k c:Nat} {fr:List au} (hk:fr.length=k) (hp:bu H (af (.slice A k c) fr) H')
  (h:∀(X:aq) (hs:List ap),G8 B w0 X k A c fr hs->CW P n B w0 x Q env (af (.slice A k c) hs::X::H')):CW P n B w0 x Q env H:=fun a w hf hw=>by
 obtain⟨l,hl,hok,h3⟩:=yf (hw.perm hp)
 have hll:l.length=k:=by rw[<-hk,<-hl,aL]
 refine h (cL l) (l.map Prod.fst) ⟨fun i hi=>?_,by rw[aL,hll],fun H1 H2 H3 w f1 f2 hw=>?_⟩ a w hf h3
 ·have hi':i<l.length:=by omega
  obtain⟨s1,s2⟩:=o8 hi' (h3.perm (List.Perm.swap ..))
  have hfr:aG fr i=l[i].2:=by
   unfold aG
   rw[<-hl,ac,b8,ae hi']
   rfl
  have hfi:=hok l[i] (cc hi')
  obtain⟨Al,cl,e1,_⟩:=s1.form
  obtain⟨As,cs,e2,_⟩:=s2.form
  refine⟨Al,cl,As,cs,?_,fun H1 H2 f=>⟨⟨by rw[hfr],fun w hw=>?_⟩,⟨by rw[hfr],fun w hw=>?_⟩⟩⟩
  ·rw[ac,b8,ae hi',hfr,<-e1,<-e2]
   show l[i].1=_
   have h1:l[i].1.func=l[i].2.func:=hfi.1
   have h2:l[i].1.pc=l[i].2.pc:=hfi.2
   rw[<-h1,<-h2]
  ·have:=(o8 hi' (hw.perm f)).1
   rw[e1] at this
   rw[hfr];exact this
  have:=(o8 hi' (hw.perm f)).2
  rw[e2] at this
  rw[hfr];exact this
 have:=pR (v:= .slice A k c) (H:=H3) hok ((hw.perm f1).perm (List.Perm.cons _ f2))
 rw[hl] at this
 exact this
end
end
section
theorem oQ (w:World):Calls Tryz.prog 44 #[] w fun e w'=>e= .returned (.bool true)/\Below w.heap.size w w':=by
 obtain⟨f1,f2,f3,f4,f5,f6,f7,f8,f9⟩:=wm
 refine enter Tryz.func44 rfl Tryz.ntmps44 rfl<|aa ?_
 refine eI rfl Ed (fun w hw=>jW w) (fun gp _=>?_)
 refine eI rfl HT (fun w hw=>n9 f1 f2 rfl _ _ w (SF.at_ (SF.own rfl fc) hw)) (fun a1 _=>aa ?_)
 intro g1 _
 refine ed (eo _ fc GY rfl rfl rfl rfl rfl (by rfl) rfl (by rfl)) rfl rfl (fun _ _=>?_)
 refine aC ?_
 refine bE<|dV (fun _:Nat×MA=>True) (fun g=> [(2,.int .i64 0),(3,.pointer (some ⟨g.1,0,none⟩)),(4,.int .i64 0)]) (fun g=> [ah g.1 [.slice g.2.Af 1 g.2.cf,.slice g.2.Ab 0 g.2.cb,.slice g.2.Ai 0 g.2.ci,.slice g.2.Ao 0 g.2.co,.int .i64 0,.int .i64 0] 43,af (.slice g.2.Af 1 g.2.cf) im.frames,af (.slice g.2.Ab 0 g.2.cb) im.blocks,af (.slice g.2.Ai 0 g.2.ci) im.inn,af (.slice g.2.Ao 0 g.2.co) im.out]) ?_ ?_
 ·refine jd (.still 1 (.pick 0 (.pick 2 (.calm 3 (.calm 4 (.calm 5 (.pick 6 (.pick 7 (.calm 8 .done) .stop) .stop)))) (.pick 6 (.pick 2 (.calm 3 (.calm 4 (.calm 5 (.pick 7 (.calm 8 .done) .stop)))) .stop) .stop)) (.pick 6 (.pick 0 (.pick 2 (.calm 3 (.calm 4 (.calm 5 (.pick 7 (.calm 8 .done) .stop)))) .stop) .stop) .stop))) [2,3,4,5,7,8] rfl (by kernel_rfl) (by kernel_rfl) ?_
  refine aa ?_
  refine dG rfl (mY rfl rfl rfl Ed (fun w hw=>jW w)) rfl rfl (.inr fun _=>ha) (fun gq _=>?_) ?_
  ·refine dG rfl (mY rfl rfl rfl ry (fun w hw=>lq rfl f3 f4 _ _ a1 w (SF.at_ (SF.own rfl fc) hw) (ia hw fc fc fc fc rfl rfl rfl rfl (by decide) (by decide)))) rfl rfl (.inl rfl) (fun a2 _=>?_) ?_
   ·refine aa ?_
    intro q _
    refine aa ?_
    refine cG<|dh (q,a2) (trivial) (hh:=(fun _ h=>h.msub ms))
   refine aa ?_
   intro q _
   refine lF rfl rfl ry (fun w hw=>lq rfl f3 f4 _ _ a1 w (SF.at_ (SF.own rfl fc) hw) (ia hw fc fc fc fc rfl rfl rfl rfl (by decide) (by decide))) (fun a2 _=>aa ?_)
   refine cG<|dh (q,a2) (trivial) (hh:=(fun _ h=>h.msub ms))
  refine aa ?_
  intro q _
  refine lF rfl rfl Ed (fun w hw=>jW w) (fun gq _=>?_)
  refine lF rfl rfl ry (fun w hw=>lq rfl f3 f4 _ _ a1 w (SF.at_ (SF.own rfl fc) hw) (ia hw fc fc fc fc rfl rfl rfl rfl (by decide) (by decide))) (fun a2 _=>aa ?_)
  refine cG<|dh (q,a2) (trivial) (hh:=(fun _ h=>h.msub ms))
 rintro⟨gn,a2⟩ _
 refine aT ?_
 refine eI rfl rx (fun w hw=>hZ w) (fun gs _=>?_)
 refine eI rfl HT (fun w hw=>n9 f6 f7 rfl _ _ w (SF.at_ (SF.own rfl fc) hw)) (fun a3 _=>aa ?_)
 intro g2 _
 refine ed (eo _ fc GY rfl rfl rfl rfl rfl (by rfl) rfl (by rfl)) rfl rfl (fun _ _=>?_)
 refine aC ?_
 refine bE<|dV (fun _:Nat×MA=>True) (fun g=> [(2,.int .i64 0),(3,.pointer (some ⟨gn,0,none⟩)),(4,.int .i64 0),(6,.int .i64 0),(7,.pointer (some ⟨g.1,0,none⟩)),(8,.int .i64 0)]) (fun g=> [ah g.1 [.slice g.2.Af 1 g.2.cf,.slice g.2.Ab 0 g.2.cb,.slice g.2.Ai 0 g.2.ci,.slice g.2.Ao 0 g.2.co,.int .i64 1,.int .i64 0] 43,af (.slice g.2.Af 1 g.2.cf) po.frames,ah gn [.slice a2.Af 1 a2.cf,.slice a2.Ab 0 a2.cb,.slice a2.Ai 0 a2.ci,.slice a2.Ao 0 a2.co,.int .i64 0,.int .i64 0] 43,af (.slice a2.Af 1 a2.cf) im.frames,af (.slice a2.Ab 0 a2.cb) im.blocks,af (.slice a2.Ai 0 a2.ci) im.inn,af (.slice a2.Ao 0 a2.co) im.out]) ?_ ?_
 ·refine jd (.still 1 (.pick 0 (.pick 2 (.calm 3 (.calm 4 (.calm 5 (.pick 6 (.pick 7 (.calm 8 .done) .stop) .stop)))) (.pick 6 (.pick 2 (.calm 3 (.calm 4 (.calm 5 (.pick 7 (.calm 8 .done) .stop)))) .stop) .stop)) (.pick 6 (.pick 0 (.pick 2 (.calm 3 (.calm 4 (.calm 5 (.pick 7 (.calm 8 .done) .stop)))) .stop) .stop) .stop))) [2,3,4,5,7,8] rfl (by kernel_rfl) (by kernel_rfl) ?_
  refine aa ?_
  refine dG rfl (mY rfl rfl rfl rx (fun w hw=>hZ w)) rfl rfl (.inr fun _=>ha) (fun gq _=>?_) ?_
  ·refine dG rfl (mY rfl rfl rfl ry (fun w hw=>lp rfl f8 f9 _ _ a3 w (SF.at_ (SF.own rfl fc) hw) (ia hw fc fc fc fc rfl rfl rfl rfl (by decide) (by decide)))) rfl rfl (.inl rfl) (fun a4 _=>?_) ?_
   ·refine aa ?_
    intro q _
    refine aa ?_
    refine cG<|dh (q,a4) (trivial) (hh:=(fun _ h=>h.msub ms))
   refine aa ?_
   intro q _
   refine lF rfl rfl ry (fun w hw=>lp rfl f8 f9 _ _ a3 w (SF.at_ (SF.own rfl fc) hw) (ia hw fc fc fc fc rfl rfl rfl rfl (by decide) (by decide))) (fun a4 _=>aa ?_)
   refine cG<|dh (q,a4) (trivial) (hh:=(fun _ h=>h.msub ms))
  refine aa ?_
  intro q _
  refine lF rfl rfl rx (fun w hw=>hZ w) (fun gq _=>?_)
  refine lF rfl rfl ry (fun w hw=>lp rfl f8 f9 _ _ a3 w (SF.at_ (SF.own rfl fc) hw) (ia hw fc fc fc fc rfl rfl rfl rfl (by decide) (by decide))) (fun a4 _=>aa ?_)
  refine cG<|dh (q,a4) (trivial) (hh:=(fun _ h=>h.msub ms))
 rintro⟨gw,a4⟩ _
 try dsimp only
 refine yT (k:=1) (c:=a2.cf) (A:=a2.Af) (fr:=im.frames) rfl fc fun X hsX hX=>?_
 refine yT (k:=1) (c:=a4.cf) (A:=a4.Af) (fr:=po.frames) rfl fc fun Y hsY hY=>?_
 obtain⟨B1,d1,B2,d2,e1,hX1⟩:=hX.el 0 (by decide)
 obtain⟨B3,d3,B4,d4,e2,hY1⟩:=hY.el 0 (by decide)
 have hS:∀H H',bu H X H'->SF w.heap.size w H B2 1 d2 [(⟨false,3⟩:ax)]:=fun _ _ f=>(hX1 _ _ f).2
 refine aa ?_
 refine bM [0,3,6,9,12,15,18,21,24,27,30,33,36,39,42,48,47,53,54,57,60,63,66,69,72,75,78,81,84,87,90,93,96,99,102,105,108,111,114,117,120,123,126,129,132,135,138,141,144,147,150,153,156,159,162,165,168,171,174,177,180,183,186,189,192,195,198,201] [] rfl ?_
 refine aC ?_
 refine aC ?_
 refine aC ?_
 refine fg (t:=33) (v':= .bool true) rfl (rfl) ?_
 refine aC ?_
 refine aC ?_
 refine aC ?_
 refine aC ?_
 refine fg (t:=37) (v':= .bool true) rfl (rfl) ?_
 refine aC ?_
 refine aC ?_
 refine aC ?_
 refine aC ?_
 refine fg (t:=41) (v':= .bool true) rfl (rfl) ?_
 refine aC ?_
 refine aC ?_
 refine aC ?_
 refine aC ?_
 refine fg (t:=45) (v':= .bool true) rfl (rfl)<|aa ?_
 refine lF rfl rfl Ed (fun w hw=>jW w) (fun gc _=>?_)
 refine k0 rfl rfl xe (fun w hw=>uW rfl f5 _ _ a2 w (SF.at_ (SF.own rfl fc) hw) ⟨SF.at_ (SF.own rfl .a) (hX.back _ _ _ w fc fc hw),SF.at_ (SF.own rfl fc) hw,SF.at_ (SF.own rfl fc) hw,SF.at_ (SF.own rfl fc) hw,by decide,by decide⟩) ?_
 refine aC ?_
 refine aC ?_
 refine aC ?_
 refine fg (t:=51) (v':= .bool true) rfl (rfl) ?_
 refine aC ?_
 refine cK rfl (eG fc Ht rfl rfl (by rfl)) rfl rfl ha ?_
 refine cK rfl (mW cV rfl rfl) rfl rfl ha ?_
 refine aC ?_
 refine aC ?_
 refine aC ?_
 refine fg (t:=57) (v':= .bool true) rfl (rfl)<|aa ?_
 refine tE rfl (bS (k:=0) cV ek (SF.own (α:=ap) hX.len fc) (by omega) rfl rfl rfl)<|aa ?_
 refine tE rfl (cB (fun w hw=>(SF.hfr (SF.own (α:=ap) hX.len fc) (k:=0) (by decide) e1) w hw 1 _ rfl) rfl rfl bT) ?_
 refine aC ?_
 refine aC ?_
 refine aC ?_
 refine fg (t:=65) (v':= .bool true) rfl (rfl)<|aa ?_
 refine tE rfl (bS (k:=0) cV ek (SF.own (α:=ap) hX.len fc) (by omega) rfl rfl rfl)<|aa ?_
 refine tE rfl (cB (fun w hw=>(SF.hfr (SF.own (α:=ap) hX.len fc) (k:=0) (by decide) e1) w hw 3 _ rfl) rfl rfl jy) ?_
 refine cK rfl (mW bK rfl rfl) rfl rfl ha ?_
 refine aC ?_
 refine aC ?_
 refine aC ?_
 refine fg (t:=74) (v':= .bool true) rfl (rfl)<|aa ?_
 refine tE rfl (bS (k:=0) cV ek (SF.own (α:=ap) hX.len fc) (by omega) rfl rfl rfl)<|aa ?_
 refine tE rfl (cB (fun w hw=>(SF.hfr (SF.own (α:=ap) hX.len fc) (k:=0) (by decide) e1) w hw 3 _ rfl) rfl rfl jy) ?_
 refine tE rfl (bS (k:=0) bK eP (hS _ _ fc) (by omega) rfl rfl rfl)<|aa ?_
 refine tE rfl (cB (fun w hw=>(SF.val (k:=0) (hS _ _ fc) (by decide) default) w hw 1 _ rfl) rfl rfl bT) ?_
 refine aC ?_
 refine aC ?_
 refine aC ?_
 refine fg (t:=85) (v':= .bool true) rfl (rfl) ?_
 refine aC ?_
 refine cK rfl (eG fc bT rfl rfl (by rfl)) rfl rfl ha ?_
 refine aC ?_
 refine aC ?_
 refine aC ?_
 refine fg (t:=90) (v':= .bool true) rfl (rfl)<|aa ?_
 refine tE rfl (bS (k:=0) cV ek (SF.own (α:=ap) hY.len fc) (by omega) rfl rfl rfl)<|aa ?_
 refine tE rfl (cB (fun w hw=>(SF.hfr (SF.own (α:=ap) hY.len fc) (k:=0) (by decide) e2) w hw 1 _ rfl) rfl rfl bT)<|aa ?_
 intro w hw
 exact⟨rfl,hw.below⟩
end
section
theorem qm {fs:List ai} {m:ar} (h:da fs m=0):iR fs/\fl fs m:=by
 unfold da at h
 split at h
 ·rename_i h2;exact absurd h h2
 rename_i h2;exact⟨oT (fu.1 h2),qJ.1 h⟩
end
section
def bB (l:List ax):List Int:=(l.filter fun v=>v.ref && decide (0<v.n)).map fun v=>v.n
def kX (m:ar):List Int:=m.frames.flatMap fun x=>bB x.locals++bB x.stack
theorem AR (a b:List ax):bB (a++b)=bB a++bB b:=by unfold bB;rw[List.filter_append,dw]
theorem AQ (v:ax):bB [v]=if v.ref=true/\0<v.n then [v.n] else []:=by
 unfold bB
 by_cases h:v.ref=true/\0<v.n
 ·rw[if_pos h,List.filter_cons_of_pos (by simp[h.1,h.2])];rfl
 rw[if_neg h,List.filter_cons_of_neg (by simpa using h)];rfl
theorem qX {l:List ax} {k:Nat} (hk:k<l.length):bB (l.take (k+1))=bB (l.take k)++bB [l.getD k default]:=by rw[dT l k default hk,AR]
theorem jJ (l:List ax):(bB l).length<=l.length:=by
 unfold bB
 rw[aL]
 exact List.length_filter_le _ _
section
variable {B:Nat} {w0:World} {H:List aq}
theorem vc {A:Option Addr} {m c k:Nat} {xs:List ax} (h:aU w0 B (.slice A m c) xs) (hk:k<m):ay (xs.getD k default).n:=by
 obtain⟨cs,⟨_,hi⟩,_⟩:=h.elr hk default
 exact hi
theorem tH (go b o:Nat) (v:ax) (hi:ay v.n) (hv:∀(H:List aq) (w:World),Cw B w0 H w->∀j u,([.bool v.ref,.int .i64 v.n]:List Value)[j]? =some u->w.cell? ⟨b,o+j,none⟩=some u) (acc:List Int) (A:Option Addr) (c:Nat) (hb:acc.length<=1000000) (w:World)
  (hw:Cw B w0 (ah go [.slice A acc.length c] 35::af (.slice A acc.length c) acc::H) w) :
  Calls Tryz.prog 166 #[.pointer (some ⟨b,o,none⟩),.pointer (some ⟨go,0,none⟩)] w fun e w'=> ∃g:Option Addr×Nat,True/\e= .returned (.tuple #[])/\Cw B w0 (ah go [.slice g.1 (acc++bB [v]).length g.2] 35::af (.slice g.1 (acc++bB [v]).length g.2) (acc++bB [v])::H) w':=by
 obtain⟨r,n⟩:=v
 have hg:=AQ ⟨r,n⟩
 refine a8 Tryz.func166 rfl Tryz.ntmps166 rfl hw<|aa ?_
 refine eB rfl (fun w hw=>hv _ w hw 0 _ rfl) ?_
 refine aC ?_
 cases r
 ·rw[if_neg (by simp)] at hg
  rw[hg,eA]
  refine eC (t:=7) (v':= .bool false) rfl (rfl)<|aa ?_
  refine di rfl<|aa ?_
  intro w hw
  exact⟨(A,c),trivial,rfl,hw.msub ms⟩
 refine eC (t:=7) (v':= .bool true) rfl (rfl)<|aa ?_
 refine eB rfl (fun w hw=>hv _ w hw 1 _ rfl)<|an (fun hn=>?_) (fun hn=>?_)
 ·have hn:0<n:=hn
  rw[if_pos ⟨rfl,hn⟩] at hg
  rw[hg]
  refine eO [0,3,6,9,12,17,20,23] [7] rfl [ah go [.slice A acc.length c] 35]<|aa ?_
  refine tE rfl (cB (fun w hw=>hv _ w hw 1 _ rfl) rfl rfl bT)<|aa ?_
  intro g1 _
  refine pE rfl (dx (α:=Int) (bytes:=8) n [] rfl aJ (bQ e9) rfl (fQ fc fc) (qq hi) (by omega) (by omega) rfl rfl rfl) (fun⟨A3,c3⟩ _=>?_)
  refine aT ?_
  intro w hw
  exact⟨(A3,c3),trivial,rfl,hw.msub ms⟩
 have hn:¬0<n:=hn
 rw[if_neg (fun h=>hn h.2)] at hg
 rw[hg,eA]
 refine aa ?_
 intro w hw
 exact⟨(A,c),trivial,rfl,hw.msub ms⟩
theorem qD {m:ar} {i:Nat} (hi:i<m.frames.length):((m.frames.take (i+1)).flatMap fun x=>bB x.locals++bB x.stack)=((m.frames.take i).flatMap fun x=>bB x.locals++bB x.stack)++(bB (aG m.frames i).locals++bB (aG m.frames i).stack):=by
 rw[ve hi,List.flatMap_append]
 simp
theorem wC {m:ar} (_hn:m.frames.length<=6) (hf:∀x∈m.frames,x.locals.length<=1000/\x.stack.length<=8) (i:Nat):((m.frames.take i).flatMap fun x=>bB x.locals++bB x.stack).length<=1008*i:=by
 induction i with
 | zero=>simp
 | succ i ih=>
  by_cases h:i<m.frames.length
  ·rw[qD h,ag,ag]
   have h1:=hf _ (fk h)
   have h2:=jJ (aG m.frames i).locals
   have h3:=jJ (aG m.frames i).stack
   omega
  rw[aN (by omega)]
  rw[aN (by omega)] at ih
  omega
theorem yN (g go:Nat) (a:MA) (m:ar) (hm:d9 B w0 a m) (hn6:m.frames.length<=6) (hfs:∀x∈m.frames,x.locals.length<=1000/\x.stack.length<=8) (A:Option Addr) (c:Nat) (w:World)
  (hw:Cw B w0 (ah g [.slice a.Af m.frames.length a.cf,.slice a.Ab m.blocks.length a.cb,.slice a.Ai m.inn.length a.ci,.slice a.Ao m.out.length a.co,.int .i64 m.status,.int .i64 m.trap] 43::ah go [.slice A 0 c] 35::af (.slice A 0 c) ([]:List Int)::H) w) :
  Calls Tryz.prog 163 #[.pointer (some ⟨g,0,none⟩),.func (.func 166) #[] #[.pointer (some ⟨go,0,none⟩)]] w fun e w'=> ∃q:Option Addr×Nat,True/\e= .returned (.tuple #[])/\Cw B w0 (ah g [.slice a.Af m.frames.length a.cf,.slice a.Ab m.blocks.length a.cb,.slice a.Ai m.inn.length a.ci,.slice a.Ao m.out.length a.co,.int .i64 m.status,.int .i64 m.trap] 43::ah go [.slice q.1 (kX m).length q.2] 35::af (.slice q.1 (kX m).length q.2) (kX m)::H) w':=by
 have bf:=bt hm.f
 refine a8 Tryz.func163 rfl Tryz.ntmps163 rfl hw<|aa ?_
 refine dH (fun g2:Nat×(Option Addr×Nat)=>g2.1<=m.frames.length) (fun g2=>m.frames.length - g2.1) (fun g2=> [(0,.pointer (some ⟨g,0,none⟩)),(1,.func (.func 166) #[] #[.pointer (some ⟨go,0,none⟩)]),(12,.int .i64 (m.frames.length:Int)),(13,.int .i64 (g2.1:Int))]) (fun g2=>ah g [.slice a.Af m.frames.length a.cf,.slice a.Ab m.blocks.length a.cb,.slice a.Ai m.inn.length a.ci,.slice a.Ao m.out.length a.co,.int .i64 m.status,.int .i64 m.trap] 43::ah go [.slice g2.2.1 ((m.frames.take g2.1).flatMap fun x=>bB x.locals++bB x.stack).length g2.2.2] 35::af (.slice g2.2.1 ((m.frames.take g2.1).flatMap fun x=>bB x.locals++bB x.stack).length g2.2.2) ((m.frames.take g2.1).flatMap fun x=>bB x.locals++bB x.stack)::H) (0,(A,c)) (br _) ?_ (hh:=(fun w h=>h.msub ms))
 rintro⟨i,⟨A1,c1⟩⟩ hi'
 try dsimp only
 have hi:i<=m.frames.length:=hi'
 have hsm:=wC hn6 hfs i
 refine an (fun hlt=>?_) (fun hlt=>?_)
 ·have hil:i<m.frames.length:=by omega
  obtain⟨F1,d1,F2,d2,hl,hst,hI,hcell⟩:=hm.f.fr hil
  have hxs:=hfs _ (fk hil)
  have hsn:=qD hil
  generalize hacc:((m.frames.take i).flatMap fun x=>bB x.locals++bB x.stack)=acc at hsm hsn
  generalize hx:aG m.frames i=x at hl hst hI hcell hxs hsn
  have hg1:=jJ x.locals
  have hg2:=jJ x.stack
  refine aa ?_
  refine bM [0,3,6,9,12,15,18,21,24,27,30,33,36,39,42,45,54,50,51] [] rfl<|aa ?_
  refine tE rfl (bS (k:=i) cV ek (.ro hm.f) (by omega) rfl rfl rfl)<|aa ?_
  refine tE rfl (cB (fun w hw=>hcell _ w hw 2 _ rfl) rfl rfl jy)<|aa ?_
  refine tE rfl (bS (k:=i) cV ek (.ro hm.f) (by omega) rfl rfl rfl)<|aa ?_
  refine tE rfl (cB (fun w hw=>hcell _ w hw 3 _ rfl) rfl rfl jy)<|aa ?_
  refine fun g1 _=>aa ?_
  refine dH (fun q:Nat×(Option Addr×Nat)=>q.1<=2) (fun q=>2 - q.1) (fun q=> [(0,.pointer (some ⟨g,0,none⟩)),(1,.func (.func 166) #[] #[.pointer (some ⟨go,0,none⟩)]),(12,.int .i64 (m.frames.length:Int)),(13,.int .i64 (i:Int)),(32,.slice (some ⟨g1,0,none⟩) 2 2),(33,.int .i64 2),(34,.int .i64 (q.1:Int))]) (fun q=>ah go [.slice q.2.1 (acc++(if q.1=0 then [] else if q.1=1 then bB x.locals else bB x.locals++bB x.stack)).length q.2.2] 35::af (.slice q.2.1 (acc++(if q.1=0 then [] else if q.1=1 then bB x.locals else bB x.locals++bB x.stack)).length q.2.2) (acc++(if q.1=0 then [] else if q.1=1 then bB x.locals else bB x.locals++bB x.stack))::ah g1 [.slice F1 x.locals.length d1,.slice F2 x.stack.length d2] 116::ah g [.slice a.Af m.frames.length a.cf,.slice a.Ab m.blocks.length a.cb,.slice a.Ai m.inn.length a.ci,.slice a.Ao m.out.length a.co,.int .i64 m.status,.int .i64 m.trap] 43::H) (0,(A1,c1)) (br _) ?_ (hh:=(fun w h=>(show Cw _ _ (ah go [.slice A1 (acc++ []).length c1] 35::af (.slice A1 (acc++ []).length c1) (acc++ [])::ah g1 [.slice F1 x.locals.length d1,.slice F2 x.stack.length d2] 116::ah g [.slice a.Af m.frames.length a.cf,.slice a.Ab m.blocks.length a.cb,.slice a.Ai m.inn.length a.ci,.slice a.Ao m.out.length a.co,.int .i64 m.status,.int .i64 m.trap] 43::H) w from by rw[eA];exact h.msub ms)))
  rintro⟨j,⟨A2,c2⟩⟩ hj'
  try dsimp only
  have hj:j<=2:=hj'
  refine an (fun hlt2=>?_) (fun hlt2=>?_)
  ·rcases(show j=0\/j=1 by omega) with rfl | rfl
   ·try dsimp only
    rw[if_pos rfl,eA]
    refine aa ?_
    refine sE (iY (k:=0) jf iU rfl (by decide) rfl rfl rfl) ?_
    refine eB rfl (fun w hw=>dC (v:= .slice F1 x.locals.length d1) fc rfl w hw)<|aa ?_
    refine dH (fun q:Nat×(Option Addr×Nat)=>q.1<=x.locals.length) (fun q=>x.locals.length - q.1) (fun q=> [(0,.pointer (some ⟨g,0,none⟩)),(1,.func (.func 166) #[] #[.pointer (some ⟨go,0,none⟩)]),(6,.slice F1 x.locals.length d1),(12,.int .i64 (m.frames.length:Int)),(13,.int .i64 (i:Int)),(32,.slice (some ⟨g1,0,none⟩) 2 2),(33,.int .i64 2),(34,.int .i64 0),(39,.int .i64 (x.locals.length:Int)),(40,.int .i64 (q.1:Int))]) (fun q=>ah go [.slice q.2.1 (acc++bB (x.locals.take q.1)).length q.2.2] 35::af (.slice q.2.1 (acc++bB (x.locals.take q.1)).length q.2.2) (acc++bB (x.locals.take q.1))::ah g1 [.slice F1 x.locals.length d1,.slice F2 x.stack.length d2] 116::ah g [.slice a.Af m.frames.length a.cf,.slice a.Ab m.blocks.length a.cb,.slice a.Ai m.inn.length a.ci,.slice a.Ao m.out.length a.co,.int .i64 m.status,.int .i64 m.trap] 43::H) (0,(A2,c2)) (br _) ?_ (hh:=(fun w h=>(show Cw _ _ (ah go [.slice A2 (acc++bB (x.locals.take 0)).length c2] 35::af (.slice A2 (acc++bB (x.locals.take 0)).length c2) (acc++bB (x.locals.take 0))::ah g1 [.slice F1 x.locals.length d1,.slice F2 x.stack.length d2] 116::ah g [.slice a.Af m.frames.length a.cf,.slice a.Ab m.blocks.length a.cb,.slice a.Ai m.inn.length a.ci,.slice a.Ao m.out.length a.co,.int .i64 m.status,.int .i64 m.trap] 43::H) w from by rw[List.take_zero,show bB []= [] from rfl,eA];exact h.msub ms)))
    rintro⟨k,⟨A3,c3⟩⟩ hk'
    try dsimp only
    have hk:k<=x.locals.length:=hk'
    refine an (fun hlt3=>?_) (fun hlt3=>?_)
    ·have hkl:k<x.locals.length:=by omega
     have hgk:=jJ (x.locals.take k)
     rw[am] at hgk
     have hsk:=qX hkl
     refine aa ?_
     refine dA (k) rfl ((.ro hl)) ?_
     refine oE (eu rfl rfl rfl Tryz.call166 (fun w hw=>tH go (ab F1) (ao F1+k*2) (x.locals.getD k default) (vc hl hkl) (fun H w hw j u hu=>SF.val (SF.ro hl) hkl default w hw j u hu) (acc++bB (x.locals.take k)) A3 c3 (by simp only[ag];omega) w (hw.msub (.s fc (.s fc .r))))) (fun⟨A4,c4⟩ _=>?_)
     refine aT ?_
     rw[bg,<-hsk]
     refine dm (k+1,(A4,c4)) (by show k+1<=_;omega) (by show _ - _<_ - _;omega) (hh:=(fun w h=>h.msub ms))
    obtain rfl:k=x.locals.length:=by omega
    rw[bL]
    refine aa ?_
    refine dm (1,(A3,c3)) ((by decide:1<=2)) (by show 2 - 1<2 - 0;decide) (hh:=(fun w h=>h.msub ms))
   try dsimp only
   rw[if_neg (by decide),if_pos rfl]
   refine aa ?_
   refine sE (iY (k:=1) jf iU rfl (by decide) rfl rfl rfl) ?_
   refine eB rfl (fun w hw=>dC (v:= .slice F2 x.stack.length d2) fc rfl w hw)<|aa ?_
   refine dH (fun q:Nat×(Option Addr×Nat)=>q.1<=x.stack.length) (fun q=>x.stack.length - q.1) (fun q=> [(0,.pointer (some ⟨g,0,none⟩)),(1,.func (.func 166) #[] #[.pointer (some ⟨go,0,none⟩)]),(6,.slice F2 x.stack.length d2),(12,.int .i64 (m.frames.length:Int)),(13,.int .i64 (i:Int)),(32,.slice (some ⟨g1,0,none⟩) 2 2),(33,.int .i64 2),(34,.int .i64 1),(39,.int .i64 (x.stack.length:Int)),(40,.int .i64 (q.1:Int))]) (fun q=>ah go [.slice q.2.1 ((acc++bB x.locals)++bB (x.stack.take q.1)).length q.2.2] 35::af (.slice q.2.1 ((acc++bB x.locals)++bB (x.stack.take q.1)).length q.2.2) ((acc++bB x.locals)++bB (x.stack.take q.1))::ah g1 [.slice F1 x.locals.length d1,.slice F2 x.stack.length d2] 116::ah g [.slice a.Af m.frames.length a.cf,.slice a.Ab m.blocks.length a.cb,.slice a.Ai m.inn.length a.ci,.slice a.Ao m.out.length a.co,.int .i64 m.status,.int .i64 m.trap] 43::H) (0,(A2,c2)) (br _) ?_ (hh:=(fun w h=>(show Cw _ _ (ah go [.slice A2 ((acc++bB x.locals)++bB (x.stack.take 0)).length c2] 35::af (.slice A2 ((acc++bB x.locals)++bB (x.stack.take 0)).length c2) ((acc++bB x.locals)++bB (x.stack.take 0))::ah g1 [.slice F1 x.locals.length d1,.slice F2 x.stack.length d2] 116::ah g [.slice a.Af m.frames.length a.cf,.slice a.Ab m.blocks.length a.cb,.slice a.Ai m.inn.length a.ci,.slice a.Ao m.out.length a.co,.int .i64 m.status,.int .i64 m.trap] 43::H) w from by rw[List.take_zero,show bB []= [] from rfl,eA];exact h.msub ms)))
   rintro⟨k,⟨A3,c3⟩⟩ hk'
   try dsimp only
   have hk:k<=x.stack.length:=hk'
   refine an (fun hlt3=>?_) (fun hlt3=>?_)
   ·have hkl:k<x.stack.length:=by omega
    have hgk:=jJ (x.stack.take k)
    rw[am] at hgk
    have hsk:=qX hkl
    refine aa ?_
    refine dA (k) rfl ((.ro hst)) ?_
    refine oE (eu rfl rfl rfl Tryz.call166 (fun w hw=>tH go (ab F2) (ao F2+k*2) (x.stack.getD k default) (vc hst hkl) (fun H w hw j u hu=>SF.val (SF.ro hst) hkl default w hw j u hu) ((acc++bB x.locals)++bB (x.stack.take k)) A3 c3 (by simp only[ag];omega) w (hw.msub (.s fc (.s fc .r))))) (fun⟨A4,c4⟩ _=>?_)
    refine aT ?_
    rw[bg,<-hsk]
    refine dm (k+1,(A4,c4)) (by show k+1<=_;omega) (by show _ - _<_ - _;omega) (hh:=(fun w h=>h.msub ms))
   obtain rfl:k=x.stack.length:=by omega
   rw[bL]
   refine aa ?_
   rw[bg]
   refine dm (2,(A3,c3)) ((by decide:2<=2)) (by show 2 - 2<2 - 1;decide) (hh:=(fun w h=>h.msub ms))
  obtain rfl:j=2:=by omega
  try dsimp only
  rw[if_neg (by decide),if_neg (by decide),<-hsn]
  refine aa ?_
  refine dm (i+1,(A2,c2)) (by show i+1<=_;omega) (by show _ - _<_ - _;omega) (hh:=(fun w h=>h.msub ms))
 obtain rfl:i=m.frames.length:=by omega
 rw[bL]
 refine aa ?_
 intro w hw
 exact⟨(A1,c1),trivial,rfl,hw.msub ms⟩
end
end
section
theorem mi {l:List ax} {n:Int} :n∈bB l↔0<n/\∃v∈l,v.ref=true/\v.n=n:=by
 unfold bB
 rw[List.mem_map]
 constructor
 ·rintro⟨v,hv,rfl⟩
  obtain⟨h1,h2⟩:=List.mem_filter.1 hv
  simp only[cO,decide_eq_true_eq] at h2
  exact⟨h2.2,v,h1,h2.1,rfl⟩
 rintro⟨h0,v,hv,hr,rfl⟩
 exact⟨v,List.mem_filter.2 ⟨hv,by simp[hr,h0]⟩,rfl⟩
theorem xQ {m:ar} {n:Int} :n∈kX m↔0<n/\tm m n=true:=by
 unfold kX
 rw[List.mem_flatMap,oS]
 constructor
 ·rintro⟨x,hx,h⟩
  rcases cE.1 h with h | h
  ·obtain⟨h0,v,hv,hr,e⟩:=mi.1 h
   exact⟨h0,x,hx,v,fO _ hv,hr,e⟩
  obtain⟨h0,v,hv,hr,e⟩:=mi.1 h
  exact⟨h0,x,hx,v,ez _ hv,hr,e⟩
 rintro⟨h0,x,hx,v,hv,hr,e⟩
 refine⟨x,hx,?_⟩
 rcases cE.1 hv with h | h
 ·exact fO _ (mi.2 ⟨h0,v,h,hr,e⟩)
 exact ez _ (mi.2 ⟨h0,v,h,hr,e⟩)
theorem Ct {fs:List ai} {m:ar} (hR:fl fs m):Lib.compact (iu (kX m))=dz m:=by
 obtain⟨h1,h2⟩:=pQ (qH (kX m))
 refine mV h1 (ut m) fun n=>?_
 rw[h2,oI]
 unfold iu
 rw[List.mem_mergeSort,xQ]
 constructor
 ·rintro⟨h0,h⟩
  obtain⟨x,hx,v,hv,hr,rfl⟩:=oS.1 h
  have:=p9 hR hx hv hr
  exact⟨by omega,h⟩
 rintro⟨h0,h⟩
 exact⟨by omega,h⟩
theorem xS {m:ar} :(dz m).length<=m.blocks.length:=by
 unfold dz
 rw[aL]
 exact dv (List.length_filter_le _ _) (by rw[mK];exact aD _)
theorem C4 (w : World) : Calls Tryz.prog 274 #[.int .u64 0] w fun e w' => e = .returned (.int .i64 0) /\ w = w' := by
  go_enter Tryz.func274, Tryz.ntmps274
  go_wp2
  all_goals (go_ret; exact ⟨dE (by kernel_rfl), rfl⟩)
theorem Gh (w : World) : Calls Tryz.prog 220 #[.int .u64 0] w fun e w' => e = .returned (.int .i64 0) /\ w = w' := by
  go_enter Tryz.func220, Tryz.ntmps220
  go_wp2_with (first
    | (go_at_call 274; refine (C4 _).mono ?_; rintro e w' ⟨rfl, rfl⟩))
  all_goals (go_ret; exact ⟨rfl, rfl⟩)
theorem AN (A:Option Addr) (c:Nat) (w:World):Calls Tryz.prog 264 #[.slice A 0 c,.int .i64 0,.int .i64 0] w fun e w'=>e= .returned (.tuple #[])/\Below w.heap.size w w':=by
 refine enter Tryz.func264 rfl Tryz.ntmps264 rfl<|aa ?_
 refine dH (fun _:Unit=>True) (fun _=>0) (fun _=> [(0,.slice A 0 c),(1,.int .i64 0),(2,.int .i64 0),(6,.int .i64 1)]) (fun _=> []) () (trivial) ?_
 rintro _ _
 refine an (fun h=>?_) (fun h=>?_)
 ·exact absurd h (by decide)
 refine aa ?_
 intro w hw
 exact⟨rfl,hw.below⟩
theorem Aq (A:Option Addr) (c:Nat) (l:Int) (w:World):Calls Tryz.prog 219 #[.slice A 0 c,.int .i64 0,.int .i64 0,.int .i64 l] w fun e w'=>e= .returned (.tuple #[])/\Below w.heap.size w w':=by
 refine enter Tryz.func219 rfl Tryz.ntmps219 rfl<|aa ?_
 refine dH (fun _:Unit=>True) (fun _=>0) (fun _=> [(0,.slice A 0 c),(1,.int .i64 0),(2,.int .i64 0),(3,.int .i64 l),(8,.bool true),(9,.bool true)]) (fun _=> []) () (trivial) ?_
 rintro _ _
 refine an (fun h=>?_) (fun h=>?_)
 ·refine aa ?_
  refine cd rfl Tryz.call264 (fun w hw=>AN A c w)<|aa ?_
  intro w hw
  exact⟨rfl,hw.below⟩
 exact absurd (show (0:Int)<=12 by decide) h
theorem xD (A : Option Addr) (c : Nat) (w : World) : Calls Tryz.prog 167 #[.slice A 0 c] w fun e w' => e = .returned (.tuple #[]) /\ Below w.heap.size w w' := by
  go_enter Tryz.func167, Tryz.ntmps167
  go_wp2_with (first
    | (go_at_call 220; refine (Gh _).mono ?_; rintro e w' ⟨rfl, rfl⟩)
    | (go_at_call 219; refine (Aq _ _ _ _).mono ?_; rintro e w' ⟨rfl, hb⟩))
  all_goals (go_end0; exact ⟨rfl, (by repeat (first | exact Below.refl _ _ | assumption | refine Below.drew ?_ | refine Below.drewN_ ?_ _ | refine av ?_ _ | refine aP (by assumption) ?_ | refine aX ?_ (by simp <;> omega) _))⟩)
theorem tL (A:Option Addr) (c:Nat) (w:World):Calls Tryz.prog 168 #[.slice A 0 c] w fun e w'=>e= .returned (.slice A 0 c)/\Below w.heap.size w w':=
 (Any.slices_Compact_int_empty kN A c w).mono fun _ _ ⟨h1,h2⟩=>⟨h1,by rw[h2];exact Below.refl _ _⟩
theorem sD (fs:List ai) (a:MA) (m:ar) (w:World) (hm:d9 w.heap.size w a m) (hF:iR fs) (hR:fl fs m) :
  Calls Tryz.prog 116 #[.agg #[.slice a.Af m.frames.length a.cf,.slice a.Ab m.blocks.length a.cb,.slice a.Ai m.inn.length a.ci,.slice a.Ao m.out.length a.co,.int .i64 m.status,.int .i64 m.trap]] w fun e w'=> ∃q:Option Addr×Nat,True/\e= .returned (.slice q.1 (dz m).length q.2)/\Cw w.heap.size w [af (.slice q.1 (dz m).length q.2) (dz m)] w':=by
 have hfs:∀x∈m.frames,x.locals.length<=1000/\x.stack.length<=8:=fun x hx=>by
  obtain⟨i,hi,rfl⟩:=bN hx
  have h:=tu hF hR hi
  have e:aG m.frames i=m.frames[i]:=by
   unfold aG
   rw[ac,ae hi]
   rfl
  rw[e] at h
  exact⟨h.2,h.1⟩
 have heq:=Ct hR
 refine enter Tryz.func116 rfl Tryz.ntmps116 rfl<|aa ?_
 refine fun g1 _=>aa ?_
 intro g2 _
 refine bE<|dc (fun w h=>Cw.nilO Int h)<|aa ?_
 refine bU rfl Tryz.call163 (fun w hw=>yN g1 g2 a m hm hR.n6 hfs none 0 w (hw.msub (.s fc (.s fc (.s fc .r))))) (fun⟨A1,c1⟩ _=>?_)
 refine aT ?_
 generalize kX m=l at heq⊢
 generalize dz m=r at heq⊢
 subst heq
 rcases l with _ | ⟨x,l⟩
 ·rw[show iu ([]:List Int)= [] from by unfold iu;simp,show Lib.compact ([]:List Int)= [] from by decide]
  refine cd rfl Hz (fun w hw=>xD A1 c1 w)<|aa ?_
  refine cd rfl Hy (fun w hw=>tL A1 c1 w)<|aa ?_
  intro w hw
  exact⟨(A1,c1),trivial,rfl,hw.msub ms⟩
 have hsl:(iu (x::l)).length=(x::l).length:=by unfold iu;exact List.length_mergeSort _
 refine bU rfl Hz (fun w hw=>sn (hw.msub (.s fc .r)) (Nat.succ_pos _) (qi hw fc)) (fun _ _=>aa ?_)
 refine bU rfl Hy (fun w hw=>n4 (hw.msub (.s fc .r)) (Nat.succ_pos _) (qi hw fc)) (fun _ _=>aa ?_)
 intro w hw
 exact⟨(A1,c1),trivial,rfl,hw.msub ms⟩
end
section
theorem yH {l:List Int} {v:Int} (h:v∈l):∃k:Nat,kp l v=k/\k<l.length/\l.getD k 0=v:=by
 unfold kp
 cases e:l.findIdx? (· == v) with
 | none=>
  rw[List.findIdx?_eq_none_iff] at e
  have:=e v h
  simp at this
 | some k=>
  rw[jt] at e
  obtain⟨h1,h2,_⟩:=e
  refine⟨k,rfl,h1,?_⟩
  rw[ac,ae h1]
  simpa using h2
def fE {α:Type} (l:List α) (f:α->α) (k:Nat):List α:=(l.take k).map f++l.drop k
section
variable {B:Nat} {w0:World} {H:List aq}
theorem tI (g4 g6:Nat) (R:List Int) (r:Int->Int) (hri:∀n∈R,ay (r n)) (T1 R1:Option Addr) (t1 r1:Nat) (A:Option Addr) (m c k:Nat) (xs:List ax) (hk:k<m) (hok:BH (fun n=>n∈R) (xs.getD k default)) (hpos:(xs.getD k default).ref=true->0<=(xs.getD k default).n) (w:World)
  (hw:Cw B w0 (af (.slice A m c) xs::ah g6 [.slice T1 (R.map r).length t1] 35::af (.slice T1 (R.map r).length t1) (R.map r)::ah g4 [.slice R1 R.length r1] 35::af (.slice R1 R.length r1) R::H) w) :
  Calls Tryz.prog 164 #[.pointer (some ⟨ab A,ao A+k*2,none⟩),.pointer (some ⟨g6,0,none⟩),.pointer (some ⟨g4,0,none⟩)] w fun e w'=> ∃_:Unit,True/\e= .returned (.tuple #[])/\Cw B w0 (af (.slice A m c) (xs.set k (cW r (xs.getD k default)))::ah g6 [.slice T1 (R.map r).length t1] 35::af (.slice T1 (R.map r).length t1) (R.map r)::ah g4 [.slice R1 R.length r1] 35::af (.slice R1 R.length r1) R::H) w':=by
 have hl:xs.length=m:=by
  obtain⟨F,h,_⟩:=hw.rd bu.a
  exact aU.len_eq (bn.sl (show bn w F _ xs from h))
 have hself:xs.set k (xs.getD k default)=xs:=by
  apply db
  intro i
  rw[List.getElem?_set]
  split
  ·rename_i e
   subst e
   rw[ac,if_pos (by omega),ae (by omega)]
   rfl
  rfl
 generalize hv:xs.getD k default=v at hok hpos hself⊢
 refine a8 Tryz.func164 rfl Tryz.ntmps164 rfl hw<|aa ?_
 refine eB rfl (fun w hw=>(SF.val (SF.own hl fc) hk default) w hw 0 _ rfl) ?_
 refine aC ?_
 rw[hv]
 rcases Bool.eq_false_or_eq_true v.ref with hr | hr
 ·rw[hr]
  refine eC (t:=8) (v':= .bool true) rfl (rfl)<|aa ?_
  refine eB rfl (fun w hw=>(SF.val (SF.own hl fc) hk default) w hw 1 _ rfl)<|aa ?_
  rw[hv]
  refine gA rfl (fun hn=>?_) (fun hn=>?_)
  ·have hn:0<v.n:=hn
   have hin:=hok hr (by omega)
   obtain⟨q,hq1,hq2,hq3⟩:=yH hin
   have hqm:q<(R.map r).length:=by rw[aL];exact hq2
   have hren:cW r v=⟨true,r v.n⟩:=by unfold cW;rw[if_pos ⟨hr,by omega⟩]
   have hat:(R.map r).getD q 0=r v.n:=by
    rw[ac,b8,ae hq2]
    rw[ac,ae hq2] at hq3
    show r R[q]=_
    rw[show R[q]=v.n from hq3]
   refine bM [0,3,6,9,12,15,18,23,24,27,30,33,38] [12] rfl<|aa ?_
   refine tE rfl (cB (fun w hw=>(SF.val (SF.own hl fc) hk default) w hw 1 _ rfl) rfl rfl bT) ?_
   rw[hv]
   refine k0 rfl rfl Tryz.call165 ((fun w hw=>kL ((fun w hw=>qU _ R v.n w (SF.at_ (SF.own rfl fc) hw)) w hw))) ?_
   rw[hq1]
   refine tE rfl (bS (k:=q) aJ bY (SF.own (xs:=R.map r) rfl fc) (by omega) rfl rfl rfl) ?_
   refine tE rfl (cB (SF.int (SF.own (xs:=R.map r) rfl fc) (by omega)) rfl rfl bT) ?_
   refine aC ?_
   refine aC ?_
   rw[hat]
   refine pE rfl (sU (α:=ax) (f:=1) (us:= [.int .i64 (r v.n)]) ⟨true,r v.n⟩ default (xs':=xs.set k (cW r v)) (by rw[hren]) fc hk (hri _ hin) bY rfl rfl rfl rfl rfl rfl (by rw[hv];show [Value.bool v.ref,_]=_;rw[hr];rfl) rfl) (fun _ _=>aa ?_)
   intro w hw
   exact⟨(),trivial,rfl,hw.msub ms⟩
  have hn:¬0<v.n:=hn
  have hren:cW r v=v:=by unfold cW;rw[if_neg (fun h=>by have:=hpos hr;have:=h.2;omega)]
  rw[hren,hself]
  refine aa ?_
  intro w hw
  exact⟨(),trivial,rfl,hw.msub ms⟩
 rw[hr]
 have hren:cW r v=v:=zV hr
 rw[hren,hself]
 refine eC (t:=8) (v':= .bool false) rfl (rfl)<|aa ?_
 refine di rfl<|aa ?_
 intro w hw
 exact⟨(),trivial,rfl,hw.msub ms⟩
theorem qa {α:Type} (l:List α) (f:α->α):fE l f 0=l:=by unfold fE;simp
theorem r9 {α:Type} (l:List α) (f:α->α):fE l f l.length=l.map f:=by unfold fE;simp
theorem r8 {α:Type} (l:List α) (f:α->α) (k:Nat):(fE l f k).length=l.length:=by unfold fE;simp;omega
theorem vY {α:Type} [Inhabited α] {l:List α} {f:α->α} {k:Nat} (hk:k<l.length):(fE l f k).getD k default=l.getD k default:=by
 unfold fE
 rw[ac,bq (by simp;omega),aL,am,Nat.min_eq_left (by omega),my,bC,ac]
 rfl
theorem r7 {α:Type} [Inhabited α] {l:List α} {f:α->α} {k:Nat} (hk:k<l.length):(fE l f k).set k (f (l.getD k default))=fE l f (k+1):=by
 unfold fE
 have h1:((l.take k).map f).length=k:=by rw[aL,am];omega
 rw[List.set_append_right _ _ (by omega),h1,my,dT l k default hk,dw,bg]
 congr 1
 rw[jR hk,List.set_cons_zero]
 rfl
def fh (r:Int->Int) (p:ap×au):ap×au:=(p.1,iI r p.2)
def er (l:List (ap×au)) (r:Int->Int) (i:Nat):List (ap×au):=(fE l (fh r) i).eraseIdx i
theorem zU {l:List (ap×au)} {i:Nat} (hi:i<l.length) {w:World} (h:Cw B w0 (cL l::H) w):∃A1 c1 A2 c2,l[i].1.lv= .slice A1 l[i].2.locals.length c1/\l[i].1.sv= .slice A2 l[i].2.stack.length c2:=by
 obtain⟨s1,s2⟩:=o8 hi h
 obtain⟨A1,c1,e1,_⟩:=s1.form
 obtain⟨A2,c2,e2,_⟩:=s2.form
 exact⟨A1,c1,A2,c2,e1,e2⟩
theorem yM (g3 g4 g6:Nat) (R:List Int) (r:Int->Int) (hri:∀n∈R,ay (r n)) (T1 R1 Af:Option Addr) (t1 r1 n cf:Nat) (rest:List Value) (l:List (ap×au)) (hs:List ap) (hln:l.length=n) (hls:l.map Prod.fst=hs) (hn6:n<=6)
  (hok:∀p∈l,pj (fun n=>n∈R) p.2) (hpos:∀p∈l,∀v∈p.2.locals++p.2.stack,v.ref=true->0<=v.n) (w:World)
  (hw:Cw B w0 (ah g3 (.slice Af n cf::rest) 43::af (.slice Af n cf) hs::cL l::ah g6 [.slice T1 (R.map r).length t1] 35::af (.slice T1 (R.map r).length t1) (R.map r)::ah g4 [.slice R1 R.length r1] 35::af (.slice R1 R.length r1) R::H) w) :
  Calls Tryz.prog 163 #[.pointer (some ⟨g3,0,none⟩),.func (.func 164) #[] #[.pointer (some ⟨g6,0,none⟩),.pointer (some ⟨g4,0,none⟩)]] w fun e w'=> ∃_:Unit,True/\e= .returned (.tuple #[])/\Cw B w0 (ah g3 (.slice Af n cf::rest) 43::af (.slice Af n cf) hs::cL (l.map (fh r))::ah g6 [.slice T1 (R.map r).length t1] 35::af (.slice T1 (R.map r).length t1) (R.map r)::ah g4 [.slice R1 R.length r1] 35::af (.slice R1 R.length r1) R::H) w':=by
 have hhl:hs.length=n:=by rw[<-hls,aL,hln]
 refine a8 Tryz.func163 rfl Tryz.ntmps163 rfl hw<|aa ?_
 refine dH (fun i:Nat=>i<=n) (fun i=>n - i) (fun i=> [(0,.pointer (some ⟨g3,0,none⟩)),(1,.func (.func 164) #[] #[.pointer (some ⟨g6,0,none⟩),.pointer (some ⟨g4,0,none⟩)]),(12,.int .i64 (n:Int)),(13,.int .i64 (i:Int))]) (fun i=>cL (fE l (fh r) i)::ah g3 (.slice Af n cf::rest) 43::af (.slice Af n cf) hs::ah g6 [.slice T1 (R.map r).length t1] 35::af (.slice T1 (R.map r).length t1) (R.map r)::ah g4 [.slice R1 R.length r1] 35::af (.slice R1 R.length r1) R::H) 0 (br _) ?_ (hh:=(fun w h=>(show Cw _ _ (cL (fE l (fh r) 0)::ah g3 (.slice Af n cf::rest) 43::af (.slice Af n cf) hs::ah g6 [.slice T1 (R.map r).length t1] 35::af (.slice T1 (R.map r).length t1) (R.map r)::ah g4 [.slice R1 R.length r1] 35::af (.slice R1 R.length r1) R::H) w from by rw[qa];exact h.msub ms)))
 rintro i hi'
 have hi:i<=n:=hi'
 refine an (fun hlt=>?_) (fun hlt=>?_)
 ·have hil:i<l.length:=by omega
  have hul:=r8 l (fh r) i
  have hatI:(fE l (fh r) i)[i]'(by omega)=l[i]:=by
   have:=vY (f:=fh r) hil
   rw[ac,ae (by omega),ac,ae hil] at this
   exact this
  refine fB (p:= ∃A1 c1 A2 c2,l[i].1.lv= .slice A1 l[i].2.locals.length c1/\l[i].1.sv= .slice A2 l[i].2.stack.length c2) (fun w hw=>by
   have:=zU (l:=fE l (fh r) i) (i:=i) (by omega) hw
   rw[hatI] at this
   exact this) fun⟨A1,c1,A2,c2,e1,e2⟩=>?_
  refine dc (fun w h=>xI (l:=fE l (fh r) i) (k:=i) (by omega) h) ?_
  rw[hatI]
  have hset:(fE l (fh r) i).set i (fh r l[i])=fE l (fh r) (i+1):=by
   have:=r7 (f:=fh r) hil
   rw[ac,ae hil] at this
   exact this
  have hmemI:=cc hil
  obtain⟨hok1,hok2⟩:=hok _ hmemI
  have hpos1:∀v∈l[i].2.locals,v.ref=true->0<=v.n:=fun v hv=>hpos _ hmemI v (fO _ hv)
  have hpos2:∀v∈l[i].2.stack,v.ref=true->0<=v.n:=fun v hv=>hpos _ hmemI v (ez _ hv)
  have hhd:hs.getD i default=⟨l[i].1.func,l[i].1.pc,.slice A1 l[i].2.locals.length c1,.slice A2 l[i].2.stack.length c2⟩:=by
   rw[<-hls,ac,b8,ae hil,<-e1,<-e2]
   rfl
  have hback:∀w,Cw B w0 (af l[i].1.lv (fh r l[i]).2.locals::af l[i].1.sv (fh r l[i]).2.stack::cL (er l r i)::ah g3 (.slice Af n cf::rest) 43::af (.slice Af n cf) hs::ah g6 [.slice T1 (R.map r).length t1] 35::af (.slice T1 (R.map r).length t1) (R.map r)::ah g4 [.slice R1 R.length r1] 35::af (.slice R1 R.length r1) R::H) w->Cw B w0 (cL (fE l (fh r) (i+1))::ah g3 (.slice Af n cf::rest) 43::af (.slice Af n cf) hs::ah g6 [.slice T1 (R.map r).length t1] 35::af (.slice T1 (R.map r).length t1) (R.map r)::ah g4 [.slice R1 R.length r1] 35::af (.slice R1 R.length r1) R::H) w:=fun w h=>by
   have:=Cn (l:=fE l (fh r) i) (k:=i) (q:=fh r l[i]) (by omega) h
   rwa [hset] at this
  show CW _ _ _ _ _ _ _ (af l[i].1.lv l[i].2.locals::af l[i].1.sv l[i].2.stack::cL (er l r i)::ah g3 (.slice Af n cf::rest) 43::af (.slice Af n cf) hs::ah g6 [.slice T1 (R.map r).length t1] 35::af (.slice T1 (R.map r).length t1) (R.map r)::ah g4 [.slice R1 R.length r1] 35::af (.slice R1 R.length r1) R::H)
  rw[e1,e2] at hback⊢
  have hrl:(fh r l[i]).2.locals=l[i].2.locals.map (cW r):=rfl
  have hrs:(fh r l[i]).2.stack=l[i].2.stack.map (cW r):=rfl
  rw[hrl,hrs] at hback
  generalize l[i].1.func=hf0 at hhd
  generalize l[i].1.pc=hp0 at hhd
  generalize l[i].2.locals=L1 at *
  generalize l[i].2.stack=L2 at *
  refine fB (p:=L1.length<=140737488355328/\L2.length<=140737488355328) (fun w hw=>⟨bt (SF.at_ (SF.own (α:=ax) (xs:=L1) rfl fc) hw),bt (SF.at_ (SF.own (α:=ax) (xs:=L2) rfl fc) hw)⟩) fun⟨lb1,lb2⟩=>?_
  refine aa ?_
  refine bM [0,3,6,9,12,15,18,21,24,27,30,33,36,39,42,45,54,50,51] [] rfl<|aa ?_
  refine tE rfl (bS (k:=i) cV ek (SF.own (α:=ap) hhl fc) (by omega) rfl rfl rfl)<|aa ?_
  refine tE rfl (cB (fun w hw=>(SF.hfr (SF.own (α:=ap) hhl fc) (k:=i) (by omega) hhd) w hw 2 _ rfl) rfl rfl jy)<|aa ?_
  refine tE rfl (bS (k:=i) cV ek (SF.own (α:=ap) hhl fc) (by omega) rfl rfl rfl)<|aa ?_
  refine tE rfl (cB (fun w hw=>(SF.hfr (SF.own (α:=ap) hhl fc) (k:=i) (by omega) hhd) w hw 3 _ rfl) rfl rfl jy)<|aa ?_
  refine fun g1 _=>aa ?_
  refine dH (fun j:Nat=>j<=2) (fun j=>2 - j) (fun j=> [(0,.pointer (some ⟨g3,0,none⟩)),(1,.func (.func 164) #[] #[.pointer (some ⟨g6,0,none⟩),.pointer (some ⟨g4,0,none⟩)]),(12,.int .i64 (n:Int)),(13,.int .i64 (i:Int)),(32,.slice (some ⟨g1,0,none⟩) 2 2),(33,.int .i64 2),(34,.int .i64 (j:Int))]) (fun j=>af (.slice A1 L1.length c1) (if j=0 then L1 else L1.map (cW r))::af (.slice A2 L2.length c2) (if j=2 then L2.map (cW r) else L2)::cL (er l r i)::ah g1 [.slice A1 L1.length c1,.slice A2 L2.length c2] 116::ah g3 (.slice Af n cf::rest) 43::af (.slice Af n cf) hs::ah g6 [.slice T1 (R.map r).length t1] 35::af (.slice T1 (R.map r).length t1) (R.map r)::ah g4 [.slice R1 R.length r1] 35::af (.slice R1 R.length r1) R::H) 0 (br _) ?_ (hh:=(fun w h=>h.msub ms))
  rintro j hj'
  have hj:j<=2:=hj'
  refine an (fun hlt2=>?_) (fun hlt2=>?_)
  ·rcases(show j=0\/j=1 by omega) with rfl | rfl
   ·rw[if_pos rfl,if_neg (by decide)]
    refine aa ?_
    refine sE (iY (k:=0) jf iU rfl (by decide) rfl rfl rfl) ?_
    refine eB rfl (fun w hw=>dC (v:= .slice A1 L1.length c1) fc rfl w hw)<|aa ?_
    refine dH (fun k:Nat=>k<=L1.length) (fun k=>L1.length - k) (fun k=> [(0,.pointer (some ⟨g3,0,none⟩)),(1,.func (.func 164) #[] #[.pointer (some ⟨g6,0,none⟩),.pointer (some ⟨g4,0,none⟩)]),(6,.slice A1 L1.length c1),(12,.int .i64 (n:Int)),(13,.int .i64 (i:Int)),(32,.slice (some ⟨g1,0,none⟩) 2 2),(33,.int .i64 2),(34,.int .i64 0),(39,.int .i64 (L1.length:Int)),(40,.int .i64 (k:Int))]) (fun k=>af (.slice A1 L1.length c1) (fE L1 (cW r) k)::af (.slice A2 L2.length c2) L2::cL (er l r i)::ah g1 [.slice A1 L1.length c1,.slice A2 L2.length c2] 116::ah g3 (.slice Af n cf::rest) 43::af (.slice Af n cf) hs::ah g6 [.slice T1 (R.map r).length t1] 35::af (.slice T1 (R.map r).length t1) (R.map r)::ah g4 [.slice R1 R.length r1] 35::af (.slice R1 R.length r1) R::H) 0 (br _) ?_ (hh:=(fun w h=>(show Cw _ _ (af (.slice A1 L1.length c1) (fE L1 (cW r) 0)::af (.slice A2 L2.length c2) L2::cL (er l r i)::ah g1 [.slice A1 L1.length c1,.slice A2 L2.length c2] 116::ah g3 (.slice Af n cf::rest) 43::af (.slice Af n cf) hs::ah g6 [.slice T1 (R.map r).length t1] 35::af (.slice T1 (R.map r).length t1) (R.map r)::ah g4 [.slice R1 R.length r1] 35::af (.slice R1 R.length r1) R::H) w from by rw[qa];exact h.msub ms)))
    rintro k hk'
    have hk:k<=L1.length:=hk'
    have hul:=r8 L1 (cW r) k
    refine an (fun hlt3=>?_) (fun hlt3=>?_)
    ·have hkl:k<L1.length:=by omega
     have hat:=vY (f:=cW r) hkl
     have hmem:=gz (d:=(default:ax)) hkl
     refine aa ?_
     refine dA (k) rfl ((SF.own (xs:=fE L1 (cW r) k) hul fc)) ?_
     refine oE (eu rfl rfl rfl Tryz.call164 (fun w hw=>tI g4 g6 R r hri T1 R1 t1 r1 A1 L1.length c1 k (fE L1 (cW r) k) hkl (by rw[hat];exact hok1 _ hmem) (by rw[hat];exact hpos1 _ hmem) w (hw.msub (.s fc (.s fc (.s fc (.s fc (.s fc .r)))))))) (fun _ _=>aa ?_)
     rw[hat,r7 hkl]
     refine dm (k+1) (by show k+1<=_;omega) (by show _ - _<_ - _;omega) (hh:=(fun w h=>h.msub ms))
    obtain rfl:k=L1.length:=by omega
    rw[r9]
    refine aa ?_
    refine dm 1 ((by decide:1<=2)) (by show 2 - 1<2 - 0;decide) (hh:=(fun w h=>h.msub ms))
   rw[if_neg (by decide),if_neg (by decide)]
   refine aa ?_
   refine sE (iY (k:=1) jf iU rfl (by decide) rfl rfl rfl) ?_
   refine eB rfl (fun w hw=>dC (v:= .slice A2 L2.length c2) fc rfl w hw)<|aa ?_
   refine dH (fun k:Nat=>k<=L2.length) (fun k=>L2.length - k) (fun k=> [(0,.pointer (some ⟨g3,0,none⟩)),(1,.func (.func 164) #[] #[.pointer (some ⟨g6,0,none⟩),.pointer (some ⟨g4,0,none⟩)]),(6,.slice A2 L2.length c2),(12,.int .i64 (n:Int)),(13,.int .i64 (i:Int)),(32,.slice (some ⟨g1,0,none⟩) 2 2),(33,.int .i64 2),(34,.int .i64 1),(39,.int .i64 (L2.length:Int)),(40,.int .i64 (k:Int))]) (fun k=>af (.slice A2 L2.length c2) (fE L2 (cW r) k)::af (.slice A1 L1.length c1) (L1.map (cW r))::cL (er l r i)::ah g1 [.slice A1 L1.length c1,.slice A2 L2.length c2] 116::ah g3 (.slice Af n cf::rest) 43::af (.slice Af n cf) hs::ah g6 [.slice T1 (R.map r).length t1] 35::af (.slice T1 (R.map r).length t1) (R.map r)::ah g4 [.slice R1 R.length r1] 35::af (.slice R1 R.length r1) R::H) 0 (br _) ?_ (hh:=(fun w h=>(show Cw _ _ (af (.slice A2 L2.length c2) (fE L2 (cW r) 0)::af (.slice A1 L1.length c1) (L1.map (cW r))::cL (er l r i)::ah g1 [.slice A1 L1.length c1,.slice A2 L2.length c2] 116::ah g3 (.slice Af n cf::rest) 43::af (.slice Af n cf) hs::ah g6 [.slice T1 (R.map r).length t1] 35::af (.slice T1 (R.map r).length t1) (R.map r)::ah g4 [.slice R1 R.length r1] 35::af (.slice R1 R.length r1) R::H) w from by rw[qa];exact h.msub ms)))
   rintro k hk'
   have hk:k<=L2.length:=hk'
   have hul:=r8 L2 (cW r) k
   refine an (fun hlt3=>?_) (fun hlt3=>?_)
   ·have hkl:k<L2.length:=by omega
    have hat:=vY (f:=cW r) hkl
    have hmem:=gz (d:=(default:ax)) hkl
    refine aa ?_
    refine dA (k) rfl ((SF.own (xs:=fE L2 (cW r) k) hul fc)) ?_
    refine oE (eu rfl rfl rfl Tryz.call164 (fun w hw=>tI g4 g6 R r hri T1 R1 t1 r1 A2 L2.length c2 k (fE L2 (cW r) k) hkl (by rw[hat];exact hok2 _ hmem) (by rw[hat];exact hpos2 _ hmem) w (hw.msub (.s fc (.s fc (.s fc (.s fc (.s fc .r)))))))) (fun _ _=>aa ?_)
    rw[hat,r7 hkl]
    refine dm (k+1) (by show k+1<=_;omega) (by show _ - _<_ - _;omega) (hh:=(fun w h=>h.msub ms))
   obtain rfl:k=L2.length:=by omega
   rw[r9]
   refine aa ?_
   refine dm 2 ((by decide:2<=2)) (by show 2 - 2<2 - 1;decide) (hh:=(fun w h=>h.msub ms))
  obtain rfl:j=2:=by omega
  rw[if_neg (by decide),if_pos rfl]
  refine aa ?_
  refine dm (i+1) (by show i+1<=_;omega) (by show _ - _<_ - _;omega) (hh:=(fun w h=>hback w (h.msub ms)))
 obtain rfl:i=n:=by omega
 rw[<-hln,r9]
 refine aa ?_
 intro w hw
 exact⟨(),trivial,rfl,hw.msub ms⟩
end
end
section
theorem Bq (m:ar):(gM m).frames.length=m.frames.length:=by unfold gM;simp
theorem zX (r:Int->Int) (l:List (ap×au)):(l.map (fh r)).map Prod.fst=l.map Prod.fst:=by rw[List.map_map];rfl
theorem zW (r:Int->Int) (l:List (ap×au)):(l.map (fh r)).map Prod.snd=(l.map Prod.snd).map (iI r):=by rw[List.map_map,List.map_map];rfl
theorem Cs {r:Int->Int} {l:List (ap×au)} (h:eD l):eD (l.map (fh r)):=fun p hp=>by
 obtain⟨q,hq,rfl⟩:=List.mem_map.1 hp
 exact h q hq
theorem Gq (fs:List ai) (a:MA) (m:ar) (w:World) (hm:d9 w.heap.size w a m) (hF:iR fs) (hR:fl fs m) :
  Calls Tryz.prog 115 #[.agg #[.slice a.Af m.frames.length a.cf,.slice a.Ab m.blocks.length a.cb,.slice a.Ai m.inn.length a.ci,.slice a.Ao m.out.length a.co,.int .i64 m.status,.int .i64 m.trap]] w fun e w'=> ∃g:MA,True/\
   e= .returned (.agg #[.slice g.Af (gM m).frames.length g.cf,.slice g.Ab (gM m).blocks.length g.cb,.slice g.Ai (gM m).inn.length g.ci,.slice g.Ao (gM m).out.length g.co,.int .i64 (gM m).status,.int .i64 (gM m).trap])/\Cw w.heap.size w [af (.slice g.Af (gM m).frames.length g.cf) (gM m).frames,af (.slice g.Ab (gM m).blocks.length g.cb) (gM m).blocks,af (.slice g.Ai (gM m).inn.length g.ci) (gM m).inn,af (.slice g.Ao (gM m).out.length g.co) (gM m).out] w':=by
 have hb8:=(gY hR.bl).1
 have hrl:=xS (m:=m)
 have hin:∀r∈dz m,0<=r/\r<=m.blocks.length:=fun r hr=>by have:=(oI.1 hr).1;omega
 have hri:∀n∈dz m,ay (dR m.blocks (dz m) n):=fun n hn=>by
  have h1:=hin n hn
  have h2:=km m.blocks (dz m) n.toNat
  unfold dR
  split
  ·exact⟨by omega,by omega⟩
  exact⟨by omega,by omega⟩
 rw[Bq]
 refine enter Tryz.func115 rfl Tryz.ntmps115 rfl<|aa ?_
 refine fun g1 _=>aa ?_
 refine fun g2 _=>aa ?_
 refine eI rfl uo (fun w hw=>kD a m w (d9.ro hw hm) (vM hF hR)) (fun g0 _=>aa ?_)
 refine fun g3 _=>aa ?_
 refine eI rfl Tryz.call116 (fun w hw=>sD fs a m w (d9.ro hw hm) hF hR) (fun⟨R1,r1⟩ _=>?_)
 refine aT ?_
 refine fun g4 _=>aa ?_
 refine eI rfl Tryz.call162 (fun w hw=>Gi a.Ab R1 a.cb r1 m.blocks (dz m) w (hw.ro hm.b) (SF.at_ (SF.own rfl fc) hw) (ow.of_check hR.bl) hin (by omega)) (fun⟨⟨K1,k1⟩,⟨T1,t1⟩⟩ _=>?_)
 refine aT ?_
 intro g5 _
 refine aC ?_
 refine ed (eo _ fc ru rfl rfl rfl rfl rfl (by rfl) rfl (by rfl)) rfl rfl (fun _ _=>?_)
 refine bE<|cR<|bJ<|aC ?_
 refine aC ?_
 refine ed (eo _ fc Tryz.sizeOf41 rfl rfl rfl rfl rfl (by rfl) rfl (by rfl)) rfl rfl (fun _ _=>?_)
 refine bE<|yU (xs:=m.frames) (v:= .slice g0.Af m.frames.length g0.cf) fc fun l hl hok=>?_
 have hll:l.length=m.frames.length:=by rw[<-hl,aL]
 have hmem:∀p∈l,p.2∈m.frames:=fun p hp=>by rw[<-hl];exact List.mem_map_of_mem hp
 refine aa ?_
 refine bU rfl Tryz.call163 (fun w hw=>yM g3 g4 g5 (dz m) (dR m.blocks (dz m)) hri T1 R1 g0.Af t1 r1 m.frames.length g0.cf [.slice K1 (cC m.blocks (dz m) m.blocks.length).length k1,.slice g0.Ai m.inn.length g0.ci,.slice g0.Ao m.out.length g0.co,.int .i64 m.status,.int .i64 m.trap] l (l.map Prod.fst) hll rfl hR.n6 (fun p hp=>FM hR _ (hmem p hp)) (fun p hp v hv hr=>(p9 hR (hmem p hp) hv hr).1) w (hw.msub (.s fc (.s fc (.s fc (.s fc (.s fc (.s fc (.s fc .r))))))))) (fun _ _=>aa ?_)
 intro w hw
 refine⟨⟨g0.Af,g0.cf,K1,k1,g0.Ai,g0.ci,g0.Ao,g0.co⟩,trivial,rfl,?_⟩
 have h1:=pR (v:= .slice g0.Af m.frames.length g0.cf) (l:=l.map (fh (dR m.blocks (dz m)))) (H:= [af (.slice K1 (cC m.blocks (dz m) m.blocks.length).length k1) (cC m.blocks (dz m) m.blocks.length),af (.slice g0.Ai m.inn.length g0.ci) m.inn,af (.slice g0.Ao m.out.length g0.co) m.out]) (Cs hok) (by rw[zX];exact hw.msub ms)
 rw[zW,hl] at h1
 exact h1
def GS (fs:List ai) (m:ar):ar×Int:=if da fs m=0 then (gM m,(m.blocks.length:Int) - (gM m).blocks.length) else (default,0)
end
section
def Eu (fs:List ai) (m:ar) (k:Int):Int:=if da fs m≠0 then da fs m else if k<0\/10000<k then 3 else 0
def GH (fs:List ai) (m:ar) (k:Int):ar×Int:=if Eu fs m k=0 then mS fs m k else (default,0)
end
section
def eU:List ai:= [⟨0,[2],0,[⟨1,2⟩,⟨14,0⟩,⟨2,0⟩,⟨1,1⟩,⟨14,0⟩,⟨9,0⟩,⟨8,0⟩,⟨1,0⟩,⟨15,0⟩,⟨20,0⟩,⟨13,0⟩]⟩]
def jp:ar:=⟨[⟨0,0,[⟨true,0⟩],[]⟩],[],[],[],0,0⟩
def BM:ar:=⟨[⟨0,6,[⟨true,2⟩],[]⟩],[[0,0],[0]],[],[],0,0⟩
def G4:ar:=⟨[⟨0,6,[⟨true,1⟩],[]⟩],[[0]],[],[],0,0⟩
theorem mh (w:World):Calls Tryz.prog 64 #[] w fun e w'=> ∃g:Nat,True/\e= .returned (.agg #[.slice (some ⟨g,0,none⟩) 1 1])/\Cw w.heap.size w [af (.slice (some ⟨g,0,none⟩) 1 1) eU] w':=by
 refine enter Tryz.func64 rfl Tryz.ntmps64 rfl<|aa ?_
 refine fun g1 _=>aa ?_
 refine fun g2 _=>aa ?_
 refine fun g3 _=>aa ?_
 refine fun g4 _=>aa ?_
 intro w hw
 refine⟨_,trivial,rfl,?_⟩
 have h:=bj (α:=aM) (m:=11) [⟨1,2⟩,⟨14,0⟩,⟨2,0⟩,⟨1,1⟩,⟨14,0⟩,⟨9,0⟩,⟨8,0⟩,⟨1,0⟩,⟨15,0⟩,⟨20,0⟩,⟨13,0⟩] rfl (show∀o∈[(⟨1,2⟩:aM),⟨14,0⟩,⟨2,0⟩,⟨1,1⟩,⟨14,0⟩,⟨9,0⟩,⟨8,0⟩,⟨1,0⟩,⟨15,0⟩,⟨20,0⟩,⟨13,0⟩],ay o.c/\ay o.a from by decide) rfl (by decide) (hw.msub (T:= [ah g3 _ _,ah g2 _ _,ah g4 _ _]) ms)
 have h:=bj (α:=Int) (m:=1) [2] rfl (iZ (by decide)) rfl (by decide) (h.msub (T:= [ah g2 _ _,af (.slice (some ⟨g3,0,none⟩) 11 11) _,ah g4 _ _]) ms)
 refine nE (H:= []) (xs:=eU) (kR.cons (Hel:= [af (.slice (some ⟨g2,0,none⟩) 1 1) [(2:Int)],af (.slice (some ⟨g3,0,none⟩) 11 11) [(⟨1,2⟩:aM),⟨14,0⟩,⟨2,0⟩,⟨1,1⟩,⟨14,0⟩,⟨9,0⟩,⟨8,0⟩,⟨1,0⟩,⟨15,0⟩,⟨20,0⟩,⟨13,0⟩]]) (cs:= [_,_,_,_]) (lO (f:=⟨0,[2],0,[⟨1,2⟩,⟨14,0⟩,⟨2,0⟩,⟨1,1⟩,⟨14,0⟩,⟨9,0⟩,⟨8,0⟩,⟨1,0⟩,⟨15,0⟩,⟨20,0⟩,⟨13,0⟩]⟩) (by decide)) kR.nil_) rfl (by decide) ?_
 exact h.msub (T:= [ah g4 _ _,af (.slice (some ⟨g2,0,none⟩) 1 1) _,af (.slice (some ⟨g3,0,none⟩) 11 11) _]) ms
theorem m8:fm eU=0/\lx eU=jp/\Eu eU jp 10=0/\GH eU jp 10=(BM,0)/\da eU BM=0/\GS eU BM=(G4,1)/\dz BM= [2]:=by
 refine⟨?_,?_,?_,?_,?_,?_,?_⟩ <;> kernel_rfl
def sA (fs:List ai) (m:ar):List Int:=if da fs m=0 then dz m else []
theorem Gw (Ap:Option Addr) (cp:Nat) (fs:List ai) (a:MA) (m:ar) (r:List Int) (hr:sA fs m=r) (w:World) (hs:Sl w (.slice Ap fs.length cp) fs) (hm:d9 w.heap.size w a m) (hfit:iS m.frames) :
  Calls Tryz.prog 57 #[.agg #[.slice Ap fs.length cp],.agg #[.slice a.Af m.frames.length a.cf,.slice a.Ab m.blocks.length a.cb,.slice a.Ai m.inn.length a.ci,.slice a.Ao m.out.length a.co,.int .i64 m.status,.int .i64 m.trap]] w fun e w'=> ∃q:Option Addr×Nat,True/\e= .returned (.tuple #[.slice q.1 r.length q.2,.int .i64 (da fs m)])/\Cw w.heap.size w [af (.slice q.1 r.length q.2) r] w':=by
 refine enter Tryz.func57 rfl Tryz.ntmps57 rfl<|aa ?_
 refine fun g1 _=>aa ?_
 refine fun g2 _=>aa ?_
 refine cd rfl xe (fun w hw=>jo Ap cp fs a m w (hw.ro hs) (d9.ro hw hm) hfit)<|cy (fun h=>?_) (fun h=>?_)
 ·have h:¬da fs m=0:=h
  have e:r= []:=by rw[<-hr];unfold sA;rw[if_neg h]
  subst e
  refine aa ?_
  intro w hw
  exact⟨(none,0),trivial,rfl,(Cw.nilO Int hw).msub ms⟩
 have h:da fs m=0:=h
 obtain⟨hF,hR⟩:=qm h
 have e:r=dz m:=by rw[<-hr];unfold sA;rw[if_pos h]
 subst e
 refine aa ?_
 refine eI rfl Tryz.call116 (fun w hw=>sD fs a m w (d9.ro hw hm) hF hR) (fun⟨R1,r1⟩ _=>?_)
 refine aT ?_
 intro w hw
 exact⟨(R1,r1),trivial,by rw[h],hw.msub ms⟩
theorem De:iS jp.frames:=by
 refine⟨by decide,fun x hx=>?_⟩
 have:x=⟨0,0,[⟨true,0⟩],[]⟩:=by simpa [jp] using hx
 subst this
 decide
theorem ww (A:Option Addr) (c:Nat) (w:World) (hs:Sl w (.slice A 1 c) eU) :
  Calls Tryz.prog 54 #[.agg #[.slice A 1 c]] w fun e w'=> ∃g:MA,True/\
   e= .returned (.tuple #[.agg #[.slice g.Af 1 g.cf,.slice g.Ab 0 g.cb,.slice g.Ai 0 g.ci,.slice g.Ao 0 g.co,.int .i64 0,.int .i64 0],.int .i64 0])/\Cw w.heap.size w [af (.slice g.Af 1 g.cf) jp.frames,af (.slice g.Ab 0 g.cb) jp.blocks,af (.slice g.Ai 0 g.ci) jp.inn,af (.slice g.Ao 0 g.co) jp.out] w':=by
 have:=pm A c eU jp m8.2.1 w hs
 rw[m8.1] at this
 exact this
end
end Go.Proofs.YthfkmcbblnbfaaaGreatDoor
