/- Lemmas of one proof. -/
import Derived.Test.YthfkmcbblnbfaaaGreatDoorM90E
import Derived.Test.YthfkmcbblnbfaaaGreatDoorM0E
import Derived.Test.YthfkmcbblnbfaaaGreatDoorM31E
import Derived.Test.YthfkmcbblnbfaaaGreatDoorM32E

namespace Go.Proofs.YthfkmcbblnbfaaaGreatDoor
set_option maxRecDepth 100000
set_option maxHeartbeats 16000000
open Go.RowKit
section
def dW (n:Nat):eD->List Int->List Int->Option eD
 | s,[],_=>some s
 | s,to_::r,l=>if (dI n s to_.toNat l).1=true then dW n (dI n s to_.toNat l).2 r l else none
def nS (fs:List aw) (f:aw) (s:eD):Option eD:=
 let k:=(s.todo.getD (s.todo.length - 1) 0).toNat
 let t:=oV fs f (bE f.C k) (s.at_.getD k [],false)
 if t.2=true then none else dW f.C.length ⟨s.at_,s.met,s.todo.take (s.todo.length - 1)⟩ (dT (bE f.C k) k) t.1
structure gE (n:Nat) (s:eD):Prop where
 al:s.at_.length=n
 ml:s.met.length=n
 tl:s.todo.length<=5000
 st:∀i,(s.at_.getD i []).length<=8
 td:∀x∈s.todo,0<=x/\x<n
theorem ou {n:Nat} {s:eD} (h:gE n s) {k:Nat} (j:k<=n) {l:List Int} (g:l.length<=8) (m:s.todo.length<5000):gE n (dI n s k l).2/\(dI n s k l).2.todo.length<=s.todo.length+1:=by
 have f:k≠n->∀a:List Int,a.length<=8->gE n ⟨s.at_.set k a,s.met.set k true,s.todo++ [(k:Int)]⟩/\(s.todo++ [(k:Int)]).length<=s.todo.length+1:=fun d a c=>by
  refine⟨⟨by simp[h.al],by simp[h.ml],by simp only[au,aT];omega,fun e=>?_,fun i b=>?_⟩,σ⟩
  ·show ((s.at_.set k a).getD e []).length<=8;rw[jf (by rw[h.al];omega)]
   split
   ·exact c
   exact h.st e
  rcases dQ.1 b with b | b
  ·exact h.td i b
  rw[cL.1 b];omega
 unfold dI
 split
 ·exact⟨h,Nat.le_succ _⟩
 rename_i d
 split
 ·split
  ·exact⟨h,Nat.le_succ _⟩
  rename_i a c
  split
  ·exact⟨h,Nat.le_succ _⟩
  exact f d a (by have:=(mS c).2;have:=h.st k;omega)
 exact f d l g
section
variable {B:Nat} {w0:World} {H:List aP}
abbrev qS (g1 g5 gs gx:Nat) (As:Option Addr) (cs:Nat) (l:List Int):List aP:=
 [ak g1 [.pointer (some ⟨gx,0,none⟩)] 221,ak g5 [.pointer (some ⟨gs,0,none⟩)] 271,ak gs [.slice As l.length cs,.bool false] 273,an (.slice As l.length cs) l]
theorem JV (C:FC) (s:eD) (m:List jJ) (L:List (Value×List Int)) (n:Option Addr) (o:Nat) (c d f:Nat) (b:Option Addr) (cs:Nat) (k:Nat) (z:k<=C.f.C.length) (A:C.f.C.length<=40) (l:List Int) (E:l.length<=8)
  (u:jP C.f.C.length m L s.at_) (j:gE C.f.C.length s) (w:World) (a:Cw B w0 (qS c d f C.gx b cs l++(kA C s m L n o++H)) w) :
  Calls Tryz.prog 224 #[ai (k:Int),af c,af d] w fun e w'=> ∃g:List jJ×List (Value×List Int)×Option Addr×Nat,jP C.f.C.length g.1 g.2.1 (dI C.f.C.length s k l).2.at_/\
   e= .returned (.bool (!(dI C.f.C.length s k l).1))/\Cw B w0 (qS c d f C.gx b cs l++(kA C (dI C.f.C.length s k l).2 g.1 g.2.1 g.2.2.1 g.2.2.2++H)) w':=by
 refine bF Tryz.func224 rfl Tryz.ntmps224 rfl a ?_;dsimp only[qS,eP,cc];refine aj ?_;refine eu [0,3,6,9,12,15,20,23,24,27] [] rfl [ak c [af C.gx] 221,ak d [af f] 271,ak f [ac b l.length cs,.bool false] 273]<|aj ?_;refine pE rfl (fm rfl rfl rfl mo (fun w a=>AC b cs l w (SF.at_ (SF.own rfl fc) a) ω)) (fun⟨h,i⟩ _=>?_)
 try dsimp only
 refine zp (fun w t=>uw (v:= ac h l.length i) (xs:=l) (L:=L) (zR (t.msub (.s fc (.s fc .r))))) ?_;refine zz rfl rfl Tryz.call169 (fun w a=>E1 C s m ((ac h l.length i,l)::L) n o k z A l h i .new (u.cons _) j.ml (by have:=j.tl;omega) (fun D=>by have:=j.st D;omega) w (a.msub ms)) (fun⟨y,q,p,r⟩ x=>?_);refine aO ?_;intro w a;exact⟨(y,q,p,r),x,rfl,a.msub ms⟩
structure nF (fs:List aw) (f:aw):Prop where
 op:∀i,i<f.C.length->Jy fs f (bE f.C i)
 to_:∀i,i<f.C.length->∀q∈dT (bE f.C i) i,0<=q/\q<=f.C.length
 n40:f.C.length<=40
theorem sQ {n:Nat} :∀{s s':eD} {L:List Int} {k:Nat} {l:List Int},k<L.length->dW n s (L.take k) l=some s'->dW n s (L.take (k+1)) l=if (dI n s' (L.getD k 0).toNat l).1=true then some (dI n s' (L.getD k 0).toNat l).2 else none
 | s,s',[],k,l,b,_=>by simp at b
 | s,s',a::L,0,l,_,h=>by
  simp only[List.take_zero,dW,bj] at h;subst h;simp[dW]
 | s,s',a::L,k+1,l,b,h=>by
  simp only[is,dW] at h⊢
  split at h
  ·rename_i c;rw[if_pos c,sQ (by simpa using b) h];simp
  cases h
theorem sR {n:Nat} :∀{s:eD} {L:List Int} {k:Nat} {l:List Int},dW n s (L.take k) l=none->dW n s L l=none
 | s,[],k,l,h=>by simpa using h
 | s,a::L,0,l,h=>by simp[dW] at h
 | s,a::L,k+1,l,h=>by
  simp only[is,dW] at h⊢
  split at h
  ·rename_i b;rw[if_pos b];exact sR h
  rename_i b;rw[if_neg b]
theorem wE {n:Nat} :∀{s s':eD} {L:List Int} {l:List Int},gE n s->(∀q∈L,0<=q/\q<=n)->l.length<=8->s.todo.length+L.length<5000->dW n s L l=some s'->gE n s'/\s'.todo.length<=s.todo.length+L.length
 | s,s',[],l,h,_,_,_,e=>by
  simp only[dW,bj] at e;subst e;exact⟨h,aF _⟩
 | s,s',a::L,l,h,c,b,i,e=>by
  simp only[dW] at e
  split at e
  ·have:=c a σ;rw[br] at i;obtain⟨d,j⟩:=ou h (k:=a.toNat) ω b ω;obtain⟨f,m⟩:=wE d (fun q g=>c q (by simp[g])) b ω e;exact⟨f,by rw[br];omega⟩
  cases e
theorem Ds {fs:List aw} {f:aw} {o:bJ} {s a:qP} (e:oV fs f o s=a) (h:a.2=false):a.1.length<=8:=by
 subst e;unfold oV at h⊢;simp only[Bool.or_eq_false_iff,decide_eq_false_iff_not] at h;show (jB fs f o s).1.length<=8;omega
theorem pk (o:bJ) (pc:Int):(dT o pc).length<=2:=by
 unfold dT
 repeat (first | split | simp)
theorem MQ (C:FC) (s:eD) (hd:List jJ) (L:List (Value×List Int)) (At:Option Addr) (ct:Nat) (r:Option eD) (e:nS C.fs C.f s=r) (hok:nF C.fs C.f) (hp:bN w0 B (.slice C.Ap C.fs.length C.cp) C.fs) (hlo:bN w0 B (.slice C.A1 C.f.L.length C.c1) C.f.L) (hco:bN w0 B (.slice C.A2 C.f.C.length C.c2) C.f.C)
  (hR:jP C.f.C.length hd L s.at_) (hF:gE C.f.C.length s) (ht:0<s.todo.length) (ht2:s.todo.length<=4000) (w:World) (hw:Cw B w0 (kA C s hd L At ct++H) w) :
  Calls Tryz.prog 170 #[.pointer (some ⟨C.gx,0,none⟩)] w fun e w'=> ∃g:List jJ×List (Value×List Int)×Option Addr×Nat,(match r with | some s'=>jP C.f.C.length g.1 g.2.1 s'.at_ | none=>True)/\
   e= .returned (.bool r.isSome)/\Cw B w0 ((match r with | some s'=>kA C s' g.1 g.2.1 g.2.2.1 g.2.2.2 | none=> [])++H) w':=by
 obtain⟨gx,fs,f,Ap,cp,A1,c1,A2,c2,Aa,ca,Am,cm⟩:=C
 obtain⟨at_,met,todo⟩:=s
 dsimp only[kA,eP,cc] at *
 obtain⟨n,hn⟩:∃n,todo.length=n+1:=⟨todo.length - 1,by omega⟩
 have hmem:todo.getD n 0∈todo:=by rw[ap,aq (by omega)];exact dh _
 have htd:=hF.td _ hmem
 obtain⟨k,hk⟩:∃k:Nat,todo.getD n 0=(k:Int):=⟨(todo.getD n 0).toNat,by have:=htd.1;omega⟩
 have hkl:k<f.C.length:=by have:=htd.2;omega
 obtain⟨T,b,eT⟩:∃T b,oV fs f (bE f.C k) (at_.getD k [],false)=(T,b):=⟨_,_,rfl⟩
 have e:(if b=true then none else dW f.C.length ⟨at_,met,todo.take n⟩ (dT (bE f.C k) k) T)=r:=by
  unfold nS at e
  dsimp only at e
  rw[show todo.length - 1=n from by omega,hk,bq,eT] at e
  exact e
 have htl:(todo.take n).length=n:=by rw[aB];omega
 have i1:=Eg hco hkl
 refine bF Tryz.func170 rfl Tryz.ntmps170 rfl hw<|aj ?_
 intro g1 _
 refine aC ?_
 refine bG<|cn<|bK<|dG (cT fc Tryz.isAgg221 rfl rfl (by rfl)) rfl rfl ?_
 refine aC ?_
 refine aC ?_
 refine dG (cT fc gX rfl rfl (by rfl)) rfl rfl ?_
 refine dG (lr ay rfl rfl) rfl rfl<|dG (zx rfl rfl rfl (by omega)) rfl rfl<|aC ?_
 refine bG<|cN (t:=3) (v':= .int .i64 (n:Int)) rfl (by congr 1;omega)<|aj ?_
 refine da (_) rfl ((SF.own rfl fc)) ?_
 refine mQ rfl ((SF.own rfl fc)) ?_
 refine aC ?_
 refine bG<|ei (fun w h=>gT h (xs:=todo) fc) fun hcap=>?_
 refine cN (t:=4) (v':= .int .i64 (k:Int)) rfl (by rw[hk])<|aj ?_
 refine bh [0,3,6,9,12,15,18,21,24,29] [9] rfl<|aj ?_
 refine tE rfl (iZ (k:=n) ay bg (by omega) rfl rfl rfl) ?_
 refine aC ?_
 refine aC ?_
 refine eo rfl (cV _ fc gu rfl rfl rfl rfl rfl (by rfl) rfl (by rfl)) rfl rfl (.inl rfl) (fun _ _=>?_) hZ
 refine DU<|db (fun w h=>tg (k:=n) (xs:=todo) (A:=At) (m:=todo.length) (c:=ct) (by omega) (h.msub (.s fc .r))) ?_
 have hin:=hR.el k hkl
 have h8:(at_.getD k []).length<=8:=hF.st k
 refine aj ?_
 refine da (_) rfl ((SF.own hR.hl fc)) ?_
 refine eK rfl (SF.hdr (SF.own hR.hl fc) hkl) ?_
 refine rm (fun w h=>hin.form h fc) ?_
 rintro⟨A3,c3,hv⟩
 rw[hv] at hin
 refine bd (t:=34) (v':= .slice A3 (at_.getD k []).length c3) rfl (hv) ?_
 refine oE (fm rfl rfl rfl mo (fun w hw=>AC A3 c3 (at_.getD k []) w (hin.sl hw fc) (by omega))) (fun⟨A4,c4⟩ _=>?_)
 refine aO ?_
 refine fun g2 _=>aj ?_
 intro g3 _
 refine dE (cV _ fc Tryz.sizeOf271 rfl rfl rfl rfl rfl (by rfl) rfl (by rfl)) rfl rfl (fun _ _=>?_)
 refine bG<|aj ?_
 refine eu [0,3,6,9,12,15,18,21,24,27,30,33,36,39,42,45,48,53] [] rfl [ak g1 [.pointer (some ⟨gx,0,none⟩)] 221,ak gx [.slice Ap fs.length cp,.int .i64 f.params,.slice A1 f.L.length c1,.int .i64 f.result,.slice A2 f.C.length c2,.slice Aa f.C.length ca,.slice Am f.C.length cm,.slice At n ct] 224,ak g3 [.pointer (some ⟨g2,0,none⟩)] 271]<|aj ?_
 refine tE rfl (aW eF gK (.ro hco) (by omega) rfl rfl rfl) ?_
 refine tE rfl (eC (cs:= [_,_]) (SF.op (.ro hco) (by omega)) rfl rfl yW gK) ?_
 refine zz rfl rfl Tryz.call222 (fun w hw=>OW g2 fs f (bE f.C k) eT A4 Ap A1 A2 c4 cp c1 c2 (hok.op k hkl) hp hlo (by omega) w (hw.msub (.s fc (.s fc .r)))) (fun⟨A6,c6⟩ _=>?_)
 refine aO ?_
 refine bO rfl (fun hb=>?_) (fun hb=>?_)
 ·rw[if_pos hb] at e
  subst e
  refine aj ?_
  intro w hw
  exact⟨(hd,L,At,ct),trivial,rfl,hw.msub ms⟩
 have hb:b=false:=hb
 subst hb
 have hT8:=Ds eT rfl
 have hT8:T.length<=8:=hT8
 rw[if_neg (by decide)] at e
 obtain⟨LL,hLL⟩:∃LL,dT (bE f.C k) k=LL:=⟨_,rfl⟩
 have hto:=hok.to_ k hkl
 have hl2:=pk (bE f.C k) k
 rw[hLL] at hto hl2 e
 have haft:∀w1,Sl w1 (.slice A2 f.C.length c2) f.C->Calls Tryz.prog 223 #[.slice A2 f.C.length c2,.int .i64 (k:Int)] w1 fun e w'=> ∃g:Option Addr×Nat,True/\e= .returned (.slice g.1 LL.length g.2)/\Cw w1.heap.size w1 [an (.slice g.1 LL.length g.2) LL] w':=fun w1 h=>by
  have:=L5 A2 c2 f.C k w1 h hkl
  rw[hLL] at this
  exact this
 refine aj ?_
 refine et rfl Tryz.call223 (fun w hw=>haft w (hw.ro hco)) (fun⟨A7,c7⟩ _=>?_)
 refine aO ?_
 obtain⟨C,hC⟩:∃C:FC,C=⟨gx,fs,f,Ap,cp,A1,c1,A2,c2,Aa,ca,Am,cm⟩:=⟨_,rfl⟩
 have hF0:gE f.C.length ⟨at_,met,todo.take n⟩:=⟨hF.al,hF.ml,by show (todo.take n).length<=_;omega,hF.st,fun x hx=>hF.td x (jN hx)⟩
 have hstep:∀(j:Nat) (g:eD×List jJ×List (Value×List Int)×Option Addr×Nat),j<LL.length->((dW f.C.length ⟨at_,met,todo.take n⟩ (LL.take j) T=some g.1/\gE f.C.length g.1/\g.1.todo.length<=n+j)/\jP f.C.length g.2.1 g.2.2.1 g.1.at_)->∀w,Cw B w0 ((fun g:eD×List jJ×List (Value×List Int)×Option Addr×Nat=>qS g1 g3 g2 gx A6 c6 T++(kA C g.1 g.2.1 g.2.2.1 g.2.2.2.1 g.2.2.2.2++(an (.slice A7 LL.length c7) LL::H))) g) w->
   Calls Tryz.prog 224 ([Value.int .i64 (LL.getD j 0)]++(#[.pointer (some ⟨g1,0,none⟩),.pointer (some ⟨g3,0,none⟩)]:Array Value).toList).toArray w fun e w'=> ∃p:Bool×eD×List jJ×List (Value×List Int)×Option Addr×Nat,
    (if p.1 then dW f.C.length ⟨at_,met,todo.take n⟩ LL T=none else (dW f.C.length ⟨at_,met,todo.take n⟩ (LL.take (j+1)) T=some p.2.1/\gE f.C.length p.2.1/\p.2.1.todo.length<=n+(j+1))/\jP f.C.length p.2.2.1 p.2.2.2.1 p.2.1.at_)/\e= .returned (.bool p.1)/\Cw B w0 ((fun g:eD×List jJ×List (Value×List Int)×Option Addr×Nat=>qS g1 g3 g2 gx A6 c6 T++(kA C g.1 g.2.1 g.2.2.1 g.2.2.2.1 g.2.2.2.2++(an (.slice A7 LL.length c7) LL::H))) p.2) w':=by
  rintro j ⟨s',hd',L',A',c'⟩ hj ⟨⟨g1',g2',g3'⟩,g4'⟩ w1 hw1
  have hmem:LL.getD j 0∈LL:=by rw[ap,aq hj];exact dh _
  obtain⟨q,hq⟩:∃q:Nat,LL.getD j 0=(q:Int):=⟨(LL.getD j 0).toNat,by have:=hto _ hmem;omega⟩
  have hqn:q<=f.C.length:=by have:=hto _ hmem;omega
  have hsn:=sQ hj g1'
  rw[hq,bq] at hsn
  have hco2:=ou g2' hqn hT8 (by have:=hF.tl;dsimp only at *;omega)
  dsimp only at *
  rw[hq]
  refine(JV (H:=an (.slice A7 LL.length c7) LL::H) C s' hd' L' A' c' g1 g3 g2 A6 c6 q (by rw[hC];exact hqn) (by rw[hC];exact hok.n40) T hT8 (by rw[hC];exact g4') (by rw[hC];exact g2') w1 (by rw[hC] at hw1⊢;exact hw1)).mono ?_
  rintro e1 w' ⟨⟨hd2,L2,A5,c5⟩,k1,k2,k3⟩
  rw[hC] at k1 k2
  dsimp only at k1 k2
  refine⟨(!(dI f.C.length s' q T).1,(dI f.C.length s' q T).2,hd2,L2,A5,c5),?_,k2,by rw[hC] at k3⊢;exact k3⟩
  dsimp only
  cases hb1:(dI f.C.length s' q T).1
  ·rw[hb1] at hsn
   rw[if_neg (by decide)] at hsn
   simp only[Bool.not_false,if_true]
   exact sR hsn
  rw[hb1] at hsn
  rw[if_pos rfl] at hsn
  simp only[Bool.not_true,mF,if_false]
  exact⟨⟨hsn,hco2.1,by omega⟩,k1⟩
 refine dA rfl Rl (fun w hw=>EW (B:=B) (w0:=w0) (fun j g=>(dW f.C.length ⟨at_,met,todo.take n⟩ (LL.take j) T=some g.1/\gE f.C.length g.1/\g.1.todo.length<=n+j)/\jP f.C.length g.2.1 g.2.2.1 g.1.at_) (fun _=>dW f.C.length ⟨at_,met,todo.take n⟩ LL T=none) (fun g:eD×List jJ×List (Value×List Int)×Option Addr×Nat=>qS g1 g3 g2 gx A6 c6 T++(kA C g.1 g.2.1 g.2.2.1 g.2.2.2.1 g.2.2.2.2++(an (.slice A7 LL.length c7) LL::H))) A7 c7 LL 224 _ Tryz.call224 (fun g=> .own rfl fc) (by omega) hstep (⟨at_,met,todo.take n⟩,hd,L,At,ct) ⟨⟨rfl,hF0,by show (todo.take n).length<=_;omega⟩,hR⟩ w (by dsimp only[kA,qS,eP,cc];rw[hC];dsimp only;rw[htl];exact hw.msub ms)) (fun⟨bb,s',hd',L',A',c'⟩ hg=>?_)
 refine aO ?_
 intro w hw
 cases bb
 ·have hg:(dW f.C.length ⟨at_,met,todo.take n⟩ (LL.take LL.length) T=some s'/\gE f.C.length s'/\s'.todo.length<=n+LL.length)/\jP f.C.length hd' L' s'.at_:=hg
  rw[aR,e] at hg
  obtain⟨⟨k1,_,_⟩,k2⟩:=hg
  subst k1
  refine⟨(hd',L',A',c'),k2,rfl,?_⟩
  dsimp only[kA,qS,eP,cc] at hw⊢
  rw[hC] at hw
  exact hw.msub ms
 have hg:dW f.C.length ⟨at_,met,todo.take n⟩ LL T=none:=hg
 rw[e] at hg
 subst hg
 refine⟨(hd,L,At,ct),trivial,rfl,?_⟩
 dsimp only[kA,qS,eP,cc] at hw⊢
 exact hw.msub ms
end
end
section
def qX (l:List Int):Nat:=l.countP fun t=>decide (t=3)
def lO (s:eD) (i:Nat):Nat:=if s.met.getD i false=true then qX (s.at_.getD i []) else 9
def tC (n:Nat) (s:eD):Nat:=((List.range n).map (lO s)).sum
def mu (n:Nat) (s:eD):Nat:=tC n s+s.todo.length
theorem O4 {n k:Nat} {f g:Nat->Nat} (e:k<n) (h:∀i,i≠k->f i=g i):((List.range n).map g).sum+f k=((List.range n).map f).sum+g k:=by
 induction n with
 | zero=>omega
 | succ n d=>
  simp only[iA,cS,ve,eL,iG,BB,List.sum_nil]
  by_cases a:k=n
  ·subst a;have:(List.range k).map f=(List.range k).map g:=oy fun i c=>h i (by have:=jj.1 c;omega);rw[this];omega
  have:=d ω;have:=h n (fun b=>a b.symm);omega
theorem Gi {a b:Int} (h:ed a b≠0):ed a b=a\/(a=3/\ed a b=2):=by
 unfold ed cy at *
 by_cases c:a=b
 ·left;simp[c]
 by_cases d:a=3/\b=2
 ·right;obtain⟨rfl,rfl⟩:=d;simp
 by_cases e:b=3/\a=2
 ·left;obtain⟨rfl,rfl⟩:=e;simp
 exfalso
 apply h
 have g:¬(a=3/\b=2):=d;have i:¬(b=3/\a=2):=e;have j:¬b=a:=fun f=>c f.symm;simp[c,j,g,i]
theorem xK:∀{a l j:List Int},bX a l=some j->qX j<=qX a/\(j≠a->qX j<qX a)
 | [],[],j,h=>by simp[bX] at h;subst h;simp
 | [],_::_,j,h=>by simp[bX] at h
 | _::_,[],j,h=>by simp[bX] at h
 | a::l,b::m,j,h=>by
  simp only[bX] at h
  split at h
  ·cases h
  rename_i e
  cases c:bX l m with
  | none=>rw[c] at h;cases h
  | some k=>
   rw[c] at h;simp only[Option.map_some,bj] at h;subst h;obtain⟨g,h2⟩:=xK c;unfold qX at *;simp only[List.countP_cons];rcases Gi e with d | ⟨rfl,d⟩
   ·rw[d];refine⟨ω,fun f=>?_⟩;have:k≠l:=fun c=>f (by rw[c]);have:=h2 this;omega
   rw[d];simp only[decide_true,if_true];have:(if decide ((2:Int)=3)=true then 1 else 0)=0:=κ;rw[this];exact⟨ω,fun _=>ω⟩
theorem Ek (l:List Int):qX l<=l.length:=List.countP_le_length
theorem Cu {n:Nat} {s:eD} (h:gE n s) {k:Nat} (p:k<=n) {l:List Int} (q:l.length<=8):mu n (dI n s k l).2<=mu n s:=by
 have i:k<n->∀a:List Int,qX a<lO s k->mu n ⟨s.at_.set k a,s.met.set k true,s.todo++ [(k:Int)]⟩<=mu n s:=fun b a e=>by
  have j:=O4 (f:=lO s) (g:=lO ⟨s.at_.set k a,s.met.set k true,s.todo++ [(k:Int)]⟩) b fun t d=>by
   unfold lO;rw[jf (by rw[h.ml];exact b),jf (by rw[h.al];exact b),if_neg d,if_neg d]
  have m:lO ⟨s.at_.set k a,s.met.set k true,s.todo++ [(k:Int)]⟩ k=qX a:=by
   unfold lO;rw[jf (by rw[h.ml];exact b),jf (by rw[h.al];exact b),if_pos rfl,if_pos rfl,if_pos rfl]
  rw[m] at j;unfold mu tC;simp only[au,aT];omega
 unfold dI
 split
 ·exact aF _
 rename_i r
 split
 ·rename_i c
  split
  ·exact aF _
  rename_i a e
  split
  ·exact aF _
  rename_i o;exact i ω a (by unfold lO;rw[if_pos c];exact(xK e).2 o)
 rename_i c;exact i ω l (by unfold lO;rw[if_neg c];have:=Ek l;omega)
theorem wF {n:Nat} :∀{s s':eD} {L:List Int} {l:List Int},gE n s->(∀q∈L,0<=q/\q<=n)->l.length<=8->s.todo.length+L.length<5000->dW n s L l=some s'->mu n s'<=mu n s
 | s,s',[],l,h,_,_,_,e=>by
  simp only[dW,bj] at e;subst e;exact aF _
 | s,s',a::L,l,h,c,b,g,e=>by
  simp only[dW] at e
  split at e
  ·have:=c a σ;rw[br] at g;obtain⟨d,i⟩:=ou h (k:=a.toNat) ω b ω;exact dS (wF d (fun q f=>c q (by simp[f])) b ω e) (Cu h ω b)
  cases e
theorem yl {fs:List aw} {f:aw} (k:nF fs f) {s s':eD} (h:gE f.C.length s) (u:0<s.todo.length) (v:s.todo.length<=4000) (e:nS fs f s=some s'):gE f.C.length s'/\mu f.C.length s'<mu f.C.length s:=by
 obtain⟨b,t⟩:∃b,s.todo.length=b+1:=⟨s.todo.length - 1,ω⟩
 have n:s.todo.getD b 0∈s.todo:=by rw[ap,aq ω];exact dh _
 have:=h.td _ n;obtain⟨a,m⟩:∃a:Nat,s.todo.getD b 0=(a:Int):=⟨(s.todo.getD b 0).toNat,ω⟩
 have i:a<f.C.length:=ω;unfold nS at e;dsimp only at e;rw[show s.todo.length - 1=b from by omega,m,bq] at e
 split at e
 ·cases e
 rename_i c;have c:(oV fs f (bE f.C a) (s.at_.getD a [],false)).2=false:=τ c;have g:=Ds rfl c;have d:gE f.C.length ⟨s.at_,s.met,s.todo.take b⟩:=⟨h.al,h.ml,by show (s.todo.take b).length<=_;rw[aB];omega,h.st,fun p o=>h.td p (jN o)⟩
 have:=pk (bE f.C a) a;have j:(s.todo.take b).length+(dT (bE f.C a) a).length<5000:=by rw[aB];omega
 have l:=wE d (k.to_ a i) g j e;have:=wF d (k.to_ a i) g j e;refine⟨l.1,?_⟩;have:mu f.C.length ⟨s.at_,s.met,s.todo.take b⟩+1=mu f.C.length s:=by
  unfold mu;show tC f.C.length s+(s.todo.take b).length+1=_;rw[aB];omega
 omega
def nq (fs:List aw) (f:aw):Nat->eD->Option eD
 | 0,_=>none
 | k+1,s=>if s.todo.length=0 then some s else match nS fs f s with
  | none=>none
  | some s'=>nq fs f k s'
theorem zI {fs:List aw} {f:aw} (a:nF fs f):∀(k m:Nat) (s:eD),gE f.C.length s->mu f.C.length s<=4000->mu f.C.length s<k->mu f.C.length s<m->nq fs f k s=nq fs f m s
 | 0,_,_,_,_,h,_=>absurd h (by omega)
 | _+1,0,_,_,_,_,h=>absurd h (by omega)
 | k+1,m+1,s,d,c,i,h2=>by
  simp only[nq]
  split
  ·rfl
  rename_i l
  cases e:nS fs f s with
  | none=>rfl
  | some s'=>
   have g:s.todo.length<=4000:=by unfold mu at c;omega
   obtain⟨b,j⟩:=yl a d ω g e;exact zI a k m s' b ω ω ω
def iJ (n:Nat):eD:=⟨List.replicate n [],List.replicate n false,[]⟩
def jr (n:Nat):eD:=(dI n (iJ n) 0 []).2
def qE (fs:List aw) (f:aw):Option eD:=nq fs f (mu f.C.length (jr f.C.length)+1) (jr f.C.length)
structure kS where
 pc:Int
 K:List Int
 deriving DecidableEq
def mt (s:eD) (i:Nat):List kS:=(List.range i).filterMap fun k=>if s.met.getD k false=true then some ⟨k,s.at_.getD k []⟩ else none
def cD (fs:List aw) (f:aw):List kS×Bool:=match qE fs f with
 | none=>([],false)
 | some s=>(mt s f.C.length,true)
theorem vL (n:Nat):gE n (iJ n):=by
 refine⟨by simp[iJ],by simp[iJ],by simp[iJ],fun a=>?_,by simp[iJ]⟩;show ((List.replicate n ([]:List Int)).getD a []).length<=8;rw[ap,rX]
 split <;> simp
theorem MR (n:Nat):mu n (iJ n)<=9*n:=by
 unfold mu tC;have:∀a,((List.range a).map (lO (iJ n))).sum<=9*a:=fun a=>by
  induction a with
  | zero=>simp
  | succ a c=>
   simp only[iA,cS,ve,eL,iG,BB,List.sum_nil];have:lO (iJ n) a<=9:=by
    unfold lO
    split
    ·rename_i b;have:(iJ n).met.getD a false=false:=by
      show (List.replicate n false).getD a false=false;rw[ap,rX]
      split <;> rfl
     rw[this] at b;cases b
    exact aF _
   omega
 have:=this n;show _+([]:List Int).length<=_;simpa using this
theorem BQ {n:Nat} (_:0<n):gE n (jr n)/\mu n (jr n)<=9*n:=by
 have a:=ou (vL n) (k:=0) (aU _) (l:= []) σ (by simp[iJ]);have b:=Cu (vL n) (k:=0) (aU _) (l:= []) σ;exact⟨a.1,dS b (MR n)⟩
end
section
instance:aH kS where
 k:=2
 rep w B cs x:= ∃v,cs= [.int .i64 x.pc,v]/\aI x.pc/\bN w B v x.K
 len h:=by obtain⟨v,h,_⟩:=h;rw[h];rfl
 keep h hc:=by obtain⟨v,h,hi,hs⟩:=h;exact⟨v,h,hi,hs.keep hc⟩
 more h hb:=by obtain⟨v,h,hi,hs⟩:=h;exact⟨v,h,hi,hs.more hb⟩
 one h:=by obtain⟨v,h,hi,hs⟩:=h;obtain⟨A,c,rfl,_⟩:=hs.form;rw[h];simp[Value.oneCell']
structure iR where
 pc:Int
 v:Value
instance:aH iR where
 k:=2
 rep _ _ cs h:=cs= [.int .i64 h.pc,h.v]/\aI h.pc/\h.v.oneCell'=true
 len h:=by rw[h.1];rfl
 keep h _:=h
 more h _:=h
 one h:=by rw[h.1];simpa [Value.oneCell'] using h.2.2
instance:Ow iR where
 ty:=105
 own _ F cs h:=(cs= [.int .i64 h.pc,h.v]/\aI h.pc/\h.v.oneCell'=true)/\∀b,¬F b
 rd_ h:=h.1
 lt h hb:=(h.2 _ hb).elim
 frame h _:=h
 cong h hf:=⟨h.1,fun b hb=>h.2 b ((hf b).2 hb)⟩
instance:dd iR where
 enc h:= [.int .i64 h.pc,h.v]
 wf h:=aI h.pc/\h.v.oneCell'=true
 rep_iff:=kl
 own_iff:=kl
structure ow (es:List iR) (L:List (Value×List Int)) (xs:List kS):Prop where
 len:es.length=xs.length
 el:∀i (h:i<es.length) (h2:i<xs.length),es[i].pc=xs[i].pc/\lG L es[i].v xs[i].K
theorem ow.nil_ {L:List (Value×List Int)} :ow [] L []:=⟨rfl,fun b a=>by simp at a⟩
theorem ow.snoc {a:List iR} {L:List (Value×List Int)} {xs:List kS} (h:ow a L xs) {e:iR} {x:kS} (d:e.pc=x.pc) (h2:lG L e.v x.K):ow (a++ [e]) L (xs++ [x]):=
 ⟨by simp[h.len],fun b f i=>by
  by_cases c:b<a.length
  ·rw[List.getElem_append_left c,List.getElem_append_left (by have:=h.len;omega)];exact h.el b c (by have:=h.len;omega)
  rw[au,aT] at f;have g:=h.len;have:b=a.length:=ω;subst this;rw[List.getElem_append_right (aF _),List.getElem_append_right ω];simp[d,h2,g]⟩
theorem PF {w:World} {F:Nat->Prop} {L:List (Value×List Int)} {v:Value} {xs:List Int} (h:lG L v xs) (b:Hs w (L.map fun p=>kj p.1 p.2) F):Sl w v xs:=by
 rcases h with ⟨rfl,rfl⟩ | h
 ·exact Sl.nil_
 obtain⟨c,a,_⟩:=Hs.mem (lZ (f:=fun p:Value×List Int=>kj p.1 p.2) h) b;exact a.2 w fun _ _=>rfl
theorem BZ {a:List iR} {L:List (Value×List Int)} {xs:List kS} (b:ow a L xs) {v:Value} :∀w F,Hs w [an v a,gL L] F->Sl w v xs:=by
 rintro w F ⟨n,O,e,⟨o,P,f,R,_,_⟩,_,_⟩;have e:cY w n v a:=e;have f:Hs w (L.map fun l=>kj l.1 l.2) o:=f;obtain⟨m,q,A,E,G,I,J⟩:=e.sl;refine⟨m,q,by rw[A,b.len],by rw[<-b.len];exact E,G,by rw[<-b.len];exact I,fun r=>?_⟩;obtain⟨p,K,s,t,y⟩:=J (by rw[b.len];exact r);refine⟨p,K,s,t,fun c N C=>?_⟩;have g:=(bw.1 C)
 obtain⟨j,g⟩:=g;have i:c<a.length:=by rw[b.len];exact j
 obtain⟨Q,⟨x,z,S⟩,u⟩:=y c a[c] (aq i);obtain⟨d,h⟩:=b.el c i j;rw[g] at d h;subst x;refine⟨[ai N.pc,a[c].v],⟨a[c].v,rfl,by rw[<-d];exact z,PF h f⟩,fun D M k=>?_⟩;rw[<-d] at k;exact u D M k
theorem wx (s:eD) (i:Nat):mt s (i+1)=if s.met.getD i false=true then mt s i++ [⟨i,s.at_.getD i []⟩] else mt s i:=by
 unfold mt;rw[iA,List.filterMap_append]
 split
 ·rename_i a;simp only[List.filterMap_cons,List.filterMap_nil];rw[if_pos a]
 rename_i a;simp only[List.filterMap_cons,List.filterMap_nil];rw[if_neg a];simp
theorem EO (s:eD) (i:Nat):(mt s i).length<=i:=by
 have:=List.length_filterMap_le (fun a=>if s.met.getD a false=true then some (⟨a,s.at_.getD a []⟩:kS) else none) (List.range i);rw[kv] at this;exact this
theorem nP:(Tryz.prog.info? 35).map (fun i=>(i.zero,i.size,i.bytes))=some (some (ac none 0 0),1,24):=by kernel_rfl
theorem AK:(Tryz.prog.info? 105).map (fun i=>(i.zero,i.size,i.bytes))=some (some (.agg #[ai 0,ac none 0 0]),2,32):=by kernel_rfl
theorem lL {α:Type} (n i:Nat) (x:α):(List.replicate n x).getD i x=x:=by
 rw[ap,rX]
 split <;> rfl
theorem sP (A:Option Addr) (c:Nat) (fs:List aw) (k:Nat) (w:World) (J:Sl w (.slice A fs.length c) fs) (bf:k<fs.length) (E:nF fs (ar fs k)) (al:0<(ar fs k).C.length) :
  Calls Tryz.prog 117 #[.agg #[.slice A fs.length c],.int .i64 (k:Int)] w fun e w'=> ∃g:(Option Addr×Nat)×List iR×List (Value×List Int),ow g.2.1 g.2.2 (cD fs (ar fs k)).1/\e= .returned (.tuple #[.slice g.1.1 g.2.1.length g.1.2,.bool (cD fs (ar fs k)).2])/\
   Cw w.heap.size w [an (.slice g.1.1 g.2.1.length g.1.2) g.2.1,gL g.2.2] w':=by
 obtain⟨q,r,i,l,ad,Y,ba,Q⟩:=J.fn bf;generalize ar fs k=a at ad Y ba Q E al⊢;have bl:=E.n40;refine enter Tryz.func117 rfl Tryz.ntmps117 rfl<|aj ?_;refine fun bo _=>aj ?_;refine da _ rfl (.ro J)<|aj ?_;refine eK rfl (fun w p=>Q _ w p 3 _ rfl) ?_;refine aC ?_;refine bG<|dq (fun _:Nat×Nat×Nat=>True) (fun g=> [(6,.slice i a.C.length l),(7,.pointer (some ⟨g.2.2,0,none⟩))]) (fun g=> [ak g.2.2 [.slice A fs.length c,.int .i64 a.params,.slice q a.L.length r,.int .i64 a.result,.slice i a.C.length l,.slice (some ⟨g.1,0,none⟩) a.C.length a.C.length,.slice (some ⟨g.2.1,0,none⟩) a.C.length a.C.length,.slice none 0 0] 224,an (.slice (some ⟨g.1,0,none⟩) a.C.length a.C.length) (List.replicate a.C.length lR),an (.slice (some ⟨g.2.1,0,none⟩) a.C.length a.C.length) (List.replicate a.C.length false)]) ?_ ?_
 ·refine jG (.still 0 (.still 1 (.still 2 (.still 3 (.still 4 (.still 5 (.still 6 (.still 7 (.still 9 (.still 10 (.pick 8 (.pick 11 (.still 12 (.pick 13 (.still 14 .done) .stop)) .stop) (.pick 11 (.pick 8 (.still 12 (.pick 13 (.still 14 .done) .stop)) .stop) .stop)))))))))))) [] rfl (by kernel_rfl) (by kernel_rfl) ?_;refine aj ?_;refine tE rfl (aW eR fx (.ro J) (by omega) rfl rfl rfl) ?_;refine tE rfl (eC (Q _) rfl rfl yX fx)<|aj ?_;refine eo rfl (oI (α:=jJ) lR eG nP rfl (fun w=>⟨⟨rfl,rfl⟩,fun _ h=>h⟩) rfl (by omega) rfl rfl rfl) rfl rfl (.inr fun _=>ha) (fun m _=>?_) ?_
  ·refine pE rfl (oI (α:=Bool) false oQ yU rfl (fun w=>⟨rfl,fun _ h=>h⟩) rfl (by omega) rfl rfl rfl) (fun n _=>aj ?_);refine fun f _=>aj ?_;refine bR<|bW (m,n,f) trivial
  refine pE rfl (oI (α:=Bool) false oQ yU rfl (fun w=>⟨rfl,fun _ h=>h⟩) rfl (by omega) rfl rfl rfl) (fun n _=>?_);refine pE rfl (oI (α:=jJ) lR eG nP rfl (fun w=>⟨⟨rfl,rfl⟩,fun _ h=>h⟩) rfl (by omega) rfl rfl rfl) (fun m _=>aj ?_);refine fun f _=>aj ?_;refine bR<|bW (m,n,f) trivial
 rintro⟨m,n,f⟩ _
 try dsimp only
 have a6:jP a.C.length (List.replicate a.C.length lR) [] (iJ a.C.length).at_:=⟨by simp,by simp[iJ],fun d _=>by
  show lG [] ((List.replicate a.C.length lR).getD d lR).v ((List.replicate a.C.length ([]:List Int)).getD d []);rw[lL,lL];exact .nil_⟩
 have am:=BQ al;have a8:∀N,Cw w.heap.size w (kA (⟨f,fs,a,A,c,q,r,i,l,some ⟨m,0,none⟩,a.C.length,some ⟨n,0,none⟩,a.C.length⟩:FC) (iJ a.C.length) (List.replicate a.C.length lR) [] none 0++ []) N->Calls Tryz.prog 169 #[.pointer (some ⟨f,0,none⟩),.int .i64 0,.slice none 0 0] N fun e w'=> ∃g:List jJ×List (Value×List Int)×Option Addr×Nat,jP a.C.length g.1 g.2.1 (jr a.C.length).at_/\
   e= .returned (.bool (dI a.C.length (iJ a.C.length) 0 []).1)/\Cw w.heap.size w (kA (⟨f,fs,a,A,c,q,r,i,l,some ⟨m,0,none⟩,a.C.length,some ⟨n,0,none⟩,a.C.length⟩:FC) (jr a.C.length) g.1 g.2.1 g.2.2.1 g.2.2.2++ []) w':=fun N h=>
  E1 (⟨f,fs,a,A,c,q,r,i,l,some ⟨m,0,none⟩,a.C.length,some ⟨n,0,none⟩,a.C.length⟩:FC) (iJ a.C.length) (List.replicate a.C.length lR) [] none 0 0 (aU _) bl [] none 0 .nil_ a6 (by simp[iJ]) (by simp[iJ]) (fun d=>by have:=(vL a.C.length).st d;omega) N h
 refine db (fun w h=>lN (Cw.nilO Int h))<|aj ?_;refine dA rfl Tryz.call169 (fun w p=>a8 w (p.msub ms)) (fun⟨t,j,x,y⟩ s=>?_);refine aO ?_;rw[ee];refine iT (fun g:eD×List jJ×List (Value×List Int)×Option Addr×Nat=>(qE fs a=some g.1/\gE a.C.length g.1)/\jP a.C.length g.2.1 g.2.2.1 g.1.at_) (fun g=> [(6,.slice i a.C.length l),(7,.pointer (some ⟨f,0,none⟩))]) (fun g=>kA (⟨f,fs,a,A,c,q,r,i,l,some ⟨m,0,none⟩,a.C.length,some ⟨n,0,none⟩,a.C.length⟩:FC) g.1 g.2.1 g.2.2.1 g.2.2.2.1 g.2.2.2.2) ?_ ?_
 ·refine de (fun g:eD×List jJ×List (Value×List Int)×Option Addr×Nat=>((nq fs a (mu a.C.length g.1+1) g.1=qE fs a/\gE a.C.length g.1)/\jP a.C.length g.2.1 g.2.2.1 g.1.at_)/\mu a.C.length g.1<=400) (fun g=>mu a.C.length g.1) (fun g=> [(6,.slice i a.C.length l),(7,.pointer (some ⟨f,0,none⟩))]) (fun g=>kA (⟨f,fs,a,A,c,q,r,i,l,some ⟨m,0,none⟩,a.C.length,some ⟨n,0,none⟩,a.C.length⟩:FC) g.1 g.2.1 g.2.2.1 g.2.2.2.1 g.2.2.2.2) (jr a.C.length,t,j,x,y) (⟨⟨⟨rfl,am.1⟩,s⟩,by show mu a.C.length (jr a.C.length)<=_;have:=am.2;omega⟩) ?_;rintro⟨b,t,j,x,y⟩ D
  try dsimp only
  obtain⟨⟨⟨Z,z⟩,s⟩,bk⟩:((nq fs a (mu a.C.length b+1) b=qE fs a/\gE a.C.length b)/\jP a.C.length t j b.at_)/\mu a.C.length b<=400:=D;have:b.todo.length<=400:=by unfold mu at bk;omega
  dsimp only[kA];refine ax (fun bm=>?_) (fun bm=>?_)
  ·have M:0<b.todo.length:=by omega
   obtain⟨u,V⟩:∃u,nS fs a b=u:=⟨_,rfl⟩
   have C:=Z;rw[nq,if_neg (by omega),V] at C;refine aj ?_;refine dA rfl Tryz.call170 (fun w p=>MQ (H:= []) (⟨f,fs,a,A,c,q,r,i,l,some ⟨m,0,none⟩,a.C.length,some ⟨n,0,none⟩,a.C.length⟩:FC) b t j x y u V E J ad Y s z M (by omega) w (p.msub ms)) (fun⟨a9,a3,a1,a4⟩ a7=>?_);refine aO ?_;refine bO rfl (fun U=>?_) (fun U=>?_)
   ·obtain rfl:u=none:=by cases u with | none=>rfl | some o=>cases U
    have hent:cD fs a=([],false):=by unfold cD;rw[<-C]
    rw[hent];refine aj ?_;intro w p;exact⟨((none,0),[],[]),.nil_,rfl,Cw.nilO iR (lN (p.msub (T:= []) ms))⟩
   obtain⟨o,rfl⟩:∃o,u=some o:=by cases u with | none=>cases U | some o=>exact⟨o,rfl⟩
   have K:=yl E z M (by omega) V;have bc:nq fs a (mu a.C.length o+1) o=qE fs a:=by
    rw[<-C];exact zI E _ _ o K.1 (by omega) (by omega) K.2
   dsimp only[ee];rw[ee];refine aj ?_;refine Dg (o,a9,a3,a1,a4) (⟨⟨⟨bc,K.1⟩,a7⟩,by show mu a.C.length o<=_;omega⟩) (K.2)
  have M:b.todo.length=0:=by omega
  have C:=Z;rw[nq,if_pos M] at C;refine aj ?_;refine bW (b,t,j,x,y) (⟨⟨C.symm,z⟩,s⟩)
 rintro⟨b,t,j,x,y⟩ D;obtain⟨⟨D,z⟩,s⟩:(qE fs a=some b/\gE a.C.length b)/\jP a.C.length t j b.at_:=D;have hent:cD fs a=(mt b a.C.length,true):=by unfold cD;rw[D]
 rw[hent];dsimp only[kA];refine db (fun w h=>Cw.nilO iR h)<|aj ?_;refine de (fun g:Nat×List iR×Option Addr×Nat=>g.1<=a.C.length/\ow g.2.1 j (mt b g.1)) (fun g=>a.C.length - g.1) (fun g=> [(7,.pointer (some ⟨f,0,none⟩)),(8,.slice g.2.2.1 g.2.1.length g.2.2.2),(42,.int .i64 (a.C.length:Int)),(43,.int .i64 (g.1:Int))]) (fun g=>an (.slice g.2.2.1 g.2.1.length g.2.2.2) g.2.1::kA (⟨f,fs,a,A,c,q,r,i,l,some ⟨m,0,none⟩,a.C.length,some ⟨n,0,none⟩,a.C.length⟩:FC) b t j x y) (0,[],none,0) (⟨aU _,.nil_⟩) ?_;rintro⟨d,F,W,X⟩ bb
 try dsimp only
 obtain⟨bt,I⟩:d<=a.C.length/\ow F j (mt b d):=bb;have:=I.len;have:=EO b d;dsimp only[kA];refine ax (fun bi=>?_) (fun bi=>?_)
 ·have G:d<a.C.length:=by omega
  have L:=wx b d;refine aj ?_;refine da _ rfl (SF.own z.ml fc) ?_;refine eK rfl (SF.bool (SF.own z.ml fc) (by omega))<|aj ?_;refine bO rfl (fun S=>?_) (fun S=>?_)
  ·rw[if_pos S] at L;have R:=s.el d G;refine aj ?_;refine da _ rfl (SF.own s.hl fc) ?_;refine rm (fun w h=>R.form h fc) ?_;rintro⟨O,P,a0⟩;rw[a0] at R;refine sE (bU (v:= .slice O (b.at_.getD d []).length P) (by rw[<-a0];exact SF.hdr (SF.own s.hl fc) G) rfl rfl gX)<|aj ?_;intro bp _;refine oE (bV (α:=iR) (bytes:=32) ⟨d,.slice O (b.at_.getD d []).length P⟩ [] rfl V1 (aS AK) rfl (eB fc fc) (df ⟨⟨by show (-9223372036854775808:Int)<=(d:Int);omega,by show (d:Int)<=9223372036854775807;omega⟩,rfl⟩) (by omega) (by omega) rfl rfl rfl) (fun⟨a2,a5⟩ _=>?_);refine aO ?_;refine cJ (d+1,F++ [⟨d,.slice O (b.at_.getD d []).length P⟩],a2,a5) (⟨G,by rw[L];exact I.snoc rfl R⟩) (by show _ - _<_ - _;omega)
  rw[if_neg (by rw[S];decide)] at L;refine aj ?_;refine cJ (d+1,F,W,X) (⟨G,by rw[L];exact I⟩) (by show _ - _<_ - _;omega)
 obtain rfl:d=a.C.length:=by omega
 refine aj ?_;intro w p;exact⟨((W,X),F,j),I,rfl,p.msub ms⟩
theorem F6 (A:Option Addr) (c:Nat) (fs:List aw) (k:Nat) (w:World) (j:Sl w (ac A fs.length c) fs) (f:k<fs.length) (i:nF fs (ar fs k)) (h:0<(ar fs k).C.length) :
  Calls Tryz.prog 117 #[.agg #[ac A fs.length c],ai (k:Int)] w fun e w'=> ∃g:Option Addr×Nat,True/\e= .returned (.tuple #[ac g.1 (cD fs (ar fs k)).1.length g.2,.bool (cD fs (ar fs k)).2])/\
   Cw w.heap.size w [kj (ac g.1 (cD fs (ar fs k)).1.length g.2) (cD fs (ar fs k)).1] w':=
 (sP A c fs k w j f i h).mono fun e w' ⟨g,a,b,d⟩=>⟨g.1,trivial,by rw[<-a.len];exact b,by rw[<-a.len];exact Cn (Hel:= [ag g.1.1 g.1.2 g.2.1,gL g.2.2]) (H:= []) (BZ a) d⟩
end
section
theorem jL {fs:List aw} {k:Nat} (a:k<fs.length):ar fs k∈fs:=by
 unfold ar;rw[ap,aq a];exact dh a
theorem jo {fs:List aw} (h:dc fs=0) {k:Nat} (p:k<fs.length):nF fs (ar fs k)/\0<(ar fs k).C.length:=by
 obtain⟨_,_,g⟩:=iD h;obtain⟨_,_,s,t,u,n,f⟩:=kX (g _ (jL p));obtain⟨m,_⟩:=sS n;refine⟨⟨fun d e=>?_,fun d e r q=>?_,m⟩,ω⟩
 ·have a:=f _ (uy e);refine⟨fun b=>?_,fun b=>?_,fun v o=>?_,⟨ω,ω⟩⟩
  ·unfold fW at a;rw[if_pos b] at a;have:=ik.1 a;omega
  ·unfold fW at a;rw[if_neg ω,if_neg ω,if_pos b] at a;have:=ik.1 a;omega
  obtain⟨j,l,_⟩:=kX (g _ (jL o));exact⟨l,j⟩
 have a:=f _ (uy e);have c:=(sF (bE (ar fs k).C d) d r).1 q;have i:((bE (ar fs k).C d).c=10\/(bE (ar fs k).C d).c=11)->0<=(bE (ar fs k).C d).a/\(bE (ar fs k).C d).a<(ar fs k).C.length:=fun b=>by
  unfold fW at a;rw[if_neg ω,if_pos b] at a;have:=ik.1 a;omega
 unfold iN at c
 split at c
 ·simp at c
 split at c
 ·rename_i b;have:=i (.inl b);simp at c;omega
 split at c
 ·rename_i b;have:=i (.inr b);simp at c;omega
 simp at c;omega
def dN (fs:List aw):Int:=if dc fs≠0 then dc fs else if fs.all (fun f=>(cD fs f).2)=true then 0 else 4
theorem vB {α:Type} {p:α->Bool} {l:List α} {k:Nat} (d:α) (a:k<l.length):(l.take (k+1)).all p=((l.take k).all p && p (l.getD k d)):=by
 rw[List.take_add_one,aq a,ap,aq a,List.all_append];simp
theorem qm (A:Option Addr) (c:Nat) (fs:List aw) (w:World) (j:Sl w (ac A fs.length c) fs) :
  Calls Tryz.prog 72 #[.agg #[ac A fs.length c]] w fun e w'=>e= .returned (ai (dN fs))/\Below w.heap.size w w':=by
 have:=bA j;refine enter Tryz.func72 rfl Tryz.ntmps72 rfl<|aj ?_;refine fun k _=>aj ?_;refine cE rfl JB (fun w b=>pb A c fs w (b.ro j))<|cF (fun h=>?_) (fun h=>?_)
 ·refine aj ?_;intro w b;exact⟨fi (by unfold dN;rw[if_pos h]),b.below⟩
 have m:dN fs=if fs.all (fun d=>(cD fs d).2)=true then 0 else 4:=by unfold dN;rw[if_neg (τ h)]
 refine aj ?_;refine de (fun a:Nat=>a<=fs.length/\(fs.take a).all (fun d=>(cD fs d).2)=true) (fun a=>fs.length - a) (fun a=> [(1,af k),(14,ai (fs.length:Int)),(15,ai (a:Int))]) (fun _=> [ak k [ac A fs.length c] 24]) 0 (⟨aU _,rfl⟩) ?_;rintro a n;obtain⟨x,i⟩:a<=fs.length/\(fs.take a).all (fun d=>(cD fs d).2)=true:=n;refine ax (fun o=>?_) (fun o=>?_)
 ·have g:a<fs.length:=ω;obtain⟨r,q⟩:=jo h g;have s:=vB (p:=fun d=>(cD fs d).2) (default:aw) g;refine aj ?_;refine et rfl VC (fun w b=>F6 A c fs a w (b.ro j) g r q) (fun⟨t,v⟩ _=>?_);refine aO ?_;refine bO rfl (fun f=>?_) (fun f=>?_)
  ·have f:(cD fs (ar fs a)).2=false:=τ f;refine aj ?_;intro w b;refine⟨fi ?_,b.below⟩;rw[m,if_neg];intro l;rw[pu] at l;have:=l _ (jL g);rw[f] at this
   cases this
  have f:(cD fs (ar fs a)).2=true:=τ f;refine aj ?_;refine cJ (a+1) (⟨g,by rw[s,i];exact f⟩) (by show _ - _<_ - _;omega)
 obtain rfl:a=fs.length:=ω;rw[aR] at i;refine aj ?_;intro w b;exact⟨fi (by rw[m,if_pos i]),b.below⟩
end
section
instance:jy aw rS where
 parts h f:= [an h.v1 f.L,an h.v2 f.C]
 ok h f:=h.p=f.params/\h.r=f.result
 kk:=rfl
 tt:=rfl
 opn {w F cs f} h:=by
  obtain⟨v1,v2,F1,F2,hcs,hi,h1,h2,hd,hF⟩:=h
  obtain⟨A1,c1,e1,_⟩:=h1.sl.form
  obtain⟨A2,c2,e2,_⟩:=h2.sl.form
  refine⟨⟨f.params,v1,f.result,v2⟩,⟨hcs,hi,by rw[e1];rfl,by rw[e2];rfl⟩,⟨rfl,rfl⟩,F1,F2,h1,⟨F2,fun _=>False,h2,fun _ h=>h,fun _ _ h=>h,fun b=>by simp⟩,hd,hF⟩
 cls {w F h f} hwf hok hH:=by
  obtain⟨F1,F2,h1,⟨F3,F4,h3,h4,h5,h6⟩,hd,hF⟩:=hH
  have e:∀b,F2 b↔F3 b:=fun b=>by rw[h6 b];simp[show¬F4 b from h4 b]
  refine⟨h.v1,h.v2,F1,F3,?_,?_,h1,h3,fun b hb hb'=>hd b hb ((e b).2 hb'),fun b=>by rw[hF b,e b]⟩
  ·show [.int .i64 h.p,h.v1,.int .i64 h.r,h.v2]=_
   rw[hok.1,hok.2]
  rw[<-hok.1,<-hok.2];exact hwf.1
theorem Cw.oform {α:Type} [Ow α] {B:Nat} {w0 w:World} {H H':List aP} {v:Value} {xs:List α} (f:Cw B w0 H w) (e:cg H (an v xs) H'):∃A c,v= ac A xs.length c:=by
 obtain⟨a,d,_⟩:=f.rd e;obtain⟨A,c,b,_⟩:=cY.sl (show cY w a v xs from d) |>.form;exact⟨A,c,b⟩
end
section
end
section
theorem t3 {t:Int} (h:1<=t/\t<=3):t=1\/t=2\/t=3:=by omega
theorem Oj {a b:Int} (ha:1<=a/\a<=3) (c:1<=b/\b<=3) (h:ed a b≠0):1<=ed a b/\ed a b<=3:=by
 rcases t3 ha with rfl | rfl | rfl <;> rcases t3 c with rfl | rfl | rfl <;> revert h <;> decide
theorem E9 {a b:Int} (h:ed a b≠0):cy a (ed a b)=true/\cy b (ed a b)=true:=by
 have f:∀e:Int,cy e e=true:=fun e=>by unfold cy;simp
 unfold ed at h⊢
 by_cases c:cy a b=true
 ·rw[if_pos c];exact⟨c,f b⟩
 rw[if_neg c] at h⊢
 by_cases d:cy b a=true
 ·rw[if_pos d];exact⟨f a,d⟩
 rw[if_neg d] at h;exact absurd rfl h
theorem nt {a b:Int} {l m j:List Int} (h:bX (a::l) (b::m)=some j):ed a b≠0/\∃k,bX l m=some k/\j=ed a b::k:=by
 simp only[bX] at h
 split at h
 ·cases h
 rename_i c
 cases e:bX l m with
 | none=>rw[e] at h;cases h
 | some k=>
  rw[e] at h;simp only[Option.map_some,bj] at h;exact⟨c,k,rfl,h.symm⟩
theorem EB:∀{a b j:List Int},bX a b=some j->(∀t∈a,1<=t/\t<=3)->(∀t∈b,1<=t/\t<=3)->∀t∈j,1<=t/\t<=3
 | [],[],j,h,_,_=>by simp[bX] at h;subst h;simp
 | [],_::_,j,h,_,_=>by simp[bX] at h
 | _::_,[],j,h,_,_=>by simp[bX] at h
 | a::l,b::m,j,h,ha,d=>by
  obtain⟨e,k,f,rfl⟩:=nt h;intro t c;rcases ec.1 c with rfl | c
  ·exact Oj (ha a σ) (d b σ) e
  exact EB f (fun t h=>ha t (by simp[h])) (fun t h=>d t (by simp[h])) t c
theorem sL:∀{a b j:List Int} {i:Nat},bX a b=some j->i<j.length->cy (a.getD i 0) (j.getD i 0)=true/\cy (b.getD i 0) (j.getD i 0)=true
 | [],[],j,i,h,hi=>by simp[bX] at h;subst h;simp at hi
 | [],_::_,j,_,h,_=>by simp[bX] at h
 | _::_,[],j,_,h,_=>by simp[bX] at h
 | a::l,b::m,j,i,h,hi=>by
  obtain⟨c,k,d,rfl⟩:=nt h
  cases i with
  | zero=>exact E9 c
  | succ i=>
   have:=sL (i:=i) d (τ hi);simpa using this
theorem sH (t o:Int) (w:World):Calls Tryz.prog 249 #[ai t,ai o] w fun e w'=>e= .returned (.bool (cy t o))/\Below w.heap.size w w':=by
 refine enter Tryz.func249 rfl Tryz.ntmps249 rfl<|cR 8 (fun a=>?_) (fun a=>?_)
 ·have a:=of_decide_eq_true a;refine aj ?_;intro w c;exact⟨aX (by unfold cy;rw[decide_eq_true a];rfl),c.below⟩
 have a:=of_decide_eq_false a;refine cR 11 (fun b=>?_) (fun b=>?_)
 ·have b:=of_decide_eq_true b;refine aj ?_;intro w c;exact⟨aX (by unfold cy;rw[decide_eq_false a,decide_eq_true b];rfl),c.below⟩
 have b:=of_decide_eq_false b;refine aj ?_;intro w c;exact⟨aX (by unfold cy;rw[decide_eq_false a,decide_eq_false b];rfl),c.below⟩
end
section
def Le (a b:List Int):Prop:=a.length=b.length/\∀i,i<a.length->cy (a.getD i 0) (b.getD i 0)=true
theorem O9 (t:Int):cy t t=true:=by unfold cy;simp
theorem zh {a b:Int} :cy a b=true↔a=b\/(a=3/\b=2):=by unfold cy;simp
theorem MS {a b c:Int} (d:cy a b=true) (h2:cy b c=true):cy a c=true:=by
 rw[zh] at *;omega
theorem Pa {a b:Int} (c:cy a b=true) (h2:cy b a=true):a=b:=by
 rw[zh] at *;omega
theorem Le.refl (a:List Int):Le a a:=⟨rfl,fun _ _=>O9 _⟩
theorem Le.trans {a b c:List Int} (h1:Le a b) (h2:Le b c):Le a c:=⟨h1.1.trans h2.1,fun i hi=>MS (h1.2 i hi) (h2.2 i (by rw[<-h1.1];exact hi))⟩
theorem NW {a b:List Int} (e:a.length=b.length) (h:∀i,i<a.length->a.getD i 0=b.getD i 0):a=b:=by
 apply List.ext_getElem e
 intro i c d;have:=h i c
 rwa [ap,aq c,ap,aq d] at this
theorem Le.anti {a b:List Int} (c:Le a b) (h2:Le b a):a=b:=NW c.1 fun e d=>Pa (c.2 e d) (h2.2 e (by rw[<-c.1];exact d))
theorem ju {l:List Int} {k i:Nat} (h:i<k):(l.take k).getD i 0=l.getD i 0:=by
 rw[ap,ek,if_pos h,<-ap]
theorem jX {l:List Int} {k i:Nat} :(l.drop k).getD i 0=l.getD (k+i) 0:=by
 rw[ap,dR,<-ap]
theorem Cl {l m:List Int} {i:Nat} (h:i<l.length):(l++m).getD i 0=l.getD i 0:=by
 rw[ap,eU h,<-ap]
theorem Ck {l m:List Int} {i:Nat} (h:l.length<=i):(l++m).getD i 0=m.getD (i - l.length) 0:=by
 rw[ap,dx h,<-ap]
theorem Le.take {a b:List Int} (h:Le a b) (k:Nat):Le (a.take k) (b.take k):=⟨by rw[aB,aB,h.1],fun i hi=>by
 rw[aB] at hi
 rw[ju (by omega),ju (by omega)]
 exact h.2 i (by omega)⟩
theorem Le.drop {a b:List Int} (h:Le a b) (k:Nat):Le (a.drop k) (b.drop k):=⟨by rw[aK,aK,h.1],fun i hi=>by
 rw[aK] at hi
 rw[jX,jX]
 exact h.2 _ (by omega)⟩
theorem Le.app {a b c d:List Int} (e:Le a b) (h2:Le c d):Le (a++c) (b++d):=⟨by rw[au,au,e.1,h2.1],fun g h=>by
 rw[au] at h
 by_cases f:g<a.length
 ·rw[Cl f,Cl (by rw[<-e.1];exact f)];exact e.2 g f
 rw[Ck ω,Ck (by rw[<-e.1];omega),<-e.1];exact h2.2 _ ω⟩
theorem pO {l:List Int} {w:Bool} (h:0<l.length):iz (l,w)=(l.getD (l.length - 1) 0,l.take (l.length - 1),w):=by unfold iz;rw[if_neg (by show¬l.length=0;omega)]
theorem Ea {w:Bool} :iz ([],w)=(0,[],true):=rfl
theorem ug (xs:List Int):∀(k:Nat) (l:List Int),(fa xs k (l,true)).2=true
 | 0,_=>rfl
 | k+1,l=>by
  unfold fa;rcases ic l.length with h | h
  ·have:l= []:=bu h;subst this;rw[Ea];exact ug xs k _
  rw[pO h];exact ug xs k _
theorem sG (xs:List Int):∀(k:Nat) (l:List Int) (w:Bool),l.length<k->(fa xs k (l,w)).2=true
 | 0,_,_,h=>absurd h (gt _)
 | k+1,l,w,h=>by
  unfold fa;rcases ic l.length with a | a
  ·have:l= []:=bu a;subst this;rw[Ea];exact ug xs k _
  rw[pO a];exact sG xs k _ _ (by rw[aB];omega)
theorem pG (xs:List Int):∀(k:Nat) (l:List Int) (w:Bool),k<=l.length->k<=xs.length->
  (fa xs k (l,w)).1=l.take (l.length - k)/\((fa xs k (l,w)).2=false↔w=false/\Le (l.drop (l.length - k)) (xs.take k))
 | 0,l,w,_,_=>by
  refine⟨by simp[fa],?_⟩;simp only[fa];constructor
  ·intro h;exact⟨h,by rw[va,List.drop_length,List.take_zero];exact .refl _⟩
  exact fun h=>h.1
 | k+1,l,w,h,n=>by
  unfold fa;rw[pO (by omega)];obtain⟨g,i⟩:=pG xs k (l.take (l.length - 1)) (w || !cy (l.getD (l.length - 1) 0) (xs.getD k 0)) (by rw[aB];omega) ω;have d:(l.take (l.length - 1)).length=l.length - 1:=by rw[aB];omega
  rw[d] at g i;refine⟨?_,?_⟩
  ·rw[g,List.take_take]
   congr 1
   omega
  show (fa xs k (l.take (l.length - 1),w || !cy (l.getD (l.length - 1) 0) (xs.getD k 0))).2=false↔_;rw[i];have m:l.length - 1 - k=l.length - (k+1):=ω;rw[m];constructor
  ·rintro⟨b,c⟩;simp only[Bool.or_eq_false_iff,Bool.not_eq_false'] at b;refine⟨b.1,by rw[aK,aB];omega,fun a e=>?_⟩;rw[aK] at e
   by_cases j:a=k
   ·subst j;rw[jX,ju ω,show l.length - (a+1)+a=l.length - 1 from by omega];exact b.2
   have:=c.2 a (by rw[aK,d];omega);rw[jX,ju ω,ju ω] at this;rw[jX,ju ω];exact this
  rintro⟨b,c⟩;simp only[Bool.or_eq_false_iff,Bool.not_eq_false'];have f:=c.2 k (by rw[aK];omega);rw[jX,ju ω,show l.length - (k+1)+k=l.length - 1 from by omega] at f;refine⟨⟨b,f⟩,by rw[aK,d,aB];omega,fun a e=>?_⟩;rw[aK,d] at e;have:=c.2 a (by rw[aK];omega);rw[jX,ju ω] at this;rw[jX,ju ω,ju ω];exact this
def tl (fs:List aw) (f:aw) (o:bJ) (s:List Int):Option (List Int×List Int):=
 if o.c=2 then (if s.length<1 then none else some (s.drop (s.length - 1),[])) else
 if o.c=3 then (if s.length<1 then none else some (s.drop (s.length - 1),[s.getD (s.length - 1) 0,s.getD (s.length - 1) 0])) else
 if o.c=4 then (if s.length<2 then none else some (s.drop (s.length - 2),[s.getD (s.length - 1) 0,s.getD (s.length - 2) 0])) else
 if o.c=8 then some ([],[f.L.getD o.a.toNat 0]) else if o.c=9 then some ([f.L.getD o.a.toNat 0],[]) else
 if o.c=12 then some (fP (ar fs o.a.toNat),bS (ar fs o.a.toNat)) else
 if o.c=13 then (if s.length≠(bS f).length then none else some (bS f,[])) else some ((cG o.c).1,(cG o.c).2)
def ig (fs:List aw) (f:aw) (o:bJ) (s:List Int):Option (List Int):=if (oV fs f o (s,false)).2=true then none else some (oV fs f o (s,false)).1
theorem oD {fs:List aw} {f:aw} {o:bJ} {s T a:List Int} (j:jB fs f o (s,false)=ut (fa T T.length (s,false)) a) :
  ig fs f o s=if T.length<=s.length/\(s.take (s.length - T.length)++a).length<=8/\(fa T T.length (s,false)).2=false then some (s.take (s.length - T.length)++a) else none:=by
 obtain⟨c,d,e⟩:∃c d,fa T T.length (s,false)=(c,d):=⟨_,_,rfl⟩
 have k:ig fs f o s=if (d || decide (8<(c++a).length))=true then none else some (c++a):=by
  unfold ig oV;rw[j,e];rfl
 rw[k,e]
 by_cases h:T.length<=s.length
 ·obtain⟨g,l⟩:=pG T T.length s false h (aF _);rw[e] at g;have g:c=s.take (s.length - T.length):=g;subst g
  by_cases i:(s.take (s.length - T.length)++a).length<=8
  ·cases d
   ·rw[decide_eq_false ω];exact(if_pos ⟨h,i,rfl⟩).symm
   rw[Bool.true_or];exact(if_neg (fun b=>by cases b.2.2)).symm
  rw[decide_eq_true ω,Bool.or_true];exact(if_neg (fun b=>i b.2.1)).symm
 have:=sG T T.length s false ω;rw[e] at this;have this:d=true:=this;subst this;rw[Bool.true_or];exact(if_neg (fun b=>h b.1)).symm
theorem yi {s:List Int} {k:Nat} (h:k+1<=s.length):fa (s.drop (s.length - (k+1))) (k+1) (s,false)=(s.take (s.length - (k+1)),false):=by
 obtain⟨a,b⟩:=pG (s.drop (s.length - (k+1))) (k+1) s false h (by rw[aK];omega);have:(fa (s.drop (s.length - (k+1))) (k+1) (s,false)).2=false:=b.2 ⟨rfl,by rw[bD (by rw[aK];omega)];exact .refl _⟩;exact Prod.ext a this
theorem GB (fs:List aw) (f:aw) (o:bJ) (s:List Int):ig fs f o s=match tl fs f o s with
  | none=>none
  | some (T,r)=>if T.length<=s.length/\(s.take (s.length - T.length)++r).length<=8/\(fa T T.length (s,false)).2=false then some (s.take (s.length - T.length)++r) else none:=by
 unfold tl
 by_cases b:o.c=2
 ·rw[if_pos b]
  by_cases a:s.length<1
  ·rw[if_pos a];have:s= []:=bu ω;subst this;unfold ig oV jB;rw[if_pos b];rfl
  rw[if_neg a];have e:=yi (s:=s) (k:=0) ω;have l:(s.drop (s.length - 1)).length=1:=by rw[aK];omega
  refine oD ?_;rw[l,e];unfold jB;rw[if_pos b,pO ω];simp[ut]
 rw[if_neg b]
 by_cases c:o.c=3
 ·rw[if_pos c]
  by_cases a:s.length<1
  ·rw[if_pos a];have:s= []:=bu ω;subst this;unfold ig oV jB;rw[if_neg b,if_pos c];rfl
  rw[if_neg a];have e:=yi (s:=s) (k:=0) ω;have l:(s.drop (s.length - 1)).length=1:=by rw[aK];omega
  refine oD ?_;rw[l,e];unfold jB;rw[if_neg b,if_pos c,pO ω]
 rw[if_neg c]
 by_cases d:o.c=4
 ·rw[if_pos d]
  by_cases a:s.length<2
  ·rw[if_pos a];unfold ig oV jB;rw[if_neg b,if_neg c,if_pos d];rcases ic s.length with p | p
   ·have:s= []:=bu p;subst this;rfl
   obtain⟨n,rfl⟩:∃n,s= [n]:=by
    match s,p,a with
    | [n],_,_=>exact⟨n,rfl⟩
   rfl
  rw[if_neg a];have e:=yi (s:=s) (k:=1) ω;have l:(s.drop (s.length - 2)).length=2:=by rw[aK];omega
  refine oD ?_;rw[l,e];unfold jB;have u:(s.take (s.length - 1)).length=s.length - 1:=by rw[aB];omega
  have x:iz (s,false)=(s.getD (s.length - 1) 0,s.take (s.length - 1),false):=pO ω;have y:iz (s.take (s.length - 1),false)=(s.getD (s.length - 2) 0,s.take (s.length - 2),false):=by
   rw[pO (by rw[u];omega),u,List.take_take,ju ω,show min (s.length - 1 - 1) (s.length - 1)=s.length - 2 from by omega,show s.length - 1 - 1=s.length - 2 from by omega]
  rw[if_neg b,if_neg c,if_pos d];simp only[x,y]
 rw[if_neg d]
 by_cases g:o.c=8
 ·rw[if_pos g];refine oD ?_;unfold jB;rw[if_neg b,if_neg c,if_neg d,if_pos g];rfl
 rw[if_neg g]
 by_cases h:o.c=9
 ·rw[if_pos h];refine oD ?_;unfold jB;rw[if_neg b,if_neg c,if_neg d,if_neg g,if_pos h];simp[ut]
 rw[if_neg h]
 by_cases j:o.c=12
 ·rw[if_pos j];refine oD ?_;unfold jB;rw[if_neg b,if_neg c,if_neg d,if_neg g,if_neg h,if_pos j]
 rw[if_neg j]
 by_cases m:o.c=13
 ·rw[if_pos m];have t:jB fs f o (s,false)=((fa (bS f) (bS f).length (s,false)).1,(fa (bS f) (bS f).length (s,false)).2 || decide (0<(fa (bS f) (bS f).length (s,false)).1.length)):=by
   unfold jB;rw[if_neg b,if_neg c,if_neg d,if_neg g,if_neg h,if_neg j,if_pos m]
  by_cases a:s.length≠(bS f).length
  ·rw[if_pos a];have:(jB fs f o (s,false)).2=true:=by
    rw[t]
    by_cases w:s.length<(bS f).length
    ·rw[sG _ _ _ _ w];rfl
    rw[(pG (bS f) _ s false ω (aF _)).1,aB,decide_eq_true ω,Bool.or_true]
   unfold ig oV;rw[this];rfl
  rw[if_neg a];have a:s.length=(bS f).length:=τ a;refine oD ?_;have i:=(pG (bS f) _ s false ω (aF _)).1;rw[a,px,List.take_zero] at i;rw[t];obtain⟨q,v,e⟩:∃q v,fa (bS f) (bS f).length (s,false)=(q,v):=⟨_,_,rfl⟩
  rw[e] at i⊢;have i:q= []:=i;subst i;simp[ut]
 rw[if_neg m];refine oD ?_;unfold jB;rw[if_neg b,if_neg c,if_neg d,if_neg g,if_neg h,if_neg j,if_neg m]
end
section
theorem kg {fs:List aw} {f:aw} {o:bJ} {s v:List Int} :ig fs f o s=some v↔
  ∃T b,tl fs f o s=some (T,b)/\T.length<=s.length/\(s.take (s.length - T.length)++b).length<=8/\Le (s.drop (s.length - T.length)) T/\v=s.take (s.length - T.length)++b:=by
 have g:∀T:List Int,T.length<=s.length->((fa T T.length (s,false)).2=false↔Le (s.drop (s.length - T.length)) T):=fun T j=>by
  rw[(pG T T.length s false j (aF _)).2,aR];simp
 rw[GB];constructor
 ·intro a
  cases c:tl fs f o s with
  | none=>rw[c] at a;cases a
  | some k=>
   obtain⟨T,b⟩:=k;rw[c] at a;simp only[] at a
   split at a
   ·rename_i d;simp only[bj] at a;exact⟨T,b,rfl,d.1,d.2.1,(g T d.1).1 d.2.2,a.symm⟩
   cases a
 rintro⟨T,b,c,e,h,i,rfl⟩;rw[c];simp only[];rw[if_pos ⟨e,h,(g T e).2 i⟩]
theorem OX {fs:List aw} {f:aw} {o:bJ} {a b T j:List Int} (h:Le a b) (e:tl fs f o b=some (T,j)) (c:Le (b.drop (b.length - T.length)) T) (z:T.length<=b.length) :
  ∃l n,tl fs f o a=some (l,n)/\l.length=T.length/\Le (a.drop (a.length - T.length)) l/\Le n j:=by
 have d:=h.1;have g:∀T j:List Int,Le (b.drop (b.length - T.length)) T->Le (a.drop (a.length - T.length)) T:=fun T j c=>by rw[d];exact(h.drop _).trans c
 have k:∀i,i<a.length->Le [a.getD i 0] [b.getD i 0]:=fun i w=>⟨rfl,fun y x=>by
  have:y=0:=τ x;subst this;exact h.2 i w⟩
 unfold tl at e⊢
 by_cases r:o.c=2
 ·rw[if_pos r] at e⊢
  split at e
  ·cases e
  rename_i m;simp only[bj,bL] at e;obtain⟨rfl,rfl⟩:=e;rw[if_neg ω];refine⟨_,_,rfl,by rw[aK,aK,d],?_,.refl _⟩;rw[aK,show b.length - (b.length - 1)=1 from by omega];exact .refl _
 rw[if_neg r] at e⊢
 by_cases s:o.c=3
 ·rw[if_pos s] at e⊢
  split at e
  ·cases e
  rename_i m;simp only[bj,bL] at e;obtain⟨rfl,rfl⟩:=e;rw[if_neg ω];refine⟨_,_,rfl,by rw[aK,aK,d],?_,?_⟩
  ·rw[aK,show b.length - (b.length - 1)=1 from by omega];exact .refl _
  rw[<-d];exact(k _ ω).app (k _ ω)
 rw[if_neg s] at e⊢
 by_cases t:o.c=4
 ·rw[if_pos t] at e⊢
  split at e
  ·cases e
  rename_i m;simp only[bj,bL] at e;obtain⟨rfl,rfl⟩:=e;rw[if_neg ω];refine⟨_,_,rfl,by rw[aK,aK,d],?_,?_⟩
  ·rw[aK,show b.length - (b.length - 2)=2 from by omega];exact .refl _
  rw[<-d];exact(k _ ω).app (k _ ω)
 rw[if_neg t] at e⊢
 by_cases u:o.c=8
 ·rw[if_pos u] at e⊢;simp only[bj,bL] at e;obtain⟨rfl,rfl⟩:=e;exact⟨_,_,rfl,rfl,g _ [] c,.refl _⟩
 rw[if_neg u] at e⊢
 by_cases v:o.c=9
 ·rw[if_pos v] at e⊢;simp only[bj,bL] at e;obtain⟨rfl,rfl⟩:=e;exact⟨_,_,rfl,rfl,g _ [] c,.refl _⟩
 rw[if_neg v] at e⊢
 by_cases p:o.c=12
 ·rw[if_pos p] at e⊢;simp only[bj,bL] at e;obtain⟨rfl,rfl⟩:=e;exact⟨_,_,rfl,rfl,g _ [] c,.refl _⟩
 rw[if_neg p] at e⊢
 by_cases q:o.c=13
 ·rw[if_pos q] at e⊢
  split at e
  ·cases e
  rename_i m;simp only[bj,bL] at e;obtain⟨rfl,rfl⟩:=e;rw[if_neg ω];exact⟨_,_,rfl,rfl,g _ [] c,.refl _⟩
 rw[if_neg q] at e⊢;simp only[bj,bL] at e;obtain⟨rfl,rfl⟩:=e;exact⟨_,_,rfl,rfl,g _ [] c,.refl _⟩
theorem sd {fs:List aw} {f:aw} {o:bJ} {a b v:List Int} (h:Le a b) (e:ig fs f o b=some v):∃l,ig fs f o a=some l/\Le l v:=by
 obtain⟨m,n,p,i,q,r,rfl⟩:=kg.1 e;obtain⟨d,g,s,c,t,u⟩:=OX h p r i;have k:=h.1;have j:Le (a.take (a.length - d.length)++g) (b.take (b.length - m.length)++n):=by
  rw[c,k];exact(h.take _).app u
 exact⟨_,kg.2 ⟨d,g,s,by rw[c,k];exact i,by rw[j.1];exact q,by rw[c];exact t,rfl⟩,j⟩
def Ty (l:List Int):Prop:= ∀t∈l,1<=t/\t<=3
structure rU (fs:List aw) (f:aw):Prop where
 loc:Ty f.L
 res:∀k,k<fs.length->(0<=(ar fs k).result/\(ar fs k).result<=2)
theorem Ty.app {a b:List Int} (e:Ty a) (h2:Ty b):Ty (a++b):=fun d f=>by
 rcases dQ.1 f with c | c
 ·exact e d c
 exact h2 d c
theorem Ty.at_ {a:List Int} (h:Ty a) {i:Nat} (hi:i<a.length):1<=a.getD i 0/\a.getD i 0<=3:=by
 rw[ap,aq hi];exact h _ (dh hi)
theorem Ty.one {t:Int} (h:1<=t/\t<=3):Ty [t]:=fun b a=>by rw[cL.1 a];exact h
theorem Ty.two {t b:Int} (h:1<=t/\t<=3) (h2:1<=b/\b<=3):Ty [t,b]:=fun c a=>by
 rcases ec.1 a with rfl | a
 ·exact h
 rw[cL.1 a];exact h2
theorem AV {fs:List aw} {f:aw} {o:bJ} {s v:List Int} (h:rU fs f) (g:Jy fs f o) (b:Ty s) (e:ig fs f o s=some v):Ty v:=by
 obtain⟨n,p,a,q,r,t,rfl⟩:=kg.1 e;refine Ty.app (fun m d=>b m (jN d)) ?_;have nil:Ty []:=fun _ d=>by cases d
 have l:∀c,c<fs.length->Ty (bS (ar fs c)):=fun c k=>by
  unfold bS
  split
  ·exact nil
  rename_i u;have:=h.res c k;exact .one ω
 unfold tl at a
 split at a
 ·split at a
  ·cases a
  simp only[bj,bL] at a;obtain⟨rfl,rfl⟩:=a;exact nil
 split at a
 ·split at a
  ·cases a
  simp only[bj,bL] at a;obtain⟨rfl,rfl⟩:=a;exact .two (b.at_ ω) (b.at_ ω)
 split at a
 ·split at a
  ·cases a
  simp only[bj,bL] at a;obtain⟨rfl,rfl⟩:=a;exact .two (b.at_ ω) (b.at_ ω)
 split at a
 ·rename_i j;simp only[bj,bL] at a;obtain⟨rfl,rfl⟩:=a;have:=g.loc (.inl j);exact .one (h.loc.at_ ω)
 split at a
 ·simp only[bj,bL] at a;obtain⟨rfl,rfl⟩:=a;exact nil
 split at a
 ·rename_i i;simp only[bj,bL] at a;obtain⟨rfl,rfl⟩:=a;have:=g.call i;exact l _ ω
 split at a
 ·split at a
  ·cases a
  simp only[bj,bL] at a;obtain⟨rfl,rfl⟩:=a;exact nil
 simp only[bj,bL] at a;obtain⟨rfl,rfl⟩:=a;unfold cG
 repeat (first | split | exact nil | exact .one κ | exact .two κ κ)
theorem Oi {a b c:Int} (g:1<=c/\c<=3) (f:cy a c=true) (h2:cy b c=true):ed a b≠0/\cy (ed a b) c=true:=by
 rw[zh] at f h2;rcases t3 g with rfl | rfl | rfl
 ·have d:a=1:=ω;have e:b=1:=ω;subst d e;decide
 ·rcases f with rfl | ⟨rfl,_⟩ <;> rcases h2 with rfl | ⟨rfl,_⟩ <;> decide
 have d:a=3:=ω;have e:b=3:=ω;subst d e;decide
theorem Le.cons_iff {a b:Int} {l m:List Int} :Le (a::l) (b::m)↔cy a b=true/\Le l m:=by
 constructor
 ·intro d;refine⟨d.2 0 σ,τ d.1,fun c e=>?_⟩;have:=d.2 (c+1) (τ e);simpa using this
 rintro⟨g,f⟩;refine⟨by simp[f.1],fun c e=>?_⟩
 cases c with
 | zero=>simpa using g
 | succ c=>simpa using f.2 c (τ e)
theorem Bo:∀{a b c:List Int},Ty c->Le a c->Le b c->∃j,bX a b=some j/\Le j c
 | [],[],c,_,h,_=>⟨[],rfl,h⟩
 | [],_::_,c,_,h,d=>by have:=h.1.trans d.1.symm;simp at this
 | _::_,[],c,_,h,d=>by have:=h.1.trans d.1.symm;simp at this
 | a::l,b::m,[],_,h,_=>by have:=h.1;simp at this
 | a::l,b::m,c::n,e,h,d=>by
  obtain⟨f,g⟩:=Le.cons_iff.1 h;obtain⟨i,k⟩:=Le.cons_iff.1 d;obtain⟨o,p⟩:=Oi (e c σ) f i;obtain⟨j,q,r⟩:=Bo (fun s h=>e s (by simp[h])) g k;refine⟨ed a b::j,?_,Le.cons_iff.2 ⟨p,r⟩⟩;simp only[bX];rw[if_neg o,q];rfl
theorem P0 {a b j:List Int} (h:bX a b=some j):Le a j/\Le b j:=by
 have:=mS h;exact⟨⟨ω,fun d c=>(sL h ω).1⟩,⟨ω,fun d c=>(sL h ω).2⟩⟩
structure rR (fs:List aw) (f:aw) (M:Nat->Option (List Int)):Prop where
 m0:M 0=some []
 ok:∀k s,M k=some s->k<f.C.length/\Ty s/\∃v,ig fs f (bE f.C k) s=some v/\∀q∈dT (bE f.C k) k,∃s',M q.toNat=some s'/\Le v s'
structure pq (fs:List aw) (f:aw) (s:eD):Prop where
 m0:s.met.getD 0 false=true
 a0:s.at_.getD 0 []= []
 ty:∀i,s.met.getD i false=true->Ty (s.at_.getD i [])
 le:∀M,rR fs f M->∀i,s.met.getD i false=true->∃t,M i=some t/\Le (s.at_.getD i []) t
structure Up (s s':eD):Prop where
 up:∀i,s.met.getD i false=true->s'.met.getD i false=true/\Le (s.at_.getD i []) (s'.at_.getD i [])
 old:∀i,s'.met.getD i false=true->(s.met.getD i false=true/\s'.at_.getD i []=s.at_.getD i [])\/(i:Int)∈s'.todo
 td:∀x∈s.todo,x∈s'.todo
theorem Up.refl (s:eD):Up s s:=⟨fun _ h=>⟨h,.refl _⟩,fun _ h=> .inl ⟨h,rfl⟩,fun _ h=>h⟩
theorem Up.trans {a b c:eD} (h1:Up a b) (h2:Up b c):Up a c:=
 ⟨fun i h=>by
  obtain⟨k1,k2⟩:=h1.up i h
  obtain⟨k3,k4⟩:=h2.up i k1
  exact⟨k3,k2.trans k4⟩,fun i h=>by
  rcases h2.old i h with ⟨k1,k2⟩ | k
  ·rcases h1.old i k1 with ⟨k3,k4⟩ | k3
   ·exact .inl ⟨k3,k2.trans k4⟩
   exact .inr (h2.td _ k3)
  exact .inr k,fun x h=>h2.td x (h1.td x h)⟩
theorem zF {n:Nat} {s:eD} (h:gE n s) {i:Nat} (b:s.met.getD i false=true):i<n:=by
 rcases gH i n with a | a
 ·exact a
 rw[ap,bn (by rw[h.ml];exact a)] at b
 cases b
theorem Oc {fs:List aw} {f:aw} {s:eD} (z:gE f.C.length s) (i:pq fs f s) {k:Nat} (M:k<=f.C.length) {l:List Int} (C:Ty l) (v:∀c,rR fs f c->∃t,c k=some t/\Le l t) :
  ((dI f.C.length s k l).1=true->pq fs f (dI f.C.length s k l).2/\Up s (dI f.C.length s k l).2/\(dI f.C.length s k l).2.met.getD k false=true/\Le l ((dI f.C.length s k l).2.at_.getD k []))/\
  ((dI f.C.length s k l).1=false->∀c,¬rR fs f c):=by
 have D:k<f.C.length->∀d:List Int,Ty d->(k=0->d= [])->(s.met.getD k false=true->Le (s.at_.getD k []) d)->Le l d->(∀c,rR fs f c->∃t,c k=some t/\Le d t)->
   pq fs f ⟨s.at_.set k d,s.met.set k true,s.todo++ [(k:Int)]⟩/\Up s ⟨s.at_.set k d,s.met.set k true,s.todo++ [(k:Int)]⟩/\(s.met.set k true).getD k false=true/\Le l ((s.at_.set k d).getD k []):=by
  intro u d j E J G I;have o:∀a,(s.at_.set k d).getD a []=if a=k then d else s.at_.getD a []:=fun a=>jf (by rw[z.al];exact u)
  have p:∀a,(s.met.set k true).getD a false=if a=k then true else s.met.getD a false:=fun a=>jf (by rw[z.ml];exact u)
  refine⟨⟨?_,?_,fun a b=>?_,fun c g a b=>?_⟩,⟨fun a b=>?_,fun a b=>?_,fun O K=>iF _ K⟩,?_,?_⟩
  ·show (s.met.set k true).getD 0 false=true;rw[p]
   split
   ·rfl
   exact i.m0
  ·show (s.at_.set k d).getD 0 []= [];rw[o]
   split
   ·rename_i e;exact E e.symm
   exact i.a0
  ·show Ty ((s.at_.set k d).getD a []);have b:(s.met.set k true).getD a false=true:=b;rw[o];rw[p] at b
   split
   ·exact j
   rename_i e;rw[if_neg e] at b;exact i.ty a b
  ·show∃t,c a=some t/\Le ((s.at_.set k d).getD a []) t;have b:(s.met.set k true).getD a false=true:=b;rw[o];rw[p] at b
   split
   ·rename_i e;subst e;exact I c g
   rename_i e;rw[if_neg e] at b;exact i.le c g a b
  ·show (s.met.set k true).getD a false=true/\Le (s.at_.getD a []) ((s.at_.set k d).getD a []);rw[o,p]
   split
   ·rename_i e;subst e;exact⟨rfl,J b⟩
   exact⟨b,.refl _⟩
  ·have b:(s.met.set k true).getD a false=true:=b;rw[p] at b
   by_cases e:a=k
   ·subst e;right;exact ip _ σ
   rw[if_neg e] at b;left;refine⟨b,?_⟩;show (s.at_.set k d).getD a []=_;rw[o,if_neg e]
  ·rw[p,if_pos rfl]
  rw[o,if_pos rfl];exact G
 unfold dI
 split
 ·rename_i u;refine⟨fun h=>(by cases h),fun _ c g=>?_⟩;obtain⟨t,m,_⟩:=v c g;have:=(g.ok k t m).1;omega
 rename_i u
 split
 ·rename_i n
  split
  ·rename_i j;refine⟨fun h=>(by cases h),fun _ c g=>?_⟩;obtain⟨t,m,w⟩:=v c g;obtain⟨L,q,x⟩:=i.le c g k n;rw[m] at q
   cases q
   obtain⟨d,r,_⟩:=Bo (g.ok k t m).2.1 x w;rw[j] at r
   cases r
  rename_i d j;have y:=P0 j
  split
  ·rename_i A;refine⟨fun _=>⟨i,.refl _,n,by rw[<-A];exact y.2⟩,fun h=>(by cases h)⟩
  rename_i A;refine⟨fun _=>D ω d (EB j (i.ty k n) C) (fun e=>?_) (fun _=>y.1) y.2 (fun c g=>?_),fun h=>(by cases h)⟩
  ·subst e;rw[i.a0] at j;have:=(mS j).2;exact bu this
  obtain⟨t,m,w⟩:=v c g;obtain⟨L,q,x⟩:=i.le c g k n;rw[m] at q
  cases q
  obtain⟨N,r,F⟩:=Bo (g.ok k t m).2.1 x w;rw[j] at r
  cases r
  exact⟨t,m,F⟩
 rename_i n;refine⟨fun _=>D ω l C (fun e=>?_) (fun h=>absurd h n) (.refl _) v,fun h=>(by cases h)⟩;subst e;exact absurd i.m0 n
theorem wD {fs:List aw} {f:aw} :∀{L:List Int} {s:eD} {l:List Int},gE f.C.length s->pq fs f s->(∀q∈L,0<=q/\q<=f.C.length)->l.length<=8->s.todo.length+L.length<5000->Ty l->(∀b,rR fs f b->∀q∈L,∃t,b q.toNat=some t/\Le l t)->
  (∀s',dW f.C.length s L l=some s'->pq fs f s'/\Up s s'/\∀q∈L,s'.met.getD q.toNat false=true/\Le l (s'.at_.getD q.toNat []))/\(dW f.C.length s L l=none->∀b,¬rR fs f b)
 | [],s,l,c,d,_,_,_,_,_=>by
  refine⟨fun s' e=>?_,fun e=>by simp[dW] at e⟩;simp only[dW,bj] at e;subst e;exact⟨d,.refl _,fun q h=>by cases h⟩
 | a::L,s,l,c,d,n,i,r,j,m=>by
  have:=n a σ;rw[br] at r;obtain⟨A,C⟩:=Oc c d (k:=a.toNat) ω j (fun b g=>m b g a σ);obtain⟨p,I⟩:=ou c (k:=a.toNat) ω i ω;simp only[dW]
  cases hb:(dI f.C.length s a.toNat l).1
  ·simp only[mF,if_false];exact⟨fun s' e=>(by cases e),fun _=>C hb⟩
  simp only[if_true];obtain⟨u,v,w,x⟩:=A hb;obtain⟨y,z⟩:=wD (L:=L) (l:=l) p u (fun q h=>n q (by simp[h])) i ω j (fun b g q h=>m b g q (by simp[h]));refine⟨fun s' e=>?_,z⟩;obtain⟨D,o,E⟩:=y s' e;refine⟨D,v.trans o,fun q h=>?_⟩;rcases ec.1 h with rfl | h
  ·obtain⟨F,G⟩:=o.up _ w;exact⟨F,x.trans G⟩
  exact E q h
def Dn (fs:List aw) (f:aw) (s:eD) (i:Nat):Prop:= ∃v,ig fs f (bE f.C i) (s.at_.getD i [])=some v/\∀q∈dT (bE f.C i) i,s.met.getD q.toNat false=true/\Le v (s.at_.getD q.toNat [])
def Wk (fs:List aw) (f:aw) (s:eD):Prop:= ∀i:Nat,s.met.getD i false=true->(i:Int)∈s.todo\/Dn fs f s i
theorem Dn.up {fs:List aw} {f:aw} {s s':eD} {i:Nat} (h:Dn fs f s i) (hu:Up s s') (e:s'.at_.getD i []=s.at_.getD i []):Dn fs f s' i:=by
 obtain⟨v,h1,h2⟩:=h
 refine⟨v,by rw[e];exact h1,fun q hq=>?_⟩
 obtain⟨k1,k2⟩:=h2 q hq
 obtain⟨k3,k4⟩:=hu.up _ k1
 exact⟨k3,k2.trans k4⟩
theorem pF {fs:List aw} {f:aw} {o:bJ} {s v:List Int} (h:ig fs f o s=some v):v.length<=8:=by
 obtain⟨b,c,_,_,a,_,rfl⟩:=kg.1 h;exact a
def Tm (s:eD):Prop:= ∀x∈s.todo,s.met.getD x.toNat false=true
theorem Q9 {n:Nat} {s:eD} (g:gE n s) (h:Tm s) {k:Nat} (i:k<=n) (l:List Int):Tm (dI n s k l).2:=by
 have e:k≠n->∀d:List Int,Tm ⟨s.at_.set k d,s.met.set k true,s.todo++ [(k:Int)]⟩:=fun b d f a=>by
  show (s.met.set k true).getD f.toNat false=true;rw[jf (by rw[g.ml];omega)]
  split
  ·rfl
  rename_i c;rcases dQ.1 a with a | a
  ·exact h f a
  rw[cL.1 a] at c;exact absurd (bq k) c
 unfold dI
 split
 ·exact h
 rename_i b
 split
 ·split
  ·exact h
  split
  ·exact h
  exact e b _
 exact e b _
theorem EZ {n:Nat} :∀{L:List Int} {s s':eD} {l:List Int},gE n s->Tm s->(∀q∈L,0<=q/\q<=n)->l.length<=8->s.todo.length+L.length<5000->dW n s L l=some s'->Tm s'
 | [],s,s',l,_,h,_,_,_,e=>by
  simp only[dW,bj] at e;subst e;exact h
 | a::L,s,s',l,c,h,d,b,g,e=>by
  simp only[dW] at e
  split at e
  ·have:=d a σ;rw[br] at g;obtain⟨f,i⟩:=ou c (k:=a.toNat) ω b ω;exact EZ f (Q9 c h ω l) (fun q h=>d q (by simp[h])) b ω e
  cases e
theorem MP {fs:List aw} {f:aw} (t:nF fs f) (Q:rU fs f) {s:eD} (k:gE f.C.length s) (g:pq fs f s) (M:Wk fs f s) (C:Tm s) (X:0<s.todo.length) (Y:s.todo.length<=4000) :
  (∀s',nS fs f s=some s'->pq fs f s'/\Wk fs f s'/\Tm s')/\(nS fs f s=none->∀j,¬rR fs f j):=by
 obtain⟨b,W⟩:∃b,s.todo.length=b+1:=⟨s.todo.length - 1,ω⟩
 have N:s.todo[b]? =some (s.todo.getD b 0):=by rw[ap,aq ω];rfl
 have A:s.todo.getD b 0∈s.todo:=gA N;have:=k.td _ A;have o:=C _ A;obtain⟨a,q⟩:∃a:Nat,s.todo.getD b 0=(a:Int):=⟨(s.todo.getD b 0).toNat,ω⟩
 rw[q,bq] at o;have r:a<f.C.length:=ω;have F:nS fs f s=match ig fs f (bE f.C a) (s.at_.getD a []) with
   | none=>none
   | some p=>dW f.C.length ⟨s.at_,s.met,s.todo.take b⟩ (dT (bE f.C a) a) p:=by
  unfold nS ig;dsimp only;rw[show s.todo.length - 1=b from by omega,q,bq]
  split <;> rfl
 have y:gE f.C.length ⟨s.at_,s.met,s.todo.take b⟩:=⟨k.al,k.ml,by show (s.todo.take b).length<=_;rw[aB];omega,k.st,fun w i=>k.td w (jN i)⟩
 have K:pq fs f ⟨s.at_,s.met,s.todo.take b⟩:=⟨g.m0,g.a0,g.ty,g.le⟩
 have L:Tm ⟨s.at_,s.met,s.todo.take b⟩:=fun w i=>C w (jN i);have:=pk (bE f.C a) a;have z:(s.todo.take b).length+(dT (bE f.C a) a).length<5000:=by rw[aB];omega
 rw[F]
 cases hv:ig fs f (bE f.C a) (s.at_.getD a []) with
 | none=>
  refine⟨fun s' m=>(by cases m),fun _ j l=>?_⟩;obtain⟨v,e,d⟩:=g.le j l a o;obtain⟨_,_,p,c,_⟩:=l.ok a v e;obtain⟨U,n,_⟩:=sd d c;rw[hv] at n
  cases n
 | some p=>
  obtain⟨D,E⟩:=wD y K (t.to_ a r) (pF hv) z (AV Q (t.op a r) (g.ty a o) hv) (fun j l T P=>by
   obtain⟨v,e,d⟩:=g.le j l a o;obtain⟨_,_,ad,c,n⟩:=l.ok a v e;obtain⟨U,x,G⟩:=sd d c;rw[hv] at x
   cases x
   obtain⟨s',I,J⟩:=n T P;exact⟨s',I,G.trans J⟩)
  refine⟨fun s' m=>?_,E⟩;obtain⟨R,u,S⟩:=D s' m;refine⟨R,fun h O=>?_,EZ y L (t.to_ a r) (pF hv) z m⟩;rcases u.old h O with ⟨e,d⟩ | e
  ·rcases M h e with c | c
   ·by_cases i:(h:Int)∈s.todo.take b
    ·exact .inl (u.td _ i)
    have:(h:Int)=a:=by
     rw[<-ji b s.todo] at c;rcases dQ.1 c with c | c
     ·exact absurd c i
     have:s.todo.drop b= [s.todo.getD b 0]:=by
      rw[jV ω,List.drop_of_length_le ω];rw[ap,aq ω];rfl
     rw[this,cL,q] at c;exact c
    have:h=a:=ω;subst this;right;have d:s'.at_.getD h []=s.at_.getD h []:=d;exact⟨p,by rw[d];exact hv,S⟩
   exact .inr (Dn.up (s:=⟨s.at_,s.met,s.todo.take b⟩) c u d)
  exact .inl e
theorem Ev {fs:List aw} {f:aw} (c:nF fs f) (l:rU fs f):∀(k:Nat) {s:eD},gE f.C.length s->pq fs f s->Wk fs f s->Tm s->mu f.C.length s<=4000->mu f.C.length s<k->
  (∀s',nq fs f k s=some s'->gE f.C.length s'/\pq fs f s'/\(∀i:Nat,s'.met.getD i false=true->Dn fs f s' i))/\(nq fs f k s=none->∀m,¬rR fs f m)
 | 0,_,_,_,_,_,_,h=>absurd h (gt _)
 | k+1,s,b,d,g,q,p,x=>by
  simp only[nq]
  by_cases a:s.todo.length=0
  ·simp only[a,if_true];refine⟨fun s' e=>?_,fun e=>(by cases e)⟩;simp only[bj] at e;subst e;refine⟨b,d,fun i hi=>?_⟩;rcases g i hi with h | h
   ·rw[bu a] at h;cases h
   exact h
  simp only[a,if_false];have j:s.todo.length<=4000:=by unfold mu at p;omega
  obtain⟨n,o⟩:=MP c l b d g q ω j
  cases e:nS fs f s with
  | none=>exact⟨fun s' h=>(by cases h),fun _=>o e⟩
  | some w=>
   obtain⟨r,t,u⟩:=n w e;obtain⟨v,y⟩:=yl c b ω j e;exact Ev c l k v r t u ω ω
def MO (s:eD) (i:Nat):Option (List Int):=if s.met.getD i false=true then some (s.at_.getD i []) else none
theorem jI {s:eD} {i:Nat} {t:List Int} :MO s i=some t↔s.met.getD i false=true/\s.at_.getD i []=t:=by
 unfold MO
 split
 ·rename_i b;exact⟨fun a=>⟨b,fE a⟩,fun a=>by rw[a.2]⟩
 rename_i b;exact⟨fun a=>(by cases a),fun a=>absurd a.1 b⟩
theorem rf {fs:List aw} {f:aw} (n:nF fs f) (G:rU fs f) (m:0<f.C.length) :
  (∀s,qE fs f=some s->gE f.C.length s/\rR fs f (MO s)/\∀b,rR fs f b->∀i t,MO s i=some t->∃q,b i=some q/\Le t q)/\(qE fs f=none->∀b,¬rR fs f b):=by
 have e:jr f.C.length=⟨(List.replicate f.C.length ([]:List Int)).set 0 [],(List.replicate f.C.length false).set 0 true,[0]⟩:=by
  unfold jr dI iJ;rw[if_neg ω,if_neg (by rw[lL];decide)];rfl
 have j:∀i,(jr f.C.length).at_.getD i []= []:=fun i=>by
  rw[e];show ((List.replicate f.C.length ([]:List Int)).set 0 []).getD i []= [];rw[jf (τ m)]
  split
  ·rfl
  exact lL _ _ _
 have k:∀i,(jr f.C.length).met.getD i false=if i=0 then true else false:=fun i=>by
  rw[e];show ((List.replicate f.C.length false).set 0 true).getD i false=_;rw[jf (τ m)]
  split
  ·rfl
  exact lL _ _ _
 have r:∀i,(jr f.C.length).met.getD i false=true->i=0:=fun i a=>by
  rw[k] at a
  by_cases d:i=0
  ·exact d
  rw[if_neg d] at a;cases a
 have A:pq fs f (jr f.C.length):=⟨by rw[k];rfl,j 0,fun i _=>by rw[j];exact fun _ a=>(by cases a),fun b a i l=>by
  have:=r i l;subst this;exact⟨[],a.m0,by rw[j];exact .refl _⟩⟩
 have E:Wk fs f (jr f.C.length):=fun i l=>by
  have:=r i l;subst this;left;rw[e];simp
 have D:Tm (jr f.C.length):=fun M o=>by
  rw[e] at o;have:M=0:=τ o;subst this;rw[k];rfl
 obtain⟨J,O⟩:=BQ m;have:=n.n40;obtain⟨u,v⟩:=Ev n G (mu f.C.length (jr f.C.length)+1) J A E D ω ω;refine⟨fun s d=>?_,v⟩;obtain⟨p,g,I⟩:=u s d;refine⟨p,⟨jI.2 ⟨g.m0,g.a0⟩,fun i t a=>?_⟩,fun b C i t a=>?_⟩
 ·obtain⟨c,h⟩:=jI.1 a;subst h;refine⟨zF p c,g.ty i c,?_⟩;obtain⟨L,w,x⟩:=I i c;refine⟨L,w,fun K F=>?_⟩;obtain⟨y,z⟩:=x K F;exact⟨_,jI.2 ⟨y,rfl⟩,z⟩
 obtain⟨c,h⟩:=jI.1 a;subst h;exact g.le b C i c
theorem IW {fs:List aw} (h:dc fs=0) {k:Nat} (e:k<fs.length):rU fs (ar fs k):=by
 obtain⟨_,_,a⟩:=iD h;obtain⟨_,_,_,c,_⟩:=kX (a _ (jL e));refine⟨fun g f=>?_,fun i d=>?_⟩
 ·have:=c g f;omega
 obtain⟨_,_,b,_⟩:=kX (a _ (jL d));exact b
end
section
theorem SB {n:Nat} {s:eD} (h:gE n s):tC n s<=9*n:=by
 have b:∀a:Nat,((List.range a).map (lO s)).sum<=9*a:=fun a=>by
  induction a with
  | zero=>simp
  | succ a c=>
   rw[iA,cS,ve];have:lO s a<=9:=by
    unfold lO
    split
    ·have:=Ek (s.at_.getD a []);have:=h.st a;omega
    exact aF _
   simp only[eL,iG,BB,List.sum_nil];omega
 exact b n
theorem LI {n:Nat} {s:eD} {k:Nat} {l:List Int} :(dI n s k l).2=s\/(dI n s k l).2.todo=s.todo++ [(k:Int)]:=by
 unfold dI
 repeat (first | exact .inl rfl | exact .inr rfl | split)
theorem Ay {n:Nat} :∀{L:List Int} {s s':eD} {l:List Int},dW n s L l=some s'->s'.todo= []->s'=s
 | [],s,s',l,e,_=>by
  simp only[dW,bj] at e;exact e.symm
 | a::L,s,s',l,e,h=>by
  simp only[dW] at e
  split at e
  ·have c:=Ay e h;rcases LI (n:=n) (s:=s) (k:=a.toNat) (l:=l) with b | b
   ·rw[c,b]
   rw[<-c,h] at b;have:=congrArg List.length b;simp at this
  cases e
structure Sw (fs:List aw) (f:aw) (s0:eD) (i:Nat) (s:eD):Prop where
 ok:gE f.C.length s
 inv:pq fs f s
 mu_:mu f.C.length s<=mu f.C.length s0
 dn:s.todo= []->s=s0/\∀j,j<i->s.met.getD j false=true->Dn fs f s j
theorem Sw.todo {fs:List aw} {f:aw} {s0 s:eD} {i:Nat} (h:Sw fs f s0 i s) (h0:gE f.C.length s0) (ht:s0.todo= []) (hn:f.C.length<=40):s.todo.length<=360:=by
 have h1:=h.mu_
 have h2:=SB h0
 unfold mu at h1
 rw[ht] at h1
 simp only[aE] at h1
 omega
theorem Sw.start {fs:List aw} {f:aw} {a:eD} (h:gE f.C.length a) (hi:pq fs f a):Sw fs f a 0 a:=⟨h,hi,aF _,fun _=>⟨rfl,fun _ b=>absurd b (gt _)⟩⟩
theorem Sw.skip {fs:List aw} {f:aw} {d s:eD} {i:Nat} (h:Sw fs f d i s) (g:¬s.met.getD i false=true):Sw fs f d (i+1) s:=
 ⟨h.ok,h.inv,h.mu_,fun a=>⟨(h.dn a).1,fun c j b=>by
  by_cases e:c=i
  ·subst e;exact absurd b g
  exact(h.dn a).2 c ω b⟩⟩
theorem Sw.bad {fs:List aw} {f:aw} {l s:eD} {i:Nat} (h:Sw fs f l i s) (j:s.met.getD i false=true) (k:ig fs f (bE f.C i) (s.at_.getD i [])=none) (a:Nat->Option (List Int)):¬rR fs f a:=fun c=>by
 obtain⟨m,d,e⟩:=h.inv.le a c i j;obtain⟨_,_,o,g,_⟩:=c.ok i m d;obtain⟨n,b,_⟩:=sd e g;rw[k] at b
 cases b
theorem Sw.comes {fs:List aw} {f:aw} (b:nF fs f) (y:rU fs f) {e s:eD} {i:Nat} (h:Sw fs f e i s) (m:gE f.C.length e) (x:e.todo= []) (hi:i<f.C.length) (l:s.met.getD i false=true) {v:List Int} (d:ig fs f (bE f.C i) (s.at_.getD i [])=some v)
  {L:List Int} (j:∀q∈L,q∈dT (bE f.C i) i) (C:L.length<=4) :
  (∀s',dW f.C.length s L v=some s'->pq fs f s'/\Up s s'/\∀q∈L,s'.met.getD q.toNat false=true/\Le v (s'.at_.getD q.toNat []))/\(dW f.C.length s L v=none->∀a,¬rR fs f a):=by
 have:=h.todo m x b.n40;exact wD h.ok h.inv (fun q c=>b.to_ i hi q (j q c)) (pF d) ω (AV y (b.op i hi) (h.inv.ty i l) d) (fun a k q c=>by
   obtain⟨z,n,o⟩:=h.inv.le a k i l;obtain⟨_,_,E,p,r⟩:=k.ok i z n;obtain⟨D,g,t⟩:=sd o p;rw[d] at g
   cases g
   obtain⟨s',u,w⟩:=r q (j q c);exact⟨s',u,t.trans w⟩)
theorem Sw.step {fs:List aw} {f:aw} (a:nF fs f) (w:rU fs f) {c s:eD} {i:Nat} (h:Sw fs f c i s) (g:gE f.C.length c) (j:c.todo= []) (hi:i<f.C.length) (r:s.met.getD i false=true) {v:List Int} (b:ig fs f (bE f.C i) (s.at_.getD i [])=some v)
  {s':eD} (e:dW f.C.length s (dT (bE f.C i) i) v=some s'):Sw fs f c (i+1) s':=by
 have:=h.todo g j a.n40;have:=pk (bE f.C i) i;obtain⟨x,D,y⟩:=(h.comes a w g j hi r b (fun E u=>u) ω).1 s' e;have p:=wE h.ok (a.to_ i hi) (pF b) ω e;have t:=wF h.ok (a.to_ i hi) (pF b) ω e;refine⟨p.1,x,dS t h.mu_,fun d=>?_⟩;have o:=Ay e d;subst o;obtain⟨l,m⟩:=h.dn d;refine⟨l,fun k A q=>?_⟩
 by_cases n:k=i
 ·subst n;exact⟨v,b,y⟩
 exact m k ω q
theorem Sw.again {fs:List aw} {f:aw} {b s:eD} {i:Nat} (h:Sw fs f b i s) (c:b.todo= []) (d:s.todo≠[]):gE f.C.length ⟨s.at_,s.met,[]⟩/\pq fs f ⟨s.at_,s.met,[]⟩/\tC f.C.length ⟨s.at_,s.met,[]⟩<tC f.C.length b:=by
 refine⟨⟨h.ok.al,h.ok.ml,σ,h.ok.st,fun j e=>by cases e⟩,⟨h.inv.m0,h.inv.a0,h.inv.ty,h.inv.le⟩,?_⟩;have a:=h.mu_;unfold mu at a;rw[c] at a;simp only[aE] at a;have:=rW.2 d;show tC f.C.length s<_;omega
theorem Cr {fs:List aw} {f:aw} (c:nF fs f) (d:rU fs f) (b:0<f.C.length) (h:∀a,¬rR fs f a):cD fs f=([],false):=by
 unfold cD
 cases e:qE fs f with
 | none=>rfl
 | some g=>exact absurd ((rf c d b).1 g e).2.1 (h _)
theorem Lu {fs:List aw} {f:aw} (n:nF fs f) (o:rU fs f) (m:0<f.C.length) {s:eD} (u:gE f.C.length s) (d:pq fs f s) (v:∀i:Nat,s.met.getD i false=true->Dn fs f s i):cD fs f=(mt s f.C.length,true):=by
 have l:rR fs f (MO s):=⟨jI.2 ⟨d.m0,d.a0⟩,fun i z r=>by
  obtain⟨a,h⟩:=jI.1 r;subst h;refine⟨zF u a,d.ty i a,?_⟩;obtain⟨C,b,j⟩:=v i a;refine⟨C,b,fun y w=>?_⟩;obtain⟨c,k⟩:=j y w;exact⟨_,jI.2 ⟨c,rfl⟩,k⟩⟩
 unfold cD
 cases e:qE fs f with
 | none=>exact absurd l ((rf n o m).2 e _)
 | some q=>
  obtain⟨D,x,p⟩:=(rf n o m).1 q e;show (mt q f.C.length,true)=_
  congr 1
  unfold mt
  congr 1
  funext i
  by_cases g:s.met.getD i false=true
  ·obtain⟨z,a,h⟩:=d.le _ x i g;obtain⟨b,j⟩:=jI.1 a;subst j;obtain⟨A,c,k⟩:=p _ l i _ a;obtain⟨_,t⟩:=jI.1 c;subst t;rw[if_pos g,if_pos b,h.anti k]
  rw[if_neg g,if_neg];intro b;obtain⟨A,c,_⟩:=p _ l i _ (jI.2 ⟨b,rfl⟩);exact g (jI.1 c).1
def xC (n:Nat):eD:=⟨List.replicate n [],(List.replicate n false).set 0 true,[]⟩
theorem Rz {fs:List aw} {f:aw} (h:0<f.C.length):gE f.C.length (xC f.C.length)/\pq fs f (xC f.C.length):=by
 have b:∀a,(xC f.C.length).at_.getD a []= []:=fun a=>lL _ _ _;have g:∀a,(xC f.C.length).met.getD a false=if a=0 then true else false:=fun a=>by
  show ((List.replicate f.C.length false).set 0 true).getD a false=_;rw[jf (τ h)]
  split
  ·rfl
  exact lL _ _ _
 refine⟨⟨by simp[xC],by simp[xC],by simp[xC],fun a=>by rw[b];simp,fun k i=>by cases i⟩,⟨by rw[g];rfl,b 0,fun a _=>by rw[b];exact fun _ c=>(by cases c),fun j c a d=>?_⟩⟩;rw[g] at d
 by_cases e:a=0
 ·subst e;exact⟨[],c.m0,by rw[b];exact .refl _⟩
 rw[if_neg e] at d;cases d
end
section
section
variable {B:Nat} {w0:World}
end
def tR (a b:Int):Nat->Int
 | 0=>0
 | k+1=>if tR a b k=0/\cy a (3 - k)=true/\cy b (3 - k)=true then 3 - k else tR a b k
theorem O2 {a b:Int} (ha:1<=a/\a<=3) (c:1<=b/\b<=3):tR a b 3=ed a b:=by
 rcases t3 ha with rfl | rfl | rfl <;> rcases t3 c with rfl | rfl | rfl <;> decide
theorem FJ (l m:Option Addr) (o p:Nat) (a b:List Int) (w:World) (z:Sl w (ac l a.length o) a) (h2:Sl w (ac m b.length p) b) (Q:Ty a) (R:Ty b) (W:a.length<=1000000) :
  Calls Tryz.prog 197 #[ac l a.length o,ac m b.length p] w fun e w'=> ∃C,e= .returned (.tuple #[C,.bool (bX a b).isSome])/\Below w.heap.size w w'/\eQ w' w.heap.size C ((bX a b).getD []):=by
 have:=bA h2;refine enter Tryz.func197 rfl Tryz.ntmps197 rfl<|cF (fun r=>?_) (fun r=>?_)
 ·have A:=EA (a:=a) (b:=b) (fun e=>r (by rw[e]));refine aj ?_;intro w k;rw[A];exact⟨_,rfl,it k⟩
 have r:a.length=b.length:=ω;refine aj ?_;refine db (fun w j=>Cw.nilO Int j) ?_;refine de (fun d:Nat×List Int×Option Addr×Nat=>d.1<=a.length/\bX (a.take d.1) (b.take d.1)=some d.2.1) (fun d=>a.length - d.1) (fun d=> [(0,ac l a.length o),(1,ac m b.length p),(6,ac d.2.2.1 d.2.1.length d.2.2.2),(7,ai (d.1:Int))]) (fun d=> [ag d.2.2.1 d.2.2.2 d.2.1]) (0,[],none,0) (⟨aU _,rfl⟩) ?_;rintro⟨c,g,n,q⟩ G
 try dsimp only
 obtain⟨U,v⟩:c<=a.length/\bX (a.take c) (b.take c)=some g:=G;have:g.length=c:=by have:=(mS v).2;rw[aB] at this;omega
 refine ax (fun L=>?_) (fun L=>?_)
 ·have u:c<a.length:=ω;have x:=uG u ω v;have O:=lC z u;have P:=lC h2 (k:=c) ω;have F:=O2 (Q.at_ u) (R.at_ (i:=c) ω);refine aj ?_;refine iT (fun _:Unit=>True) (fun _=> [(0,ac l a.length o),(1,ac m b.length p),(6,ac n g.length q),(7,ai (c:Int)),(8,ai (ed (a.getD c 0) (b.getD c 0)))]) (fun _=> [ag n q g]) ?_ ?_
  ·refine de (fun d:Nat×Int=>d.1<=3/\d.2=3 - (d.1:Int)) (fun d=>3 - d.1) (fun d=> [(0,ac l a.length o),(1,ac m b.length p),(6,ac n g.length q),(7,ai (c:Int)),(8,ai (tR (a.getD c 0) (b.getD c 0) d.1)),(9,ai d.2)]) (fun _=> [ag n q g]) (0,3) (⟨aU _,rfl⟩) ?_;rintro⟨f,h⟩ I
   try dsimp only
   obtain⟨V,N⟩:f<=3/\h=3 - (f:Int):=I;refine ax (fun K=>?_) (fun K=>?_)
   ·have J:f<3:=ω;have M:tR (a.getD c 0) (b.getD c 0) (f+1)=if tR (a.getD c 0) (b.getD c 0) f=0/\cy (a.getD c 0) h=true/\cy (b.getD c 0) h=true then h else tR (a.getD c 0) (b.getD c 0) f:=by rw[tR,N]
    refine fk (fh ?_);refine dq (fun _:Unit=>True) (fun _=> [(0,ac l a.length o),(1,ac m b.length p),(6,ac n g.length q),(7,ai (c:Int)),(8,ai (tR (a.getD c 0) (b.getD c 0) (f+1))),(9,ai h)]) (fun _=> [ag n q g]) ?_ ?_
    ·rw[M];refine cR 27 (fun i=>?_) (fun i=>?_)
     ·have i:=of_decide_eq_true i;refine aj ?_;refine da _ rfl (.ro z) ?_;refine mQ rfl (.ro z)<|aj ?_;refine cE rfl Vx (fun w k=>sH (a.getD c 0) h w)<|cR 35 (fun s=>?_) (fun s=>?_)
      ·refine aj ?_;refine da _ rfl (.ro h2) ?_;refine mQ rfl (.ro h2)<|aj ?_;refine cE rfl Vx (fun w k=>sH (b.getD c 0) h w)<|aj ?_;refine bO rfl (fun t=>?_) (fun t=>?_)
       ·rw[if_pos ⟨i,s,t⟩];refine aj ?_;refine bW () trivial
       rw[if_neg (fun j=>by rw[j.2.2] at t;cases t)];refine aj ?_;refine bW () trivial
      rw[if_neg (fun j=>by rw[j.2.1] at s;cases s)];refine aj ?_;refine bY rfl<|aj ?_;refine bW () trivial
     have i:=of_decide_eq_false i;rw[if_neg (fun j=>i j.1)];refine aj ?_;refine bY rfl<|aj ?_;refine bW () trivial
    rintro _ _;refine aj ?_;refine cJ (f+1,h - 1) (⟨J,by show h - 1=3 - ((f+1:Nat):Int);omega⟩) (by show 3 - (f+1)<3 - f;omega)
   obtain rfl:f=3:=ω;rw[F];refine aj ?_;refine bW () trivial
  rintro _ _;refine ax (fun y=>?_) (fun y=>?_)
  ·rw[if_pos y] at x;have A:=uH x r;refine aj ?_;intro w k;rw[A];exact⟨_,rfl,it k⟩
  rw[if_neg y] at x;refine aj ?_;intro T _;refine oE (bV (α:=Int) (bytes:=8) (ed (a.getD c 0) (b.getD c 0)) [] rfl ay (aS cK) rfl (eB fc fc) (df (Cy O P)) ω ω rfl rfl rfl) (fun⟨D,E⟩ _=>?_);refine aO ?_;refine cJ (c+1,g++ [ed (a.getD c 0) (b.getD c 0)],D,E) (⟨u,x⟩) (by show _ - _<_ - _;omega)
 obtain rfl:c=a.length:=ω;rw[aR,r,aR] at v;refine aj ?_;intro w k;rw[v];exact⟨_,rfl,lu k⟩
end
section
def dH (c:Int):List UInt8×List UInt8:=
 if c=1\/c=21 then ([],[105]) else if c=5\/c=6\/c=7 then ([105,105],[105]) else if c=8 then ([],[108]) else if c=9 then ([108],[]) else if c=11\/c=20 then ([105],[]) else if c=14 then ([105],[114]) else if c=15 then ([114,105],[105]) else if c=16 then ([114,105,105],[]) else if c=17\/c=19 then ([114],[105]) else if c=18 then ([],[110]) else ([],[])
def sc (local_:Int) (b:UInt8):List Int:=if (b.toNat:Int)=105 then [1] else if (b.toNat:Int)=114 then [2] else if (b.toNat:Int)=110 then [3] else if (b.toNat:Int)=108 then [local_] else []
def ma (local_:Int) (s:List UInt8):List Int:=s.flatMap (sc local_)
theorem In (c:Int) (w:World):Calls Tryz.prog 247 #[ai c] w fun e w'=>e= .returned (.tuple #[.string ⟨(dH c).1.toArray⟩,.string ⟨(dH c).2.toArray⟩])/\Below w.heap.size w w':=by
 refine enter Tryz.func247 rfl Tryz.ntmps247 rfl<|ax (fun b=>?_) (fun b=>?_)
 ·refine cN (t:=5) (v':= .bool true) rfl (by rw[decide_eq_true b])<|aj ?_;refine aZ rfl<|aj ?_;have e:dH c=([],[105]):=by rw[b];rfl
  refine aj ?_;intro w a;rw[e];exact⟨rfl,a.below⟩
 refine ax (fun o=>?_) (fun o=>?_)
 ·have e:dH c=([],[105]):=by rw[o];rfl
  refine aj ?_;intro w a;rw[e];exact⟨rfl,a.below⟩
 refine ax (fun g=>?_) (fun g=>?_)
 ·refine cN (t:=8) (v':= .bool true) rfl (by rw[decide_eq_true g])<|aj ?_;refine aZ rfl<|aj ?_;have e:dH c=([105,105],[105]):=by rw[g];rfl
  refine aj ?_;intro w a;rw[e];exact⟨rfl,a.below⟩
 refine ax (fun h=>?_) (fun h=>?_)
 ·refine cN (t:=8) (v':= .bool true) rfl (by rw[decide_eq_true h])<|aj ?_;refine aZ rfl<|aj ?_;have e:dH c=([105,105],[105]):=by rw[h];rfl
  refine aj ?_;intro w a;rw[e];exact⟨rfl,a.below⟩
 refine ax (fun p=>?_) (fun p=>?_)
 ·have e:dH c=([105,105],[105]):=by rw[p];rfl
  refine aj ?_;intro w a;rw[e];exact⟨rfl,a.below⟩
 refine ax (fun q=>?_) (fun q=>?_)
 ·have e:dH c=([],[108]):=by rw[q];rfl
  refine aj ?_;intro w a;rw[e];exact⟨rfl,a.below⟩
 refine ax (fun r=>?_) (fun r=>?_)
 ·have e:dH c=([108],[]):=by rw[r];rfl
  refine aj ?_;intro w a;rw[e];exact⟨rfl,a.below⟩
 refine ax (fun d=>?_) (fun d=>?_)
 ·refine cN (t:=16) (v':= .bool true) rfl (by rw[decide_eq_true d])<|aj ?_;refine aZ rfl<|aj ?_;have e:dH c=([105],[]):=by rw[d];rfl
  refine aj ?_;intro w a;rw[e];exact⟨rfl,a.below⟩
 refine ax (fun n=>?_) (fun n=>?_)
 ·have e:dH c=([105],[]):=by rw[n];rfl
  refine aj ?_;intro w a;rw[e];exact⟨rfl,a.below⟩
 refine ax (fun i=>?_) (fun i=>?_)
 ·have e:dH c=([105],[114]):=by rw[i];rfl
  refine aj ?_;intro w a;rw[e];exact⟨rfl,a.below⟩
 refine ax (fun j=>?_) (fun j=>?_)
 ·have e:dH c=([114,105],[105]):=by rw[j];rfl
  refine aj ?_;intro w a;rw[e];exact⟨rfl,a.below⟩
 refine ax (fun k=>?_) (fun k=>?_)
 ·have e:dH c=([114,105,105],[]):=by rw[k];rfl
  refine aj ?_;intro w a;rw[e];exact⟨rfl,a.below⟩
 refine ax (fun f=>?_) (fun f=>?_)
 ·refine cN (t:=25) (v':= .bool true) rfl (by rw[decide_eq_true f])<|aj ?_;refine aZ rfl<|aj ?_;have e:dH c=([114],[105]):=by rw[f];rfl
  refine aj ?_;intro w a;rw[e];exact⟨rfl,a.below⟩
 refine ax (fun m=>?_) (fun m=>?_)
 ·have e:dH c=([114],[105]):=by rw[m];rfl
  refine aj ?_;intro w a;rw[e];exact⟨rfl,a.below⟩
 refine ax (fun l=>?_) (fun l=>?_)
 ·have e:dH c=([],[110]):=by rw[l];rfl
  refine aj ?_;intro w a;rw[e];exact⟨rfl,a.below⟩
 refine aj ?_;have e:dH c=([],[]):=by unfold dH;simp[b,o,g,h,p,q,r,d,n,i,j,k,f,m,l]
 refine aj ?_;intro w a;rw[e];exact⟨rfl,a.below⟩
theorem OV (x:Int) (b:UInt8):(sc x b).length<=1:=by
 unfold sc
 repeat (first | split | simp)
theorem wW (x:Int):∀s:List UInt8,(ma x s).length<=s.length
 | []=>by simp[ma]
 | b::s=>by
  have:=wW x s;have:=OV x b;simp only[ma,fJ,au,br] at *;omega
theorem MB {x:Int} {s:List UInt8} {i:Nat} (hi:i<s.length):ma x (s.take (i+1))=ma x (s.take i)++sc x (s.getD i 0):=by
 unfold ma;rw[dD hi,oA,ap,aq hi];simp
theorem zl (s:List UInt8) (x:Int) (u:aI x) (w:World) (D:s.length<=1000):Calls Tryz.prog 248 #[.string ⟨s.toArray⟩,ai x] w fun e w'=> ∃n,e= .returned n/\Below w.heap.size w w'/\eQ w' w.heap.size n (ma x s):=by
 refine enter Tryz.func248 rfl Tryz.ntmps248 rfl<|aj ?_;refine db (fun w q=>Cw.nilO Int q) ?_;refine de (fun a:Nat×Option Addr×Nat=>a.1<=s.length) (fun a=>s.length - a.1) (fun a=> [(0,.string ⟨s.toArray⟩),(1,ai x),(5,ac a.2.1 (ma x (s.take a.1)).length a.2.2),(6,ai (a.1:Int))]) (fun a=> [ag a.2.1 a.2.2 (ma x (s.take a.1))]) (0,none,0) (aU _) ?_;rintro⟨b,o,p⟩ r
 try dsimp only
 have:b<=s.length:=r;have l:=wW x (s.take b);rw[aB] at l;refine ax (fun l=>?_) (fun l=>?_)
 ·have j:b<s.length:=ω;have t:=MB (x:=x) j;refine fk (fh ?_);refine dq (fun _:Option Addr×Nat=>True) (fun a=> [(0,.string ⟨s.toArray⟩),(1,ai x),(5,ac a.1 (ma x (s.take (b+1))).length a.2),(6,ai (b:Int))]) (fun a=> [ag a.1 a.2 (ma x (s.take (b+1)))]) ?_ ?_
  ·rw[t];refine aj ?_;refine sE (xa (k:=b) iW j rfl rfl rfl)<|ax (fun f=>?_) (fun f=>?_)
   ·have e:sc x (s.getD b 0)= [1]:=by unfold sc;rw[if_pos f]
    rw[e];refine aj ?_;intro v _;refine oE (bV (α:=Int) (bytes:=8) 1 [] rfl ay (aS cK) rfl (eB fc fc) (df (show aI _ from by decide)) ω ω rfl rfl rfl) (fun⟨c,d⟩ _=>?_);refine aO ?_;refine bW (c,d) trivial
   refine ax (fun g=>?_) (fun g=>?_)
   ·have e:sc x (s.getD b 0)= [2]:=by unfold sc;rw[if_neg f,if_pos g]
    rw[e];refine aj ?_;intro y _;refine oE (bV (α:=Int) (bytes:=8) 2 [] rfl ay (aS cK) rfl (eB fc fc) (df (show aI _ from by decide)) ω ω rfl rfl rfl) (fun⟨c,d⟩ _=>?_);refine aO ?_;refine bW (c,d) trivial
   refine ax (fun h=>?_) (fun h=>?_)
   ·have e:sc x (s.getD b 0)= [3]:=by unfold sc;rw[if_neg f,if_neg g,if_pos h]
    rw[e];refine aj ?_;intro z _;refine oE (bV (α:=Int) (bytes:=8) 3 [] rfl ay (aS cK) rfl (eB fc fc) (df (show aI _ from by decide)) ω ω rfl rfl rfl) (fun⟨c,d⟩ _=>?_);refine aO ?_;refine bW (c,d) trivial
   refine ax (fun i=>?_) (fun i=>?_)
   ·have e:sc x (s.getD b 0)= [x]:=by unfold sc;rw[if_neg f,if_neg g,if_neg h,if_pos i]
    rw[e];refine aj ?_;intro A _;refine oE (bV (α:=Int) (bytes:=8) x [] rfl ay (aS cK) rfl (eB fc fc) (df u) ω ω rfl rfl rfl) (fun⟨c,d⟩ _=>?_);refine aO ?_;refine bW (c,d) trivial
   have e:sc x (s.getD b 0)= []:=by unfold sc;rw[if_neg f,if_neg g,if_neg h,if_neg i]
   rw[e,ee];refine aj ?_;refine bW (o,p) trivial
  rintro⟨c,d⟩ _;refine aj ?_;refine cJ (b+1,c,d) j (by show _ - _<_ - _;omega)
 obtain rfl:b=s.length:=ω;refine aj ?_;intro w m;rw[aR] at m⊢;exact⟨_,rfl,lu m⟩
end
section
theorem vm {c:Int} (j:¬c=8) (k:¬c=9) (x:Int):ma x (dH c).1=(cG c).1/\ma x (dH c).2=(cG c).2:=by
 unfold dH cG
 by_cases a:c=1\/c=21
 ·rw[if_pos a,if_pos a];exact⟨rfl,rfl⟩
 rw[if_neg a,if_neg a]
 by_cases d:c=5\/c=6\/c=7
 ·rw[if_pos d,if_pos d];exact⟨rfl,rfl⟩
 rw[if_neg d,if_neg d,if_neg j,if_neg k]
 by_cases e:c=11\/c=20
 ·rw[if_pos e,if_pos e];exact⟨rfl,rfl⟩
 rw[if_neg e,if_neg e]
 by_cases f:c=14
 ·rw[if_pos f,if_pos f];exact⟨rfl,rfl⟩
 rw[if_neg f,if_neg f]
 by_cases g:c=15
 ·rw[if_pos g,if_pos g];exact⟨rfl,rfl⟩
 rw[if_neg g,if_neg g]
 by_cases h:c=16
 ·rw[if_pos h,if_pos h];exact⟨rfl,rfl⟩
 rw[if_neg h,if_neg h]
 by_cases i:c=17\/c=19
 ·rw[if_pos i,if_pos i];exact⟨rfl,rfl⟩
 rw[if_neg i,if_neg i]
 by_cases b:c=18
 ·rw[if_pos b,if_pos b];exact⟨rfl,rfl⟩
 rw[if_neg b,if_neg b];exact⟨rfl,rfl⟩
theorem FT (c:Int):(dH c).1.length<=3/\(dH c).2.length<=3:=by
 unfold dH
 repeat (first | split | decide)
def jS (f:aw) (o:bJ):Int:=if o.c=8\/o.c=9 then f.L.getD o.a.toNat 0 else 0
theorem H0 {fs:List aw} {f:aw} {o:bJ} {s:List Int} (h2:¬o.c=2) (e:¬o.c=3) (g:¬o.c=4) (c:¬o.c=12) (d:¬o.c=13):tl fs f o s=some (ma (jS f o) (dH o.c).1,ma (jS f o) (dH o.c).2):=by
 unfold tl jS;rw[if_neg h2,if_neg e,if_neg g,if_neg c,if_neg d]
 by_cases a:o.c=8
 ·rw[if_pos a,if_pos (.inl a),a];rfl
 rw[if_neg a]
 by_cases b:o.c=9
 ·rw[if_pos b,if_pos (.inr b),b];rfl
 rw[if_neg b,if_neg ω,(vm a b 0).1,(vm a b 0).2]
theorem vJ {fs:List aw} {f:aw} {o:bJ} {s:List Int} (h:tl fs f o s=none):ig fs f o s=none:=by rw[GB,h]
theorem yg {fs:List aw} {f:aw} {o:bJ} {s T a:List Int} (h:tl fs f o s=some (T,a)) (i:¬(T.length<=s.length/\(s.take (s.length - T.length)++a).length<=8/\Le (s.drop (s.length - T.length)) T)):ig fs f o s=none:=by
 cases e:ig fs f o s with
 | none=>rfl
 | some l=>
  obtain⟨j,k,b,c,d,g,_⟩:=kg.1 e;rw[h] at b
  cases b
  exact absurd ⟨c,d,g⟩ i
theorem M3 (fs:List aw) (f:aw) (o:bJ) (s:List Int) (J I Z p:Option Addr) (O N ad cs:Nat) (w:World) (bt:Sl w (ac J fs.length O) fs) (G:Sl w (ac I f.L.length N) f.L) (i:Sl w (ac p s.length cs) s)
  (A:Jy fs f o) (cj:∀k,k<fs.length->0<=(ar fs k).result) (c7:0<=f.result) (c4:s.length<=1000) :
  Calls Tryz.prog 195 #[.agg #[ac J fs.length O],.agg #[ai f.params,ac I f.L.length N,ai f.result,ac Z f.C.length ad],.agg #[ai o.c,ai o.a],ac p s.length cs] w fun e w'=>
   ∃g:(Option Addr×Nat)×List Int,(∀v,ig fs f o s=some v->g.2=v)/\e= .returned (.tuple #[ac g.1.1 g.2.length g.1.2,.bool (ig fs f o s).isSome])/\Cw w.heap.size w [an (ac g.1.1 g.2.length g.1.2) g.2] w':=by
 have:=bN.cap i;refine enter Tryz.func195 rfl Tryz.ntmps195 rfl<|aj ?_;refine fun am _=>aj ?_;refine fun a0 _=>aj ?_;intro S _;refine aC ?_;refine aC ?_;refine bG<|cn<|bK<|aC ?_;refine dG (lr ay rfl rfl) rfl rfl<|aC ?_;refine bG<|cn<|bK<|aC ?_;refine aC ?_;refine bG<|dq (fun g:List Int×List Int×(Option Addr×Nat)×(Option Addr×Nat)=>tl fs f o s=some (g.1,g.2.1)/\(g.1.length<=1000/\g.2.1.length<=1000)) (fun g=> [(3,ac p s.length cs),(10,ai (s.length:Int)),(11,ac g.2.2.1.1 g.1.length g.2.2.1.2),(12,ac g.2.2.2.1 g.2.1.length g.2.2.2.2)]) (fun g=> [wS w.heap.size w (ac g.2.2.1.1 g.1.length g.2.2.1.2) g.1,wS w.heap.size w (ac g.2.2.2.1 g.2.1.length g.2.2.2.2) g.2.1]) ?_ ?_
 ·have ci:=A.par;refine aj ?_;refine iT (fun _:Unit=>True) (fun _=> [(3,ac p s.length cs),(4,af am),(5,af a0),(6,af S),(10,ai (s.length:Int)),(11,ac none 0 0),(12,ac none 0 0),(22,ai o.c),(49,.bool (decide (o.c=2\/o.c=3)))]) (fun _=> [ak am [ac J fs.length O] 24,ak a0 [ai f.params,ac I f.L.length N,ai f.result,ac Z f.C.length ad] 84,ak S [ai o.c,ai o.a] 86]) ?_ ?_
  ·refine eI rfl (fun X=>?_) (fun X=>?_)
   ·rw[decide_eq_true (.inl X)];refine cN (t:=49) (v':= .bool true) rfl (by rw[decide_eq_true X])<|aj ?_;refine bW () trivial
   rw[show decide (o.c=2\/o.c=3)=decide (o.c=3) from decide_eq_decide.2 ⟨fun b=>b.resolve_left X,.inr⟩];refine aj ?_;refine kw () trivial
  rintro _ _;refine eI rfl (fun Y=>?_) (fun Y=>?_)
  ·refine ax (fun a2=>?_) (fun a2=>?_)
   ·have h:=vJ (show tl fs f o s=none from by
     unfold tl;rcases Y with k | k
     ·rw[if_pos k,if_pos ω]
     rw[if_neg ω,if_pos k,if_pos ω])
    refine aj ?_;intro w l;exact⟨((none,0),[]),fun v d=>(by rw[h] at d;cases d),by rw[h];rfl,Cw.nilO Int (l.msub (T:= []) ms)⟩
   have z:=bN.cut i (s.length - 1) s.length ω (aF _);have F:(s.drop (s.length - 1)).length=s.length - (s.length - 1):=aK;rw[bD ω,<-F] at z;refine aj ?_;refine bd (t:=56) (v':= ai ((s.length - 1:Nat):Int)) rfl (by congr 1;omega) ?_;refine sE (pL (lo:=s.length - 1) (hi:=s.length) ay bg ⟨ω,ω⟩ rfl rfl rfl rfl) ?_;refine aC ?_;refine bG<|cN (t:=11) (v':= ac (iq p (s.length - 1) cs 1) (s.drop (s.length - 1)).length (cs - (s.length - 1))) rfl (by rw[F])<|ax (fun bi=>?_) (fun bi=>?_)
   ·have j:tl fs f o s=some (s.drop (s.length - 1),[s.getD (s.length - 1) 0,s.getD (s.length - 1) 0]):=by unfold tl;rw[if_neg ω,if_pos bi,if_neg ω]
    have W:=lC i (k:=s.length - 1) ω;have al:((s.length:Int) - 1).toNat=s.length - 1:=ω;refine bh [0,3,6,9,12,15,18,21,24,27,32,34] [10,11] rfl<|aj ?_;refine tE rfl (nm ay bg (.ro i) ω rfl rfl rfl) ?_;refine tE rfl (bU (SF.int (.ro i) ω) rfl rfl bB)<|aj ?_;refine tE rfl (nm ay bg (.ro i) ω rfl rfl rfl) ?_;refine tE rfl (bU (SF.int (.ro i) ω) rfl rfl bB)<|aj ?_;refine fun ba _=>aj ?_;rw[al];refine bW (s.drop (s.length - 1),[s.getD (s.length - 1) 0,s.getD (s.length - 1) 0],(iq p (s.length - 1) cs 1,cs - (s.length - 1)),(some ⟨ba,0,none⟩,2)) (⟨j,by show (s.drop (s.length - 1)).length<=1000;omega,by show 2<=1000;decide⟩) (hh:=(fun w b=>(qV z (tA (bI (α:=Int) (m:=2) [s.getD (s.length - 1) 0,s.getD (s.length - 1) 0] rfl (kB W W) rfl κ (b.msub (T:= [ak ba _ _]) ms)))).msub ms))
   have j:tl fs f o s=some (s.drop (s.length - 1),[]):=by unfold tl;rw[if_pos ω,if_neg ω]
   refine aj ?_;refine bW (s.drop (s.length - 1),[],(iq p (s.length - 1) cs 1,cs - (s.length - 1)),(none,0)) (⟨j,by show (s.drop (s.length - 1)).length<=1000;omega,by show 0<=1000;decide⟩) (hh:=(fun w b=>(qV z (qV (bN.nil_ (α:=Int)) b)).msub ms))
  have C:¬o.c=2:=fun e=>Y (.inl e);have D:¬o.c=3:=fun e=>Y (.inr e);refine ax (fun u=>?_) (fun u=>?_)
  ·refine ax (fun a2=>?_) (fun a2=>?_)
   ·have h:=vJ (show tl fs f o s=none from by unfold tl;rw[if_neg C,if_neg D,if_pos u,if_pos ω]);refine aj ?_;intro w l;exact⟨((none,0),[]),fun v d=>(by rw[h] at d;cases d),by rw[h];rfl,Cw.nilO Int (l.msub (T:= []) ms)⟩
   have j:tl fs f o s=some (s.drop (s.length - 2),[s.getD (s.length - 1) 0,s.getD (s.length - 2) 0]):=by unfold tl;rw[if_neg C,if_neg D,if_pos u,if_neg ω]
   have z:=bN.cut i (s.length - 2) s.length ω (aF _);have F:(s.drop (s.length - 2)).length=s.length - (s.length - 2):=aK;rw[bD ω,<-F] at z;have W:=lC i (k:=s.length - 1) ω;have ck:=lC i (k:=s.length - 2) ω;have al:((s.length:Int) - 1).toNat=s.length - 1:=ω;have b3:((s.length:Int) - 2).toNat=s.length - 2:=ω;refine aj ?_;refine bh [0,3,6,9,12,15,18,21,24,27,30,33,36,39,45,44,48] [] rfl<|aj ?_;refine di (t:=78) (v':= ai ((s.length - 2:Nat):Int)) rfl (by congr 1;omega) ?_;refine tE rfl (pL (lo:=s.length - 2) (hi:=s.length) ay bg ⟨ω,ω⟩ rfl rfl rfl rfl)<|aj ?_;refine tE rfl (nm ay bg (.ro i) ω rfl rfl rfl) ?_;refine tE rfl (bU (SF.int (.ro i) ω) rfl rfl bB)<|aj ?_;refine tE rfl (nm ay bg (.ro i) ω rfl rfl rfl) ?_;refine tE rfl (bU (SF.int (.ro i) ω) rfl rfl bB)<|aj ?_;refine fun bb _=>aj ?_;rw[al,b3,<-F];refine bW (s.drop (s.length - 2),[s.getD (s.length - 1) 0,s.getD (s.length - 2) 0],(iq p (s.length - 2) cs 1,cs - (s.length - 2)),(some ⟨bb,0,none⟩,2)) (⟨j,by show (s.drop (s.length - 2)).length<=1000;omega,by show 2<=1000;decide⟩) (hh:=(fun w b=>(qV z (tA (bI (α:=Int) (m:=2) [s.getD (s.length - 1) 0,s.getD (s.length - 2) 0] rfl (kB W ck) rfl κ (b.msub (T:= [ak bb _ _]) ms)))).msub ms))
  refine ax (fun y=>?_) (fun y=>?_)
  ·have ⟨c1,c2⟩:=A.call y;have a1:o.a.toNat<fs.length:=ω;obtain⟨M,R,cm,cp,bk,cx,b6,b9⟩:=bN.fn bt a1;have:=ci o.a.toNat a1;have:=cj o.a.toNat a1;have j:tl fs f o s=some (fP (ar fs o.a.toNat),bS (ar fs o.a.toNat)):=by unfold tl;rw[if_neg C,if_neg D,if_neg u,if_neg ω,if_neg ω,if_pos y]
   have bm:(fP (ar fs o.a.toNat)).length=(ar fs o.a.toNat).params.toNat:=by unfold fP;rw[aB];omega
   have bs:(ar fs o.a.toNat).params.toNat<=(ar fs o.a.toNat).L.length:=ω;have V:Sl w (ac M (fP (ar fs o.a.toNat)).length R) (fP (ar fs o.a.toNat)):=by
    rw[bm];exact bN.to bk bs
   have b5:=bN.cap bk;refine aj ?_;refine uI rfl (.ro bt) ?_;refine iB rfl (b9 _)<|aj ?_;refine fun cr _=>aj ?_;refine bd (t:=102) (v':= ai ((((ar fs o.a.toNat).params.toNat:Nat)):Int)) rfl (by congr 1;omega) ?_;refine sE (iZ (k:=(ar fs o.a.toNat).params.toNat) ay bg (dS bs b5) rfl rfl rfl)<|aj ?_;refine cN (t:=11) (v':= ac M (fP (ar fs o.a.toNat)).length R) rfl (by rw[bm]) ?_;refine eI rfl (fun a3=>?_) (fun a3=>?_)
   ·have er:bS (ar fs o.a.toNat)= [(ar fs o.a.toNat).result]:=by unfold bS;rw[if_neg ω]
    refine aj ?_;refine fun bc _=>aj ?_;refine bW (fP (ar fs o.a.toNat),[(ar fs o.a.toNat).result],(M,R),(some ⟨bc,0,none⟩,1)) (⟨er▸j,by show (fP (ar fs o.a.toNat)).length<=1000;omega,by show 1<=1000;decide⟩) (hh:=(fun w b=>(qV V (tA (bI (α:=Int) (m:=1) [(ar fs o.a.toNat).result] rfl (ia b6.2) rfl κ (b.msub (T:= [ak bc _ _]) ms)))).msub ms))
   have er:bS (ar fs o.a.toNat)= []:=by unfold bS;rw[if_pos ω]
   refine aj ?_;refine bW (fP (ar fs o.a.toNat),[],(M,R),(none,0)) (⟨er▸j,by show (fP (ar fs o.a.toNat)).length<=1000;omega,by show 0<=1000;decide⟩) (hh:=(fun w b=>(qV V (qV (bN.nil_ (α:=Int)) b)).msub ms))
  refine ax (fun T=>?_) (fun T=>?_)
  ·refine aj ?_;refine iT (fun _:Option Addr×Nat=>True) (fun g=> [(3,ac p s.length cs),(10,ai (s.length:Int)),(11,ac g.1 (bS f).length g.2),(12,ac none 0 0)]) (fun g=> [wS w.heap.size w (ac g.1 (bS f).length g.2) (bS f)]) ?_ ?_
   ·refine eI rfl (fun a3=>?_) (fun a3=>?_)
    ·have er:bS f= [f.result]:=by unfold bS;rw[if_neg ω]
     rw[er];refine aj ?_;refine fun bf _=>aj ?_;refine kw (some ⟨bf,0,none⟩,1) trivial (hh:=(fun w b=>(tA (bI (α:=Int) (m:=1) [f.result] rfl (ia A.res) rfl κ (b.msub (T:= [ak bf _ _]) ms))).msub ms))
    have er:bS f= []:=by unfold bS;rw[if_pos ω]
    rw[er];refine aj ?_;refine bW (none,0) trivial (hh:=(fun w b=>(qV (bN.nil_ (α:=Int)) b).msub ms))
   rintro⟨b1,b2⟩ _
   try dsimp only
   have:(bS f).length<=1:=by unfold bS;split <;> simp
   refine cF (fun ch=>?_) (fun ch=>?_)
   ·have h:=vJ (show tl fs f o s=none from by unfold tl;rw[if_neg C,if_neg D,if_neg u,if_neg ω,if_neg ω,if_neg y,if_pos T,if_pos ω]);refine aj ?_;intro w l;exact⟨((none,0),[]),fun v d=>(by rw[h] at d;cases d),by rw[h];rfl,Cw.nilO Int (l.msub (T:= []) ms)⟩
   have j:tl fs f o s=some (bS f,[]):=by unfold tl;rw[if_neg C,if_neg D,if_neg u,if_neg ω,if_neg ω,if_neg y,if_pos T,if_neg ω]
   refine aj ?_;refine bW (bS f,[],(b1,b2),(none,0)) (⟨j,by show (bS f).length<=1000;omega,by show 0<=1000;decide⟩) (hh:=(fun w b=>(qV (bN.nil_ (α:=Int)) b).msub ms))
  have j:=H0 (fs:=fs) (f:=f) (o:=o) (s:=s) C D u y T;have:=FT o.c;have:=wW (jS f o) (dH o.c).1;have:=wW (jS f o) (dH o.c).2;have b0:aI (jS f o):=by
   unfold jS
   split
   ·rename_i k;have:=A.loc k;exact lC G (k:=o.a.toNat) ω
   decide
  refine cn<|bK<|aC ?_;refine bG<|dq (fun _:Unit=>True) (fun _=> [(3,ac p s.length cs),(6,af S),(10,ai (s.length:Int)),(14,ai (jS f o))]) (fun _=> [ak am [ac J fs.length O] 24,ak a0 [ai f.params,ac I f.L.length N,ai f.result,ac Z f.C.length ad] 84,ak S [ai o.c,ai o.a] 86]) ?_ ?_
  ·refine cR 26 (fun r=>?_) (fun r=>?_)
   ·have r:o.c=8:=of_decide_eq_true r;have E:jS f o=f.L.getD o.a.toNat 0:=by unfold jS;rw[if_pos (.inl r)]
    have ce:=A.loc (.inl r);rw[E];refine aj ?_;refine aZ rfl<|aj ?_;refine uI rfl (.ro G) ?_;refine mQ rfl (.ro G)<|aj ?_;refine kw () trivial
   have r:¬o.c=8:=of_decide_eq_false r;refine ax (fun U=>?_) (fun U=>?_)
   ·have E:jS f o=f.L.getD o.a.toNat 0:=by unfold jS;rw[if_pos (.inr U)]
    have ce:=A.loc (.inr U);rw[E];refine aj ?_;refine uI rfl (.ro G) ?_;refine mQ rfl (.ro G)<|aj ?_;refine kw () trivial
   have E:jS f o=0:=by unfold jS;rw[if_neg (fun b=>b.elim r U)]
   rw[E];refine aj ?_;refine bW () trivial
  rintro _ _;refine aj ?_;refine cE rfl Tryz.call247 (fun w l=>In o.c w)<|aj ?_;refine oE (fm rfl rfl rfl Tryz.call248 (fun w l=>zl (dH o.c).1 (jS f o) b0 w ω)) (fun⟨a5,a8⟩ _=>?_);refine aO ?_;refine oE (fm rfl rfl rfl Tryz.call248 (fun w l=>zl (dH o.c).2 (jS f o) b0 w ω)) (fun⟨a6,a9⟩ _=>?_);refine aO ?_;refine bW (ma (jS f o) (dH o.c).1,ma (jS f o) (dH o.c).2,(a5,a8),(a6,a9)) (⟨j,by show (ma (jS f o) (dH o.c).1).length<=1000;omega,by show (ma (jS f o) (dH o.c).2).length<=1000;omega⟩) (hh:=(fun w' b=>(tA ((tA b).msub (T:= [ag a5 a8 (ma (jS f o) (dH o.c).1),wS w.heap.size w (ac a6 (ma (jS f o) (dH o.c).2).length a9) (ma (jS f o) (dH o.c).2)]) ms)).msub ms))
 rintro⟨a,n,⟨K,P⟩,L,Q⟩ ca;obtain⟨j,cz,c0⟩:tl fs f o s=some (a,n)/\(a.length<=1000/\n.length<=1000):=ca;refine aO ?_;refine eI rfl (fun b4=>?_) (fun b4=>?_)
 ·have h:=yg j (fun b=>by have:=b.1;omega);refine aj ?_;intro w l;exact⟨((none,0),[]),fun v d=>(by rw[h] at d;cases d),by rw[h];rfl,Cw.nilO Int (l.msub (T:= []) ms)⟩
 have b8:a.length<=s.length:=ω;refine aj ?_;refine iT (fun _:Unit=>Le (s.drop (s.length - a.length)) a) (fun _=> [(3,ac p s.length cs),(10,ai (s.length:Int)),(11,ac K a.length P),(12,ac L n.length Q)]) (fun _=> [wS w.heap.size w (ac K a.length P) a,wS w.heap.size w (ac L n.length Q) n]) ?_ ?_
 ·refine de (fun c:Nat=>c<=a.length/\∀q,q<c->cy (s.getD (s.length - a.length+q) 0) (a.getD q 0)=true) (fun c=>a.length - c) (fun c=> [(3,ac p s.length cs),(10,ai (s.length:Int)),(11,ac K a.length P),(12,ac L n.length Q),(17,ai (c:Int))]) (fun _=> [wS w.heap.size w (ac K a.length P) a,wS w.heap.size w (ac L n.length Q) n]) 0 (⟨aU _,ω⟩) ?_;rintro c cb;obtain⟨bo,bl⟩:c<=a.length/\∀q,q<c->cy (s.getD (s.length - a.length+q) 0) (a.getD q 0)=true:=cb;refine ax (fun cf=>?_) (fun cf=>?_)
  ·have cd:c<a.length:=ω;refine aj ?_;refine bh [0,3,6,9,12,15,18,21,24,27,30,33,36,41,42] [] rfl<|aj ?_;refine tE rfl (nm ay bg (.ro i) ω rfl rfl rfl) ?_;refine tE rfl (bU (SF.int (.ro i) ω) rfl rfl bB)<|aj ?_;refine tE rfl (aW ay bg (SF.rb rfl fc) ω rfl rfl rfl) ?_;refine tE rfl (bU (SF.int (SF.rb rfl fc) ω) rfl rfl bB) ?_;refine di (t:=140) (v':= ai (s.getD (s.length - a.length+c) 0)) rfl (by rw[show ((s.length:Int) - (a.length:Int)+(c:Int)).toNat=s.length - a.length+c from by omega]) ?_;refine lc rfl rfl Vx (fun w l=>sH (s.getD (s.length - a.length+c) 0) (a.getD c 0) w)<|aj ?_;refine bO rfl (fun x=>?_) (fun x=>?_)
   ·have x:cy (s.getD (s.length - a.length+c) 0) (a.getD c 0)=false:=τ x;have h:=yg j (fun b=>by
     have:=b.2.2.2 c (by rw[aK];omega);rw[jX,x] at this
     cases this)
    refine aj ?_;intro w l;exact⟨((none,0),[]),fun v d=>(by rw[h] at d;cases d),by rw[h];rfl,Cw.nilO Int (l.msub (T:= []) ms)⟩
   have x:cy (s.getD (s.length - a.length+c) 0) (a.getD c 0)=true:=τ x;refine aj ?_;refine cJ (c+1) (⟨cd,fun q bp=>by by_cases e:q=c;(· rw[e];exact x);(· exact bl q ω)⟩) (by show _ - _<_ - _;omega)
  obtain rfl:c=a.length:=ω;refine aj ?_;refine bW () (⟨by rw[aK];omega,fun q bp=>by rw[aK] at bp;rw[jX];exact bl q ω⟩)
 rintro _ b7;refine aj ?_;refine fun ct _=>aj ?_;refine fH (fun w b=>bI (α:=Int) (m:=0) [] rfl σ rfl κ b) ?_;refine bd (t:=152) (v':= ai ((s.length - a.length:Nat):Int)) rfl (by congr 1;omega) ?_;refine sE (iZ (k:=s.length - a.length) ay bg ω rfl rfl rfl) ?_;have V:=bN.to i (k:=s.length - a.length) ω;have:(s.take (s.length - a.length)).length=s.length - a.length:=by rw[aB];omega
 refine oE (dm (α:=Int) (bytes:=8) (xs:= []) (ys:=s.take (s.length - a.length)) rfl ay (aS cK) rfl fc (.ro V) (by simp only[aE];omega) (by simp only[aE];omega) rfl rfl rfl) (fun⟨cl,co⟩ _=>?_);refine aO ?_;rw[cc];refine oE (dm (α:=Int) (bytes:=8) (xs:=s.take (s.length - a.length)) (ys:=n) rfl ay (aS cK) rfl fc (SF.rb rfl fc) ω ω rfl rfl rfl) (fun⟨a4,a7⟩ _=>?_);refine aO ?_;intro w l
 by_cases r:(s.take (s.length - a.length)++n).length<=8
 ·have bv:ig fs f o s=some (s.take (s.length - a.length)++n):=kg.2 ⟨a,n,j,b8,r,b7,rfl⟩;refine⟨((a4,a7),s.take (s.length - a.length)++n),fun v d=>by rw[bv] at d;exact fE d,?_,l.msub ms⟩;rw[bv,decide_eq_true ω];rfl
 have h:=yg j (fun b=>r b.2.1);refine⟨((a4,a7),s.take (s.length - a.length)++n),fun v d=>(by rw[h] at d;cases d),?_,l.msub ms⟩;rw[h,decide_eq_false ω];rfl
end
