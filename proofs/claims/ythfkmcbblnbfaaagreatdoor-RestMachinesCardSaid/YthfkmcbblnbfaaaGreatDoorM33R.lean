/- Lemmas of one proof. -/
import Derived.Test.YthfkmcbblnbfaaaGreatDoorM0R
import Derived.Test.YthfkmcbblnbfaaaGreatDoorM30R
import Derived.Test.YthfkmcbblnbfaaaGreatDoorM31R

namespace Go.Proofs.YthfkmcbblnbfaaaGreatDoor
set_option maxRecDepth 100000
set_option maxHeartbeats 16000000
open Go.RowKit
section
def dB (n:Nat):dV->List Int->List Int->Option dV
 | s,[],_=>some s
 | s,to_::r,l=>if (dp n s to_.toNat l).1=true then dB n (dp n s to_.toNat l).2 r l else none
def mA (fs:List au) (f:au) (s:dV):Option dV:=
 let k:=(s.todo.getD (s.todo.length - 1) 0).toNat
 let t:=np fs f (bx f.C k) (s.at_.getD k [],false)
 if t.2=true then none else dB f.C.length ⟨s.at_,s.met,s.todo.take (s.todo.length - 1)⟩ (dy (bx f.C k) k) t.1
structure fF (n:Nat) (s:dV):Prop where
 al:s.at_.length=n
 ml:s.met.length=n
 tl:s.todo.length<=5000
 st:∀i,(s.at_.getD i []).length<=8
 td:∀x∈s.todo,0<=x/\x<n
theorem mP {n:Nat} {s:dV} (h:fF n s) {k:Nat} (hk:k<=n) {l:List Int} (hl:l.length<=8) (ht:s.todo.length<5000):fF n (dp n s k l).2/\(dp n s k l).2.todo.length<=s.todo.length+1:=by
 have key:k≠n->∀j:List Int,j.length<=8->fF n ⟨s.at_.set k j,s.met.set k true,s.todo++ [(k:Int)]⟩/\(s.todo++ [(k:Int)]).length<=s.todo.length+1:=fun hne j hj=>by
  refine⟨⟨by simp[h.al],by simp[h.ml],by simp only[ar,aP];omega,fun i=>?_,fun x hx=>?_⟩,by simp⟩
  ·show ((s.at_.set k j).getD i []).length<=8
   rw[ip (by rw[h.al];omega)]
   split
   ·exact hj
   exact h.st i
  rcases dD.1 hx with hx | hx
  ·exact h.td x hx
  rw[cB.1 hx];omega
 unfold dp
 split
 ·exact⟨h,Nat.le_succ _⟩
 rename_i hne
 split
 ·split
  ·exact⟨h,Nat.le_succ _⟩
  rename_i j hj
  split
  ·exact⟨h,Nat.le_succ _⟩
  exact key hne j (by have:=(lA hj).2;have:=h.st k;omega)
 exact key hne l hl
section
variable {B:Nat} {w0:World} {H:List aJ}
abbrev pk (g1 g5 gs gx:Nat) (As:Option Addr) (cs:Nat) (l:List Int):List aJ:=
 [am g1 [.pointer (some ⟨gx,0,none⟩)] 221,am g5 [.pointer (some ⟨gs,0,none⟩)] 271,am gs [.slice As l.length cs,.bool false] 273,ak (.slice As l.length cs) l]
theorem Hb (C:FC) (s:dV) (hd:List gO) (L:List (Value×List Int)) (At:Option Addr) (ct:Nat) (g1 g5 gs:Nat) (As:Option Addr) (cs:Nat) (k:Nat) (hk:k<=C.f.C.length) (hn:C.f.C.length<=40) (l:List Int) (hl:l.length<=8)
  (hR:iZ C.f.C.length hd L s.at_) (hF:fF C.f.C.length s) (w:World) (hw:Cw B w0 (pk g1 g5 gs C.gx As cs l++(jx C s hd L At ct++H)) w) :
  Calls Tryz.prog 224 #[.int .i64 (k:Int),.pointer (some ⟨g1,0,none⟩),.pointer (some ⟨g5,0,none⟩)] w fun e w'=> ∃g:List gO×List (Value×List Int)×Option Addr×Nat,iZ C.f.C.length g.1 g.2.1 (dp C.f.C.length s k l).2.at_/\
   e= .returned (.bool (!(dp C.f.C.length s k l).1))/\Cw B w0 (pk g1 g5 gs C.gx As cs l++(jx C (dp C.f.C.length s k l).2 g.1 g.2.1 g.2.2.1 g.2.2.2++H)) w':=by
 refine bG Tryz.func224 rfl Tryz.ntmps224 rfl hw ?_
 dsimp only[pk,fY,bU]
 refine aj ?_
 refine fx [0,3,6,9,12,15,20,23,24,27] [] rfl [am g1 [.pointer (some ⟨C.gx,0,none⟩)] 221,am g5 [.pointer (some ⟨gs,0,none⟩)] 271,am gs [.slice As l.length cs,.bool false] 273]<|aj ?_
 refine pE rfl (eR rfl rfl rfl ld (fun w hw=>ym As cs l w (SF.at_ (SF.own rfl fc) hw) (by omega))) (fun⟨A4,c4⟩ _=>?_)
 try dsimp only
 refine xh (fun w h=>sn (v:= .slice A4 l.length c4) (xs:=l) (L:=L) (h.msub (.s fc (.s fc .r)))) ?_
 refine xw rfl rfl Tryz.call169 (fun w hw=>CZ C s hd ((.slice A4 l.length c4,l)::L) At ct k hk hn l A4 c4 .new (hR.cons _) hF.ml (by have:=hF.tl;omega) (fun i=>by have:=hF.st i;omega) w (hw.msub ms)) (fun⟨hd2,L2,A5,c5⟩ hR2=>?_)
 refine aO ?_
 intro w hw
 exact⟨(hd2,L2,A5,c5),hR2,rfl,hw.msub ms⟩
structure mm (fs:List au) (f:au):Prop where
 op:∀i,i<f.C.length->GM fs f (bx f.C i)
 to_:∀i,i<f.C.length->∀q∈dy (bx f.C i) i,0<=q/\q<=f.C.length
 n40:f.C.length<=40
theorem qR {n:Nat} :∀{s s':dV} {L:List Int} {k:Nat} {l:List Int},k<L.length->dB n s (L.take k) l=some s'->dB n s (L.take (k+1)) l=if (dp n s' (L.getD k 0).toNat l).1=true then some (dp n s' (L.getD k 0).toNat l).2 else none
 | s,s',[],k,l,hk,_=>by simp at hk
 | s,s',a::L,0,l,_,h=>by
  simp only[List.take_zero,dB,br] at h
  subst h
  simp[dB]
 | s,s',a::L,k+1,l,hk,h=>by
  simp only[gE,dB] at h⊢
  split at h
  ·rename_i h1
   rw[if_pos h1,qR (by simpa using hk) h]
   simp
  cases h
theorem qS {n:Nat} :∀{s:dV} {L:List Int} {k:Nat} {l:List Int},dB n s (L.take k) l=none->dB n s L l=none
 | s,[],k,l,h=>by simpa using h
 | s,a::L,0,l,h=>by simp[dB] at h
 | s,a::L,k+1,l,h=>by
  simp only[gE,dB] at h⊢
  split at h
  ·rename_i h1;rw[if_pos h1];exact qS h
  rename_i h1;rw[if_neg h1]
theorem uv {n:Nat} :∀{s s':dV} {L:List Int} {l:List Int},fF n s->(∀q∈L,0<=q/\q<=n)->l.length<=8->s.todo.length+L.length<5000->dB n s L l=some s'->fF n s'/\s'.todo.length<=s.todo.length+L.length
 | s,s',[],l,h,_,_,_,e=>by
  simp only[dB,br] at e
  subst e
  exact⟨h,aK _⟩
 | s,s',a::L,l,h,hq,hl,ht,e=>by
  simp only[dB] at e
  split at e
  ·have ha:=hq a (by simp)
   rw[bd] at ht
   obtain⟨h1,h2⟩:=mP h (k:=a.toNat) (by omega) hl (by omega)
   obtain⟨h3,h4⟩:=uv h1 (fun q hq'=>hq q (by simp[hq'])) hl (by omega) e
   exact⟨h3,by rw[bd];omega⟩
  cases e
theorem BA {fs:List au} {f:au} {o:bC} {s l':pj} (e:np fs f o s=l') (h:l'.2=false):l'.1.length<=8:=by
 subst e
 unfold np at h⊢
 simp only[Bool.or_eq_false_iff,decide_eq_false_iff_not] at h
 show (iK fs f o s).1.length<=8
 omega
theorem nG (o:bC) (pc:Int):(dy o pc).length<=2:=by
 unfold dy
 repeat (first | split | simp)
theorem JP (C:FC) (s:dV) (hd:List gO) (L:List (Value×List Int)) (At:Option Addr) (ct:Nat) (r:Option dV) (e:mA C.fs C.f s=r) (hok:mm C.fs C.f) (hp:bJ w0 B (.slice C.Ap C.fs.length C.cp) C.fs) (hlo:bJ w0 B (.slice C.A1 C.f.L.length C.c1) C.f.L) (hco:bJ w0 B (.slice C.A2 C.f.C.length C.c2) C.f.C)
  (hR:iZ C.f.C.length hd L s.at_) (hF:fF C.f.C.length s) (ht:0<s.todo.length) (ht2:s.todo.length<=4000) (w:World) (hw:Cw B w0 (jx C s hd L At ct++H) w) :
  Calls Tryz.prog 170 #[.pointer (some ⟨C.gx,0,none⟩)] w fun e w'=> ∃g:List gO×List (Value×List Int)×Option Addr×Nat,(match r with | some s'=>iZ C.f.C.length g.1 g.2.1 s'.at_ | none=>True)/\
   e= .returned (.bool r.isSome)/\Cw B w0 ((match r with | some s'=>jx C s' g.1 g.2.1 g.2.2.1 g.2.2.2 | none=> [])++H) w':=by
 obtain⟨gx,fs,f,Ap,cp,A1,c1,A2,c2,Aa,ca,Am,cm⟩:=C
 obtain⟨at_,met,todo⟩:=s
 dsimp only[jx,fY,bU] at *
 obtain⟨n,hn⟩:∃n,todo.length=n+1:=⟨todo.length - 1,by omega⟩
 have hmem:todo.getD n 0∈todo:=by rw[an,ap (by omega)];exact da _
 have htd:=hF.td _ hmem
 obtain⟨k,hk⟩:∃k:Nat,todo.getD n 0=(k:Int):=⟨(todo.getD n 0).toNat,by have:=htd.1;omega⟩
 have hkl:k<f.C.length:=by have:=htd.2;omega
 obtain⟨T,b,eT⟩:∃T b,np fs f (bx f.C k) (at_.getD k [],false)=(T,b):=⟨_,_,rfl⟩
 have e:(if b=true then none else dB f.C.length ⟨at_,met,todo.take n⟩ (dy (bx f.C k) k) T)=r:=by
  unfold mA at e
  dsimp only at e
  rw[show todo.length - 1=n from by omega,hk,bw,eT] at e
  exact e
 have htl:(todo.take n).length=n:=by rw[aA];omega
 have i1:=Cl hco hkl
 refine bG Tryz.func170 rfl Tryz.ntmps170 rfl hw<|aj ?_
 intro g1 _
 refine ay ?_
 refine bH<|cc<|bO<|dT (cE fc Tryz.isAgg221 rfl rfl (by rfl)) rfl rfl ?_
 refine ay ?_
 refine ay ?_
 refine dT (cE fc gv rfl rfl (by rfl)) rfl rfl ?_
 refine dT (kT aw rfl rfl) rfl rfl<|dT (xt rfl rfl rfl (by omega)) rfl rfl<|ay ?_
 refine bH<|cK (t:=3) (v':= .int .i64 (n:Int)) rfl (by congr 1;omega)<|aj ?_
 refine cS (_) rfl ((SF.own rfl fc)) ?_
 refine ma rfl ((SF.own rfl fc)) ?_
 refine ay ?_
 refine bH<|dY (fun w h=>gG h (xs:=todo) fc) fun hcap=>?_
 refine cK (t:=4) (v':= .int .i64 (k:Int)) rfl (by rw[hk])<|aj ?_
 refine bz [0,3,6,9,12,15,18,21,24,29] [9] rfl<|aj ?_
 refine tE rfl (ij (k:=n) aw bj (by omega) rfl rfl rfl) ?_
 refine ay ?_
 refine ay ?_
 refine cP rfl (cV _ fc iJ rfl rfl rfl rfl rfl (by rfl) rfl (by rfl)) rfl rfl (.inl rfl) (fun _ _=>?_) gh
 refine xi<|dK (fun w h=>ri (k:=n) (xs:=todo) (A:=At) (m:=todo.length) (c:=ct) (by omega) (h.msub (.s fc .r))) ?_
 have hin:=hR.el k hkl
 have h8:(at_.getD k []).length<=8:=hF.st k
 refine aj ?_
 refine cS (_) rfl ((SF.own hR.hl fc)) ?_
 refine eH rfl (SF.hdr (SF.own hR.hl fc) hkl) ?_
 refine nT (fun w h=>hin.form h fc) ?_
 rintro⟨A3,c3,hv⟩
 rw[hv] at hin
 refine bh (t:=34) (v':= .slice A3 (at_.getD k []).length c3) rfl (hv) ?_
 refine oE (eR rfl rfl rfl ld (fun w hw=>ym A3 c3 (at_.getD k []) w (hin.sl hw fc) (by omega))) (fun⟨A4,c4⟩ _=>?_)
 refine aO ?_
 refine fun g2 _=>aj ?_
 intro g3 _
 refine dr (cV _ fc Tryz.sizeOf271 rfl rfl rfl rfl rfl (by rfl) rfl (by rfl)) rfl rfl (fun _ _=>?_)
 refine bH<|aj ?_
 refine fx [0,3,6,9,12,15,18,21,24,27,30,33,36,39,42,45,48,53] [] rfl [am g1 [.pointer (some ⟨gx,0,none⟩)] 221,am gx [.slice Ap fs.length cp,.int .i64 f.params,.slice A1 f.L.length c1,.int .i64 f.result,.slice A2 f.C.length c2,.slice Aa f.C.length ca,.slice Am f.C.length cm,.slice At n ct] 224,am g3 [.pointer (some ⟨g2,0,none⟩)] 271]<|aj ?_
 refine tE rfl (bg dW fM (.ro hco) (by omega) rfl rfl rfl) ?_
 refine tE rfl (eF (cs:= [_,_]) (SF.op (.ro hco) (by omega)) rfl rfl wM fM) ?_
 refine xw rfl rfl Tryz.call222 (fun w hw=>LW g2 fs f (bx f.C k) eT A4 Ap A1 A2 c4 cp c1 c2 (hok.op k hkl) hp hlo (by omega) w (hw.msub (.s fc (.s fc .r)))) (fun⟨A6,c6⟩ _=>?_)
 refine aO ?_
 refine bT rfl (fun hb=>?_) (fun hb=>?_)
 ·rw[if_pos hb] at e
  subst e
  refine aj ?_
  intro w hw
  exact⟨(hd,L,At,ct),trivial,rfl,hw.msub ms⟩
 have hb:b=false:=hb
 subst hb
 have hT8:=BA eT rfl
 have hT8:T.length<=8:=hT8
 rw[if_neg (by decide)] at e
 obtain⟨LL,hLL⟩:∃LL,dy (bx f.C k) k=LL:=⟨_,rfl⟩
 have hto:=hok.to_ k hkl
 have hl2:=nG (bx f.C k) k
 rw[hLL] at hto hl2 e
 have haft:∀w1,Sl w1 (.slice A2 f.C.length c2) f.C->Calls Tryz.prog 223 #[.slice A2 f.C.length c2,.int .i64 (k:Int)] w1 fun e w'=> ∃g:Option Addr×Nat,True/\e= .returned (.slice g.1 LL.length g.2)/\Cw w1.heap.size w1 [ak (.slice g.1 LL.length g.2) LL] w':=fun w1 h=>by
  have:=Jb A2 c2 f.C k w1 h hkl
  rw[hLL] at this
  exact this
 refine aj ?_
 refine eb rfl Tryz.call223 (fun w hw=>haft w (hw.ro hco)) (fun⟨A7,c7⟩ _=>?_)
 refine aO ?_
 obtain⟨C,hC⟩:∃C:FC,C=⟨gx,fs,f,Ap,cp,A1,c1,A2,c2,Aa,ca,Am,cm⟩:=⟨_,rfl⟩
 have hF0:fF f.C.length ⟨at_,met,todo.take n⟩:=⟨hF.al,hF.ml,by show (todo.take n).length<=_;omega,hF.st,fun x hx=>hF.td x (iV hx)⟩
 have hstep:∀(j:Nat) (g:dV×List gO×List (Value×List Int)×Option Addr×Nat),j<LL.length->((dB f.C.length ⟨at_,met,todo.take n⟩ (LL.take j) T=some g.1/\fF f.C.length g.1/\g.1.todo.length<=n+j)/\iZ f.C.length g.2.1 g.2.2.1 g.1.at_)->∀w,Cw B w0 ((fun g:dV×List gO×List (Value×List Int)×Option Addr×Nat=>pk g1 g3 g2 gx A6 c6 T++(jx C g.1 g.2.1 g.2.2.1 g.2.2.2.1 g.2.2.2.2++(ak (.slice A7 LL.length c7) LL::H))) g) w->
   Calls Tryz.prog 224 ([Value.int .i64 (LL.getD j 0)]++(#[.pointer (some ⟨g1,0,none⟩),.pointer (some ⟨g3,0,none⟩)]:Array Value).toList).toArray w fun e w'=> ∃p:Bool×dV×List gO×List (Value×List Int)×Option Addr×Nat,
    (if p.1 then dB f.C.length ⟨at_,met,todo.take n⟩ LL T=none else (dB f.C.length ⟨at_,met,todo.take n⟩ (LL.take (j+1)) T=some p.2.1/\fF f.C.length p.2.1/\p.2.1.todo.length<=n+(j+1))/\iZ f.C.length p.2.2.1 p.2.2.2.1 p.2.1.at_)/\e= .returned (.bool p.1)/\Cw B w0 ((fun g:dV×List gO×List (Value×List Int)×Option Addr×Nat=>pk g1 g3 g2 gx A6 c6 T++(jx C g.1 g.2.1 g.2.2.1 g.2.2.2.1 g.2.2.2.2++(ak (.slice A7 LL.length c7) LL::H))) p.2) w':=by
  rintro j ⟨s',hd',L',A',c'⟩ hj ⟨⟨g1',g2',g3'⟩,g4'⟩ w1 hw1
  have hmem:LL.getD j 0∈LL:=by rw[an,ap hj];exact da _
  obtain⟨q,hq⟩:∃q:Nat,LL.getD j 0=(q:Int):=⟨(LL.getD j 0).toNat,by have:=hto _ hmem;omega⟩
  have hqn:q<=f.C.length:=by have:=hto _ hmem;omega
  have hsn:=qR hj g1'
  rw[hq,bw] at hsn
  have hco2:=mP g2' hqn hT8 (by have:=hF.tl;dsimp only at *;omega)
  dsimp only at *
  rw[hq]
  refine(Hb (H:=ak (.slice A7 LL.length c7) LL::H) C s' hd' L' A' c' g1 g3 g2 A6 c6 q (by rw[hC];exact hqn) (by rw[hC];exact hok.n40) T hT8 (by rw[hC];exact g4') (by rw[hC];exact g2') w1 (by rw[hC] at hw1⊢;exact hw1)).mono ?_
  rintro e1 w' ⟨⟨hd2,L2,A5,c5⟩,k1,k2,k3⟩
  rw[hC] at k1 k2
  dsimp only at k1 k2
  refine⟨(!(dp f.C.length s' q T).1,(dp f.C.length s' q T).2,hd2,L2,A5,c5),?_,k2,by rw[hC] at k3⊢;exact k3⟩
  dsimp only
  cases hb1:(dp f.C.length s' q T).1
  ·rw[hb1] at hsn
   rw[if_neg (by decide)] at hsn
   simp only[Bool.not_false,if_true]
   exact qS hsn
  rw[hb1] at hsn
  rw[if_pos rfl] at hsn
  simp only[Bool.not_true,nO,if_false]
  exact⟨⟨hsn,hco2.1,by omega⟩,k1⟩
 refine cT rfl Dx (fun w hw=>CU (B:=B) (w0:=w0) (fun j g=>(dB f.C.length ⟨at_,met,todo.take n⟩ (LL.take j) T=some g.1/\fF f.C.length g.1/\g.1.todo.length<=n+j)/\iZ f.C.length g.2.1 g.2.2.1 g.1.at_) (fun _=>dB f.C.length ⟨at_,met,todo.take n⟩ LL T=none) (fun g:dV×List gO×List (Value×List Int)×Option Addr×Nat=>pk g1 g3 g2 gx A6 c6 T++(jx C g.1 g.2.1 g.2.2.1 g.2.2.2.1 g.2.2.2.2++(ak (.slice A7 LL.length c7) LL::H))) A7 c7 LL 224 _ Tryz.call224 (fun g=> .own rfl fc) (by omega) hstep (⟨at_,met,todo.take n⟩,hd,L,At,ct) ⟨⟨rfl,hF0,by show (todo.take n).length<=_;omega⟩,hR⟩ w (by dsimp only[jx,pk,fY,bU];rw[hC];dsimp only;rw[htl];exact hw.msub ms)) (fun⟨bb,s',hd',L',A',c'⟩ hg=>?_)
 refine aO ?_
 intro w hw
 cases bb
 ·have hg:(dB f.C.length ⟨at_,met,todo.take n⟩ (LL.take LL.length) T=some s'/\fF f.C.length s'/\s'.todo.length<=n+LL.length)/\iZ f.C.length hd' L' s'.at_:=hg
  rw[aT,e] at hg
  obtain⟨⟨k1,_,_⟩,k2⟩:=hg
  subst k1
  refine⟨(hd',L',A',c'),k2,rfl,?_⟩
  dsimp only[jx,pk,fY,bU] at hw⊢
  rw[hC] at hw
  exact hw.msub ms
 have hg:dB f.C.length ⟨at_,met,todo.take n⟩ LL T=none:=hg
 rw[e] at hg
 subst hg
 refine⟨(hd,L,At,ct),trivial,rfl,?_⟩
 dsimp only[jx,pk,fY,bU] at hw⊢
 exact hw.msub ms
end
end
section
def pq (l:List Int):Nat:=l.countP fun t=>decide (t=3)
def kI (s:dV) (i:Nat):Nat:=if s.met.getD i false=true then pq (s.at_.getD i []) else 9
def ru (n:Nat) (s:dV):Nat:=((List.range n).map (kI s)).sum
def mu (n:Nat) (s:dV):Nat:=ru n s+s.todo.length
theorem L7 {n k:Nat} {f g:Nat->Nat} (hk:k<n) (h:∀i,i≠k->f i=g i):((List.range n).map g).sum+f k=((List.range n).map f).sum+g k:=by
 induction n with
 | zero=>omega
 | succ n ih=>
  simp only[List.range_succ,fd,List.sum_append,et,iX,List.sum_cons,List.sum_nil]
  by_cases e:k=n
  ·subst e
   have:(List.range k).map f=(List.range k).map g:=List.map_congr_left fun i hi=>h i (by have:=kV.1 hi;omega)
   rw[this]
   omega
  have:=ih (by omega)
  have:=h n (fun e'=>e e'.symm)
  omega
theorem D7 {a b:Int} (h:dM a b≠0):dM a b=a\/(a=3/\dM a b=2):=by
 unfold dM bV at *
 by_cases h1:a=b
 ·left;simp[h1]
 by_cases h2:a=3/\b=2
 ·right;obtain⟨rfl,rfl⟩:=h2;simp
 by_cases h3:b=3/\a=2
 ·left;obtain⟨rfl,rfl⟩:=h3;simp
 exfalso
 apply h
 have e1:¬(a=3/\b=2):=h2
 have e2:¬(b=3/\a=2):=h3
 have e3:¬b=a:=fun e=>h1 e.symm
 simp[h1,e3,e1,e2]
theorem vA:∀{a l j:List Int},bK a l=some j->pq j<=pq a/\(j≠a->pq j<pq a)
 | [],[],j,h=>by simp[bK] at h;subst h;simp
 | [],_::_,j,h=>by simp[bK] at h
 | _::_,[],j,h=>by simp[bK] at h
 | a::l,b::m,j,h=>by
  simp only[bK] at h
  split at h
  ·cases h
  rename_i h0
  cases e:bK l m with
  | none=>rw[e] at h;cases h
  | some k=>
   rw[e] at h
   simp only[Option.map_some,br] at h
   subst h
   obtain⟨h1,h2⟩:=vA e
   unfold pq at *
   simp only[List.countP_cons]
   rcases D7 h0 with hb | ⟨rfl,hb⟩
   ·rw[hb]
    refine⟨by omega,fun hne=>?_⟩
    have:k≠l:=fun e=>hne (by rw[e])
    have:=h2 this
    omega
   rw[hb]
   simp only[decide_true,if_true]
   have:(if decide ((2:Int)=3)=true then 1 else 0)=0:=by decide
   rw[this]
   exact⟨by omega,fun _=>by omega⟩
theorem Co (l:List Int):pq l<=l.length:=List.countP_le_length
theorem AC {n:Nat} {s:dV} (h:fF n s) {k:Nat} (hk:k<=n) {l:List Int} (hl:l.length<=8):mu n (dp n s k l).2<=mu n s:=by
 have key:k<n->∀j:List Int,pq j<kI s k->mu n ⟨s.at_.set k j,s.met.set k true,s.todo++ [(k:Int)]⟩<=mu n s:=fun hkn j hj=>by
  have e:=L7 (f:=kI s) (g:=kI ⟨s.at_.set k j,s.met.set k true,s.todo++ [(k:Int)]⟩) hkn fun i hi=>by
   unfold kI
   rw[ip (by rw[h.ml];exact hkn),ip (by rw[h.al];exact hkn),if_neg hi,if_neg hi]
  have e2:kI ⟨s.at_.set k j,s.met.set k true,s.todo++ [(k:Int)]⟩ k=pq j:=by
   unfold kI
   rw[ip (by rw[h.ml];exact hkn),ip (by rw[h.al];exact hkn),if_pos rfl,if_pos rfl,if_pos rfl]
  rw[e2] at e
  unfold mu ru
  simp only[ar,aP]
  omega
 unfold dp
 split
 ·exact aK _
 rename_i hne
 split
 ·rename_i hm
  split
  ·exact aK _
  rename_i j hj
  split
  ·exact aK _
  rename_i hja
  exact key (by omega) j (by unfold kI;rw[if_pos hm];exact(vA hj).2 hja)
 rename_i hm
 exact key (by omega) l (by unfold kI;rw[if_neg hm];have:=Co l;omega)
theorem uw {n:Nat} :∀{s s':dV} {L:List Int} {l:List Int},fF n s->(∀q∈L,0<=q/\q<=n)->l.length<=8->s.todo.length+L.length<5000->dB n s L l=some s'->mu n s'<=mu n s
 | s,s',[],l,h,_,_,_,e=>by
  simp only[dB,br] at e
  subst e
  exact aK _
 | s,s',a::L,l,h,hq,hl,ht,e=>by
  simp only[dB] at e
  split at e
  ·have ha:=hq a (by simp)
   rw[bd] at ht
   obtain⟨h1,h2⟩:=mP h (k:=a.toNat) (by omega) hl (by omega)
   exact eE (uw h1 (fun q hq'=>hq q (by simp[hq'])) hl (by omega) e) (AC h (by omega) hl)
  cases e
theorem vW {fs:List au} {f:au} (hok:mm fs f) {s s':dV} (h:fF f.C.length s) (ht:0<s.todo.length) (ht2:s.todo.length<=4000) (e:mA fs f s=some s'):fF f.C.length s'/\mu f.C.length s'<mu f.C.length s:=by
 obtain⟨n,hn⟩:∃n,s.todo.length=n+1:=⟨s.todo.length - 1,by omega⟩
 have hmem:s.todo.getD n 0∈s.todo:=by rw[an,ap (by omega)];exact da _
 have htd:=h.td _ hmem
 obtain⟨k,hk⟩:∃k:Nat,s.todo.getD n 0=(k:Int):=⟨(s.todo.getD n 0).toNat,by omega⟩
 have hkl:k<f.C.length:=by omega
 unfold mA at e
 dsimp only at e
 rw[show s.todo.length - 1=n from by omega,hk,bw] at e
 split at e
 ·cases e
 rename_i hb
 have hb:(np fs f (bx f.C k) (s.at_.getD k [],false)).2=false:=by simpa using hb
 have hT8:=BA rfl hb
 have hF0:fF f.C.length ⟨s.at_,s.met,s.todo.take n⟩:=⟨h.al,h.ml,by show (s.todo.take n).length<=_;rw[aA];omega,h.st,fun x hx=>h.td x (iV hx)⟩
 have hl2:=nG (bx f.C k) k
 have hlt:(s.todo.take n).length+(dy (bx f.C k) k).length<5000:=by rw[aA];omega
 have h1:=uv hF0 (hok.to_ k hkl) hT8 hlt e
 have h2:=uw hF0 (hok.to_ k hkl) hT8 hlt e
 refine⟨h1.1,?_⟩
 have:mu f.C.length ⟨s.at_,s.met,s.todo.take n⟩+1=mu f.C.length s:=by
  unfold mu
  show ru f.C.length s+(s.todo.take n).length+1=_
  rw[aA]
  omega
 omega
def lQ (fs:List au) (f:au):Nat->dV->Option dV
 | 0,_=>none
 | k+1,s=>if s.todo.length=0 then some s else match mA fs f s with
  | none=>none
  | some s'=>lQ fs f k s'
theorem xH {fs:List au} {f:au} (hok:mm fs f):∀(k m:Nat) (s:dV),fF f.C.length s->mu f.C.length s<=4000->mu f.C.length s<k->mu f.C.length s<m->lQ fs f k s=lQ fs f m s
 | 0,_,_,_,_,h,_=>absurd h (by omega)
 | _+1,0,_,_,_,_,h=>absurd h (by omega)
 | k+1,m+1,s,hF,h4,h1,h2=>by
  simp only[lQ]
  split
  ·rfl
  rename_i ht
  cases e:mA fs f s with
  | none=>rfl
  | some s'=>
   have htl:s.todo.length<=4000:=by unfold mu at h4;omega
   obtain⟨h3,h4'⟩:=vW hok hF (by omega) htl e
   exact xH hok k m s' h3 (by omega) (by omega) (by omega)
def gU (n:Nat):dV:=⟨List.replicate n [],List.replicate n false,[]⟩
def iB (n:Nat):dV:=(dp n (gU n) 0 []).2
def entS (fs:List au) (f:au):Option dV:=lQ fs f (mu f.C.length (iB f.C.length)+1) (iB f.C.length)
structure im where
 pc:Int
 K:List Int
 deriving DecidableEq
def lj (s:dV) (i:Nat):List im:=(List.range i).filterMap fun k=>if s.met.getD k false=true then some ⟨k,s.at_.getD k []⟩ else none
def bZ (fs:List au) (f:au):List im×Bool:=match entS fs f with
 | none=>([],false)
 | some s=>(lj s f.C.length,true)
theorem tL (n:Nat):fF n (gU n):=by
 refine⟨by simp[gU],by simp[gU],by simp[gU],fun i=>?_,by simp[gU]⟩
 show ((List.replicate n ([]:List Int)).getD i []).length<=8
 rw[an,qu]
 split <;> simp
theorem JQ (n:Nat):mu n (gU n)<=9*n:=by
 unfold mu ru
 have:∀m,((List.range m).map (kI (gU n))).sum<=9*m:=fun m=>by
  induction m with
  | zero=>simp
  | succ m ih=>
   simp only[List.range_succ,fd,List.sum_append,et,iX,List.sum_cons,List.sum_nil]
   have:kI (gU n) m<=9:=by
    unfold kI
    split
    ·rename_i h
     have:(gU n).met.getD m false=false:=by
      show (List.replicate n false).getD m false=false
      rw[an,qu]
      split <;> rfl
     rw[this] at h;cases h
    exact aK _
   omega
 have:=this n
 show _+([]:List Int).length<=_
 simpa using this
theorem zw {n:Nat} (_:0<n):fF n (iB n)/\mu n (iB n)<=9*n:=by
 have h1:=mP (tL n) (k:=0) (aX _) (l:= []) (by simp) (by simp[gU])
 have h2:=AC (tL n) (k:=0) (aX _) (l:= []) (by simp)
 exact⟨h1.1,eE h2 (JQ n)⟩
end
section
instance:aE im where
 k:=2
 rep w B cs x:= ∃v,cs= [.int .i64 x.pc,v]/\aH x.pc/\bJ w B v x.K
 len h:=by obtain⟨v,h,_⟩:=h;rw[h];rfl
 keep h hc:=by obtain⟨v,h,hi,hs⟩:=h;exact⟨v,h,hi,hs.keep hc⟩
 more h hb:=by obtain⟨v,h,hi,hs⟩:=h;exact⟨v,h,hi,hs.more hb⟩
 one h:=by obtain⟨v,h,hi,hs⟩:=h;obtain⟨A,c,rfl,_⟩:=hs.form;rw[h];simp[Value.oneCell']
structure fJ where
 pc:Int
 v:Value
instance:aE fJ where
 k:=2
 rep _ _ cs h:=cs= [.int .i64 h.pc,h.v]/\aH h.pc/\h.v.oneCell'=true
 len h:=by rw[h.1];rfl
 keep h _:=h
 more h _:=h
 one h:=by rw[h.1];simpa [Value.oneCell'] using h.2.2
instance:Ow fJ where
 ty:=105
 own _ F cs h:=(cs= [.int .i64 h.pc,h.v]/\aH h.pc/\h.v.oneCell'=true)/\∀b,¬F b
 rd_ h:=h.1
 lt h hb:=(h.2 _ hb).elim
 frame h _:=h
 cong h hf:=⟨h.1,fun b hb=>h.2 b ((hf b).2 hb)⟩
instance:cF fJ where
 enc h:= [.int .i64 h.pc,h.v]
 wf h:=aH h.pc/\h.v.oneCell'=true
 rep_iff:=jY
 own_iff:=jY
structure jW (es:List fJ) (L:List (Value×List Int)) (xs:List im):Prop where
 len:es.length=xs.length
 el:∀i (h:i<es.length) (h2:i<xs.length),es[i].pc=xs[i].pc/\iH L es[i].v xs[i].K
theorem jW.nil_ {L:List (Value×List Int)} :jW [] L []:=⟨rfl,fun i h=>by simp at h⟩
theorem jW.snoc {es:List fJ} {L:List (Value×List Int)} {xs:List im} (h:jW es L xs) {e:fJ} {x:im} (h1:e.pc=x.pc) (h2:iH L e.v x.K):jW (es++ [e]) L (xs++ [x]):=
 ⟨by simp[h.len],fun i hi hi2=>by
  by_cases hlt:i<es.length
  ·rw[List.getElem_append_left hlt,List.getElem_append_left (by have:=h.len;omega)]
   exact h.el i hlt (by have:=h.len;omega)
  rw[ar,aP] at hi
  have hl:=h.len
  have:i=es.length:=by omega
  subst this
  rw[List.getElem_append_right (aK _),List.getElem_append_right (by omega)]
  simp[h1,h2,hl]⟩
theorem MD {w:World} {F:Nat->Prop} {L:List (Value×List Int)} {v:Value} {xs:List Int} (h:iH L v xs) (hF:Hs w (L.map mI) F):Sl w v xs:=by
 rcases h with ⟨rfl,rfl⟩ | h
 ·exact Sl.nil_
 obtain⟨F',h5,_⟩:=Hs.mem (qt (f:=mI) h) hF
 exact cL.sl (show cL w F' v xs from h5)
theorem zG {es:List fJ} {L:List (Value×List Int)} {xs:List im} (hr:jW es L xs) {v:Value} :∀w F,Hs w [ak v es,fa L] F->Sl w v xs:=by
 rintro w F ⟨F1,F2,h1,⟨F3,F4,h3,h4,_,_⟩,_,_⟩
 have h1:cL w F1 v es:=h1
 have h3:Hs w (L.map mI) F3:=h3
 obtain⟨A,c,hv,k1,k2,k3,k4⟩:=h1.sl
 refine⟨A,c,by rw[hv,hr.len],by rw[<-hr.len];exact k1,k2,by rw[<-hr.len];exact k3,fun h0=>?_⟩
 obtain⟨b,off,hA,hb,hi⟩:=k4 (by rw[hr.len];exact h0)
 refine⟨b,off,hA,hb,fun i x hx=>?_⟩
 have hix:=(aZ.1 hx)
 obtain⟨hil,hix⟩:=hix
 have hie:i<es.length:=by rw[hr.len];exact hil
 obtain⟨cs,⟨hcs,hi1,hi2⟩,hc⟩:=hi i es[i] (ap hie)
 obtain⟨e1,e2⟩:=hr.el i hie hil
 rw[hix] at e1 e2
 subst hcs
 refine⟨[.int .i64 x.pc,es[i].v],⟨es[i].v,rfl,by rw[<-e1];exact hi1,MD e2 h3⟩,fun j u hu=>?_⟩
 rw[<-e1] at hu
 exact hc j u hu
theorem um (s:dV) (i:Nat):lj s (i+1)=if s.met.getD i false=true then lj s i++ [⟨i,s.at_.getD i []⟩] else lj s i:=by
 unfold lj
 rw[List.range_succ,List.filterMap_append]
 split
 ·rename_i h
  simp only[List.filterMap_cons,List.filterMap_nil]
  rw[if_pos h]
 rename_i h
 simp only[List.filterMap_cons,List.filterMap_nil]
 rw[if_neg h]
 simp
theorem CM (s:dV) (i:Nat):(lj s i).length<=i:=by
 have:=List.length_filterMap_le (fun k=>if s.met.getD k false=true then some (⟨k,s.at_.getD k []⟩:im) else none) (List.range i)
 rw[mz] at this
 exact this
theorem oF:(Tryz.prog.info? 35).map (fun i=>(i.zero,i.size,i.bytes))=some (some (.slice none 0 0),1,24):=by kernel_rfl
theorem yv:(Tryz.prog.info? 105).map (fun i=>(i.zero,i.size,i.bytes))=some (some (.agg #[.int .i64 0,.slice none 0 0]),2,32):=by kernel_rfl
theorem kE {α:Type} (n i:Nat) (x:α):(List.replicate n x).getD i x=x:=by
 rw[an,qu]
 split <;> rfl
theorem qQ (A:Option Addr) (c:Nat) (fs:List au) (k:Nat) (w:World) (hs:Sl w (.slice A fs.length c) fs) (hk:k<fs.length) (hok:mm fs (aq fs k)) (hn0:0<(aq fs k).C.length) :
  Calls Tryz.prog 117 #[.agg #[.slice A fs.length c],.int .i64 (k:Int)] w fun e w'=> ∃g:(Option Addr×Nat)×List fJ×List (Value×List Int),jW g.2.1 g.2.2 (bZ fs (aq fs k)).1/\e= .returned (.tuple #[.slice g.1.1 g.2.1.length g.1.2,.bool (bZ fs (aq fs k)).2])/\
   Cw w.heap.size w [ak (.slice g.1.1 g.2.1.length g.1.2) g.2.1,fa g.2.2] w':=by
 obtain⟨A1,c1,A2,c2,hl,hc,hi,hcell⟩:=hs.fn hk
 generalize aq fs k=f at hl hc hi hcell hok hn0⊢
 have hn40:=hok.n40
 refine enter Tryz.func117 rfl Tryz.ntmps117 rfl<|aj ?_
 refine fun g1 _=>aj ?_
 refine cS (_) rfl ((.ro hs))<|aj ?_
 refine eH rfl (fun w hw=>hcell _ w hw 3 _ rfl) ?_
 refine ay ?_
 refine bH<|eh (fun _:Nat×Nat×Nat=>True) (fun g=> [(6,.slice A2 f.C.length c2),(7,.pointer (some ⟨g.2.2,0,none⟩))]) (fun g=> [am g.2.2 [.slice A fs.length c,.int .i64 f.params,.slice A1 f.L.length c1,.int .i64 f.result,.slice A2 f.C.length c2,.slice (some ⟨g.1,0,none⟩) f.C.length f.C.length,.slice (some ⟨g.2.1,0,none⟩) f.C.length f.C.length,.slice none 0 0] 224,ak (.slice (some ⟨g.1,0,none⟩) f.C.length f.C.length) (List.replicate f.C.length ku),ak (.slice (some ⟨g.2.1,0,none⟩) f.C.length f.C.length) (List.replicate f.C.length false)]) ?_ ?_
 ·refine iq (.still 0 (.still 1 (.still 2 (.still 3 (.still 4 (.still 5 (.still 6 (.still 7 (.still 9 (.still 10 (.pick 8 (.pick 11 (.still 12 (.pick 13 (.still 14 .done) .stop)) .stop) (.pick 11 (.pick 8 (.still 12 (.pick 13 (.still 14 .done) .stop)) .stop) .stop)))))))))))) [] rfl (by kernel_rfl) (by kernel_rfl) ?_
  refine aj ?_
  refine tE rfl (bg eC eK (.ro hs) (by omega) rfl rfl rfl) ?_
  refine tE rfl (eF (hcell _) rfl rfl wN eK)<|aj ?_
  refine cP rfl (mU (α:=gO) ku dX oF rfl (fun w=>⟨⟨rfl,rfl⟩,fun _ h=>h⟩) rfl (by omega) rfl rfl rfl) rfl rfl (.inr fun _=>ha) (fun ga _=>?_) ?_
  ·refine pE rfl (mU (α:=Bool) false nj wK rfl (fun w=>⟨rfl,fun _ h=>h⟩) rfl (by omega) rfl rfl rfl) (fun gm _=>aj ?_)
   refine fun gx _=>aj ?_
   refine bu<|bS (ga,gm,gx) (trivial)
  refine pE rfl (mU (α:=Bool) false nj wK rfl (fun w=>⟨rfl,fun _ h=>h⟩) rfl (by omega) rfl rfl rfl) (fun gm _=>?_)
  refine pE rfl (mU (α:=gO) ku dX oF rfl (fun w=>⟨⟨rfl,rfl⟩,fun _ h=>h⟩) rfl (by omega) rfl rfl rfl) (fun ga _=>aj ?_)
  refine fun gx _=>aj ?_
  refine bu<|bS (ga,gm,gx) (trivial)
 rintro⟨ga,gm,gx⟩ _
 try dsimp only
 have hR0:iZ f.C.length (List.replicate f.C.length ku) [] (gU f.C.length).at_:=⟨by simp,by simp[gU],fun i _=>by
  show iH [] ((List.replicate f.C.length ku).getD i ku).v ((List.replicate f.C.length ([]:List Int)).getD i [])
  rw[kE,kE]
  exact .nil_⟩
 have hso:=zw hn0
 have hcome:∀w1,Cw w.heap.size w (jx (⟨gx,fs,f,A,c,A1,c1,A2,c2,some ⟨ga,0,none⟩,f.C.length,some ⟨gm,0,none⟩,f.C.length⟩:FC) (gU f.C.length) (List.replicate f.C.length ku) [] none 0++ []) w1->Calls Tryz.prog 169 #[.pointer (some ⟨gx,0,none⟩),.int .i64 0,.slice none 0 0] w1 fun e w'=> ∃g:List gO×List (Value×List Int)×Option Addr×Nat,iZ f.C.length g.1 g.2.1 (iB f.C.length).at_/\
   e= .returned (.bool (dp f.C.length (gU f.C.length) 0 []).1)/\Cw w.heap.size w (jx (⟨gx,fs,f,A,c,A1,c1,A2,c2,some ⟨ga,0,none⟩,f.C.length,some ⟨gm,0,none⟩,f.C.length⟩:FC) (iB f.C.length) g.1 g.2.1 g.2.2.1 g.2.2.2++ []) w':=fun w1 h=>
  CZ (⟨gx,fs,f,A,c,A1,c1,A2,c2,some ⟨ga,0,none⟩,f.C.length,some ⟨gm,0,none⟩,f.C.length⟩:FC) (gU f.C.length) (List.replicate f.C.length ku) [] none 0 0 (aX _) hn40 [] none 0 .nil_ hR0 (by simp[gU]) (by simp[gU]) (fun i=>by have:=(tL f.C.length).st i;omega) w1 h
 refine dK (fun w h=>kH (Cw.nilO Int h))<|aj ?_
 refine cT rfl Tryz.call169 (fun w hw=>hcome w (hw.msub ms)) (fun⟨hd,L,At,ct⟩ hR=>?_)
 refine aO ?_
 rw[eu]
 refine iQ (fun g:dV×List gO×List (Value×List Int)×Option Addr×Nat=>(entS fs f=some g.1/\fF f.C.length g.1)/\iZ f.C.length g.2.1 g.2.2.1 g.1.at_) (fun g=> [(6,.slice A2 f.C.length c2),(7,.pointer (some ⟨gx,0,none⟩))]) (fun g=>jx (⟨gx,fs,f,A,c,A1,c1,A2,c2,some ⟨ga,0,none⟩,f.C.length,some ⟨gm,0,none⟩,f.C.length⟩:FC) g.1 g.2.1 g.2.2.1 g.2.2.2.1 g.2.2.2.2) ?_ ?_
 ·refine dA (fun g:dV×List gO×List (Value×List Int)×Option Addr×Nat=>((lQ fs f (mu f.C.length g.1+1) g.1=entS fs f/\fF f.C.length g.1)/\iZ f.C.length g.2.1 g.2.2.1 g.1.at_)/\mu f.C.length g.1<=400) (fun g=>mu f.C.length g.1) (fun g=> [(6,.slice A2 f.C.length c2),(7,.pointer (some ⟨gx,0,none⟩))]) (fun g=>jx (⟨gx,fs,f,A,c,A1,c1,A2,c2,some ⟨ga,0,none⟩,f.C.length,some ⟨gm,0,none⟩,f.C.length⟩:FC) g.1 g.2.1 g.2.2.1 g.2.2.2.1 g.2.2.2.2) (iB f.C.length,hd,L,At,ct) (⟨⟨⟨rfl,hso.1⟩,hR⟩,by show mu f.C.length (iB f.C.length)<=_;have:=hso.2;omega⟩) ?_
  rintro⟨s,hd,L,At,ct⟩ hj
  try dsimp only
  obtain⟨⟨⟨hj1,hF⟩,hR⟩,hmu⟩:((lQ fs f (mu f.C.length s+1) s=entS fs f/\fF f.C.length s)/\iZ f.C.length hd L s.at_)/\mu f.C.length s<=400:=hj
  have htl:s.todo.length<=400:=by unfold mu at hmu;omega
  dsimp only[jx]
  refine av (fun ht=>?_) (fun ht=>?_)
  ·have ht0:0<s.todo.length:=by omega
   obtain⟨r,hr⟩:∃r,mA fs f s=r:=⟨_,rfl⟩
   have hj2:=hj1
   rw[lQ,if_neg (by omega),hr] at hj2
   refine aj ?_
   refine cT rfl Tryz.call170 (fun w hw=>JP (H:= []) (⟨gx,fs,f,A,c,A1,c1,A2,c2,some ⟨ga,0,none⟩,f.C.length,some ⟨gm,0,none⟩,f.C.length⟩:FC) s hd L At ct r hr hok hs hl hc hR hF ht0 (by omega) w (hw.msub ms)) (fun⟨hd2,L2,A2',c2'⟩ hR2=>?_)
   refine aO ?_
   refine bT rfl (fun hq=>?_) (fun hq=>?_)
   ·obtain rfl:r=none:=by cases r with | none=>rfl | some s'=>cases hq
    have hent:bZ fs f=([],false):=by unfold bZ;rw[<-hj2]
    rw[hent]
    refine aj ?_
    intro w hw
    exact⟨((none,0),[],[]),.nil_,rfl,Cw.nilO fJ (kH (hw.msub (T:= []) ms))⟩
   obtain⟨s',rfl⟩:∃s',r=some s':=by cases r with | none=>cases hq | some s'=>exact⟨s',rfl⟩
   have hso2:=vW hok hF ht0 (by omega) hr
   have hj3:lQ fs f (mu f.C.length s'+1) s'=entS fs f:=by
    rw[<-hj2]
    exact xH hok _ _ s' hso2.1 (by omega) (by omega) hso2.2
   dsimp only[eu]
   rw[eu]
   refine aj ?_
   refine Lt (s',hd2,L2,A2',c2') (⟨⟨⟨hj3,hso2.1⟩,hR2⟩,by show mu f.C.length s'<=_;omega⟩) (hso2.2)
  have ht0:s.todo.length=0:=by omega
  have hj2:=hj1
  rw[lQ,if_pos ht0] at hj2
  refine aj ?_
  refine bS (s,hd,L,At,ct) (⟨⟨hj2.symm,hF⟩,hR⟩)
 rintro⟨s,hd,L,At,ct⟩ hj
 obtain⟨⟨hj,hF⟩,hR⟩:(entS fs f=some s/\fF f.C.length s)/\iZ f.C.length hd L s.at_:=hj
 have hent:bZ fs f=(lj s f.C.length,true):=by unfold bZ;rw[hj]
 rw[hent]
 dsimp only[jx]
 refine dK (fun w h=>Cw.nilO fJ h)<|aj ?_
 refine dA (fun g:Nat×List fJ×Option Addr×Nat=>g.1<=f.C.length/\jW g.2.1 L (lj s g.1)) (fun g=>f.C.length - g.1) (fun g=> [(7,.pointer (some ⟨gx,0,none⟩)),(8,.slice g.2.2.1 g.2.1.length g.2.2.2),(42,.int .i64 (f.C.length:Int)),(43,.int .i64 (g.1:Int))]) (fun g=>ak (.slice g.2.2.1 g.2.1.length g.2.2.2) g.2.1::jx (⟨gx,fs,f,A,c,A1,c1,A2,c2,some ⟨ga,0,none⟩,f.C.length,some ⟨gm,0,none⟩,f.C.length⟩:FC) s hd L At ct) (0,[],none,0) (⟨aX _,.nil_⟩) ?_
 rintro⟨i,es,Ae,ce⟩ hi'
 try dsimp only
 obtain⟨hi1,hre⟩:i<=f.C.length/\jW es L (lj s i):=hi'
 have hel:=hre.len
 have hul:=CM s i
 dsimp only[jx]
 refine av (fun hlt=>?_) (fun hlt=>?_)
 ·have hil:i<f.C.length:=by omega
  have hsu:=um s i
  refine aj ?_
  refine cS (_) rfl ((SF.own hF.ml fc)) ?_
  refine eH rfl (SF.bool (SF.own hF.ml fc) (by omega))<|aj ?_
  refine bT rfl (fun hm=>?_) (fun hm=>?_)
  ·rw[if_pos hm] at hsu
   have hin:=hR.el i hil
   refine aj ?_
   refine cS (_) rfl ((SF.own hR.hl fc)) ?_
   refine nT (fun w h=>hin.form h fc) ?_
   rintro⟨A3,c3,hv⟩
   rw[hv] at hin
   refine sE (bQ (v:= .slice A3 (s.at_.getD i []).length c3) (by rw[<-hv];exact SF.hdr (SF.own hR.hl fc) hil) rfl rfl gv)<|aj ?_
   intro g2 _
   refine oE (cH (α:=fJ) (bytes:=32) ⟨i,.slice A3 (s.at_.getD i []).length c3⟩ [] rfl LK (aV yv) rfl (eD fc fc) (dm ⟨⟨by show (-9223372036854775808:Int)<=(i:Int);omega,by show (i:Int)<=9223372036854775807;omega⟩,rfl⟩) (by omega) (by omega) rfl rfl rfl) (fun⟨A5,c5⟩ _=>?_)
   refine aO ?_
   refine cU (i+1,es++ [⟨i,.slice A3 (s.at_.getD i []).length c3⟩],A5,c5) (⟨hil,by rw[hsu];exact hre.snoc rfl hin⟩) (by show _ - _<_ - _;omega)
  rw[if_neg (by rw[hm];decide)] at hsu
  refine aj ?_
  refine cU (i+1,es,Ae,ce) (⟨hil,by rw[hsu];exact hre⟩) (by show _ - _<_ - _;omega)
 obtain rfl:i=f.C.length:=by omega
 refine aj ?_
 intro w hw
 exact⟨((Ae,ce),es,L),hre,rfl,hw.msub ms⟩
theorem DV (A:Option Addr) (c:Nat) (fs:List au) (k:Nat) (w:World) (hs:Sl w (.slice A fs.length c) fs) (hk:k<fs.length) (hok:mm fs (aq fs k)) (hn0:0<(aq fs k).C.length) :
  Calls Tryz.prog 117 #[.agg #[.slice A fs.length c],.int .i64 (k:Int)] w fun e w'=> ∃g:Option Addr×Nat,True/\e= .returned (.tuple #[.slice g.1 (bZ fs (aq fs k)).1.length g.2,.bool (bZ fs (aq fs k)).2])/\
   Cw w.heap.size w [lG (.slice g.1 (bZ fs (aq fs k)).1.length g.2) (bZ fs (aq fs k)).1] w':=
 (qQ A c fs k w hs hk hok hn0).mono fun e w' ⟨g,h1,h2,h3⟩=>⟨g.1,trivial,by rw[<-h1.len];exact h2,by rw[<-h1.len];exact Ag (Hel:= [ak (.slice g.1.1 g.2.1.length g.1.2) g.2.1,fa g.2.2]) (H:= []) (zG h1) h3⟩
end
section
theorem jp {fs:List au} {k:Nat} (hk:k<fs.length):aq fs k∈fs:=by
 unfold aq
 rw[an,ap hk]
 exact da hk
theorem jM {fs:List au} (h:cW fs=0) {k:Nat} (hk:k<fs.length):mm fs (aq fs k)/\0<(aq fs k).C.length:=by
 obtain⟨_,_,hall⟩:=iz h
 obtain⟨_,_,h3,h4,h5,h6,h7⟩:=kJ (hall _ (jp hk))
 obtain⟨h40,_⟩:=qT h6
 refine⟨⟨fun i hi=>?_,fun i hi q hq=>?_,h40⟩,by omega⟩
 ·have hf:=h7 _ (sr hi)
  refine⟨fun hc=>?_,fun hc=>?_,fun j hj=>?_,⟨by omega,by omega⟩⟩
  ·unfold fm at hf
   rw[if_pos hc] at hf
   have:=lJ.1 hf
   omega
  ·unfold fm at hf
   rw[if_neg (by omega),if_neg (by omega),if_pos hc] at hf
   have:=lJ.1 hf
   omega
  obtain⟨g1,g2,_⟩:=kJ (hall _ (jp hj))
  exact⟨g2,g1⟩
 have hf:=h7 _ (sr hi)
 have hg:=(qK (bx (aq fs k).C i) i q).1 hq
 have hjz:((bx (aq fs k).C i).c=10\/(bx (aq fs k).C i).c=11)->0<=(bx (aq fs k).C i).a/\(bx (aq fs k).C i).a<(aq fs k).C.length:=fun hc=>by
  unfold fm at hf
  rw[if_neg (by omega),if_pos hc] at hf
  have:=lJ.1 hf
  omega
 unfold gW at hg
 split at hg
 ·simp at hg
 split at hg
 ·rename_i hc
  have:=hjz (.inl hc)
  simp at hg
  omega
 split at hg
 ·rename_i hc
  have:=hjz (.inr hc)
  simp at hg
  omega
 simp at hg
 omega
def kg (fs:List au) (z:Int):List im×Int:=
 if cW fs≠0 then ([],cW fs) else if z<0\/(fs.length:Int)<=z then ([],3) else if (bZ fs (aq fs z.toNat)).2=true then ((bZ fs (aq fs z.toNat)).1,0) else ([],4)
def fl (fs:List au):Int:=if cW fs≠0 then cW fs else if fs.all (fun f=>(bZ fs f).2)=true then 0 else 4
theorem tw {α:Type} {p:α->Bool} {l:List α} {k:Nat} (d:α) (hk:k<l.length):(l.take (k+1)).all p=((l.take k).all p && p (l.getD k d)):=by
 rw[List.take_add_one,ap hk,an,ap hk,List.all_append]
 simp
theorem tH (A:Option Addr) (c:Nat) (fs:List au) (z:Int) (w:World) (hs:Sl w (.slice A fs.length c) fs) :
  Calls Tryz.prog 58 #[.agg #[.slice A fs.length c],.int .i64 z] w fun e w'=> ∃g:(Option Addr×Nat)×List fJ×List (Value×List Int),jW g.2.1 g.2.2 (kg fs z).1/\e= .returned (.tuple #[.slice g.1.1 g.2.1.length g.1.2,.int .i64 (kg fs z).2])/\
   Cw w.heap.size w [ak (.slice g.1.1 g.2.1.length g.1.2) g.2.1,fa g.2.2] w':=by
 have b1:=bE hs
 refine enter Tryz.func58 rfl Tryz.ntmps58 rfl<|aj ?_
 refine fun g1 _=>aj ?_
 obtain⟨E,hE⟩:∃E:Int,(if cW fs≠0 then cW fs else if z<0\/(fs.length:Int)<=z then 3 else 0)=E:=⟨_,rfl⟩
 refine bX rfl GQ (fun w hw=>nz A c fs w (hw.ro hs)) ?_
 refine ay ?_
 refine bH<|eh (fun _:Unit=>True) (fun _=> [(1,.int .i64 z),(2,.pointer (some ⟨g1,0,none⟩)),(6,.int .i64 E)]) (fun _=> [am g1 [.slice A fs.length c] 24]) ?_ ?_
 ·refine dG 13 (fun h1=>?_) (fun h1=>?_)
  ·have h1:=of_decide_eq_true h1
   rw[if_neg (by simpa using h1)] at hE
   refine dG 16 (fun h2=>?_) (fun h2=>?_)
   ·have h2:=of_decide_eq_true h2
    rw[if_pos (.inl h2)] at hE
    subst hE
    refine aj ?_
    refine aU rfl<|aj ?_
    refine tp () (trivial)
   have h2:=of_decide_eq_false h2
   refine av (fun h3=>?_) (fun h3=>?_)
   ·rw[if_pos (.inr (by omega))] at hE
    subst hE
    refine aj ?_
    refine tp () (trivial)
   rw[if_neg (by omega)] at hE
   subst hE
   rw[h1]
   refine aj ?_
   refine bS () (trivial)
  have h1:=of_decide_eq_false h1
  rw[if_pos h1] at hE
  subst hE
  refine aj ?_
  refine cu rfl<|aj ?_
  refine bS () (trivial)
 rintro _ _
 refine cQ (fun h0=>?_) (fun h0=>?_)
 ·have hf:kg fs z=([],E):=by
   unfold kg
   by_cases h1:cW fs=0
   ·rw[if_neg (by simpa using h1)] at hE⊢
    by_cases h2:z<0\/(fs.length:Int)<=z
    ·rw[if_pos h2] at hE⊢;rw[hE]
    rw[if_neg h2] at hE;exact absurd hE.symm h0
   rw[if_pos h1] at hE⊢;rw[hE]
  rw[hf]
  refine aj ?_
  intro w hw
  exact⟨((none,0),[],[]),.nil_,rfl,Cw.nilO fJ (kH (hw.msub (T:= []) ms))⟩
 subst h0
 have h1:cW fs=0:=by
  by_cases h1:cW fs=0
  ·exact h1
  rw[if_pos h1] at hE;exact absurd hE h1
 rw[if_neg (by simpa using h1)] at hE
 have h2:¬(z<0\/(fs.length:Int)<=z):=fun h=>by rw[if_pos h] at hE;cases hE
 obtain⟨k,rfl⟩:∃k:Nat,z=(k:Int):=⟨z.toNat,by omega⟩
 have hk:k<fs.length:=by omega
 obtain⟨hok,hn0⟩:=jM h1 hk
 have hf:kg fs (k:Int)=if (bZ fs (aq fs k)).2=true then ((bZ fs (aq fs k)).1,0) else ([],4):=by
  unfold kg
  rw[if_neg (by simpa using h1),if_neg h2,bw]
 refine aj ?_
 refine eb rfl RD (fun w hw=>qQ A c fs k w (hw.ro hs) hk hok hn0) (fun⟨⟨A1,c1⟩,es,L⟩ hre=>?_)
 refine aO ?_
 refine bT rfl (fun h3=>?_) (fun h3=>?_)
 ·rw[hf,if_neg (by simpa using h3)]
  refine aj ?_
  intro w hw
  exact⟨((none,0),[],[]),.nil_,rfl,Cw.nilO fJ (kH (hw.msub (T:= []) ms))⟩
 rw[hf,if_pos (by simpa using h3)]
 refine aj ?_
 intro w hw
 exact⟨((A1,c1),es,L),hre,rfl,hw.msub ms⟩
theorem oI (A:Option Addr) (c:Nat) (fs:List au) (w:World) (hs:Sl w (.slice A fs.length c) fs) :
  Calls Tryz.prog 72 #[.agg #[.slice A fs.length c]] w fun e w'=>e= .returned (.int .i64 (fl fs))/\Below w.heap.size w w':=by
 have b1:=bE hs
 refine enter Tryz.func72 rfl Tryz.ntmps72 rfl<|aj ?_
 refine fun g1 _=>aj ?_
 refine bX rfl GQ (fun w hw=>nz A c fs w (hw.ro hs))<|cQ (fun h0=>?_) (fun h0=>?_)
 ·refine aj ?_
  intro w hw
  exact⟨fD (by unfold fl;rw[if_pos h0]),hw.below⟩
 have hp:fl fs=if fs.all (fun f=>(bZ fs f).2)=true then 0 else 4:=by unfold fl;rw[if_neg (by simpa using h0)]
 refine aj ?_
 refine dA (fun k:Nat=>k<=fs.length/\(fs.take k).all (fun f=>(bZ fs f).2)=true) (fun k=>fs.length - k) (fun k=> [(1,.pointer (some ⟨g1,0,none⟩)),(14,.int .i64 (fs.length:Int)),(15,.int .i64 (k:Int))]) (fun _=> [am g1 [.slice A fs.length c] 24]) 0 (⟨aX _,rfl⟩) ?_
 rintro k hk'
 obtain⟨hk,hall⟩:k<=fs.length/\(fs.take k).all (fun f=>(bZ fs f).2)=true:=hk'
 refine av (fun hlt=>?_) (fun hlt=>?_)
 ·have hkl:k<fs.length:=by omega
  obtain⟨hok,hn0⟩:=jM h0 hkl
  have hsn:=tw (p:=fun f=>(bZ fs f).2) (default:au) hkl
  refine aj ?_
  refine eb rfl RD (fun w hw=>DV A c fs k w (hw.ro hs) hkl hok hn0) (fun⟨A1,c1⟩ _=>?_)
  refine aO ?_
  refine bT rfl (fun h3=>?_) (fun h3=>?_)
  ·have h3:(bZ fs (aq fs k)).2=false:=by simpa using h3
   refine aj ?_
   intro w hw
   refine⟨fD ?_,hw.below⟩
   rw[hp,if_neg]
   intro h
   rw[qw] at h
   have:=h _ (jp hkl)
   rw[h3] at this
   cases this
  have h3:(bZ fs (aq fs k)).2=true:=by simpa using h3
  refine aj ?_
  refine cU (k+1) (⟨hkl,by rw[hsn,hall];exact h3⟩) (by show _ - _<_ - _;omega)
 obtain rfl:k=fs.length:=by omega
 rw[aT] at hall
 refine aj ?_
 intro w hw
 exact⟨fD (by rw[hp,if_pos hall]),hw.below⟩
theorem Jf (A1 A2:Option Addr) (n1 n2 c1 c2:Nat):∀x∈[(⟨.slice A1 n1 c1⟩:gO),⟨.slice A2 n2 c2⟩],cF.wf x:=by
 intro x hx
 rcases dC.1 hx with rfl | hx
 ·rfl
 rw[cB.1 hx];rfl
theorem Cy (A1 A2:Option Addr) (c1 c2:Nat) (a b:List Int) (w:World) (h1:Sl w (.slice A1 a.length c1) a) (h2:Sl w (.slice A2 b.length c2) b) :
  Calls Tryz.prog 106 #[.slice A1 a.length c1,.slice A2 b.length c2] w fun e w'=> ∃u,e= .returned (.tuple #[u,.int .i64 (qG a b)])/\Below w.heap.size w w'/\ef w' w.heap.size u (lS a b):=by
 have b1:=bE h1
 have b2:=bE h2
 refine enter Tryz.func106 rfl Tryz.ntmps106 rfl<|aj ?_
 refine fun g1 _=>aj ?_
 refine dK (fun w h=>bt (α:=gO) (m:=2) [⟨.slice A1 a.length c1⟩,⟨.slice A2 b.length c2⟩] rfl (Jf _ _ _ _ _ _) rfl (by decide) h) ?_
 refine iQ (fun _:Unit=>a.any oZ=false/\b.any oZ=false) (fun _=> [(0,.slice A1 a.length c1),(1,.slice A2 b.length c2)]) (fun _=> []) ?_ ?_
 ·refine dA (fun i:Nat=>i<=2/\((0<i->a.any oZ=false)/\(1<i->b.any oZ=false))) (fun i=>2 - i) (fun i=> [(0,.slice A1 a.length c1),(1,.slice A2 b.length c2),(12,.slice (some ⟨g1,0,none⟩) 2 2),(13,.int .i64 2),(14,.int .i64 (i:Int))]) (fun _=> [ak (.slice (some ⟨g1,0,none⟩) 2 2) [(⟨.slice A1 a.length c1⟩:gO),⟨.slice A2 b.length c2⟩]]) 0 (⟨by decide,by omega,by omega⟩) ?_
  rintro i hi'
  obtain⟨hi,hia,hib⟩:i<=2/\((0<i->a.any oZ=false)/\(1<i->b.any oZ=false)):=hi'
  refine av (fun hlt=>?_) (fun hlt=>?_)
  ·have hil:i<2:=by omega
   obtain⟨Ai,ci,li,hli,hv,hcase⟩:∃Ai ci li,Sl w (.slice Ai li.length ci) li/\([(⟨.slice A1 a.length c1⟩:gO),⟨.slice A2 b.length c2⟩].getD i ku).v= .slice Ai li.length ci/\((i=0/\li=a)\/(i=1/\li=b)):=by
    rcases(show i=0\/i=1 from by omega) with rfl | rfl
    ·exact⟨A1,c1,a,h1,rfl,.inl ⟨rfl,rfl⟩⟩
    exact⟨A2,c2,b,h2,rfl,.inr ⟨rfl,rfl⟩⟩
   refine aj ?_
   refine cS (_) rfl ((SF.own (α:=gO) (xs:= [⟨.slice A1 a.length c1⟩,⟨.slice A2 b.length c2⟩]) (m:=2) rfl fc)) ?_
   refine sE (bQ (v:= .slice Ai li.length ci) (by rw[<-hv];exact SF.hdr (SF.own (m:=2) rfl fc) hil) rfl rfl gv)<|aj ?_
   refine bX rfl Dx (fun w hw=>nF Ai ci li 159 #[] oZ w (hw.ro hli) Tryz.call159 (fun w1 _ x _=>Lq x w1))<|aj ?_
   refine bT rfl (fun hb=>?_) (fun hb=>?_)
   ·have hj:qG a b=6:=by
     unfold qG
     rcases hcase with ⟨_,rfl⟩ | ⟨rfl,rfl⟩
     ·rw[if_pos hb]
     rw[if_neg (by rw[hia (by omega)];decide),if_pos hb]
    have hr:lS a b= []:=by unfold lS;rw[hj];rfl
    refine aj ?_
    intro w hw
    rw[hj,hr]
    exact⟨_,rfl,iN hw⟩
   refine aj ?_
   refine cU (i+1) (⟨hil,by rcases hcase with ⟨_,rfl⟩ | ⟨rfl,rfl⟩;(· exact⟨fun _=>hb,by omega⟩);(· exact⟨fun _=>hia (by omega),fun _=>hb⟩)⟩) (by show _ - _<_ - _;omega)
  refine aj ?_
  refine bS () (⟨hia (by omega),hib (by omega)⟩)
 rintro _ ⟨ha,hb⟩
 have hj:qG a b=if 8<a.length\/8<b.length then 2 else if bK a b=none then 4 else 0:=by
  unfold qG
  rw[if_neg (by rw[ha];decide),if_neg (by rw[hb];decide)]
 refine eh (fun _:Unit=> ¬(8<a.length\/8<b.length)) (fun _=> [(0,.slice A1 a.length c1),(1,.slice A2 b.length c2)]) (fun _=> []) ?_ ?_
 ·refine dG 24 (fun h8=>?_) (fun h8=>?_)
  ·have h8:=of_decide_eq_true h8
   have h8:(8:Int)<a.length:=h8
   rw[if_pos (.inl (by omega))] at hj
   have hr:lS a b= []:=by unfold lS;rw[hj];rfl
   refine aj ?_
   refine aU rfl<|aj ?_
   intro w hw
   rw[hj,hr]
   exact⟨_,rfl,iN hw⟩
  have h8:=of_decide_eq_false h8
  have h8:¬(8:Int)<a.length:=h8
  refine av (fun h9=>?_) (fun h9=>?_)
  ·have h9:(8:Int)<b.length:=h9
   rw[if_pos (.inr (by omega))] at hj
   have hr:lS a b= []:=by unfold lS;rw[hj];rfl
   refine aj ?_
   intro w hw
   rw[hj,hr]
   exact⟨_,rfl,iN hw⟩
  have h9:¬(8:Int)<b.length:=h9
  refine aj ?_
  refine bS () (by omega)
 rintro _ h8
 have h8:¬(8<a.length\/8<b.length):=h8
 rw[if_neg h8] at hj
 refine aj ?_
 refine oE (eR rfl rfl rfl Tryz.call160 (fun w hw=>xN A1 A2 c1 c2 a b w (hw.ro h1) (hw.ro h2) (by omega))) (fun⟨A4,c4⟩ _=>?_)
 refine aO ?_
 refine bT rfl (fun h9=>?_) (fun h9=>?_)
 ·have h9:bK a b=none:=by
   cases e:bK a b with
   | none=>rfl
   | some j=>rw[e] at h9;cases h9
  rw[if_pos h9] at hj
  have hr:lS a b= []:=by unfold lS;rw[hj];rfl
  refine aj ?_
  intro w hw
  rw[hj,hr]
  exact⟨_,rfl,iN hw⟩
 have h9:¬bK a b=none:=fun e=>by rw[e] at h9;cases h9
 rw[if_neg h9] at hj
 have hr:lS a b=(bK a b).getD []:=by unfold lS;rw[if_pos hj]
 refine aj ?_
 intro w hw
 rw[hj,hr]
 exact⟨_,rfl,kX hw⟩
end
section
instance:gC au qp where
 parts h f:= [ak h.v1 f.L,ak h.v2 f.C]
 ok h f:=h.p=f.params/\h.r=f.result
 kk:=rfl
 tt:=rfl
 opn {w F cs f} h:=by
  obtain⟨v1,v2,F1,F2,hcs,hi,h1,h2,hd,hF⟩:=h
  obtain⟨A1,c1,e1,_⟩:=h1.sl.form
  obtain⟨A2,c2,e2,_⟩:=h2.sl.form
  refine⟨⟨f.params,v1,f.result,v2⟩,⟨hcs,hi,by rw[e1];rfl,by rw[e2];rfl⟩,⟨rfl,rfl⟩,F1,F2,h1,⟨F2,fun _=>False,h2,fun _ h=>h,fun _ _ h=>h,fun b=>by simp⟩,hd,hF⟩
 cls {w F h f} hwf hok hH:=by
  obtain⟨F1,F2,h1,⟨F3,F4,h3,h4,h5,h6⟩,hd,hF⟩:=hH
  have e:∀b,F2 b↔F3 b:=fun b=>by rw[h6 b];simp[show¬F4 b from h4 b]
  refine⟨h.v1,h.v2,F1,F3,?_,?_,h1,h3,fun b hb hb'=>hd b hb ((e b).2 hb'),fun b=>by rw[hF b,e b]⟩
  ·show [.int .i64 h.p,h.v1,.int .i64 h.r,h.v2]=_
   rw[hok.1,hok.2]
  rw[<-hok.1,<-hok.2];exact hwf.1
def GN (fs:List au):Prop:=fs.length*64<=140737488355328/\∀f∈fs,f.L.length*8<=140737488355328/\f.C.length*16<=140737488355328
theorem LZ {fs:List au} {k:Nat} (hk:k<fs.length):fs.take (k+1)=fs.take k++ [aq fs k]:=by
 rw[List.take_add_one,ap hk]
 unfold aq
 rw[an,ap hk]
 rfl
theorem sZ:(Tryz.prog.info? 86).map (fun i=>(i.zero,i.size,i.bytes))=some (some (.agg #[.int .i64 0,.int .i64 0]),2,16):=by kernel_rfl
theorem nE (A:Option Addr) (c:Nat) (fs:List au) (w:World) (hs:Sl w (.slice A fs.length c) fs) (hfit:GN fs) :
  Calls Tryz.prog 35 #[.agg #[.slice A fs.length c]] w fun e w'=> ∃g:Option Addr×Nat,True/\e= .returned (.agg #[.slice g.1 fs.length g.2])/\Cw w.heap.size w [ak (.slice g.1 fs.length g.2) fs] w':=by
 have b1:=bE hs
 have hf64:=hfit.1
 refine enter Tryz.func35 rfl Tryz.ntmps35 rfl<|aj ?_
 refine fun g1 _=>aj ?_
 refine fun g2 _=>aj ?_
 refine fun g3 _=>aj ?_
 refine dK (fun w h=>Cw.nilO au h) ?_
 refine dA (fun g:Nat×Option Addr×Nat=>g.1<=fs.length) (fun g=>fs.length - g.1) (fun g=> [(1,.pointer (some ⟨g1,0,none⟩)),(2,.pointer (some ⟨g2,0,none⟩)),(3,.pointer (some ⟨g3,0,none⟩)),(4,.int .i64 (g.1:Int))]) (fun g=> [ak (.slice g.2.1 (fs.take g.1).length g.2.2) (fs.take g.1),am g1 [.slice A fs.length c] 24,am g2 [.slice none 0 0] 24,am g3 [.slice g.2.1 (fs.take g.1).length g.2.2] 24]) (0,none,0) (aX _) ?_
 rintro⟨k,A',c'⟩ hk
 try dsimp only
 have hk:k<=fs.length:=hk
 have htl:(fs.take k).length=k:=by rw[aA];omega
 refine av (fun hlt=>?_) (fun hlt=>?_)
 ·have hkl:k<fs.length:=by omega
  obtain⟨A1,c1,A2,c2,hl,hc,hi,hcell⟩:=hs.fn hkl
  obtain⟨hb1,hb2⟩:=hfit.2 (aq fs k) (jp hkl)
  have htk:=LZ hkl
  refine aj ?_
  refine cS (_) rfl ((.ro hs)) ?_
  refine iY rfl (hcell _)<|aj ?_
  intro g4 _
  refine dr (cV _ fc eK rfl rfl rfl rfl rfl (by rfl) rfl (by rfl)) rfl rfl (fun _ _=>?_)
  refine bH<|eh (fun _:(Option Addr×Nat)×(Option Addr×Nat)=>True) (fun g=> [(1,.pointer (some ⟨g1,0,none⟩)),(2,.pointer (some ⟨g2,0,none⟩)),(3,.pointer (some ⟨g3,0,none⟩)),(4,.int .i64 (k:Int)),(5,.pointer (some ⟨g4,0,none⟩))]) (fun g=> [ak (.slice A' (fs.take k).length c') (fs.take k),am g1 [.slice A fs.length c] 24,am g2 [.slice none 0 0] 24,am g3 [.slice A' (fs.take k).length c'] 24,am g4 [.int .i64 (aq fs k).params,.slice g.1.1 (aq fs k).L.length g.1.2,.int .i64 (aq fs k).result,.slice g.2.1 (aq fs k).C.length g.2.2] 84,ak (.slice g.1.1 (aq fs k).L.length g.1.2) (aq fs k).L,ak (.slice g.2.1 (aq fs k).C.length g.2.2) (aq fs k).C]) ?_ ?_
  ·refine iq (.still 1 (.still 2 (.still 5 (.still 6 (.pick 0 (.pick 3 (.calm 8 (.pick 4 (.pick 7 (.pick 9 (.calm 10 (.pick 11 .done .stop)) .stop) .stop) .stop)) (.pick 4 (.pick 3 (.calm 8 (.pick 7 (.pick 9 (.calm 10 (.pick 11 .done .stop)) .stop) .stop)) .stop) .stop)) (.pick 4 (.pick 0 (.pick 3 (.calm 8 (.pick 7 (.pick 9 (.calm 10 (.pick 11 .done .stop)) .stop) .stop)) .stop) .stop) .stop)))))) [7,8,9,10,11] rfl (by kernel_rfl) (by kernel_rfl) ?_
   refine ay ?_
   refine cY rfl (cE fc gv rfl rfl (by rfl)) rfl rfl ha ?_
   refine ay ?_
   refine cY rfl (cE fc pB rfl rfl (by rfl)) rfl rfl ha ?_
   refine cP rfl ((fg (cs:= []) aw bj fB rfl rfl rfl rfl rfl).mem (H'':=fun g=>ak (.slice (some ⟨g,0,none⟩) 0 0) ([]:List Int)::_) fun g w h=>bt (α:=Int) (m:=0) [] rfl (by simp) rfl (by decide) h) rfl rfl (.inr fun _=>ha) (fun ga _=>?_) ?_
   ·refine cP rfl (di (α:=Int) (bytes:=8) (xs:= []) (ys:=(aq fs k).L) (xs':=(aq fs k).L) rfl aw (aV cO) rfl fc (.ro hl) (by simp only[aD];omega) (by simp only[aD];omega) rfl rfl rfl) rfl rfl (.inr fun _=>ha) (fun⟨A3,c3⟩ _=>?_) ?_
    ·try dsimp only
     refine ay ?_
     refine pE rfl ((fg (cs:= []) dW fM N8 rfl rfl rfl rfl rfl).mem (H'':=fun g=>ak (.slice (some ⟨g,0,none⟩) 0 0) ([]:List bC)::_) fun g w h=>bt (α:=bC) (m:=0) [] rfl (by simp) rfl (by decide) h) (fun go _=>?_)
     refine pE rfl (di (α:=bC) (bytes:=16) (xs:= []) (ys:=(aq fs k).C) (xs':=(aq fs k).C) rfl dW (aV sZ) rfl fc (.ro hc) (by simp only[aD];omega) (by simp only[aD];omega) rfl rfl rfl) (fun⟨A4,c4⟩ _=>?_)
     refine aO ?_
     refine bu<|bS ((A3,c3),(A4,c4)) (trivial) (hh:=(fun _ h=>h.msub ms))
    refine pE rfl ((fg (cs:= []) dW fM N8 rfl rfl rfl rfl rfl).mem (H'':=fun g=>ak (.slice (some ⟨g,0,none⟩) 0 0) ([]:List bC)::_) fun g w h=>bt (α:=bC) (m:=0) [] rfl (by simp) rfl (by decide) h) (fun go _=>?_)
    refine pE rfl (di (α:=Int) (bytes:=8) (xs:= []) (ys:=(aq fs k).L) (xs':=(aq fs k).L) rfl aw (aV cO) rfl fc (.ro hl) (by simp only[aD];omega) (by simp only[aD];omega) rfl rfl rfl) (fun⟨A3,c3⟩ _=>?_)
    refine aO ?_
    refine pE rfl (di (α:=bC) (bytes:=16) (xs:= []) (ys:=(aq fs k).C) (xs':=(aq fs k).C) rfl dW (aV sZ) rfl fc (.ro hc) (by simp only[aD];omega) (by simp only[aD];omega) rfl rfl rfl) (fun⟨A4,c4⟩ _=>?_)
    refine aO ?_
    refine bu<|bS ((A3,c3),(A4,c4)) (trivial) (hh:=(fun _ h=>h.msub ms))
   refine pE rfl ((fg (cs:= []) dW fM N8 rfl rfl rfl rfl rfl).mem (H'':=fun g=>ak (.slice (some ⟨g,0,none⟩) 0 0) ([]:List bC)::_) fun g w h=>bt (α:=bC) (m:=0) [] rfl (by simp) rfl (by decide) h) (fun go _=>?_)
   refine pE rfl ((fg (cs:= []) aw bj fB rfl rfl rfl rfl rfl).mem (H'':=fun g=>ak (.slice (some ⟨g,0,none⟩) 0 0) ([]:List Int)::_) fun g w h=>bt (α:=Int) (m:=0) [] rfl (by simp) rfl (by decide) h) (fun ga _=>?_)
   refine pE rfl (di (α:=Int) (bytes:=8) (xs:= []) (ys:=(aq fs k).L) (xs':=(aq fs k).L) rfl aw (aV cO) rfl fc (.ro hl) (by simp only[aD];omega) (by simp only[aD];omega) rfl rfl rfl) (fun⟨A3,c3⟩ _=>?_)
   refine aO ?_
   refine pE rfl (di (α:=bC) (bytes:=16) (xs:= []) (ys:=(aq fs k).C) (xs':=(aq fs k).C) rfl dW (aV sZ) rfl fc (.ro hc) (by simp only[aD];omega) (by simp only[aD];omega) rfl rfl rfl) (fun⟨A4,c4⟩ _=>?_)
   refine aO ?_
   refine bu<|bS ((A3,c3),(A4,c4)) (trivial) (hh:=(fun _ h=>h.msub ms))
  rintro⟨⟨A3,c3⟩,⟨A4,c4⟩⟩ _
  refine aO ?_
  intro g5 _
  refine oE (cH (α:=au) (bytes:=64) (aq fs k) [ak (.slice A3 (aq fs k).L.length c3) (aq fs k).L,ak (.slice A4 (aq fs k).C.length c4) (aq fs k).C] htk eC (aV vK) rfl (xv fc fc fc fc) (qd hi) (by omega) (by omega) rfl rfl rfl) (fun⟨A5,c5⟩ _=>?_)
  refine aO ?_
  refine cU (k+1,A5,c5) (by show k+1<=_;omega) (by show _ - _<_ - _;omega)
 obtain rfl:k=fs.length:=by omega
 rw[aT]
 refine aj ?_
 intro w hw
 exact⟨(A',c'),trivial,rfl,hw.msub ms⟩
theorem Cw.oform {α:Type} [Ow α] {B:Nat} {w0 w:World} {H H':List aJ} {v:Value} {xs:List α} (hw:Cw B w0 H w) (hp:cN H (ak v xs) H'):∃A c,v= .slice A xs.length c:=by
 obtain⟨F,h,_⟩:=hw.rd hp
 obtain⟨A,c,e,_⟩:=cL.sl (show cL w F v xs from h) |>.form
 exact⟨A,c,e⟩
end
section
def eP:List au:= [⟨0,[],0,xI⟩]
def C8:List au:= [⟨0,[],0,[⟨2,0⟩,⟨13,0⟩]⟩]
theorem gR (w:World):Calls Tryz.prog 104 #[] w fun e w'=> ∃g:Nat,True/\e= .returned (.agg #[.slice (some ⟨g,0,none⟩) 1 1])/\Cw w.heap.size w [ak (.slice (some ⟨g,0,none⟩) 1 1) eP] w':=by
 refine enter Tryz.func104 rfl Tryz.ntmps104 rfl<|aj ?_
 refine fun g1 _=>aj ?_
 refine eb rfl Tryz.call92 (fun w hw=>Kx w) (fun gl _=>aj ?_)
 refine fun g2 _=>aj ?_
 intro w hw
 refine⟨g2,trivial,rfl,?_⟩
 have h:=Cw.nilO Int hw
 exact rn (H:= []) (xs:=eP) (oU.cons (Hel:= [ak (.slice none 0 0) ([]:List Int),ak (.slice (some ⟨gl,0,none⟩) 10 10) xI]) (cs:= [_,_,_,_]) (qd (f:=⟨0,[],0,xI⟩) (by decide)) oU.nil_) rfl (by decide) (h.msub (T:= [am g2 _ _,ak (.slice none 0 0) ([]:List Int),ak (.slice (some ⟨gl,0,none⟩) 10 10) _]) ms)
theorem GX:(kg eP 0).2=0/\(kg eP 0).1.length=10/\((kg eP 0).1.getD 3 ⟨0,[]⟩).K= [1]/\qG [3,1] [2,1]=0/\lS [3,1] [2,1]= [2,1]/\qG [1] [2]=4/\fl ec=0/\fl C8=4:=by decide +kernel
end
section
def Bo (es:List fJ) (k:Nat):fJ:=es.getD k ⟨0,.slice none 0 0⟩
theorem SF.entS {B:Nat} {w0:World} {H:List aJ} {A:Option Addr} {es:List fJ} {m c k:Nat} (hs:SF B w0 H A m c es) (hk:k<m):∀w,Cw B w0 H w->w.cell? ⟨ab A,ao A+k*2+1,none⟩=some (Bo es k).v:=
 fun w hw=>SF.cell hs hk ⟨0,.slice none 0 0⟩ (j:=1) rfl w hw
theorem jW.at_ {es:List fJ} {L:List (Value×List Int)} {xs:List im} (h:jW es L xs) {k:Nat} (hk:k<xs.length) (d:im):(Bo es k).pc=(xs.getD k d).pc/\iH L (Bo es k).v (xs.getD k d).K:=by
 have hk2:k<es.length:=by rw[h.len];exact hk
 have:=h.el k hk2 hk
 unfold Bo
 rw[an,ap hk2,an,ap hk]
 exact this
theorem wT (w:World):Calls Tryz.prog 48 #[] w fun e w'=>e= .returned (.bool true)/\Below w.heap.size w w':=by
 obtain⟨q1,q2,q3,q4,q5,q6,q7,q8⟩:=GX
 generalize hF:(kg eP 0).1=F at q2 q3
 have hvf:∀w1 v c,Sl w1 (.slice v 1 c) eP->Calls Tryz.prog 58 #[.agg #[.slice v 1 c],.int .i64 0] w1 fun e w'=> ∃g:(Option Addr×Nat)×List fJ×List (Value×List Int),jW g.2.1 g.2.2 F/\e= .returned (.tuple #[.slice g.1.1 g.2.1.length g.1.2,.int .i64 0])/\Cw w1.heap.size w1 [ak (.slice g.1.1 g.2.1.length g.1.2) g.2.1,fa g.2.2] w':=fun w1 v c h=>by
  have:=tH v c eP 0 w1 h
  rw[hF,q1] at this
  exact this
 have hj1:∀w1 A1 A2,Sl w1 (.slice A1 2 2) ([3,1]:List Int)->Sl w1 (.slice A2 2 2) ([2,1]:List Int)->Calls Tryz.prog 106 #[.slice A1 2 2,.slice A2 2 2] w1 fun e w'=> ∃u,e= .returned (.tuple #[u,.int .i64 0])/\Below w1.heap.size w1 w'/\ef w' w1.heap.size u ([2,1]:List Int):=fun w1 A1 A2 h1 h2=>by
  have:=Cy A1 A2 2 2 [3,1] [2,1] w1 h1 h2
  rw[q4,q5] at this
  exact this
 have hj2:∀w1 A1 A2,Sl w1 (.slice A1 1 1) ([1]:List Int)->Sl w1 (.slice A2 1 1) ([2]:List Int)->Calls Tryz.prog 106 #[.slice A1 1 1,.slice A2 1 1] w1 fun e w'=> ∃u,e= .returned (.tuple #[u,.int .i64 4])/\Below w1.heap.size w1 w'/\ef w' w1.heap.size u (lS [1] [2]):=fun w1 A1 A2 h1 h2=>by
  have:=Cy A1 A2 1 1 [1] [2] w1 h1 h2
  rw[q6] at this
  exact this
 have hp1:∀w1 v c,Sl w1 (.slice v 2 c) ec->Calls Tryz.prog 72 #[.agg #[.slice v 2 c]] w1 fun e w'=>e= .returned (.int .i64 0)/\Below w1.heap.size w1 w':=fun w1 v c h=>by
  have:=oI v c ec w1 h
  rw[q7] at this
  exact this
 have hp2:∀w1 v c,Sl w1 (.slice v 1 c) C8->Calls Tryz.prog 72 #[.agg #[.slice v 1 c]] w1 fun e w'=>e= .returned (.int .i64 4)/\Below w1.heap.size w1 w':=fun w1 v c h=>by
  have:=oI v c C8 w1 h
  rw[q8] at this
  exact this
 refine enter Tryz.func48 rfl Tryz.ntmps48 rfl<|aj ?_
 refine cT rfl mn (fun w hw=>(gR w).mono fun _ _ ⟨g,h1,h2,h3⟩=>⟨g,h1,h2,hw.app h3⟩) (fun gc _=>?_)
 refine eb rfl Tryz.call58 (fun w hw=>hvf w _ _ (SF.at_ (xs:=eP) (m:=1) (SF.own rfl fc) hw)) (fun⟨⟨Ae,ce⟩,es,Lp⟩ hre=>?_)
 refine aO ?_
 refine fun g1 _=>aj ?_
 intro g2 _
 have hes:es.length=10:=by rw[hre.len,q2]
 refine ee (fun w h=>bt (α:=Int) (m:=2) [2,1] rfl (io (by decide) (by decide)) rfl (by decide) h) ?_
 refine ee (fun w h=>bt (α:=Int) (m:=2) [3,1] rfl (io (by decide) (by decide)) rfl (by decide) (h.msub (T:=am g1 _ _::_) (.s fc .r))) ?_
 refine oE (eR rfl rfl rfl Tryz.call106 (fun w hw=>hj1 w _ _ (SF.at_ (xs:=([3,1]:List Int)) (m:=2) (SF.own rfl fc) hw) (SF.at_ (xs:=([2,1]:List Int)) (m:=2) (SF.own rfl fc) hw))) (fun⟨A3,c3⟩ _=>?_)
 refine aO ?_
 refine fun g3 _=>aj ?_
 intro g4 _
 refine ee (fun w h=>bt (α:=Int) (m:=1) [2] rfl (fT (by decide)) rfl (by decide) h) ?_
 refine ee (fun w h=>bt (α:=Int) (m:=1) [1] rfl (fT (by decide)) rfl (by decide) (h.msub (T:=am g3 _ _::_) (.s fc .r))) ?_
 refine oE (eR rfl rfl rfl Tryz.call106 (fun w hw=>hj2 w _ _ (SF.at_ (xs:=([1]:List Int)) (m:=1) (SF.own rfl fc) hw) (SF.at_ (xs:=([2]:List Int)) (m:=1) (SF.own rfl fc) hw))) (fun⟨A5,c5⟩ _=>?_)
 refine aO ?_
 refine fun g5 _=>aj ?_
 refine fun g6 _=>aj ?_
 intro g7 _
 refine dr (cV _ fc Tryz.sizeOf24 rfl rfl rfl rfl rfl (by rfl) rfl (by rfl)) rfl rfl (fun _ _=>?_)
 refine bH<|cc<|bO<|ay ?_
 refine ay ?_
 refine ay ?_
 refine bh (t:=33) (v':= .bool true) rfl (rfl) ?_
 refine ay ?_
 refine ay ?_
 refine ay ?_
 refine ay ?_
 refine bh (t:=37) (v':= .bool true) rfl (rfl) ?_
 refine ay ?_
 refine ay ?_
 refine ay ?_
 refine ay ?_
 have hin:=(hre.at_ (k:=3) (by omega) ⟨0,[]⟩).2
 rw[q3] at hin
 refine bh (t:=41) (v':= .bool true) rfl (rfl) ?_
 refine ay ?_
 refine dT (kT LK rfl rfl) rfl rfl<|ay ?_
 refine ay ?_
 refine ay ?_
 refine bh (t:=46) (v':= .bool true) rfl (by rw[hes];rfl)<|aj ?_
 refine cS (3) rfl ((SF.own rfl fc))<|aj ?_
 refine nT (fun w h=>hin.form h fc) ?_
 rintro⟨A6,c6,hv⟩
 rw[hv] at hin
 refine sE (bQ (v:= .slice A6 1 c6) (by intro w1 hw1;exact(SF.entS (k:=3) (es:=es) (m:=es.length) (SF.own rfl fc) (by omega) w1 hw1).trans (by rw[hv];rfl)) rfl rfl gv)<|aj ?_
 intro g8 _
 refine ee (fun w h=>bt (α:=Int) (m:=1) [1] rfl (fT (by decide)) rfl (by decide) h) ?_
 refine bX rfl nJ (fun w hw=>is A6 _ c6 _ [1] [1] w (hin.sl hw fc) (SF.at_ (xs:=([1]:List Int)) (m:=1) (SF.own rfl fc) hw)) ?_
 refine ay ?_
 refine ay ?_
 refine bh (t:=54) (v':= .bool true) rfl (rfl)<|aj ?_
 intro g9 _
 refine ee (fun w h=>bt (α:=Int) (m:=2) [2,1] rfl (io (by decide) (by decide)) rfl (by decide) h) ?_
 refine bX rfl nJ (fun w hw=>is A3 _ c3 _ [2,1] [2,1] w (SF.at_ (xs:=([2,1]:List Int)) (m:=2) (SF.own rfl fc) hw) (SF.at_ (xs:=([2,1]:List Int)) (m:=2) (SF.own rfl fc) hw)) ?_
 refine ay ?_
 refine ay ?_
 refine bh (t:=59) (v':= .bool true) rfl (rfl) ?_
 refine cT rfl vj (fun w hw=>(kB w).mono fun _ _ ⟨g,h1,h2,h3⟩=>⟨g,h1,h2,hw.app h3⟩) (fun gs _=>?_)
 refine bX rfl GR (fun w hw=>hp1 w _ _ (SF.at_ (xs:=ec) (m:=2) (SF.own rfl fc) hw)) ?_
 refine ay ?_
 refine ay ?_
 refine ay ?_
 refine bh (t:=64) (v':= .bool true) rfl (rfl)<|aj ?_
 refine ee (fun w h=>Cw.nilO Int (bt (α:=bC) (m:=2) [⟨2,0⟩,⟨13,0⟩] rfl (E2 _ (by decide)) rfl (by decide) (h.msub (T:=am g5 _ _::_) (.s fc .r)))) ?_
 refine ee (fun w h=>rn (m:=1) (xs:=C8) (oU.cons (Hel:= [ak (.slice none 0 0) ([]:List Int),ak (.slice (some ⟨g5,0,none⟩) 2 2) [(⟨2,0⟩:bC),⟨13,0⟩]]) (cs:= [_,_,_,_]) (qd (f:=⟨0,[],0,[⟨2,0⟩,⟨13,0⟩]⟩) (by decide)) oU.nil_) rfl (by decide) (h.msub (T:=am g6 _ _::ak (.slice none 0 0) ([]:List Int)::ak (.slice (some ⟨g5,0,none⟩) 2 2) _::_) (.s fc (.s fc (.s fc .r))))) ?_
 refine bX rfl GR (fun w hw=>hp2 w _ _ (SF.at_ (xs:=C8) (m:=1) (SF.own rfl fc) hw))<|aj ?_
 intro w hw
 exact⟨rfl,hw.below⟩
end
section
theorem t3 {t:Int} (h:1<=t/\t<=3):t=1\/t=2\/t=3:=by omega
theorem Ln {a b:Int} (ha:1<=a/\a<=3) (hb:1<=b/\b<=3) (h:dM a b≠0):1<=dM a b/\dM a b<=3:=by
 rcases t3 ha with rfl | rfl | rfl <;> rcases t3 hb with rfl | rfl | rfl <;> revert h <;> decide
theorem C6 {a b:Int} (h:dM a b≠0):bV a (dM a b)=true/\bV b (dM a b)=true:=by
 have r:∀x:Int,bV x x=true:=fun x=>by unfold bV;simp
 unfold dM at h⊢
 by_cases h1:bV a b=true
 ·rw[if_pos h1];exact⟨h1,r b⟩
 rw[if_neg h1] at h⊢
 by_cases h2:bV b a=true
 ·rw[if_pos h2];exact⟨r a,h2⟩
 rw[if_neg h2] at h;exact absurd rfl h
theorem lT {a b:Int} {l m j:List Int} (h:bK (a::l) (b::m)=some j):dM a b≠0/\∃k,bK l m=some k/\j=dM a b::k:=by
 simp only[bK] at h
 split at h
 ·cases h
 rename_i h0
 cases e:bK l m with
 | none=>rw[e] at h;cases h
 | some k=>
  rw[e] at h
  simp only[Option.map_some,br] at h
  exact⟨h0,k,rfl,h.symm⟩
theorem CA:∀{a b j:List Int},bK a b=some j->(∀t∈a,1<=t/\t<=3)->(∀t∈b,1<=t/\t<=3)->∀t∈j,1<=t/\t<=3
 | [],[],j,h,_,_=>by simp[bK] at h;subst h;simp
 | [],_::_,j,h,_,_=>by simp[bK] at h
 | _::_,[],j,h,_,_=>by simp[bK] at h
 | a::l,b::m,j,h,ha,hb=>by
  obtain⟨h0,k,hk,rfl⟩:=lT h
  intro t ht
  rcases dC.1 ht with rfl | ht
  ·exact Ln (ha a (by simp)) (hb b (by simp)) h0
  exact CA hk (fun t h=>ha t (by simp[h])) (fun t h=>hb t (by simp[h])) t ht
theorem qO:∀{a b j:List Int} {i:Nat},bK a b=some j->i<j.length->bV (a.getD i 0) (j.getD i 0)=true/\bV (b.getD i 0) (j.getD i 0)=true
 | [],[],j,i,h,hi=>by simp[bK] at h;subst h;simp at hi
 | [],_::_,j,_,h,_=>by simp[bK] at h
 | _::_,[],j,_,h,_=>by simp[bK] at h
 | a::l,b::m,j,i,h,hi=>by
  obtain⟨h0,k,hk,rfl⟩:=lT h
  cases i with
  | zero=>exact C6 h0
  | succ i=>
   have:=qO (i:=i) hk (by simpa using hi)
   simpa using this
theorem qM (t o:Int) (w:World):Calls Tryz.prog 249 #[.int .i64 t,.int .i64 o] w fun e w'=>e= .returned (.bool (bV t o))/\Below w.heap.size w w':=by
 refine enter Tryz.func249 rfl Tryz.ntmps249 rfl<|dG 8 (fun h1=>?_) (fun h1=>?_)
 ·have h1:=of_decide_eq_true h1
  refine aj ?_
  intro w hw
  exact⟨aS (by unfold bV;rw[decide_eq_true h1];rfl),hw.below⟩
 have h1:=of_decide_eq_false h1
 refine dG 11 (fun h2=>?_) (fun h2=>?_)
 ·have h2:=of_decide_eq_true h2
  refine aj ?_
  intro w hw
  exact⟨aS (by unfold bV;rw[decide_eq_false h1,decide_eq_true h2];rfl),hw.below⟩
 have h2:=of_decide_eq_false h2
 refine aj ?_
 intro w hw
 exact⟨aS (by unfold bV;rw[decide_eq_false h1,decide_eq_false h2];rfl),hw.below⟩
end
section
def Le (a b:List Int):Prop:=a.length=b.length/\∀i,i<a.length->bV (a.getD i 0) (b.getD i 0)=true
theorem Mb (t:Int):bV t t=true:=by unfold bV;simp
theorem wX {a b:Int} :bV a b=true↔a=b\/(a=3/\b=2):=by unfold bV;simp
theorem JR {a b c:Int} (h1:bV a b=true) (h2:bV b c=true):bV a c=true:=by
 rw[wX] at *;omega
theorem Mc {a b:Int} (h1:bV a b=true) (h2:bV b a=true):a=b:=by
 rw[wX] at *;omega
theorem Le.refl (a:List Int):Le a a:=⟨rfl,fun _ _=>Mb _⟩
theorem Le.trans {a b c:List Int} (h1:Le a b) (h2:Le b c):Le a c:=⟨h1.1.trans h2.1,fun i hi=>JR (h1.2 i hi) (h2.2 i (by rw[<-h1.1];exact hi))⟩
theorem KZ {a b:List Int} (hl:a.length=b.length) (h:∀i,i<a.length->a.getD i 0=b.getD i 0):a=b:=by
 apply List.ext_getElem hl
 intro i h1 h2
 have:=h i h1
 rwa [an,ap h1,an,ap h2] at this
theorem Le.anti {a b:List Int} (h1:Le a b) (h2:Le b a):a=b:=KZ h1.1 fun i hi=>Mc (h1.2 i hi) (h2.2 i (by rw[<-h1.1];exact hi))
theorem iE {l:List Int} {k i:Nat} (h:i<k):(l.take k).getD i 0=l.getD i 0:=by
 rw[an,dQ,if_pos h,<-an]
theorem jh {l:List Int} {k i:Nat} :(l.drop k).getD i 0=l.getD (k+i) 0:=by
 rw[an,dw,<-an]
theorem zZ {l m:List Int} {i:Nat} (h:i<l.length):(l++m).getD i 0=l.getD i 0:=by
 rw[an,en h,<-an]
theorem zY {l m:List Int} {i:Nat} (h:l.length<=i):(l++m).getD i 0=m.getD (i - l.length) 0:=by
 rw[an,dd h,<-an]
theorem Le.take {a b:List Int} (h:Le a b) (k:Nat):Le (a.take k) (b.take k):=⟨by rw[aA,aA,h.1],fun i hi=>by
 rw[aA] at hi
 rw[iE (by omega),iE (by omega)]
 exact h.2 i (by omega)⟩
theorem Le.drop {a b:List Int} (h:Le a b) (k:Nat):Le (a.drop k) (b.drop k):=⟨by rw[aL,aL,h.1],fun i hi=>by
 rw[aL] at hi
 rw[jh,jh]
 exact h.2 _ (by omega)⟩
theorem Le.app {a b c d:List Int} (h1:Le a b) (h2:Le c d):Le (a++c) (b++d):=⟨by rw[ar,ar,h1.1,h2.1],fun i hi=>by
 rw[ar] at hi
 by_cases h:i<a.length
 ·rw[zZ h,zZ (by rw[<-h1.1];exact h)];exact h1.2 i h
 rw[zY (by omega),zY (by rw[<-h1.1];omega),<-h1.1];exact h2.2 _ (by omega)⟩
theorem nY {l:List Int} {w:Bool} (h:0<l.length):gM (l,w)=(l.getD (l.length - 1) 0,l.take (l.length - 1),w):=by unfold gM;rw[if_neg (by show¬l.length=0;omega)]
theorem Cg {w:Bool} :gM ([],w)=(0,[],true):=rfl
theorem rW (xs:List Int):∀(k:Nat) (l:List Int),(ey xs k (l,true)).2=true
 | 0,_=>rfl
 | k+1,l=>by
  unfold ey
  rcases gj l.length with h | h
  ·have:l= []:=aY h
   subst this
   rw[Cg]
   exact rW xs k _
  rw[nY h]
  exact rW xs k _
theorem qL (xs:List Int):∀(k:Nat) (l:List Int) (w:Bool),l.length<k->(ey xs k (l,w)).2=true
 | 0,_,_,h=>absurd h (gN _)
 | k+1,l,w,h=>by
  unfold ey
  rcases gj l.length with h0 | h0
  ·have:l= []:=aY h0
   subst this
   rw[Cg]
   exact rW xs k _
  rw[nY h0]
  exact qL xs k _ _ (by rw[aA];omega)
theorem nR (xs:List Int):∀(k:Nat) (l:List Int) (w:Bool),k<=l.length->k<=xs.length->
  (ey xs k (l,w)).1=l.take (l.length - k)/\((ey xs k (l,w)).2=false↔w=false/\Le (l.drop (l.length - k)) (xs.take k))
 | 0,l,w,_,_=>by
  refine⟨by simp[ey],?_⟩
  simp only[ey]
  constructor
  ·intro h;exact⟨h,by rw[th,List.drop_length,List.take_zero];exact .refl _⟩
  exact fun h=>h.1
 | k+1,l,w,h,hx=>by
  unfold ey
  rw[nY (by omega)]
  obtain⟨i1,i2⟩:=nR xs k (l.take (l.length - 1)) (w || !bV (l.getD (l.length - 1) 0) (xs.getD k 0)) (by rw[aA];omega) (by omega)
  have hl:(l.take (l.length - 1)).length=l.length - 1:=by rw[aA];omega
  rw[hl] at i1 i2
  refine⟨?_,?_⟩
  ·rw[i1,List.take_take]
   congr 1
   omega
  show (ey xs k (l.take (l.length - 1),w || !bV (l.getD (l.length - 1) 0) (xs.getD k 0))).2=false↔_
  rw[i2]
  have hq:l.length - 1 - k=l.length - (k+1):=by omega
  rw[hq]
  constructor
  ·rintro⟨h1,h2⟩
   simp only[Bool.or_eq_false_iff,Bool.not_eq_false'] at h1
   refine⟨h1.1,by rw[aL,aA];omega,fun i hi=>?_⟩
   rw[aL] at hi
   by_cases e:i=k
   ·subst e
    rw[jh,iE (by omega),show l.length - (i+1)+i=l.length - 1 from by omega]
    exact h1.2
   have:=h2.2 i (by rw[aL,hl];omega)
   rw[jh,iE (by omega),iE (by omega)] at this
   rw[jh,iE (by omega)]
   exact this
  rintro⟨h1,h2⟩
  simp only[Bool.or_eq_false_iff,Bool.not_eq_false']
  have hk:=h2.2 k (by rw[aL];omega)
  rw[jh,iE (by omega),show l.length - (k+1)+k=l.length - 1 from by omega] at hk
  refine⟨⟨h1,hk⟩,by rw[aL,hl,aA];omega,fun i hi=>?_⟩
  rw[aL,hl] at hi
  have:=h2.2 i (by rw[aL];omega)
  rw[jh,iE (by omega)] at this
  rw[jh,iE (by omega),iE (by omega)]
  exact this
def tl (fs:List au) (f:au) (o:bC) (s:List Int):Option (List Int×List Int):=
 if o.c=2 then (if s.length<1 then none else some (s.drop (s.length - 1),[])) else
 if o.c=3 then (if s.length<1 then none else some (s.drop (s.length - 1),[s.getD (s.length - 1) 0,s.getD (s.length - 1) 0])) else
 if o.c=4 then (if s.length<2 then none else some (s.drop (s.length - 2),[s.getD (s.length - 1) 0,s.getD (s.length - 2) 0])) else
 if o.c=8 then some ([],[f.L.getD o.a.toNat 0]) else if o.c=9 then some ([f.L.getD o.a.toNat 0],[]) else
 if o.c=12 then some (eZ (aq fs o.a.toNat),bL (aq fs o.a.toNat)) else
 if o.c=13 then (if s.length≠(bL f).length then none else some (bL f,[])) else some ((cn o.c).1,(cn o.c).2)
def gk (fs:List au) (f:au) (o:bC) (s:List Int):Option (List Int):=if (np fs f o (s,false)).2=true then none else some (np fs f o (s,false)).1
theorem mS {fs:List au} {f:au} {o:bC} {s T V:List Int} (h0:iK fs f o (s,false)=sg (ey T T.length (s,false)) V) :
  gk fs f o s=if T.length<=s.length/\(s.take (s.length - T.length)++V).length<=8/\(ey T T.length (s,false)).2=false then some (s.take (s.length - T.length)++V) else none:=by
 obtain⟨l',w',e⟩:∃l' w',ey T T.length (s,false)=(l',w'):=⟨_,_,rfl⟩
 have h1:gk fs f o s=if (w' || decide (8<(l'++V).length))=true then none else some (l'++V):=by
  unfold gk np
  rw[h0,e]
  rfl
 rw[h1,e]
 by_cases hl:T.length<=s.length
 ·obtain⟨e1,e2⟩:=nR T T.length s false hl (aK _)
  rw[e] at e1
  have e1:l'=s.take (s.length - T.length):=e1
  subst e1
  by_cases h8:(s.take (s.length - T.length)++V).length<=8
  ·cases w'
   ·rw[decide_eq_false (by omega)]
    exact(if_pos ⟨hl,h8,rfl⟩).symm
   rw[Bool.true_or]
   exact(if_neg (fun h=>by cases h.2.2)).symm
  rw[decide_eq_true (by omega),Bool.or_true]
  exact(if_neg (fun h=>h8 h.2.1)).symm
 have:=qL T T.length s false (by omega)
 rw[e] at this
 have this:w'=true:=this
 subst this
 rw[Bool.true_or]
 exact(if_neg (fun h=>hl h.1)).symm
theorem vT {s:List Int} {k:Nat} (h:k+1<=s.length):ey (s.drop (s.length - (k+1))) (k+1) (s,false)=(s.take (s.length - (k+1)),false):=by
 obtain⟨e1,e2⟩:=nR (s.drop (s.length - (k+1))) (k+1) s false h (by rw[aL];omega)
 have:(ey (s.drop (s.length - (k+1))) (k+1) (s,false)).2=false:=e2.2 ⟨rfl,by rw[bA (by rw[aL];omega)];exact .refl _⟩
 exact Prod.ext e1 this
theorem En (fs:List au) (f:au) (o:bC) (s:List Int):gk fs f o s=match tl fs f o s with
  | none=>none
  | some (T,V)=>if T.length<=s.length/\(s.take (s.length - T.length)++V).length<=8/\(ey T T.length (s,false)).2=false then some (s.take (s.length - T.length)++V) else none:=by
 unfold tl
 by_cases h2:o.c=2
 ·rw[if_pos h2]
  by_cases hl:s.length<1
  ·rw[if_pos hl]
   have:s= []:=aY (by omega)
   subst this
   unfold gk np iK
   rw[if_pos h2]
   rfl
  rw[if_neg hl]
  have e:=vT (s:=s) (k:=0) (by omega)
  have hd:(s.drop (s.length - 1)).length=1:=by rw[aL];omega
  refine mS ?_
  rw[hd,e]
  unfold iK
  rw[if_pos h2,nY (by omega)]
  simp[sg]
 rw[if_neg h2]
 by_cases h3:o.c=3
 ·rw[if_pos h3]
  by_cases hl:s.length<1
  ·rw[if_pos hl]
   have:s= []:=aY (by omega)
   subst this
   unfold gk np iK
   rw[if_neg h2,if_pos h3]
   rfl
  rw[if_neg hl]
  have e:=vT (s:=s) (k:=0) (by omega)
  have hd:(s.drop (s.length - 1)).length=1:=by rw[aL];omega
  refine mS ?_
  rw[hd,e]
  unfold iK
  rw[if_neg h2,if_pos h3,nY (by omega)]
 rw[if_neg h3]
 by_cases h4:o.c=4
 ·rw[if_pos h4]
  by_cases hl:s.length<2
  ·rw[if_pos hl]
   unfold gk np iK
   rw[if_neg h2,if_neg h3,if_pos h4]
   rcases gj s.length with h0 | h0
   ·have:s= []:=aY h0
    subst this
    rfl
   obtain⟨t,rfl⟩:∃t,s= [t]:=by
    match s,h0,hl with
    | [t],_,_=>exact⟨t,rfl⟩
   rfl
  rw[if_neg hl]
  have e:=vT (s:=s) (k:=1) (by omega)
  have hd:(s.drop (s.length - 2)).length=2:=by rw[aL];omega
  refine mS ?_
  rw[hd,e]
  unfold iK
  have hl1:(s.take (s.length - 1)).length=s.length - 1:=by rw[aA];omega
  have p1:gM (s,false)=(s.getD (s.length - 1) 0,s.take (s.length - 1),false):=nY (by omega)
  have p2:gM (s.take (s.length - 1),false)=(s.getD (s.length - 2) 0,s.take (s.length - 2),false):=by
   rw[nY (by rw[hl1];omega),hl1,List.take_take,iE (by omega),show min (s.length - 1 - 1) (s.length - 1)=s.length - 2 from by omega,show s.length - 1 - 1=s.length - 2 from by omega]
  rw[if_neg h2,if_neg h3,if_pos h4]
  simp only[p1,p2]
 rw[if_neg h4]
 by_cases h8:o.c=8
 ·rw[if_pos h8]
  refine mS ?_
  unfold iK
  rw[if_neg h2,if_neg h3,if_neg h4,if_pos h8]
  rfl
 rw[if_neg h8]
 by_cases h9:o.c=9
 ·rw[if_pos h9]
  refine mS ?_
  unfold iK
  rw[if_neg h2,if_neg h3,if_neg h4,if_neg h8,if_pos h9]
  simp[sg]
 rw[if_neg h9]
 by_cases h12:o.c=12
 ·rw[if_pos h12]
  refine mS ?_
  unfold iK
  rw[if_neg h2,if_neg h3,if_neg h4,if_neg h8,if_neg h9,if_pos h12]
 rw[if_neg h12]
 by_cases h13:o.c=13
 ·rw[if_pos h13]
  have hS0:iK fs f o (s,false)=((ey (bL f) (bL f).length (s,false)).1,(ey (bL f) (bL f).length (s,false)).2 || decide (0<(ey (bL f) (bL f).length (s,false)).1.length)):=by
   unfold iK
   rw[if_neg h2,if_neg h3,if_neg h4,if_neg h8,if_neg h9,if_neg h12,if_pos h13]
  by_cases hl:s.length≠(bL f).length
  ·rw[if_pos hl]
   have:(iK fs f o (s,false)).2=true:=by
    rw[hS0]
    by_cases hs:s.length<(bL f).length
    ·rw[qL _ _ _ _ hs];rfl
    rw[(nR (bL f) _ s false (by omega) (aK _)).1,aA,decide_eq_true (by omega),Bool.or_true]
   unfold gk np
   rw[this]
   rfl
  rw[if_neg hl]
  have hl:s.length=(bL f).length:=by simpa using hl
  refine mS ?_
  have e1:=(nR (bL f) _ s false (by omega) (aK _)).1
  rw[hl,pO,List.take_zero] at e1
  rw[hS0]
  obtain⟨l',w',e⟩:∃l' w',ey (bL f) (bL f).length (s,false)=(l',w'):=⟨_,_,rfl⟩
  rw[e] at e1⊢
  have e1:l'= []:=e1
  subst e1
  simp[sg]
 rw[if_neg h13]
 refine mS ?_
 unfold iK
 rw[if_neg h2,if_neg h3,if_neg h4,if_neg h8,if_neg h9,if_neg h12,if_neg h13]
end
section
theorem jm {fs:List au} {f:au} {o:bC} {s v:List Int} :gk fs f o s=some v↔
  ∃T V,tl fs f o s=some (T,V)/\T.length<=s.length/\(s.take (s.length - T.length)++V).length<=8/\Le (s.drop (s.length - T.length)) T/\v=s.take (s.length - T.length)++V:=by
 have hf:∀T:List Int,T.length<=s.length->((ey T T.length (s,false)).2=false↔Le (s.drop (s.length - T.length)) T):=fun T hT=>by
  rw[(nR T T.length s false hT (aK _)).2,aT]
  simp
 rw[En]
 constructor
 ·intro h
  cases e:tl fs f o s with
  | none=>rw[e] at h;cases h
  | some p=>
   obtain⟨T,V⟩:=p
   rw[e] at h
   simp only[] at h
   split at h
   ·rename_i hc
    simp only[br] at h
    exact⟨T,V,rfl,hc.1,hc.2.1,(hf T hc.1).1 hc.2.2,h.symm⟩
   cases h
 rintro⟨T,V,e,h1,h2,h3,rfl⟩
 rw[e]
 simp only[]
 rw[if_pos ⟨h1,h2,(hf T h1).2 h3⟩]
theorem LX {fs:List au} {f:au} {o:bC} {a b T V:List Int} (h:Le a b) (e:tl fs f o b=some (T,V)) (hT:Le (b.drop (b.length - T.length)) T) (hl:T.length<=b.length) :
  ∃T' V',tl fs f o a=some (T',V')/\T'.length=T.length/\Le (a.drop (a.length - T.length)) T'/\Le V' V:=by
 have hlen:=h.1
 have fix:∀T V:List Int,Le (b.drop (b.length - T.length)) T->Le (a.drop (a.length - T.length)) T:=fun T V hT=>by rw[hlen];exact(h.drop _).trans hT
 have one:∀i,i<a.length->Le [a.getD i 0] [b.getD i 0]:=fun i hi=>⟨rfl,fun j hj=>by
  have:j=0:=by simpa using hj
  subst this
  exact h.2 i hi⟩
 unfold tl at e⊢
 by_cases h2:o.c=2
 ·rw[if_pos h2] at e⊢
  split at e
  ·cases e
  rename_i hb
  simp only[br,bY] at e
  obtain⟨rfl,rfl⟩:=e
  rw[if_neg (by omega)]
  refine⟨_,_,rfl,by rw[aL,aL,hlen],?_,.refl _⟩
  rw[aL,show b.length - (b.length - 1)=1 from by omega]
  exact .refl _
 rw[if_neg h2] at e⊢
 by_cases h3:o.c=3
 ·rw[if_pos h3] at e⊢
  split at e
  ·cases e
  rename_i hb
  simp only[br,bY] at e
  obtain⟨rfl,rfl⟩:=e
  rw[if_neg (by omega)]
  refine⟨_,_,rfl,by rw[aL,aL,hlen],?_,?_⟩
  ·rw[aL,show b.length - (b.length - 1)=1 from by omega]
   exact .refl _
  rw[<-hlen]
  exact(one _ (by omega)).app (one _ (by omega))
 rw[if_neg h3] at e⊢
 by_cases h4:o.c=4
 ·rw[if_pos h4] at e⊢
  split at e
  ·cases e
  rename_i hb
  simp only[br,bY] at e
  obtain⟨rfl,rfl⟩:=e
  rw[if_neg (by omega)]
  refine⟨_,_,rfl,by rw[aL,aL,hlen],?_,?_⟩
  ·rw[aL,show b.length - (b.length - 2)=2 from by omega]
   exact .refl _
  rw[<-hlen]
  exact(one _ (by omega)).app (one _ (by omega))
 rw[if_neg h4] at e⊢
 by_cases h8:o.c=8
 ·rw[if_pos h8] at e⊢
  simp only[br,bY] at e
  obtain⟨rfl,rfl⟩:=e
  exact⟨_,_,rfl,rfl,fix _ [] hT,.refl _⟩
 rw[if_neg h8] at e⊢
 by_cases h9:o.c=9
 ·rw[if_pos h9] at e⊢
  simp only[br,bY] at e
  obtain⟨rfl,rfl⟩:=e
  exact⟨_,_,rfl,rfl,fix _ [] hT,.refl _⟩
 rw[if_neg h9] at e⊢
 by_cases h12:o.c=12
 ·rw[if_pos h12] at e⊢
  simp only[br,bY] at e
  obtain⟨rfl,rfl⟩:=e
  exact⟨_,_,rfl,rfl,fix _ [] hT,.refl _⟩
 rw[if_neg h12] at e⊢
 by_cases h13:o.c=13
 ·rw[if_pos h13] at e⊢
  split at e
  ·cases e
  rename_i hb
  simp only[br,bY] at e
  obtain⟨rfl,rfl⟩:=e
  rw[if_neg (by omega)]
  exact⟨_,_,rfl,rfl,fix _ [] hT,.refl _⟩
 rw[if_neg h13] at e⊢
 simp only[br,bY] at e
 obtain⟨rfl,rfl⟩:=e
 exact⟨_,_,rfl,rfl,fix _ [] hT,.refl _⟩
theorem qy {fs:List au} {f:au} {o:bC} {a b v:List Int} (h:Le a b) (e:gk fs f o b=some v):∃u,gk fs f o a=some u/\Le u v:=by
 obtain⟨T,V,e1,e2,e3,e4,rfl⟩:=jm.1 e
 obtain⟨T',V',k1,k2,k3,k4⟩:=LX h e1 e4 e2
 have hlen:=h.1
 have hle:Le (a.take (a.length - T'.length)++V') (b.take (b.length - T.length)++V):=by
  rw[k2,hlen]
  exact(h.take _).app k4
 exact⟨_,jm.2 ⟨T',V',k1,by rw[k2,hlen];exact e2,by rw[hle.1];exact e3,by rw[k2];exact k3,rfl⟩,hle⟩
def Ty (l:List Int):Prop:= ∀t∈l,1<=t/\t<=3
structure qr (fs:List au) (f:au):Prop where
 loc:Ty f.L
 res:∀k,k<fs.length->(0<=(aq fs k).result/\(aq fs k).result<=2)
theorem Ty.app {a b:List Int} (h1:Ty a) (h2:Ty b):Ty (a++b):=fun t ht=>by
 rcases dD.1 ht with h | h
 ·exact h1 t h
 exact h2 t h
theorem Ty.at_ {a:List Int} (h:Ty a) {i:Nat} (hi:i<a.length):1<=a.getD i 0/\a.getD i 0<=3:=by
 rw[an,ap hi]
 exact h _ (da hi)
theorem Ty.one {t:Int} (h:1<=t/\t<=3):Ty [t]:=fun x hx=>by rw[cB.1 hx];exact h
theorem Ty.two {t u:Int} (h:1<=t/\t<=3) (h2:1<=u/\u<=3):Ty [t,u]:=fun x hx=>by
 rcases dC.1 hx with rfl | hx
 ·exact h
 rw[cB.1 hx];exact h2
theorem yF {fs:List au} {f:au} {o:bC} {s v:List Int} (ht:qr fs f) (hok:GM fs f o) (hs:Ty s) (e:gk fs f o s=some v):Ty v:=by
 obtain⟨T,V,e1,e2,e3,e4,rfl⟩:=jm.1 e
 refine Ty.app (fun t h=>hs t (iV h)) ?_
 have nil:Ty []:=fun _ h=>by cases h
 have res:∀k,k<fs.length->Ty (bL (aq fs k)):=fun k hk=>by
  unfold bL
  split
  ·exact nil
  rename_i hr
  have:=ht.res k hk
  exact .one (by omega)
 unfold tl at e1
 split at e1
 ·split at e1
  ·cases e1
  simp only[br,bY] at e1
  obtain⟨rfl,rfl⟩:=e1
  exact nil
 split at e1
 ·split at e1
  ·cases e1
  simp only[br,bY] at e1
  obtain⟨rfl,rfl⟩:=e1
  exact .two (hs.at_ (by omega)) (hs.at_ (by omega))
 split at e1
 ·split at e1
  ·cases e1
  simp only[br,bY] at e1
  obtain⟨rfl,rfl⟩:=e1
  exact .two (hs.at_ (by omega)) (hs.at_ (by omega))
 split at e1
 ·rename_i h8
  simp only[br,bY] at e1
  obtain⟨rfl,rfl⟩:=e1
  have:=hok.loc (.inl h8)
  exact .one (ht.loc.at_ (by omega))
 split at e1
 ·simp only[br,bY] at e1
  obtain⟨rfl,rfl⟩:=e1
  exact nil
 split at e1
 ·rename_i h12
  simp only[br,bY] at e1
  obtain⟨rfl,rfl⟩:=e1
  have:=hok.call h12
  exact res _ (by omega)
 split at e1
 ·split at e1
  ·cases e1
  simp only[br,bY] at e1
  obtain⟨rfl,rfl⟩:=e1
  exact nil
 simp only[br,bY] at e1
 obtain⟨rfl,rfl⟩:=e1
 unfold cn
 repeat (first | split | exact nil | exact .one (by decide) | exact .two (by decide) (by decide))
theorem Lm {a b c:Int} (hc:1<=c/\c<=3) (h1:bV a c=true) (h2:bV b c=true):dM a b≠0/\bV (dM a b) c=true:=by
 rw[wX] at h1 h2
 rcases t3 hc with rfl | rfl | rfl
 ·have e1:a=1:=by omega
  have e2:b=1:=by omega
  subst e1 e2;decide
 ·rcases h1 with rfl | ⟨rfl,_⟩ <;> rcases h2 with rfl | ⟨rfl,_⟩ <;> decide
 have e1:a=3:=by omega
 have e2:b=3:=by omega
 subst e1 e2;decide
theorem Le.cons_iff {a b:Int} {l m:List Int} :Le (a::l) (b::m)↔bV a b=true/\Le l m:=by
 constructor
 ·intro h
  refine⟨h.2 0 (by simp),by simpa using h.1,fun i hi=>?_⟩
  have:=h.2 (i+1) (by simpa using hi)
  simpa using this
 rintro⟨h1,h2⟩
 refine⟨by simp[h2.1],fun i hi=>?_⟩
 cases i with
 | zero=>simpa using h1
 | succ i=>simpa using h2.2 i (by simpa using hi)
theorem zb:∀{a b c:List Int},Ty c->Le a c->Le b c->∃j,bK a b=some j/\Le j c
 | [],[],c,_,h,_=>⟨[],rfl,h⟩
 | [],_::_,c,_,h,h'=>by have:=h.1.trans h'.1.symm;simp at this
 | _::_,[],c,_,h,h'=>by have:=h.1.trans h'.1.symm;simp at this
 | a::l,b::m,[],_,h,_=>by have:=h.1;simp at this
 | a::l,b::m,c::n,ht,h,h'=>by
  obtain⟨h1,h2⟩:=Le.cons_iff.1 h
  obtain⟨h3,h4⟩:=Le.cons_iff.1 h'
  obtain⟨k1,k2⟩:=Lm (ht c (by simp)) h1 h3
  obtain⟨j,k3,k4⟩:=zb (fun t h=>ht t (by simp[h])) h2 h4
  refine⟨dM a b::j,?_,Le.cons_iff.2 ⟨k2,k4⟩⟩
  simp only[bK]
  rw[if_neg k1,k3]
  rfl
theorem MY {a b j:List Int} (h:bK a b=some j):Le a j/\Le b j:=by
 have hl:=lA h
 exact⟨⟨by omega,fun i hi=>(qO h (by omega)).1⟩,⟨by omega,fun i hi=>(qO h (by omega)).2⟩⟩
structure qn (fs:List au) (f:au) (M:Nat->Option (List Int)):Prop where
 m0:M 0=some []
 ok:∀k s,M k=some s->k<f.C.length/\Ty s/\∃v,gk fs f (bx f.C k) s=some v/\∀q∈dy (bx f.C k) k,∃s',M q.toNat=some s'/\Le v s'
structure nH (fs:List au) (f:au) (s:dV):Prop where
 m0:s.met.getD 0 false=true
 a0:s.at_.getD 0 []= []
 ty:∀i,s.met.getD i false=true->Ty (s.at_.getD i [])
 le:∀M,qn fs f M->∀i,s.met.getD i false=true->∃t,M i=some t/\Le (s.at_.getD i []) t
structure Up (s s':dV):Prop where
 up:∀i,s.met.getD i false=true->s'.met.getD i false=true/\Le (s.at_.getD i []) (s'.at_.getD i [])
 old:∀i,s'.met.getD i false=true->(s.met.getD i false=true/\s'.at_.getD i []=s.at_.getD i [])\/(i:Int)∈s'.todo
 td:∀x∈s.todo,x∈s'.todo
theorem Up.refl (s:dV):Up s s:=⟨fun _ h=>⟨h,.refl _⟩,fun _ h=> .inl ⟨h,rfl⟩,fun _ h=>h⟩
theorem Up.trans {a b c:dV} (h1:Up a b) (h2:Up b c):Up a c:=
 ⟨fun i h=>by
  obtain⟨k1,k2⟩:=h1.up i h
  obtain⟨k3,k4⟩:=h2.up i k1
  exact⟨k3,k2.trans k4⟩,fun i h=>by
  rcases h2.old i h with ⟨k1,k2⟩ | k
  ·rcases h1.old i k1 with ⟨k3,k4⟩ | k3
   ·exact .inl ⟨k3,k2.trans k4⟩
   exact .inr (h2.td _ k3)
  exact .inr k,fun x h=>h2.td x (h1.td x h)⟩
theorem xE {n:Nat} {s:dV} (h:fF n s) {i:Nat} (hm:s.met.getD i false=true):i<n:=by
 rcases fK i n with h' | h'
 ·exact h'
 rw[an,aW (by rw[h.ml];exact h')] at hm
 cases hm
theorem Lf {fs:List au} {f:au} {s:dV} (hF:fF f.C.length s) (hI:nH fs f s) {k:Nat} (hk:k<=f.C.length) {l:List Int} (hl:Ty l) (hle:∀M,qn fs f M->∃t,M k=some t/\Le l t) :
  ((dp f.C.length s k l).1=true->nH fs f (dp f.C.length s k l).2/\Up s (dp f.C.length s k l).2/\(dp f.C.length s k l).2.met.getD k false=true/\Le l ((dp f.C.length s k l).2.at_.getD k []))/\
  ((dp f.C.length s k l).1=false->∀M,¬qn fs f M):=by
 have set_:k<f.C.length->∀j:List Int,Ty j->(k=0->j= [])->(s.met.getD k false=true->Le (s.at_.getD k []) j)->Le l j->(∀M,qn fs f M->∃t,M k=some t/\Le j t)->
   nH fs f ⟨s.at_.set k j,s.met.set k true,s.todo++ [(k:Int)]⟩/\Up s ⟨s.at_.set k j,s.met.set k true,s.todo++ [(k:Int)]⟩/\(s.met.set k true).getD k false=true/\Le l ((s.at_.set k j).getD k []):=by
  intro hkn j hj h0 hup hlj hlm
  have hA:∀i,(s.at_.set k j).getD i []=if i=k then j else s.at_.getD i []:=fun i=>ip (by rw[hF.al];exact hkn)
  have hM:∀i,(s.met.set k true).getD i false=if i=k then true else s.met.getD i false:=fun i=>ip (by rw[hF.ml];exact hkn)
  refine⟨⟨?_,?_,fun i hi=>?_,fun M hMs i hi=>?_⟩,⟨fun i hi=>?_,fun i hi=>?_,fun x hx=>gT _ hx⟩,?_,?_⟩
  ·show (s.met.set k true).getD 0 false=true
   rw[hM]
   split
   ·rfl
   exact hI.m0
  ·show (s.at_.set k j).getD 0 []= []
   rw[hA]
   split
   ·rename_i e;exact h0 e.symm
   exact hI.a0
  ·show Ty ((s.at_.set k j).getD i [])
   have hi:(s.met.set k true).getD i false=true:=hi
   rw[hA]
   rw[hM] at hi
   split
   ·exact hj
   rename_i e;rw[if_neg e] at hi;exact hI.ty i hi
  ·show∃t,M i=some t/\Le ((s.at_.set k j).getD i []) t
   have hi:(s.met.set k true).getD i false=true:=hi
   rw[hA]
   rw[hM] at hi
   split
   ·rename_i e;subst e;exact hlm M hMs
   rename_i e;rw[if_neg e] at hi;exact hI.le M hMs i hi
  ·show (s.met.set k true).getD i false=true/\Le (s.at_.getD i []) ((s.at_.set k j).getD i [])
   rw[hA,hM]
   split
   ·rename_i e;subst e;exact⟨rfl,hup hi⟩
   exact⟨hi,.refl _⟩
  ·have hi:(s.met.set k true).getD i false=true:=hi
   rw[hM] at hi
   by_cases e:i=k
   ·subst e;right;exact gB _ (by simp)
   rw[if_neg e] at hi
   left
   refine⟨hi,?_⟩
   show (s.at_.set k j).getD i []=_
   rw[hA,if_neg e]
  ·rw[hM,if_pos rfl]
  rw[hA,if_pos rfl];exact hlj
 unfold dp
 split
 ·rename_i hkn
  refine⟨fun h=>(by cases h),fun _ M hMs=>?_⟩
  obtain⟨t,h1,_⟩:=hle M hMs
  have:=(hMs.ok k t h1).1
  omega
 rename_i hkn
 split
 ·rename_i hm
  split
  ·rename_i hj
   refine⟨fun h=>(by cases h),fun _ M hMs=>?_⟩
   obtain⟨t,h1,h2⟩:=hle M hMs
   obtain⟨t',h3,h4⟩:=hI.le M hMs k hm
   rw[h1] at h3
   cases h3
   obtain⟨j,h5,_⟩:=zb (hMs.ok k t h1).2.1 h4 h2
   rw[hj] at h5
   cases h5
  rename_i j hj
  have hu:=MY hj
  split
  ·rename_i he
   refine⟨fun _=>⟨hI,.refl _,hm,by rw[<-he];exact hu.2⟩,fun h=>(by cases h)⟩
  rename_i he
  refine⟨fun _=>set_ (by omega) j (CA hj (hI.ty k hm) hl) (fun e=>?_) (fun _=>hu.1) hu.2 (fun M hMs=>?_),fun h=>(by cases h)⟩
  ·subst e
   rw[hI.a0] at hj
   have:=(lA hj).2
   exact aY this
  obtain⟨t,h1,h2⟩:=hle M hMs
  obtain⟨t',h3,h4⟩:=hI.le M hMs k hm
  rw[h1] at h3
  cases h3
  obtain⟨j',h5,h6⟩:=zb (hMs.ok k t h1).2.1 h4 h2
  rw[hj] at h5
  cases h5
  exact⟨t,h1,h6⟩
 rename_i hm
 refine⟨fun _=>set_ (by omega) l hl (fun e=>?_) (fun h=>absurd h hm) (.refl _) hle,fun h=>(by cases h)⟩
 subst e
 exact absurd hI.m0 hm
theorem uu {fs:List au} {f:au} :∀{L:List Int} {s:dV} {l:List Int},fF f.C.length s->nH fs f s->(∀q∈L,0<=q/\q<=f.C.length)->l.length<=8->s.todo.length+L.length<5000->Ty l->(∀M,qn fs f M->∀q∈L,∃t,M q.toNat=some t/\Le l t)->
  (∀s',dB f.C.length s L l=some s'->nH fs f s'/\Up s s'/\∀q∈L,s'.met.getD q.toNat false=true/\Le l (s'.at_.getD q.toNat []))/\(dB f.C.length s L l=none->∀M,¬qn fs f M)
 | [],s,l,hF,hI,_,_,_,_,_=>by
  refine⟨fun s' e=>?_,fun e=>by simp[dB] at e⟩
  simp only[dB,br] at e
  subst e
  exact⟨hI,.refl _,fun q h=>by cases h⟩
 | a::L,s,l,hF,hI,hq,h8,ht,hl,hle=>by
  have ha:=hq a (by simp)
  rw[bd] at ht
  obtain⟨k1,k2⟩:=Lf hF hI (k:=a.toNat) (by omega) hl (fun M hM=>hle M hM a (by simp))
  obtain⟨f1,f2⟩:=mP hF (k:=a.toNat) (by omega) h8 (by omega)
  simp only[dB]
  cases hb:(dp f.C.length s a.toNat l).1
  ·simp only[nO,if_false]
   exact⟨fun s' e=>(by cases e),fun _=>k2 hb⟩
  simp only[if_true]
  obtain⟨i1,i2,i3,i4⟩:=k1 hb
  obtain⟨j1,j2⟩:=uu (L:=L) (l:=l) f1 i1 (fun q h=>hq q (by simp[h])) h8 (by omega) hl (fun M hM q h=>hle M hM q (by simp[h]))
  refine⟨fun s' e=>?_,j2⟩
  obtain⟨m1,m2,m3⟩:=j1 s' e
  refine⟨m1,i2.trans m2,fun q h=>?_⟩
  rcases dC.1 h with rfl | h
  ·obtain⟨n1,n2⟩:=m2.up _ i3
   exact⟨n1,i4.trans n2⟩
  exact m3 q h
def Dn (fs:List au) (f:au) (s:dV) (i:Nat):Prop:= ∃v,gk fs f (bx f.C i) (s.at_.getD i [])=some v/\∀q∈dy (bx f.C i) i,s.met.getD q.toNat false=true/\Le v (s.at_.getD q.toNat [])
def Wk (fs:List au) (f:au) (s:dV):Prop:= ∀i:Nat,s.met.getD i false=true->(i:Int)∈s.todo\/Dn fs f s i
theorem Dn.up {fs:List au} {f:au} {s s':dV} {i:Nat} (h:Dn fs f s i) (hu:Up s s') (e:s'.at_.getD i []=s.at_.getD i []):Dn fs f s' i:=by
 obtain⟨v,h1,h2⟩:=h
 refine⟨v,by rw[e];exact h1,fun q hq=>?_⟩
 obtain⟨k1,k2⟩:=h2 q hq
 obtain⟨k3,k4⟩:=hu.up _ k1
 exact⟨k3,k2.trans k4⟩
theorem nQ {fs:List au} {f:au} {o:bC} {s v:List Int} (h:gk fs f o s=some v):v.length<=8:=by
 obtain⟨T,V,_,_,h3,_,rfl⟩:=jm.1 h
 exact h3
def Tm (s:dV):Prop:= ∀x∈s.todo,s.met.getD x.toNat false=true
theorem NU {n:Nat} {s:dV} (hF:fF n s) (h:Tm s) {k:Nat} (hk:k<=n) (l:List Int):Tm (dp n s k l).2:=by
 have set_:k≠n->∀j:List Int,Tm ⟨s.at_.set k j,s.met.set k true,s.todo++ [(k:Int)]⟩:=fun hne j x hx=>by
  show (s.met.set k true).getD x.toNat false=true
  rw[ip (by rw[hF.ml];omega)]
  split
  ·rfl
  rename_i e
  rcases dD.1 hx with hx | hx
  ·exact h x hx
  rw[cB.1 hx] at e;exact absurd (bw k) e
 unfold dp
 split
 ·exact h
 rename_i hne
 split
 ·split
  ·exact h
  split
  ·exact h
  exact set_ hne _
 exact set_ hne _
theorem CY {n:Nat} :∀{L:List Int} {s s':dV} {l:List Int},fF n s->Tm s->(∀q∈L,0<=q/\q<=n)->l.length<=8->s.todo.length+L.length<5000->dB n s L l=some s'->Tm s'
 | [],s,s',l,_,h,_,_,_,e=>by
  simp only[dB,br] at e
  subst e
  exact h
 | a::L,s,s',l,hF,h,hq,h8,ht,e=>by
  simp only[dB] at e
  split at e
  ·have ha:=hq a (by simp)
   rw[bd] at ht
   obtain⟨f1,f2⟩:=mP hF (k:=a.toNat) (by omega) h8 (by omega)
   exact CY f1 (NU hF h (by omega) l) (fun q h=>hq q (by simp[h])) h8 (by omega) e
  cases e
theorem JO {fs:List au} {f:au} (hok:mm fs f) (hty:qr fs f) {s:dV} (hF:fF f.C.length s) (hI:nH fs f s) (hW:Wk fs f s) (htm:Tm s) (ht:0<s.todo.length) (ht2:s.todo.length<=4000) :
  (∀s',mA fs f s=some s'->nH fs f s'/\Wk fs f s'/\Tm s')/\(mA fs f s=none->∀M,¬qn fs f M):=by
 obtain⟨n,hn⟩:∃n,s.todo.length=n+1:=⟨s.todo.length - 1,by omega⟩
 have hget:s.todo[n]? =some (s.todo.getD n 0):=by rw[an,ap (by omega)];rfl
 have hmem:s.todo.getD n 0∈s.todo:=eJ hget
 have htd:=hF.td _ hmem
 have hmk:=htm _ hmem
 obtain⟨k,hk⟩:∃k:Nat,s.todo.getD n 0=(k:Int):=⟨(s.todo.getD n 0).toNat,by omega⟩
 rw[hk,bw] at hmk
 have hkl:k<f.C.length:=by omega
 have e:mA fs f s=match gk fs f (bx f.C k) (s.at_.getD k []) with
   | none=>none
   | some v=>dB f.C.length ⟨s.at_,s.met,s.todo.take n⟩ (dy (bx f.C k) k) v:=by
  unfold mA gk
  dsimp only
  rw[show s.todo.length - 1=n from by omega,hk,bw]
  split <;> rfl
 have hF0:fF f.C.length ⟨s.at_,s.met,s.todo.take n⟩:=⟨hF.al,hF.ml,by show (s.todo.take n).length<=_;rw[aA];omega,hF.st,fun x hx=>hF.td x (iV hx)⟩
 have hI0:nH fs f ⟨s.at_,s.met,s.todo.take n⟩:=⟨hI.m0,hI.a0,hI.ty,hI.le⟩
 have hT0:Tm ⟨s.at_,s.met,s.todo.take n⟩:=fun x hx=>htm x (iV hx)
 have hl2:=nG (bx f.C k) k
 have hlt:(s.todo.take n).length+(dy (bx f.C k) k).length<5000:=by rw[aA];omega
 rw[e]
 cases hv:gk fs f (bx f.C k) (s.at_.getD k []) with
 | none=>
  refine⟨fun s' h=>(by cases h),fun _ M hM=>?_⟩
  obtain⟨t,h1,h2⟩:=hI.le M hM k hmk
  obtain⟨_,_,v,h3,_⟩:=hM.ok k t h1
  obtain⟨u,h4,_⟩:=qy h2 h3
  rw[hv] at h4
  cases h4
 | some v=>
  obtain⟨c1,c2⟩:=uu hF0 hI0 (hok.to_ k hkl) (nQ hv) hlt (yF hty (hok.op k hkl) (hI.ty k hmk) hv) (fun M hM q hq=>by
   obtain⟨t,h1,h2⟩:=hI.le M hM k hmk
   obtain⟨_,_,v',h3,h4⟩:=hM.ok k t h1
   obtain⟨u,h5,h6⟩:=qy h2 h3
   rw[hv] at h5
   cases h5
   obtain⟨s',h7,h8⟩:=h4 q hq
   exact⟨s',h7,h6.trans h8⟩)
  refine⟨fun s' h=>?_,c2⟩
  obtain⟨i1,i2,i3⟩:=c1 s' h
  refine⟨i1,fun i hi=>?_,CY hF0 hT0 (hok.to_ k hkl) (nQ hv) hlt h⟩
  rcases i2.old i hi with ⟨h1,h2⟩ | h1
  ·rcases hW i h1 with h3 | h3
   ·by_cases hx:(i:Int)∈s.todo.take n
    ·exact .inl (i2.td _ hx)
    have:(i:Int)=k:=by
     rw[<-nM n s.todo] at h3
     rcases dD.1 h3 with h3 | h3
     ·exact absurd h3 hx
     have:s.todo.drop n= [s.todo.getD n 0]:=by
      rw[oA (by omega),List.drop_of_length_le (by omega)]
      rw[an,ap (by omega)]
      rfl
     rw[this,cB,hk] at h3
     exact h3
    have:i=k:=by omega
    subst this
    right
    have h2:s'.at_.getD i []=s.at_.getD i []:=h2
    exact⟨v,by rw[h2];exact hv,i3⟩
   exact .inr (Dn.up (s:=⟨s.at_,s.met,s.todo.take n⟩) h3 i2 h2)
  exact .inl h1
theorem Cs {fs:List au} {f:au} (hok:mm fs f) (hty:qr fs f):∀(k:Nat) {s:dV},fF f.C.length s->nH fs f s->Wk fs f s->Tm s->mu f.C.length s<=4000->mu f.C.length s<k->
  (∀s',lQ fs f k s=some s'->fF f.C.length s'/\nH fs f s'/\(∀i:Nat,s'.met.getD i false=true->Dn fs f s' i))/\(lQ fs f k s=none->∀M,¬qn fs f M)
 | 0,_,_,_,_,_,_,h=>absurd h (gN _)
 | k+1,s,hF,hI,hW,hT,h4,hk=>by
  simp only[lQ]
  by_cases h0:s.todo.length=0
  ·simp only[h0,if_true]
   refine⟨fun s' e=>?_,fun e=>(by cases e)⟩
   simp only[br] at e
   subst e
   refine⟨hF,hI,fun i hi=>?_⟩
   rcases hW i hi with h | h
   ·rw[aY h0] at h;cases h
   exact h
  simp only[h0,if_false]
  have htl:s.todo.length<=4000:=by unfold mu at h4;omega
  obtain⟨c1,c2⟩:=JO hok hty hF hI hW hT (by omega) htl
  cases e:mA fs f s with
  | none=>exact⟨fun s' h=>(by cases h),fun _=>c2 e⟩
  | some s1=>
   obtain⟨i1,i2,i3⟩:=c1 s1 e
   obtain⟨j1,j2⟩:=vW hok hF (by omega) htl e
   exact Cs hok hty k j1 i1 i2 i3 (by omega) (by omega)
def MO (s:dV) (i:Nat):Option (List Int):=if s.met.getD i false=true then some (s.at_.getD i []) else none
theorem iS {s:dV} {i:Nat} {t:List Int} :MO s i=some t↔s.met.getD i false=true/\s.at_.getD i []=t:=by
 unfold MO
 split
 ·rename_i h
  exact⟨fun e=>⟨h,eq e⟩,fun e=>by rw[e.2]⟩
 rename_i h
 exact⟨fun e=>(by cases e),fun e=>absurd e.1 h⟩
theorem pz {fs:List au} {f:au} (hok:mm fs f) (hty:qr fs f) (hn:0<f.C.length) :
  (∀s,entS fs f=some s->fF f.C.length s/\qn fs f (MO s)/\∀M,qn fs f M->∀i t,MO s i=some t->∃u,M i=some u/\Le t u)/\(entS fs f=none->∀M,¬qn fs f M):=by
 have hst:iB f.C.length=⟨(List.replicate f.C.length ([]:List Int)).set 0 [],(List.replicate f.C.length false).set 0 true,[0]⟩:=by
  unfold iB dp gU
  rw[if_neg (by omega),if_neg (by rw[kE];decide)]
  rfl
 have hA:∀i,(iB f.C.length).at_.getD i []= []:=fun i=>by
  rw[hst]
  show ((List.replicate f.C.length ([]:List Int)).set 0 []).getD i []= []
  rw[ip (by simpa using hn)]
  split
  ·rfl
  exact kE _ _ _
 have hM:∀i,(iB f.C.length).met.getD i false=if i=0 then true else false:=fun i=>by
  rw[hst]
  show ((List.replicate f.C.length false).set 0 true).getD i false=_
  rw[ip (by simpa using hn)]
  split
  ·rfl
  exact kE _ _ _
 have z:∀i,(iB f.C.length).met.getD i false=true->i=0:=fun i h=>by
  rw[hM] at h
  by_cases e:i=0
  ·exact e
  rw[if_neg e] at h;cases h
 have hI:nH fs f (iB f.C.length):=⟨by rw[hM];rfl,hA 0,fun i _=>by rw[hA];exact fun _ h=>(by cases h),fun M h i hi=>by
  have:=z i hi
  subst this
  exact⟨[],h.m0,by rw[hA];exact .refl _⟩⟩
 have hW:Wk fs f (iB f.C.length):=fun i hi=>by
  have:=z i hi
  subst this
  left
  rw[hst]
  simp
 have hT:Tm (iB f.C.length):=fun x hx=>by
  rw[hst] at hx
  have:x=0:=by simpa using hx
  subst this
  rw[hM];rfl
 obtain⟨o1,o2⟩:=zw hn
 have h40:=hok.n40
 obtain⟨c1,c2⟩:=Cs hok hty (mu f.C.length (iB f.C.length)+1) o1 hI hW hT (by omega) (by omega)
 refine⟨fun s e=>?_,c2⟩
 obtain⟨k1,k2,k3⟩:=c1 s e
 refine⟨k1,⟨iS.2 ⟨k2.m0,k2.a0⟩,fun i t h=>?_⟩,fun M hMs i t h=>?_⟩
 ·obtain⟨h1,h2⟩:=iS.1 h
  subst h2
  refine⟨xE k1 h1,k2.ty i h1,?_⟩
  obtain⟨v,h3,h4⟩:=k3 i h1
  refine⟨v,h3,fun q hq=>?_⟩
  obtain⟨h5,h6⟩:=h4 q hq
  exact⟨_,iS.2 ⟨h5,rfl⟩,h6⟩
 obtain⟨h1,h2⟩:=iS.1 h
 subst h2
 exact k2.le M hMs i h1
theorem Gg {fs:List au} (h:cW fs=0) {k:Nat} (hk:k<fs.length):qr fs (aq fs k):=by
 obtain⟨_,_,hall⟩:=iz h
 obtain⟨_,_,_,h4,_⟩:=kJ (hall _ (jp hk))
 refine⟨fun t ht=>?_,fun j hj=>?_⟩
 ·have:=h4 t ht;omega
 obtain⟨_,_,g3,_⟩:=kJ (hall _ (jp hj))
 exact g3
end
section
theorem OW {n:Nat} {s:dV} (h:fF n s):ru n s<=9*n:=by
 have key:∀m:Nat,((List.range m).map (kI s)).sum<=9*m:=fun m=>by
  induction m with
  | zero=>simp
  | succ m ih=>
   rw[List.range_succ,fd,List.sum_append]
   have:kI s m<=9:=by
    unfold kI
    split
    ·have:=Co (s.at_.getD m []);have:=h.st m;omega
    exact aK _
   simp only[et,iX,List.sum_cons,List.sum_nil]
   omega
 exact key n
theorem IT {n:Nat} {s:dV} {k:Nat} {l:List Int} :(dp n s k l).2=s\/(dp n s k l).2.todo=s.todo++ [(k:Int)]:=by
 unfold dp
 repeat (first | exact .inl rfl | exact .inr rfl | split)
theorem yh {n:Nat} :∀{L:List Int} {s s':dV} {l:List Int},dB n s L l=some s'->s'.todo= []->s'=s
 | [],s,s',l,e,_=>by
  simp only[dB,br] at e
  exact e.symm
 | a::L,s,s',l,e,h=>by
  simp only[dB] at e
  split at e
  ·have h1:=yh e h
   rcases IT (n:=n) (s:=s) (k:=a.toNat) (l:=l) with h2 | h2
   ·rw[h1,h2]
   rw[<-h1,h] at h2
   have:=congrArg List.length h2
   simp at this
  cases e
structure Sw (fs:List au) (f:au) (s0:dV) (i:Nat) (s:dV):Prop where
 ok:fF f.C.length s
 inv:nH fs f s
 mu_:mu f.C.length s<=mu f.C.length s0
 dn:s.todo= []->s=s0/\∀j,j<i->s.met.getD j false=true->Dn fs f s j
theorem Sw.todo {fs:List au} {f:au} {s0 s:dV} {i:Nat} (h:Sw fs f s0 i s) (h0:fF f.C.length s0) (ht:s0.todo= []) (hn:f.C.length<=40):s.todo.length<=360:=by
 have h1:=h.mu_
 have h2:=OW h0
 unfold mu at h1
 rw[ht] at h1
 simp only[aD] at h1
 omega
theorem Sw.start {fs:List au} {f:au} {s0:dV} (h:fF f.C.length s0) (hi:nH fs f s0):Sw fs f s0 0 s0:=⟨h,hi,aK _,fun _=>⟨rfl,fun _ hj=>absurd hj (gN _)⟩⟩
theorem Sw.skip {fs:List au} {f:au} {s0 s:dV} {i:Nat} (h:Sw fs f s0 i s) (hm:¬s.met.getD i false=true):Sw fs f s0 (i+1) s:=
 ⟨h.ok,h.inv,h.mu_,fun e=>⟨(h.dn e).1,fun j hj hj2=>by
  by_cases e2:j=i
  ·subst e2;exact absurd hj2 hm
  exact(h.dn e).2 j (by omega) hj2⟩⟩
theorem Sw.bad {fs:List au} {f:au} {s0 s:dV} {i:Nat} (h:Sw fs f s0 i s) (hm:s.met.getD i false=true) (hv:gk fs f (bx f.C i) (s.at_.getD i [])=none) (M:Nat->Option (List Int)):¬qn fs f M:=fun hM=>by
 obtain⟨t,h1,h2⟩:=h.inv.le M hM i hm
 obtain⟨_,_,v,h3,_⟩:=hM.ok i t h1
 obtain⟨u,h4,_⟩:=qy h2 h3
 rw[hv] at h4
 cases h4
theorem Sw.comes {fs:List au} {f:au} (hok:mm fs f) (hty:qr fs f) {s0 s:dV} {i:Nat} (h:Sw fs f s0 i s) (h0:fF f.C.length s0) (ht:s0.todo= []) (hi:i<f.C.length) (hm:s.met.getD i false=true) {v:List Int} (hv:gk fs f (bx f.C i) (s.at_.getD i [])=some v)
  {L:List Int} (hL:∀q∈L,q∈dy (bx f.C i) i) (hl4:L.length<=4) :
  (∀s',dB f.C.length s L v=some s'->nH fs f s'/\Up s s'/\∀q∈L,s'.met.getD q.toNat false=true/\Le v (s'.at_.getD q.toNat []))/\(dB f.C.length s L v=none->∀M,¬qn fs f M):=by
 have h36:=h.todo h0 ht hok.n40
 exact uu h.ok h.inv (fun q hq=>hok.to_ i hi q (hL q hq)) (nQ hv) (by omega) (yF hty (hok.op i hi) (h.inv.ty i hm) hv) (fun M hM q hq=>by
   obtain⟨t,h1,h2⟩:=h.inv.le M hM i hm
   obtain⟨_,_,v',h3,h4⟩:=hM.ok i t h1
   obtain⟨u,h5,h6⟩:=qy h2 h3
   rw[hv] at h5
   cases h5
   obtain⟨s',h7,h8⟩:=h4 q (hL q hq)
   exact⟨s',h7,h6.trans h8⟩)
theorem Sw.step {fs:List au} {f:au} (hok:mm fs f) (hty:qr fs f) {s0 s:dV} {i:Nat} (h:Sw fs f s0 i s) (h0:fF f.C.length s0) (ht:s0.todo= []) (hi:i<f.C.length) (hm:s.met.getD i false=true) {v:List Int} (hv:gk fs f (bx f.C i) (s.at_.getD i [])=some v)
  {s':dV} (e:dB f.C.length s (dy (bx f.C i) i) v=some s'):Sw fs f s0 (i+1) s':=by
 have h36:=h.todo h0 ht hok.n40
 have hl2:=nG (bx f.C i) i
 obtain⟨k1,k2,k3⟩:=(h.comes hok hty h0 ht hi hm hv (fun q hq=>hq) (by omega)).1 s' e
 have hc:=uv h.ok (hok.to_ i hi) (nQ hv) (by omega) e
 have hmu:=uw h.ok (hok.to_ i hi) (nQ hv) (by omega) e
 refine⟨hc.1,k1,eE hmu h.mu_,fun e0=>?_⟩
 have es:=yh e e0
 subst es
 obtain⟨d1,d2⟩:=h.dn e0
 refine⟨d1,fun j hj hj2=>?_⟩
 by_cases e2:j=i
 ·subst e2;exact⟨v,hv,k3⟩
 exact d2 j (by omega) hj2
theorem Sw.again {fs:List au} {f:au} {s0 s:dV} {i:Nat} (h:Sw fs f s0 i s) (h0:s0.todo= []) (hne:s.todo≠[]):fF f.C.length ⟨s.at_,s.met,[]⟩/\nH fs f ⟨s.at_,s.met,[]⟩/\ru f.C.length ⟨s.at_,s.met,[]⟩<ru f.C.length s0:=by
 refine⟨⟨h.ok.al,h.ok.ml,by simp,h.ok.st,fun x hx=>by cases hx⟩,⟨h.inv.m0,h.inv.a0,h.inv.ty,h.inv.le⟩,?_⟩
 have h1:=h.mu_
 unfold mu at h1
 rw[h0] at h1
 simp only[aD] at h1
 have h2:=List.length_pos_iff.2 hne
 show ru f.C.length s<_
 omega
theorem Az {fs:List au} {f:au} (hok:mm fs f) (hty:qr fs f) (hn:0<f.C.length) (h:∀M,¬qn fs f M):bZ fs f=([],false):=by
 unfold bZ
 cases e:entS fs f with
 | none=>rfl
 | some s=>exact absurd ((pz hok hty hn).1 s e).2.1 (h _)
theorem IG {fs:List au} {f:au} (hok:mm fs f) (hty:qr fs f) (hn:0<f.C.length) {s:dV} (hF:fF f.C.length s) (hI:nH fs f s) (hd:∀i:Nat,s.met.getD i false=true->Dn fs f s i):bZ fs f=(lj s f.C.length,true):=by
 have hst:qn fs f (MO s):=⟨iS.2 ⟨hI.m0,hI.a0⟩,fun i t h=>by
  obtain⟨h1,h2⟩:=iS.1 h
  subst h2
  refine⟨xE hF h1,hI.ty i h1,?_⟩
  obtain⟨v,h3,h4⟩:=hd i h1
  refine⟨v,h3,fun q hq=>?_⟩
  obtain⟨h5,h6⟩:=h4 q hq
  exact⟨_,iS.2 ⟨h5,rfl⟩,h6⟩⟩
 unfold bZ
 cases e:entS fs f with
 | none=>exact absurd hst ((pz hok hty hn).2 e _)
 | some s'=>
  obtain⟨k1,k2,k3⟩:=(pz hok hty hn).1 s' e
  show (lj s' f.C.length,true)=_
  congr 1
  unfold lj
  congr 1
  funext i
  by_cases hm:s.met.getD i false=true
  ·obtain⟨t,h1,h2⟩:=hI.le _ k2 i hm
   obtain⟨h3,h4⟩:=iS.1 h1
   subst h4
   obtain⟨u,h5,h6⟩:=k3 _ hst i _ h1
   obtain⟨_,h7⟩:=iS.1 h5
   subst h7
   rw[if_pos hm,if_pos h3,h2.anti h6]
  rw[if_neg hm,if_neg]
  intro h3
  obtain⟨u,h5,_⟩:=k3 _ hst i _ (iS.2 ⟨h3,rfl⟩)
  exact hm (iS.1 h5).1
def vu (n:Nat):dV:=⟨List.replicate n [],(List.replicate n false).set 0 true,[]⟩
theorem Oe {fs:List au} {f:au} (hn:0<f.C.length):fF f.C.length (vu f.C.length)/\nH fs f (vu f.C.length):=by
 have hA:∀i,(vu f.C.length).at_.getD i []= []:=fun i=>kE _ _ _
 have hM:∀i,(vu f.C.length).met.getD i false=if i=0 then true else false:=fun i=>by
  show ((List.replicate f.C.length false).set 0 true).getD i false=_
  rw[ip (by simpa using hn)]
  split
  ·rfl
  exact kE _ _ _
 refine⟨⟨by simp[vu],by simp[vu],by simp[vu],fun i=>by rw[hA];simp,fun x hx=>by cases hx⟩,⟨by rw[hM];rfl,hA 0,fun i _=>by rw[hA];exact fun _ h=>(by cases h),fun M h i hi=>?_⟩⟩
 rw[hM] at hi
 by_cases e:i=0
 ·subst e;exact⟨[],h.m0,by rw[hA];exact .refl _⟩
 rw[if_neg e] at hi;cases hi
end
section
section
variable {B:Nat} {w0:World}
end
def tR (a b:Int):Nat->Int
 | 0=>0
 | k+1=>if tR a b k=0/\bV a (3 - k)=true/\bV b (3 - k)=true then 3 - k else tR a b k
theorem L5 {a b:Int} (ha:1<=a/\a<=3) (hb:1<=b/\b<=3):tR a b 3=dM a b:=by
 rcases t3 ha with rfl | rfl | rfl <;> rcases t3 hb with rfl | rfl | rfl <;> decide
theorem DC (A1 A2:Option Addr) (c1 c2:Nat) (a b:List Int) (w:World) (h1:Sl w (.slice A1 a.length c1) a) (h2:Sl w (.slice A2 b.length c2) b) (ta:Ty a) (tb:Ty b) (hle:a.length<=1000000) :
  Calls Tryz.prog 197 #[.slice A1 a.length c1,.slice A2 b.length c2] w fun e w'=> ∃u,e= .returned (.tuple #[u,.bool (bK a b).isSome])/\Below w.heap.size w w'/\ef w' w.heap.size u ((bK a b).getD []):=by
 have bb:=bE h2
 refine enter Tryz.func197 rfl Tryz.ntmps197 rfl<|cQ (fun hl=>?_) (fun hl=>?_)
 ·have hn:=Cz (a:=a) (b:=b) (fun e=>hl (by rw[e]))
  refine aj ?_
  intro w hw
  rw[hn]
  exact⟨_,rfl,iN hw⟩
 have hl:a.length=b.length:=by omega
 refine aj ?_
 refine dK (fun w h=>Cw.nilO Int h) ?_
 refine dA (fun g:Nat×List Int×Option Addr×Nat=>g.1<=a.length/\bK (a.take g.1) (b.take g.1)=some g.2.1) (fun g=>a.length - g.1) (fun g=> [(0,.slice A1 a.length c1),(1,.slice A2 b.length c2),(6,.slice g.2.2.1 g.2.1.length g.2.2.2),(7,.int .i64 (g.1:Int))]) (fun g=> [ak (.slice g.2.2.1 g.2.1.length g.2.2.2) g.2.1]) (0,[],none,0) (⟨aX _,rfl⟩) ?_
 rintro⟨i,out,Ao,co⟩ hi'
 try dsimp only
 obtain⟨hi,hj⟩:i<=a.length/\bK (a.take i) (b.take i)=some out:=hi'
 have hol:out.length=i:=by have:=(lA hj).2;rw[aA] at this;omega
 refine av (fun hlt=>?_) (fun hlt=>?_)
 ·have hil:i<a.length:=by omega
  have hst:=sC hil (by omega) hj
  have i1:=kx h1 hil
  have i2:=kx h2 (k:=i) (by omega)
  have hbt:=L5 (ta.at_ hil) (tb.at_ (i:=i) (by omega))
  refine aj ?_
  refine iQ (fun _:Unit=>True) (fun _=> [(0,.slice A1 a.length c1),(1,.slice A2 b.length c2),(6,.slice Ao out.length co),(7,.int .i64 (i:Int)),(8,.int .i64 (dM (a.getD i 0) (b.getD i 0)))]) (fun _=> [ak (.slice Ao out.length co) out]) ?_ ?_
  ·refine dA (fun g:Nat×Int=>g.1<=3/\g.2=3 - (g.1:Int)) (fun g=>3 - g.1) (fun g=> [(0,.slice A1 a.length c1),(1,.slice A2 b.length c2),(6,.slice Ao out.length co),(7,.int .i64 (i:Int)),(8,.int .i64 (tR (a.getD i 0) (b.getD i 0) g.1)),(9,.int .i64 g.2)]) (fun _=> [ak (.slice Ao out.length co) out]) (0,3) (⟨aX _,rfl⟩) ?_
   rintro⟨k,x⟩ hk'
   try dsimp only
   obtain⟨hk,hx⟩:k<=3/\x=3 - (k:Int):=hk'
   refine av (fun hk3=>?_) (fun hk3=>?_)
   ·have hk2:k<3:=by omega
    have htr:tR (a.getD i 0) (b.getD i 0) (k+1)=if tR (a.getD i 0) (b.getD i 0) k=0/\bV (a.getD i 0) x=true/\bV (b.getD i 0) x=true then x else tR (a.getD i 0) (b.getD i 0) k:=by rw[tR,hx]
    refine gI (gF ?_)
    refine eh (fun _:Unit=>True) (fun _=> [(0,.slice A1 a.length c1),(1,.slice A2 b.length c2),(6,.slice Ao out.length co),(7,.int .i64 (i:Int)),(8,.int .i64 (tR (a.getD i 0) (b.getD i 0) (k+1))),(9,.int .i64 x)]) (fun _=> [ak (.slice Ao out.length co) out]) ?_ ?_
    ·rw[htr]
     refine dG 27 (fun f1=>?_) (fun f1=>?_)
     ·have f1:=of_decide_eq_true f1
      refine aj ?_
      refine cS (_) rfl ((.ro h1)) ?_
      refine ma rfl ((.ro h1))<|aj ?_
      refine bX rfl Ry (fun w hw=>qM (a.getD i 0) x w)<|dG 35 (fun f2=>?_) (fun f2=>?_)
      ·refine aj ?_
       refine cS (_) rfl ((.ro h2)) ?_
       refine ma rfl ((.ro h2))<|aj ?_
       refine bX rfl Ry (fun w hw=>qM (b.getD i 0) x w)<|aj ?_
       refine bT rfl (fun f3=>?_) (fun f3=>?_)
       ·rw[if_pos ⟨f1,f2,f3⟩]
        refine aj ?_
        refine bS () (trivial)
       rw[if_neg (fun h=>by rw[h.2.2] at f3;cases f3)]
       refine aj ?_
       refine bS () (trivial)
      rw[if_neg (fun h=>by rw[h.2.1] at f2;cases f2)]
      refine aj ?_
      refine cu rfl<|aj ?_
      refine bS () (trivial)
     have f1:=of_decide_eq_false f1
     rw[if_neg (fun h=>f1 h.1)]
     refine aj ?_
     refine cu rfl<|aj ?_
     refine bS () (trivial)
    rintro _ _
    refine aj ?_
    refine cU (k+1,x - 1) (⟨hk2,by show x - 1=3 - ((k+1:Nat):Int);omega⟩) (by show 3 - (k+1)<3 - k;omega)
   obtain rfl:k=3:=by omega
   rw[hbt]
   refine aj ?_
   refine bS () (trivial)
  rintro _ _
  refine av (fun h0=>?_) (fun h0=>?_)
  ·rw[if_pos h0] at hst
   have hn:=sD hst hl
   refine aj ?_
   intro w hw
   rw[hn]
   exact⟨_,rfl,iN hw⟩
  rw[if_neg h0] at hst
  refine aj ?_
  intro g1 _
  refine oE (cH (α:=Int) (bytes:=8) (dM (a.getD i 0) (b.getD i 0)) [] rfl aw (aV cO) rfl (eD fc fc) (dm (AF i1 i2)) (by omega) (by omega) rfl rfl rfl) (fun⟨A5,c5⟩ _=>?_)
  refine aO ?_
  refine cU (i+1,out++ [dM (a.getD i 0) (b.getD i 0)],A5,c5) (⟨hil,hst⟩) (by show _ - _<_ - _;omega)
 obtain rfl:i=a.length:=by omega
 rw[aT,hl,aT] at hj
 refine aj ?_
 intro w hw
 rw[hj]
 exact⟨_,rfl,kX hw⟩
end
section
def dk (c:Int):List UInt8×List UInt8:=
 if c=1\/c=21 then ([],[105]) else if c=5\/c=6\/c=7 then ([105,105],[105]) else if c=8 then ([],[108]) else if c=9 then ([108],[]) else if c=11\/c=20 then ([105],[]) else if c=14 then ([105],[114]) else if c=15 then ([114,105],[105]) else if c=16 then ([114,105,105],[]) else if c=17\/c=19 then ([114],[105]) else if c=18 then ([],[110]) else ([],[])
def qx (local_:Int) (b:UInt8):List Int:=if (b.toNat:Int)=105 then [1] else if (b.toNat:Int)=114 then [2] else if (b.toNat:Int)=110 then [3] else if (b.toNat:Int)=108 then [local_] else []
def kR (local_:Int) (s:List UInt8):List Int:=s.flatMap (qx local_)
theorem FH (c:Int) (w:World):Calls Tryz.prog 247 #[.int .i64 c] w fun e w'=>e= .returned (.tuple #[.string ⟨(dk c).1.toArray⟩,.string ⟨(dk c).2.toArray⟩])/\Below w.heap.size w w':=by
 refine enter Tryz.func247 rfl Tryz.ntmps247 rfl<|av (fun h1=>?_) (fun h1=>?_)
 ·refine cK (t:=5) (v':= .bool true) rfl (by rw[decide_eq_true h1])<|aj ?_
  refine aU rfl<|aj ?_
  have e:dk c=([],[105]):=by rw[h1];rfl
  refine aj ?_
  intro w hw
  rw[e]
  exact⟨rfl,hw.below⟩
 refine av (fun h21=>?_) (fun h21=>?_)
 ·have e:dk c=([],[105]):=by rw[h21];rfl
  refine aj ?_
  intro w hw
  rw[e]
  exact⟨rfl,hw.below⟩
 refine av (fun h5=>?_) (fun h5=>?_)
 ·refine cK (t:=8) (v':= .bool true) rfl (by rw[decide_eq_true h5])<|aj ?_
  refine aU rfl<|aj ?_
  have e:dk c=([105,105],[105]):=by rw[h5];rfl
  refine aj ?_
  intro w hw
  rw[e]
  exact⟨rfl,hw.below⟩
 refine av (fun h6=>?_) (fun h6=>?_)
 ·refine cK (t:=8) (v':= .bool true) rfl (by rw[decide_eq_true h6])<|aj ?_
  refine aU rfl<|aj ?_
  have e:dk c=([105,105],[105]):=by rw[h6];rfl
  refine aj ?_
  intro w hw
  rw[e]
  exact⟨rfl,hw.below⟩
 refine av (fun h7=>?_) (fun h7=>?_)
 ·have e:dk c=([105,105],[105]):=by rw[h7];rfl
  refine aj ?_
  intro w hw
  rw[e]
  exact⟨rfl,hw.below⟩
 refine av (fun h8=>?_) (fun h8=>?_)
 ·have e:dk c=([],[108]):=by rw[h8];rfl
  refine aj ?_
  intro w hw
  rw[e]
  exact⟨rfl,hw.below⟩
 refine av (fun h9=>?_) (fun h9=>?_)
 ·have e:dk c=([108],[]):=by rw[h9];rfl
  refine aj ?_
  intro w hw
  rw[e]
  exact⟨rfl,hw.below⟩
 refine av (fun h11=>?_) (fun h11=>?_)
 ·refine cK (t:=16) (v':= .bool true) rfl (by rw[decide_eq_true h11])<|aj ?_
  refine aU rfl<|aj ?_
  have e:dk c=([105],[]):=by rw[h11];rfl
  refine aj ?_
  intro w hw
  rw[e]
  exact⟨rfl,hw.below⟩
 refine av (fun h20=>?_) (fun h20=>?_)
 ·have e:dk c=([105],[]):=by rw[h20];rfl
  refine aj ?_
  intro w hw
  rw[e]
  exact⟨rfl,hw.below⟩
 refine av (fun h14=>?_) (fun h14=>?_)
 ·have e:dk c=([105],[114]):=by rw[h14];rfl
  refine aj ?_
  intro w hw
  rw[e]
  exact⟨rfl,hw.below⟩
 refine av (fun h15=>?_) (fun h15=>?_)
 ·have e:dk c=([114,105],[105]):=by rw[h15];rfl
  refine aj ?_
  intro w hw
  rw[e]
  exact⟨rfl,hw.below⟩
 refine av (fun h16=>?_) (fun h16=>?_)
 ·have e:dk c=([114,105,105],[]):=by rw[h16];rfl
  refine aj ?_
  intro w hw
  rw[e]
  exact⟨rfl,hw.below⟩
 refine av (fun h17=>?_) (fun h17=>?_)
 ·refine cK (t:=25) (v':= .bool true) rfl (by rw[decide_eq_true h17])<|aj ?_
  refine aU rfl<|aj ?_
  have e:dk c=([114],[105]):=by rw[h17];rfl
  refine aj ?_
  intro w hw
  rw[e]
  exact⟨rfl,hw.below⟩
 refine av (fun h19=>?_) (fun h19=>?_)
 ·have e:dk c=([114],[105]):=by rw[h19];rfl
  refine aj ?_
  intro w hw
  rw[e]
  exact⟨rfl,hw.below⟩
 refine av (fun h18=>?_) (fun h18=>?_)
 ·have e:dk c=([],[110]):=by rw[h18];rfl
  refine aj ?_
  intro w hw
  rw[e]
  exact⟨rfl,hw.below⟩
 refine aj ?_
 have e:dk c=([],[]):=by unfold dk;simp[h1,h21,h5,h6,h7,h8,h9,h11,h20,h14,h15,h16,h17,h19,h18]
 refine aj ?_
 intro w hw
 rw[e]
 exact⟨rfl,hw.below⟩
theorem LV (x:Int) (b:UInt8):(qx x b).length<=1:=by
 unfold qx
 repeat (first | split | simp)
theorem uM (x:Int):∀s:List UInt8,(kR x s).length<=s.length
 | []=>by simp[kR]
 | b::s=>by
  have h1:=uM x s
  have h2:=LV x b
  simp only[kR,eV,ar,bd] at *
  omega
theorem JI {x:Int} {s:List UInt8} {i:Nat} (hi:i<s.length):kR x (s.take (i+1))=kR x (s.take i)++qx x (s.getD i 0):=by
 unfold kR
 rw[dh hi,mQ,an,ap hi]
 simp
theorem xc (s:List UInt8) (x:Int) (hx:aH x) (w:World) (hl:s.length<=1000):Calls Tryz.prog 248 #[.string ⟨s.toArray⟩,.int .i64 x] w fun e w'=> ∃u,e= .returned u/\Below w.heap.size w w'/\ef w' w.heap.size u (kR x s):=by
 refine enter Tryz.func248 rfl Tryz.ntmps248 rfl<|aj ?_
 refine dK (fun w h=>Cw.nilO Int h) ?_
 refine dA (fun g:Nat×Option Addr×Nat=>g.1<=s.length) (fun g=>s.length - g.1) (fun g=> [(0,.string ⟨s.toArray⟩),(1,.int .i64 x),(5,.slice g.2.1 (kR x (s.take g.1)).length g.2.2),(6,.int .i64 (g.1:Int))]) (fun g=> [ak (.slice g.2.1 (kR x (s.take g.1)).length g.2.2) (kR x (s.take g.1))]) (0,none,0) (aX _) ?_
 rintro⟨i,Ao,co⟩ hi'
 try dsimp only
 have hi:i<=s.length:=hi'
 have hlt:=uM x (s.take i)
 rw[aA] at hlt
 refine av (fun hlt=>?_) (fun hlt=>?_)
 ·have hil:i<s.length:=by omega
  have hsn:=JI (x:=x) hil
  refine gI (gF ?_)
  refine eh (fun _:Option Addr×Nat=>True) (fun g=> [(0,.string ⟨s.toArray⟩),(1,.int .i64 x),(5,.slice g.1 (kR x (s.take (i+1))).length g.2),(6,.int .i64 (i:Int))]) (fun g=> [ak (.slice g.1 (kR x (s.take (i+1))).length g.2) (kR x (s.take (i+1)))]) ?_ ?_
  ·rw[hsn]
   refine aj ?_
   refine sE (yR (k:=i) iW hil rfl rfl rfl)<|av (fun h1=>?_) (fun h1=>?_)
   ·have e:qx x (s.getD i 0)= [1]:=by unfold qx;rw[if_pos h1]
    rw[e]
    refine aj ?_
    intro g1 _
    refine oE (cH (α:=Int) (bytes:=8) 1 [] rfl aw (aV cO) rfl (eD fc fc) (dm (show aH _ from by decide)) (by omega) (by omega) rfl rfl rfl) (fun⟨A5,c5⟩ _=>?_)
    refine aO ?_
    refine bS (A5,c5) (trivial)
   refine av (fun h2=>?_) (fun h2=>?_)
   ·have e:qx x (s.getD i 0)= [2]:=by unfold qx;rw[if_neg h1,if_pos h2]
    rw[e]
    refine aj ?_
    intro g2 _
    refine oE (cH (α:=Int) (bytes:=8) 2 [] rfl aw (aV cO) rfl (eD fc fc) (dm (show aH _ from by decide)) (by omega) (by omega) rfl rfl rfl) (fun⟨A5,c5⟩ _=>?_)
    refine aO ?_
    refine bS (A5,c5) (trivial)
   refine av (fun h3=>?_) (fun h3=>?_)
   ·have e:qx x (s.getD i 0)= [3]:=by unfold qx;rw[if_neg h1,if_neg h2,if_pos h3]
    rw[e]
    refine aj ?_
    intro g3 _
    refine oE (cH (α:=Int) (bytes:=8) 3 [] rfl aw (aV cO) rfl (eD fc fc) (dm (show aH _ from by decide)) (by omega) (by omega) rfl rfl rfl) (fun⟨A5,c5⟩ _=>?_)
    refine aO ?_
    refine bS (A5,c5) (trivial)
   refine av (fun h4=>?_) (fun h4=>?_)
   ·have e:qx x (s.getD i 0)= [x]:=by unfold qx;rw[if_neg h1,if_neg h2,if_neg h3,if_pos h4]
    rw[e]
    refine aj ?_
    intro g4 _
    refine oE (cH (α:=Int) (bytes:=8) x [] rfl aw (aV cO) rfl (eD fc fc) (dm hx) (by omega) (by omega) rfl rfl rfl) (fun⟨A5,c5⟩ _=>?_)
    refine aO ?_
    refine bS (A5,c5) (trivial)
   have e:qx x (s.getD i 0)= []:=by unfold qx;rw[if_neg h1,if_neg h2,if_neg h3,if_neg h4]
   rw[e,eu]
   refine aj ?_
   refine bS (Ao,co) (trivial)
  rintro⟨A5,c5⟩ _
  refine aj ?_
  refine cU (i+1,A5,c5) (hil) (by show _ - _<_ - _;omega)
 obtain rfl:i=s.length:=by omega
 refine aj ?_
 intro w hw
 rw[aT] at hw⊢
 exact⟨_,rfl,kX hw⟩
end
