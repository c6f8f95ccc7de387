/- Texts of one proof, one behind the other: lemmas alone. -/
import Derived.Test.YthfkmcbblnbfaaaGreatDoorM0B
import Derived.Test.YthfkmcbblnbfaaaGreatDoorM29B
import Derived.Test.YthfkmcbblnbfaaaGreatDoorM30B
import Derived.Test.YthfkmcbblnbfaaaGreatDoorM19B
import Derived.Test.YthfkmcbblnbfaaaGreatDoorM28B
import Derived.Test.YthfkmcbblnbfaaaGreatDoorM18B
import Derived.Test.YthfkmcbblnbfaaaGreatDoorM26B

namespace Go.Proofs.YthfkmcbblnbfaaaGreatDoor
set_option maxRecDepth 100000
set_option maxHeartbeats 16000000
open Go.RowKit
section
def cg (n:Nat):cU->List Int->List Int->Option cU
 | s,[],_=>some s
 | s,to_::r,l=>if (bZ n s to_.toNat l).1=true then cg n (bZ n s to_.toNat l).2 r l else none
def iE (fs:List ai) (f:ai) (s:cU):Option cU:=
 let k:=(s.todo.getD (s.todo.length - 1) 0).toNat
 let t:=jj fs f (aY f.code k) (s.at_.getD k [],false)
 if t.2=true then none else cg f.code.length ⟨s.at_,s.met,s.todo.take (s.todo.length - 1)⟩ (cX (aY f.code k) k) t.1
structure eV (n:Nat) (s:cU):Prop where
 al:s.at_.length=n
 ml:s.met.length=n
 tl:s.todo.length<=5000
 st:∀i,(s.at_.getD i []).length<=8
 td:∀x∈s.todo,0<=x/\x<n
theorem jM {n:Nat} {s:cU} (h:eV n s) {k:Nat} (hk:k<=n) {l:List Int} (hl:l.length<=8) (ht:s.todo.length<5000):eV n (bZ n s k l).2/\(bZ n s k l).2.todo.length<=s.todo.length+1:=by
 have key:k≠n->∀j:List Int,j.length<=8->eV n ⟨s.at_.set k j,s.met.set k true,s.todo++ [(k:Int)]⟩/\(s.todo++ [(k:Int)]).length<=s.todo.length+1:=fun hne j hj=>by
  refine⟨⟨by simp[h.al],by simp[h.ml],by simp only[ag,aS];omega,fun i=>?_,fun x hx=>?_⟩,by simp⟩
  ·show ((s.at_.set k j).getD i []).length<=8
   rw[eX (by rw[h.al];omega)]
   split
   ·exact hj
   exact h.st i
  rcases cE.1 hx with hx | hx
  ·exact h.td x hx
  rw[bG.1 hx];omega
 unfold bZ
 split
 ·exact⟨h,Nat.le_succ _⟩
 rename_i hne
 split
 ·split
  ·exact⟨h,Nat.le_succ _⟩
  rename_i j hj
  split
  ·exact⟨h,Nat.le_succ _⟩
  exact key hne j (by have:=(ja hj).2;have:=h.st k;omega)
 exact key hne l hl
section
variable {B:Nat} {w0:World} {H:List aq}
abbrev kg (g1 g5 gs gx:Nat) (As:Option Addr) (cs:Nat) (l:List Int):List aq:=
 [ah g1 [.pointer (some ⟨gx,0,none⟩)] 221,ah g5 [.pointer (some ⟨gs,0,none⟩)] 271,ah gs [.slice As l.length cs,.bool false] 273,af (.slice As l.length cs) l]
theorem xB (C:FC) (s:cU) (hd:List gh) (L:List (Value×List Int)) (At:Option Addr) (ct:Nat) (g1 g5 gs:Nat) (As:Option Addr) (cs:Nat) (k:Nat) (hk:k<=C.f.code.length) (hn:C.f.code.length<=40) (l:List Int) (hl:l.length<=8)
  (hR:gS C.f.code.length hd L s.at_) (hF:eV C.f.code.length s) (w:World) (hw:Cw B w0 (kg g1 g5 gs C.gx As cs l++(fy C s hd L At ct++H)) w) :
  Calls Tryz.prog 224 #[.int .i64 (k:Int),.pointer (some ⟨g1,0,none⟩),.pointer (some ⟨g5,0,none⟩)] w fun e w'=> ∃g:List gh×List (Value×List Int)×Option Addr×Nat,gS C.f.code.length g.1 g.2.1 (bZ C.f.code.length s k l).2.at_/\
   e= .returned (.bool (!(bZ C.f.code.length s k l).1))/\Cw B w0 (kg g1 g5 gs C.gx As cs l++(fy C (bZ C.f.code.length s k l).2 g.1 g.2.1 g.2.2.1 g.2.2.2++H)) w':=by
 refine a8 Tryz.func224 rfl Tryz.ntmps224 rfl hw ?_
 dsimp only[kg,dK,fK]
 refine aa ?_
 refine eO [0,3,6,9,12,15,20,23,24,27] [] rfl [ah g1 [.pointer (some ⟨C.gx,0,none⟩)] 221,ah g5 [.pointer (some ⟨gs,0,none⟩)] 271,ah gs [.slice As l.length cs,.bool false] 273]<|aa ?_
 refine pE rfl (ee rfl rfl rfl gK (fun w hw=>pT As cs l w (SF.at_ (SF.own rfl fc) hw) (by omega))) (fun⟨A4,c4⟩ _=>?_)
 try dsimp only
 refine xL (fun w h=>sQ (v:= .slice A4 l.length c4) (xs:=l) (L:=L) (yE (h.msub (.s fc (.s fc .r))))) ?_
 refine ph rfl rfl Tryz.call169 (fun w hw=>tN C s hd ((.slice A4 l.length c4,l)::L) At ct k hk hn l A4 c4 .new (hR.cons _) hF.ml (by have:=hF.tl;omega) (fun i=>by have:=hF.st i;omega) w (hw.msub ms)) (fun⟨hd2,L2,A5,c5⟩ hR2=>?_)
 refine aT ?_
 intro w hw
 exact⟨(hd2,L2,A5,c5),hR2,rfl,hw.msub ms⟩
structure lr (fs:List ai) (f:ai):Prop where
 op:∀i,i<f.code.length->BC fs f (aY f.code i)
 to_:∀i,i<f.code.length->∀q∈cX (aY f.code i) i,0<=q/\q<=f.code.length
 n40:f.code.length<=40
theorem n5 {n:Nat} :∀{s s':cU} {L:List Int} {k:Nat} {l:List Int},k<L.length->cg n s (L.take k) l=some s'->cg n s (L.take (k+1)) l=if (bZ n s' (L.getD k 0).toNat l).1=true then some (bZ n s' (L.getD k 0).toNat l).2 else none
 | s,s',[],k,l,hk,_=>by simp at hk
 | s,s',a::L,0,l,_,h=>by
  simp only[List.take_zero,cg,az] at h
  subst h
  simp[cg]
 | s,s',a::L,k+1,l,hk,h=>by
  simp only[ey,cg] at h⊢
  split at h
  ·rename_i h1
   rw[if_pos h1,n5 (by simpa using hk) h]
   simp
  cases h
theorem n7 {n:Nat} :∀{s:cU} {L:List Int} {k:Nat} {l:List Int},cg n s (L.take k) l=none->cg n s L l=none
 | s,[],k,l,h=>by simpa using h
 | s,a::L,0,l,h=>by simp[cg] at h
 | s,a::L,k+1,l,h=>by
  simp only[ey,cg] at h⊢
  split at h
  ·rename_i h1;rw[if_pos h1];exact n7 h
  rename_i h1;rw[if_neg h1]
theorem rk {n:Nat} :∀{s s':cU} {L:List Int} {l:List Int},eV n s->(∀q∈L,0<=q/\q<=n)->l.length<=8->s.todo.length+L.length<5000->cg n s L l=some s'->eV n s'/\s'.todo.length<=s.todo.length+L.length
 | s,s',[],l,h,_,_,_,e=>by
  simp only[cg,az] at e
  subst e
  exact⟨h,aD _⟩
 | s,s',a::L,l,h,hq,hl,ht,e=>by
  simp only[cg] at e
  split at e
  ·have ha:=hq a (by simp)
   rw[aI] at ht
   obtain⟨h1,h2⟩:=jM h (k:=a.toNat) (by omega) hl (by omega)
   obtain⟨h3,h4⟩:=rk h1 (fun q hq'=>hq q (by simp[hq'])) hl (by omega) e
   exact⟨h3,by rw[aI];omega⟩
  cases e
theorem sa {fs:List ai} {f:ai} {o:aM} {s l':ke} (e:jj fs f o s=l') (h:l'.2=false):l'.1.length<=8:=by
 subst e
 unfold jj at h⊢
 simp only[Bool.or_eq_false_iff,decide_eq_false_iff_not] at h
 show (eR fs f o s).1.length<=8
 omega
theorem mv (o:aM) (pc:Int):(cX o pc).length<=2:=by
 unfold cX
 repeat (first | split | simp)
theorem zJ (C:FC) (s:cU) (hd:List gh) (L:List (Value×List Int)) (At:Option Addr) (ct:Nat) (r:Option cU) (e:iE C.fs C.f s=r) (hok:lr C.fs C.f) (hp:aU w0 B (.slice C.Ap C.fs.length C.cp) C.fs) (hlo:aU w0 B (.slice C.A1 C.f.locals.length C.c1) C.f.locals) (hco:aU w0 B (.slice C.A2 C.f.code.length C.c2) C.f.code)
  (hR:gS C.f.code.length hd L s.at_) (hF:eV C.f.code.length s) (ht:0<s.todo.length) (ht2:s.todo.length<=4000) (w:World) (hw:Cw B w0 (fy C s hd L At ct++H) w) :
  Calls Tryz.prog 170 #[.pointer (some ⟨C.gx,0,none⟩)] w fun e w'=> ∃g:List gh×List (Value×List Int)×Option Addr×Nat,(match r with | some s'=>gS C.f.code.length g.1 g.2.1 s'.at_ | none=>True)/\
   e= .returned (.bool r.isSome)/\Cw B w0 ((match r with | some s'=>fy C s' g.1 g.2.1 g.2.2.1 g.2.2.2 | none=> [])++H) w':=by
 obtain⟨gx,fs,f,Ap,cp,A1,c1,A2,c2,Aa,ca,Am,cm⟩:=C
 obtain⟨at_,met,todo⟩:=s
 dsimp only[fy,dK,fK] at *
 obtain⟨n,hn⟩:∃n,todo.length=n+1:=⟨todo.length - 1,by omega⟩
 have hmem:todo.getD n 0∈todo:=by rw[ac,ae (by omega)];exact cc _
 have htd:=hF.td _ hmem
 obtain⟨k,hk⟩:∃k:Nat,todo.getD n 0=(k:Int):=⟨(todo.getD n 0).toNat,by have:=htd.1;omega⟩
 have hkl:k<f.code.length:=by have:=htd.2;omega
 obtain⟨T,b,eT⟩:∃T b,jj fs f (aY f.code k) (at_.getD k [],false)=(T,b):=⟨_,_,rfl⟩
 have e:(if b=true then none else cg f.code.length ⟨at_,met,todo.take n⟩ (cX (aY f.code k) k) T)=r:=by
  unfold iE at e
  dsimp only at e
  rw[show todo.length - 1=n from by omega,hk,a6,eT] at e
  exact e
 have htl:(todo.take n).length=n:=by rw[am];omega
 have i1:=sY hco hkl
 refine a8 Tryz.func170 rfl Tryz.ntmps170 rfl hw<|aa ?_
 intro g1 _
 refine aC ?_
 refine bE<|cR<|bJ<|eF (eG fc Tryz.isAgg221 rfl rfl (by rfl)) rfl rfl ?_
 refine aC ?_
 refine aC ?_
 refine eF (eG fc D8 rfl rfl (by rfl)) rfl rfl ?_
 refine eF (mW aJ rfl rfl) rfl rfl<|eF (sI rfl rfl rfl (by omega)) rfl rfl<|aC ?_
 refine bE<|dM (t:=3) (v':= .int .i64 (n:Int)) rfl (by congr 1;omega)<|aa ?_
 refine dA (_) rfl ((SF.own rfl fc)) ?_
 refine mE rfl ((SF.own rfl fc)) ?_
 refine aC ?_
 refine bE<|fB (fun w h=>lG h (xs:=todo) fc) fun hcap=>?_
 refine dM (t:=4) (v':= .int .i64 (k:Int)) rfl (by rw[hk])<|aa ?_
 refine bM [0,3,6,9,12,15,18,21,24,29] [9] rfl<|aa ?_
 refine tE rfl (kZ (k:=n) aJ bY (by omega) rfl rfl rfl) ?_
 refine aC ?_
 refine aC ?_
 refine dG rfl (eo _ fc ru rfl rfl rfl rfl rfl (by rfl) rfl (by rfl)) rfl rfl (.inl rfl) (fun _ _=>?_) fA
 refine xM<|dc (fun w h=>nA (k:=n) (xs:=todo) (A:=At) (m:=todo.length) (c:=ct) (by omega) (h.msub (.s fc .r))) ?_
 have hin:=hR.el k hkl
 have h8:(at_.getD k []).length<=8:=hF.st k
 refine aa ?_
 refine dA (_) rfl ((SF.own hR.hl fc)) ?_
 refine eB rfl (SF.hdr (SF.own hR.hl fc) hkl) ?_
 refine ly (fun w h=>hin.form h fc) ?_
 rintro⟨A3,c3,hv⟩
 rw[hv] at hin
 refine eC (t:=34) (v':= .slice A3 (at_.getD k []).length c3) rfl (hv) ?_
 refine oE (ee rfl rfl rfl gK (fun w hw=>pT A3 c3 (at_.getD k []) w (hin.sl hw fc) (by omega))) (fun⟨A4,c4⟩ _=>?_)
 refine aT ?_
 refine fun g2 _=>aa ?_
 intro g3 _
 refine ed (eo _ fc Tryz.sizeOf271 rfl rfl rfl rfl rfl (by rfl) rfl (by rfl)) rfl rfl (fun _ _=>?_)
 refine bE<|aa ?_
 refine eO [0,3,6,9,12,15,18,21,24,27,30,33,36,39,42,45,48,53] [] rfl [ah g1 [.pointer (some ⟨gx,0,none⟩)] 221,ah gx [.slice Ap fs.length cp,.int .i64 f.params,.slice A1 f.locals.length c1,.int .i64 f.result,.slice A2 f.code.length c2,.slice Aa f.code.length ca,.slice Am f.code.length cm,.slice At n ct] 224,ah g3 [.pointer (some ⟨g2,0,none⟩)] 271]<|aa ?_
 refine tE rfl (bS dD jx (.ro hco) (by omega) rfl rfl rfl) ?_
 refine tE rfl (gU (cs:= [_,_]) (SF.op (.ro hco) (by omega)) rfl rfl Tryz.isAgg86 jx) ?_
 refine ph rfl rfl Tryz.call222 (fun w hw=>BY g2 fs f (aY f.code k) eT A4 Ap A1 A2 c4 cp c1 c2 (hok.op k hkl) hp hlo (by omega) w (hw.msub (.s fc (.s fc .r)))) (fun⟨A6,c6⟩ _=>?_)
 refine aT ?_
 refine bw rfl (fun hb=>?_) (fun hb=>?_)
 ·rw[if_pos hb] at e
  subst e
  refine aa ?_
  intro w hw
  exact⟨(hd,L,At,ct),trivial,rfl,hw.msub ms⟩
 have hb:b=false:=hb
 subst hb
 have hT8:=sa eT rfl
 have hT8:T.length<=8:=hT8
 rw[if_neg (by decide)] at e
 obtain⟨LL,hLL⟩:∃LL,cX (aY f.code k) k=LL:=⟨_,rfl⟩
 have hto:=hok.to_ k hkl
 have hl2:=mv (aY f.code k) k
 rw[hLL] at hto hl2 e
 have haft:∀w1,Sl w1 (.slice A2 f.code.length c2) f.code->Calls Tryz.prog 223 #[.slice A2 f.code.length c2,.int .i64 (k:Int)] w1 fun e w'=> ∃g:Option Addr×Nat,True/\e= .returned (.slice g.1 LL.length g.2)/\Cw w1.heap.size w1 [af (.slice g.1 LL.length g.2) LL] w':=fun w1 h=>by
  have:=zf A2 c2 f.code k w1 h hkl
  rw[hLL] at this
  exact this
 refine aa ?_
 refine eI rfl Tryz.call223 (fun w hw=>haft w (hw.ro hco)) (fun⟨A7,c7⟩ _=>?_)
 refine aT ?_
 obtain⟨C,hC⟩:∃C:FC,C=⟨gx,fs,f,Ap,cp,A1,c1,A2,c2,Aa,ca,Am,cm⟩:=⟨_,rfl⟩
 have hF0:eV f.code.length ⟨at_,met,todo.take n⟩:=⟨hF.al,hF.ml,by show (todo.take n).length<=_;omega,hF.st,fun x hx=>hF.td x (j8 hx)⟩
 have hstep:∀(j:Nat) (g:cU×List gh×List (Value×List Int)×Option Addr×Nat),j<LL.length->((cg f.code.length ⟨at_,met,todo.take n⟩ (LL.take j) T=some g.1/\eV f.code.length g.1/\g.1.todo.length<=n+j)/\gS f.code.length g.2.1 g.2.2.1 g.1.at_)->∀w,Cw B w0 ((fun g:cU×List gh×List (Value×List Int)×Option Addr×Nat=>kg g1 g3 g2 gx A6 c6 T++(fy C g.1 g.2.1 g.2.2.1 g.2.2.2.1 g.2.2.2.2++(af (.slice A7 LL.length c7) LL::H))) g) w->
   Calls Tryz.prog 224 ([Value.int .i64 (LL.getD j 0)]++(#[.pointer (some ⟨g1,0,none⟩),.pointer (some ⟨g3,0,none⟩)]:Array Value).toList).toArray w fun e w'=> ∃p:Bool×cU×List gh×List (Value×List Int)×Option Addr×Nat,
    (if p.1 then cg f.code.length ⟨at_,met,todo.take n⟩ LL T=none else (cg f.code.length ⟨at_,met,todo.take n⟩ (LL.take (j+1)) T=some p.2.1/\eV f.code.length p.2.1/\p.2.1.todo.length<=n+(j+1))/\gS f.code.length p.2.2.1 p.2.2.2.1 p.2.1.at_)/\e= .returned (.bool p.1)/\Cw B w0 ((fun g:cU×List gh×List (Value×List Int)×Option Addr×Nat=>kg g1 g3 g2 gx A6 c6 T++(fy C g.1 g.2.1 g.2.2.1 g.2.2.2.1 g.2.2.2.2++(af (.slice A7 LL.length c7) LL::H))) p.2) w':=by
  rintro j ⟨s',hd',L',A',c'⟩ hj ⟨⟨g1',g2',g3'⟩,g4'⟩ w1 hw1
  have hmem:LL.getD j 0∈LL:=by rw[ac,ae hj];exact cc _
  obtain⟨q,hq⟩:∃q:Nat,LL.getD j 0=(q:Int):=⟨(LL.getD j 0).toNat,by have:=hto _ hmem;omega⟩
  have hqn:q<=f.code.length:=by have:=hto _ hmem;omega
  have hsn:=n5 hj g1'
  rw[hq,a6] at hsn
  have hco2:=jM g2' hqn hT8 (by have:=hF.tl;dsimp only at *;omega)
  dsimp only at *
  rw[hq]
  refine(xB (H:=af (.slice A7 LL.length c7) LL::H) C s' hd' L' A' c' g1 g3 g2 A6 c6 q (by rw[hC];exact hqn) (by rw[hC];exact hok.n40) T hT8 (by rw[hC];exact g4') (by rw[hC];exact g2') w1 (by rw[hC] at hw1⊢;exact hw1)).mono ?_
  rintro e1 w' ⟨⟨hd2,L2,A5,c5⟩,k1,k2,k3⟩
  rw[hC] at k1 k2
  dsimp only at k1 k2
  refine⟨(!(bZ f.code.length s' q T).1,(bZ f.code.length s' q T).2,hd2,L2,A5,c5),?_,k2,by rw[hC] at k3⊢;exact k3⟩
  dsimp only
  cases hb1:(bZ f.code.length s' q T).1
  ·rw[hb1] at hsn
   rw[if_neg (by decide)] at hsn
   simp only[Bool.not_false,if_true]
   exact n7 hsn
  rw[hb1] at hsn
  rw[if_pos rfl] at hsn
  simp only[Bool.not_true,ju,if_false]
  exact⟨⟨hsn,hco2.1,by omega⟩,k1⟩
 refine bU rfl Ea (fun w hw=>tJ (B:=B) (w0:=w0) (fun j g=>(cg f.code.length ⟨at_,met,todo.take n⟩ (LL.take j) T=some g.1/\eV f.code.length g.1/\g.1.todo.length<=n+j)/\gS f.code.length g.2.1 g.2.2.1 g.1.at_) (fun _=>cg f.code.length ⟨at_,met,todo.take n⟩ LL T=none) (fun g:cU×List gh×List (Value×List Int)×Option Addr×Nat=>kg g1 g3 g2 gx A6 c6 T++(fy C g.1 g.2.1 g.2.2.1 g.2.2.2.1 g.2.2.2.2++(af (.slice A7 LL.length c7) LL::H))) A7 c7 LL 224 _ Tryz.call224 (fun g=> .own rfl fc) (by omega) hstep (⟨at_,met,todo.take n⟩,hd,L,At,ct) ⟨⟨rfl,hF0,by show (todo.take n).length<=_;omega⟩,hR⟩ w (by dsimp only[fy,kg,dK,fK];rw[hC];dsimp only;rw[htl];exact hw.msub ms)) (fun⟨bb,s',hd',L',A',c'⟩ hg=>?_)
 refine aT ?_
 intro w hw
 cases bb
 ·have hg:(cg f.code.length ⟨at_,met,todo.take n⟩ (LL.take LL.length) T=some s'/\eV f.code.length s'/\s'.todo.length<=n+LL.length)/\gS f.code.length hd' L' s'.at_:=hg
  rw[bL,e] at hg
  obtain⟨⟨k1,_,_⟩,k2⟩:=hg
  subst k1
  refine⟨(hd',L',A',c'),k2,rfl,?_⟩
  dsimp only[fy,kg,dK,fK] at hw⊢
  rw[hC] at hw
  exact hw.msub ms
 have hg:cg f.code.length ⟨at_,met,todo.take n⟩ LL T=none:=hg
 rw[e] at hg
 subst hg
 refine⟨(hd,L,At,ct),trivial,rfl,?_⟩
 dsimp only[fy,kg,dK,fK] at hw⊢
 exact hw.msub ms
end
end
section
def kl (l:List Int):Nat:=l.countP fun t=>decide (t=3)
def iG (s:cU) (i:Nat):Nat:=if s.met.getD i false=true then kl (s.at_.getD i []) else 9
def BF (n:Nat) (s:cU):Nat:=((List.range n).map (iG s)).sum
def mu (n:Nat) (s:cU):Nat:=BF n s+s.todo.length
theorem Cc {n k:Nat} {f g:Nat->Nat} (hk:k<n) (h:∀i,i≠k->f i=g i):((List.range n).map g).sum+f k=((List.range n).map f).sum+g k:=by
 induction n with
 | zero=>omega
 | succ n ih=>
  simp only[List.range_succ,dw,List.sum_append,cZ,fS,List.sum_cons,List.sum_nil]
  by_cases e:k=n
  ·subst e
   have:(List.range k).map f=(List.range k).map g:=List.map_congr_left fun i hi=>h i (by have:=jQ.1 hi;omega)
   rw[this]
   omega
  have:=ih (by omega)
  have:=h n (fun e'=>e e'.symm)
  omega
theorem uT {a b:Int} (h:bV a b≠0):bV a b=a\/(a=3/\bV a b=2):=by
 unfold bV bo at *
 by_cases h1:a=b
 ·left;simp[h1]
 by_cases h2:a=3/\b=2
 ·right;obtain⟨rfl,rfl⟩:=h2;simp
 by_cases h3:b=3/\a=2
 ·left;obtain⟨rfl,rfl⟩:=h3;simp
 exfalso
 apply h
 have e1:¬(a=3/\b=2):=h2
 have e2:¬(b=3/\a=2):=h3
 have e3:¬b=a:=fun e=>h1 e.symm
 simp[h1,e3,e1,e2]
theorem nY:∀{a l j:List Int},aR a l=some j->kl j<=kl a/\(j≠a->kl j<kl a)
 | [],[],j,h=>by simp[aR] at h;subst h;simp
 | [],_::_,j,h=>by simp[aR] at h
 | _::_,[],j,h=>by simp[aR] at h
 | a::l,b::m,j,h=>by
  simp only[aR] at h
  split at h
  ·cases h
  rename_i h0
  cases e:aR l m with
  | none=>rw[e] at h;cases h
  | some k=>
   rw[e] at h
   simp only[Option.map_some,az] at h
   subst h
   obtain⟨h1,h2⟩:=nY e
   unfold kl at *
   simp only[List.countP_cons]
   rcases uT h0 with hb | ⟨rfl,hb⟩
   ·rw[hb]
    refine⟨by omega,fun hne=>?_⟩
    have:k≠l:=fun e=>hne (by rw[e])
    have:=h2 this
    omega
   rw[hb]
   simp only[decide_true,if_true]
   have:(if decide ((2:Int)=3)=true then 1 else 0)=0:=by decide
   rw[this]
   exact⟨by omega,fun _=>by omega⟩
theorem AB (l:List Int):kl l<=l.length:=List.countP_le_length
theorem rm {n:Nat} {s:cU} (h:eV n s) {k:Nat} (hk:k<=n) {l:List Int} (hl:l.length<=8):mu n (bZ n s k l).2<=mu n s:=by
 have key:k<n->∀j:List Int,kl j<iG s k->mu n ⟨s.at_.set k j,s.met.set k true,s.todo++ [(k:Int)]⟩<=mu n s:=fun hkn j hj=>by
  have e:=Cc (f:=iG s) (g:=iG ⟨s.at_.set k j,s.met.set k true,s.todo++ [(k:Int)]⟩) hkn fun i hi=>by
   unfold iG
   rw[eX (by rw[h.ml];exact hkn),eX (by rw[h.al];exact hkn),if_neg hi,if_neg hi]
  have e2:iG ⟨s.at_.set k j,s.met.set k true,s.todo++ [(k:Int)]⟩ k=kl j:=by
   unfold iG
   rw[eX (by rw[h.ml];exact hkn),eX (by rw[h.al];exact hkn),if_pos rfl,if_pos rfl,if_pos rfl]
  rw[e2] at e
  unfold mu BF
  simp only[ag,aS]
  omega
 unfold bZ
 split
 ·exact aD _
 rename_i hne
 split
 ·rename_i hm
  split
  ·exact aD _
  rename_i j hj
  split
  ·exact aD _
  rename_i hja
  exact key (by omega) j (by unfold iG;rw[if_pos hm];exact(nY hj).2 hja)
 rename_i hm
 exact key (by omega) l (by unfold iG;rw[if_neg hm];have:=AB l;omega)
theorem rl {n:Nat} :∀{s s':cU} {L:List Int} {l:List Int},eV n s->(∀q∈L,0<=q/\q<=n)->l.length<=8->s.todo.length+L.length<5000->cg n s L l=some s'->mu n s'<=mu n s
 | s,s',[],l,h,_,_,_,e=>by
  simp only[cg,az] at e
  subst e
  exact aD _
 | s,s',a::L,l,h,hq,hl,ht,e=>by
  simp only[cg] at e
  split at e
  ·have ha:=hq a (by simp)
   rw[aI] at ht
   obtain⟨h1,h2⟩:=jM h (k:=a.toNat) (by omega) hl (by omega)
   exact dv (rl h1 (fun q hq'=>hq q (by simp[hq'])) hl (by omega) e) (rm h (by omega) hl)
  cases e
theorem oD {fs:List ai} {f:ai} (hok:lr fs f) {s s':cU} (h:eV f.code.length s) (ht:0<s.todo.length) (ht2:s.todo.length<=4000) (e:iE fs f s=some s'):eV f.code.length s'/\mu f.code.length s'<mu f.code.length s:=by
 obtain⟨n,hn⟩:∃n,s.todo.length=n+1:=⟨s.todo.length - 1,by omega⟩
 have hmem:s.todo.getD n 0∈s.todo:=by rw[ac,ae (by omega)];exact cc _
 have htd:=h.td _ hmem
 obtain⟨k,hk⟩:∃k:Nat,s.todo.getD n 0=(k:Int):=⟨(s.todo.getD n 0).toNat,by omega⟩
 have hkl:k<f.code.length:=by omega
 unfold iE at e
 dsimp only at e
 rw[show s.todo.length - 1=n from by omega,hk,a6] at e
 split at e
 ·cases e
 rename_i hb
 have hb:(jj fs f (aY f.code k) (s.at_.getD k [],false)).2=false:=by simpa using hb
 have hT8:=sa rfl hb
 have hF0:eV f.code.length ⟨s.at_,s.met,s.todo.take n⟩:=⟨h.al,h.ml,by show (s.todo.take n).length<=_;rw[am];omega,h.st,fun x hx=>h.td x (j8 hx)⟩
 have hl2:=mv (aY f.code k) k
 have hlt:(s.todo.take n).length+(cX (aY f.code k) k).length<5000:=by rw[am];omega
 have h1:=rk hF0 (hok.to_ k hkl) hT8 hlt e
 have h2:=rl hF0 (hok.to_ k hkl) hT8 hlt e
 refine⟨h1.1,?_⟩
 have:mu f.code.length ⟨s.at_,s.met,s.todo.take n⟩+1=mu f.code.length s:=by
  unfold mu
  show BF f.code.length s+(s.todo.take n).length+1=_
  rw[am]
  omega
 omega
def ic (fs:List ai) (f:ai):Nat->cU->Option cU
 | 0,_=>none
 | k+1,s=>if s.todo.length=0 then some s else match iE fs f s with
  | none=>none
  | some s'=>ic fs f k s'
theorem pq {fs:List ai} {f:ai} (hok:lr fs f):∀(k m:Nat) (s:cU),eV f.code.length s->mu f.code.length s<=4000->mu f.code.length s<k->mu f.code.length s<m->ic fs f k s=ic fs f m s
 | 0,_,_,_,_,h,_=>absurd h (by omega)
 | _+1,0,_,_,_,_,h=>absurd h (by omega)
 | k+1,m+1,s,hF,h4,h1,h2=>by
  simp only[ic]
  split
  ·rfl
  rename_i ht
  cases e:iE fs f s with
  | none=>rfl
  | some s'=>
   have htl:s.todo.length<=4000:=by unfold mu at h4;omega
   obtain⟨h3,h4'⟩:=oD hok hF (by omega) htl e
   exact pq hok k m s' h3 (by omega) (by omega) (by omega)
def ec (n:Nat):cU:=⟨List.replicate n [],List.replicate n false,[]⟩
def eE (n:Nat):cU:=(bZ n (ec n) 0 []).2
def ll (fs:List ai) (f:ai):Option cU:=ic fs f (mu f.code.length (eE f.code.length)+1) (eE f.code.length)
structure gH where
 pc:Int
 stack:List Int
 deriving DecidableEq
def kH (s:cU) (i:Nat):List gH:=(List.range i).filterMap fun k=>if s.met.getD k false=true then some ⟨k,s.at_.getD k []⟩ else none
def bX (fs:List ai) (f:ai):List gH×Bool:=match ll fs f with
 | none=>([],false)
 | some s=>(kH s f.code.length,true)
theorem mM (n:Nat):eV n (ec n):=by
 refine⟨by simp[ec],by simp[ec],by simp[ec],fun i=>?_,by simp[ec]⟩
 show ((List.replicate n ([]:List Int)).getD i []).length<=8
 rw[ac,kS]
 split <;> simp
theorem zK (n:Nat):mu n (ec n)<=9*n:=by
 unfold mu BF
 have:∀m,((List.range m).map (iG (ec n))).sum<=9*m:=fun m=>by
  induction m with
  | zero=>simp
  | succ m ih=>
   simp only[List.range_succ,dw,List.sum_append,cZ,fS,List.sum_cons,List.sum_nil]
   have:iG (ec n) m<=9:=by
    unfold iG
    split
    ·rename_i h
     have:(ec n).met.getD m false=false:=by
      show (List.replicate n false).getD m false=false
      rw[ac,kS]
      split <;> rfl
     rw[this] at h;cases h
    exact aD _
   omega
 have:=this n
 show _+([]:List Int).length<=_
 simpa using this
theorem qG {n:Nat} (_:0<n):eV n (eE n)/\mu n (eE n)<=9*n:=by
 have h1:=jM (mM n) (k:=0) (br _) (l:= []) (by simp) (by simp[ec])
 have h2:=rm (mM n) (k:=0) (br _) (l:= []) (by simp)
 exact⟨h1.1,dv h2 (zK n)⟩
end
section
instance:ak gH where
 k:=2
 rep w B cs x:= ∃v,cs= [.int .i64 x.pc,v]/\ay x.pc/\aU w B v x.stack
 len h:=by obtain⟨v,h,_⟩:=h;rw[h];rfl
 keep h hc:=by obtain⟨v,h,hi,hs⟩:=h;exact⟨v,h,hi,hs.keep hc⟩
 more h hb:=by obtain⟨v,h,hi,hs⟩:=h;exact⟨v,h,hi,hs.more hb⟩
 one h:=by obtain⟨v,h,hi,hs⟩:=h;obtain⟨A,c,rfl,_⟩:=hs.form;rw[h];simp[Value.oneCell']
structure fJ where
 pc:Int
 v:Value
instance:ak fJ where
 k:=2
 rep _ _ cs h:=cs= [.int .i64 h.pc,h.v]/\ay h.pc/\h.v.oneCell'=true
 len h:=by rw[h.1];rfl
 keep h _:=h
 more h _:=h
 one h:=by rw[h.1];simpa [Value.oneCell'] using h.2.2
instance:Ow fJ where
 ty:=105
 own _ F cs h:=(cs= [.int .i64 h.pc,h.v]/\ay h.pc/\h.v.oneCell'=true)/\∀b,¬F b
 rd_ h:=h.1
 lt h hb:=(h.2 _ hb).elim
 frame h _:=h
 cong h hf:=⟨h.1,fun b hb=>h.2 b ((hf b).2 hb)⟩
instance:bd fJ where
 enc h:= [.int .i64 h.pc,h.v]
 wf h:=ay h.pc/\h.v.oneCell'=true
 rep_iff:=fL
 own_iff:=fL
structure kO (es:List fJ) (L:List (Value×List Int)) (xs:List gH):Prop where
 len:es.length=xs.length
 el:∀i (h:i<es.length) (h2:i<xs.length),es[i].pc=xs[i].pc/\ir L es[i].v xs[i].stack
theorem kO.nil_ {L:List (Value×List Int)} :kO [] L []:=⟨rfl,fun i h=>by simp at h⟩
theorem kO.snoc {es:List fJ} {L:List (Value×List Int)} {xs:List gH} (h:kO es L xs) {e:fJ} {x:gH} (h1:e.pc=x.pc) (h2:ir L e.v x.stack):kO (es++ [e]) L (xs++ [x]):=
 ⟨by simp[h.len],fun i hi hi2=>by
  by_cases hlt:i<es.length
  ·rw[List.getElem_append_left hlt,List.getElem_append_left (by have:=h.len;omega)]
   exact h.el i hlt (by have:=h.len;omega)
  rw[ag,aS] at hi
  have hl:=h.len
  have:i=es.length:=by omega
  subst this
  rw[List.getElem_append_right (aD _),List.getElem_append_right (by omega)]
  simp[h1,h2,hl]⟩
theorem CL {w:World} {F:Nat->Prop} {L:List (Value×List Int)} {v:Value} {xs:List Int} (h:ir L v xs) (hF:Hs w (L.map fun p=>iq p.1 p.2) F):Sl w v xs:=by
 rcases h with ⟨rfl,rfl⟩ | h
 ·exact Sl.nil_
 obtain⟨F',h5,_⟩:=Hs.mem (List.mem_map_of_mem (f:=fun p:Value×List Int=>iq p.1 p.2) h) hF
 exact h5.2 w fun _ _=>rfl
theorem qK {es:List fJ} {L:List (Value×List Int)} {xs:List gH} (hr:kO es L xs) {v:Value} :∀w F,Hs w [af v es,fq L] F->Sl w v xs:=by
 rintro w F ⟨F1,F2,h1,⟨F3,F4,h3,h4,_,_⟩,_,_⟩
 have h1:bn w F1 v es:=h1
 have h3:Hs w (L.map fun p=>iq p.1 p.2) F3:=h3
 obtain⟨A,c,hv,k1,k2,k3,k4⟩:=h1.sl
 refine⟨A,c,by rw[hv,hr.len],by rw[<-hr.len];exact k1,k2,by rw[<-hr.len];exact k3,fun h0=>?_⟩
 obtain⟨b,off,hA,hb,hi⟩:=k4 (by rw[hr.len];exact h0)
 refine⟨b,off,hA,hb,fun i x hx=>?_⟩
 have hix:=(aw.1 hx)
 obtain⟨hil,hix⟩:=hix
 have hie:i<es.length:=by rw[hr.len];exact hil
 obtain⟨cs,⟨hcs,hi1,hi2⟩,hc⟩:=hi i es[i] (ae hie)
 obtain⟨e1,e2⟩:=hr.el i hie hil
 rw[hix] at e1 e2
 subst hcs
 refine⟨[.int .i64 x.pc,es[i].v],⟨es[i].v,rfl,by rw[<-e1];exact hi1,CL e2 h3⟩,fun j u hu=>?_⟩
 rw[<-e1] at hu
 exact hc j u hu
theorem rh (s:cU) (i:Nat):kH s (i+1)=if s.met.getD i false=true then kH s i++ [⟨i,s.at_.getD i []⟩] else kH s i:=by
 unfold kH
 rw[List.range_succ,List.filterMap_append]
 split
 ·rename_i h
  simp only[List.filterMap_cons,List.filterMap_nil]
  rw[if_pos h]
 rename_i h
 simp only[List.filterMap_cons,List.filterMap_nil]
 rw[if_neg h]
 simp
theorem Bc (s:cU) (i:Nat):(kH s i).length<=i:=by
 have:=List.length_filterMap_le (fun k=>if s.met.getD k false=true then some (⟨k,s.at_.getD k []⟩:gH) else none) (List.range i)
 rw[mK] at this
 exact this
theorem oe:(Tryz.prog.info? 35).map (fun i=>(i.zero,i.size,i.bytes))=some (some (.slice none 0 0),1,24):=by kernel_rfl
theorem w6:(Tryz.prog.info? 105).map (fun i=>(i.zero,i.size,i.bytes))=some (some (.agg #[.int .i64 0,.slice none 0 0]),2,32):=by kernel_rfl
theorem kA {α:Type} (n i:Nat) (x:α):(List.replicate n x).getD i x=x:=by
 rw[ac,kS]
 split <;> rfl
theorem lj (A:Option Addr) (c:Nat) (fs:List ai) (k:Nat) (w:World) (hs:Sl w (.slice A fs.length c) fs) (hk:k<fs.length) (hok:lr fs (aj fs k)) (hn0:0<(aj fs k).code.length) :
  Calls Tryz.prog 117 #[.agg #[.slice A fs.length c],.int .i64 (k:Int)] w fun e w'=> ∃g:(Option Addr×Nat)×List fJ×List (Value×List Int),kO g.2.1 g.2.2 (bX fs (aj fs k)).1/\e= .returned (.tuple #[.slice g.1.1 g.2.1.length g.1.2,.bool (bX fs (aj fs k)).2])/\
   Cw w.heap.size w [af (.slice g.1.1 g.2.1.length g.1.2) g.2.1,fq g.2.2] w':=by
 obtain⟨A1,c1,A2,c2,hl,hc,hi,hcell⟩:=hs.fn hk
 generalize aj fs k=f at hl hc hi hcell hok hn0⊢
 have hn40:=hok.n40
 refine enter Tryz.func117 rfl Tryz.ntmps117 rfl<|aa ?_
 refine fun g1 _=>aa ?_
 refine dA (_) rfl ((.ro hs))<|aa ?_
 refine eB rfl (fun w hw=>hcell _ w hw 3 _ rfl) ?_
 refine aC ?_
 refine bE<|dV (fun _:Nat×Nat×Nat=>True) (fun g=> [(6,.slice A2 f.code.length c2),(7,.pointer (some ⟨g.2.2,0,none⟩))]) (fun g=> [ah g.2.2 [.slice A fs.length c,.int .i64 f.params,.slice A1 f.locals.length c1,.int .i64 f.result,.slice A2 f.code.length c2,.slice (some ⟨g.1,0,none⟩) f.code.length f.code.length,.slice (some ⟨g.2.1,0,none⟩) f.code.length f.code.length,.slice none 0 0] 224,af (.slice (some ⟨g.1,0,none⟩) f.code.length f.code.length) (List.replicate f.code.length ka),af (.slice (some ⟨g.2.1,0,none⟩) f.code.length f.code.length) (List.replicate f.code.length false)]) ?_ ?_
 ·refine jd (.still 0 (.still 1 (.still 2 (.still 3 (.still 4 (.still 5 (.still 6 (.still 7 (.still 9 (.still 10 (.pick 8 (.pick 11 (.still 12 (.pick 13 (.still 14 .done) .stop)) .stop) (.pick 11 (.pick 8 (.still 12 (.pick 13 (.still 14 .done) .stop)) .stop) .stop)))))))))))) [] rfl (by kernel_rfl) (by kernel_rfl) ?_
  refine aa ?_
  refine tE rfl (bS et eQ (.ro hs) (by omega) rfl rfl rfl) ?_
  refine tE rfl (gU (hcell _) rfl rfl D6 eQ)<|aa ?_
  refine dG rfl (lK (α:=gh) ka jw oe rfl (fun w=>⟨⟨rfl,rfl⟩,fun _ h=>h⟩) rfl (by omega) rfl rfl rfl) rfl rfl (.inr fun _=>ha) (fun ga _=>?_) ?_
  ·refine pE rfl (lK (α:=Bool) false zr tY rfl (fun w=>⟨rfl,fun _ h=>h⟩) rfl (by omega) rfl rfl rfl) (fun gm _=>aa ?_)
   refine fun gx _=>aa ?_
   refine cG<|dh (ga,gm,gx) (trivial)
  refine pE rfl (lK (α:=Bool) false zr tY rfl (fun w=>⟨rfl,fun _ h=>h⟩) rfl (by omega) rfl rfl rfl) (fun gm _=>?_)
  refine pE rfl (lK (α:=gh) ka jw oe rfl (fun w=>⟨⟨rfl,rfl⟩,fun _ h=>h⟩) rfl (by omega) rfl rfl rfl) (fun ga _=>aa ?_)
  refine fun gx _=>aa ?_
  refine cG<|dh (ga,gm,gx) (trivial)
 rintro⟨ga,gm,gx⟩ _
 try dsimp only
 have hR0:gS f.code.length (List.replicate f.code.length ka) [] (ec f.code.length).at_:=⟨by simp,by simp[ec],fun i _=>by
  show ir [] ((List.replicate f.code.length ka).getD i ka).v ((List.replicate f.code.length ([]:List Int)).getD i [])
  rw[kA,kA]
  exact .nil_⟩
 have hso:=qG hn0
 have hcome:∀w1,Cw w.heap.size w (fy (⟨gx,fs,f,A,c,A1,c1,A2,c2,some ⟨ga,0,none⟩,f.code.length,some ⟨gm,0,none⟩,f.code.length⟩:FC) (ec f.code.length) (List.replicate f.code.length ka) [] none 0++ []) w1->Calls Tryz.prog 169 #[.pointer (some ⟨gx,0,none⟩),.int .i64 0,.slice none 0 0] w1 fun e w'=> ∃g:List gh×List (Value×List Int)×Option Addr×Nat,gS f.code.length g.1 g.2.1 (eE f.code.length).at_/\
   e= .returned (.bool (bZ f.code.length (ec f.code.length) 0 []).1)/\Cw w.heap.size w (fy (⟨gx,fs,f,A,c,A1,c1,A2,c2,some ⟨ga,0,none⟩,f.code.length,some ⟨gm,0,none⟩,f.code.length⟩:FC) (eE f.code.length) g.1 g.2.1 g.2.2.1 g.2.2.2++ []) w':=fun w1 h=>
  tN (⟨gx,fs,f,A,c,A1,c1,A2,c2,some ⟨ga,0,none⟩,f.code.length,some ⟨gm,0,none⟩,f.code.length⟩:FC) (ec f.code.length) (List.replicate f.code.length ka) [] none 0 0 (br _) hn40 [] none 0 .nil_ hR0 (by simp[ec]) (by simp[ec]) (fun i=>by have:=(mM f.code.length).st i;omega) w1 h
 refine dc (fun w h=>kB (Cw.nilO Int h))<|aa ?_
 refine bU rfl Tryz.call169 (fun w hw=>hcome w (hw.msub ms)) (fun⟨hd,L,At,ct⟩ hR=>?_)
 refine aT ?_
 rw[eA]
 refine qv (fun g:cU×List gh×List (Value×List Int)×Option Addr×Nat=>(ll fs f=some g.1/\eV f.code.length g.1)/\gS f.code.length g.2.1 g.2.2.1 g.1.at_) (fun g=> [(6,.slice A2 f.code.length c2),(7,.pointer (some ⟨gx,0,none⟩))]) (fun g=>fy (⟨gx,fs,f,A,c,A1,c1,A2,c2,some ⟨ga,0,none⟩,f.code.length,some ⟨gm,0,none⟩,f.code.length⟩:FC) g.1 g.2.1 g.2.2.1 g.2.2.2.1 g.2.2.2.2) ?_ ?_
 ·refine dH (fun g:cU×List gh×List (Value×List Int)×Option Addr×Nat=>((ic fs f (mu f.code.length g.1+1) g.1=ll fs f/\eV f.code.length g.1)/\gS f.code.length g.2.1 g.2.2.1 g.1.at_)/\mu f.code.length g.1<=400) (fun g=>mu f.code.length g.1) (fun g=> [(6,.slice A2 f.code.length c2),(7,.pointer (some ⟨gx,0,none⟩))]) (fun g=>fy (⟨gx,fs,f,A,c,A1,c1,A2,c2,some ⟨ga,0,none⟩,f.code.length,some ⟨gm,0,none⟩,f.code.length⟩:FC) g.1 g.2.1 g.2.2.1 g.2.2.2.1 g.2.2.2.2) (eE f.code.length,hd,L,At,ct) (⟨⟨⟨rfl,hso.1⟩,hR⟩,by show mu f.code.length (eE f.code.length)<=_;have:=hso.2;omega⟩) ?_
  rintro⟨s,hd,L,At,ct⟩ hj
  try dsimp only
  obtain⟨⟨⟨hj1,hF⟩,hR⟩,hmu⟩:((ic fs f (mu f.code.length s+1) s=ll fs f/\eV f.code.length s)/\gS f.code.length hd L s.at_)/\mu f.code.length s<=400:=hj
  have htl:s.todo.length<=400:=by unfold mu at hmu;omega
  dsimp only[fy]
  refine an (fun ht=>?_) (fun ht=>?_)
  ·have ht0:0<s.todo.length:=by omega
   obtain⟨r,hr⟩:∃r,iE fs f s=r:=⟨_,rfl⟩
   have hj2:=hj1
   rw[ic,if_neg (by omega),hr] at hj2
   refine aa ?_
   refine bU rfl Tryz.call170 (fun w hw=>zJ (H:= []) (⟨gx,fs,f,A,c,A1,c1,A2,c2,some ⟨ga,0,none⟩,f.code.length,some ⟨gm,0,none⟩,f.code.length⟩:FC) s hd L At ct r hr hok hs hl hc hR hF ht0 (by omega) w (hw.msub ms)) (fun⟨hd2,L2,A2',c2'⟩ hR2=>?_)
   refine aT ?_
   refine bw rfl (fun hq=>?_) (fun hq=>?_)
   ·obtain rfl:r=none:=by cases r with | none=>rfl | some s'=>cases hq
    have hent:bX fs f=([],false):=by unfold bX;rw[<-hj2]
    rw[hent]
    refine aa ?_
    intro w hw
    exact⟨((none,0),[],[]),.nil_,rfl,Cw.nilO fJ (kB (hw.msub (T:= []) ms))⟩
   obtain⟨s',rfl⟩:∃s',r=some s':=by cases r with | none=>cases hq | some s'=>exact⟨s',rfl⟩
   have hso2:=oD hok hF ht0 (by omega) hr
   have hj3:ic fs f (mu f.code.length s'+1) s'=ll fs f:=by
    rw[<-hj2]
    exact pq hok _ _ s' hso2.1 (by omega) (by omega) hso2.2
   dsimp only[eA]
   rw[eA]
   refine aa ?_
   refine G0 (s',hd2,L2,A2',c2') (⟨⟨⟨hj3,hso2.1⟩,hR2⟩,by show mu f.code.length s'<=_;omega⟩) (hso2.2)
  have ht0:s.todo.length=0:=by omega
  have hj2:=hj1
  rw[ic,if_pos ht0] at hj2
  refine aa ?_
  refine dh (s,hd,L,At,ct) (⟨⟨hj2.symm,hF⟩,hR⟩)
 rintro⟨s,hd,L,At,ct⟩ hj
 obtain⟨⟨hj,hF⟩,hR⟩:(ll fs f=some s/\eV f.code.length s)/\gS f.code.length hd L s.at_:=hj
 have hent:bX fs f=(kH s f.code.length,true):=by unfold bX;rw[hj]
 rw[hent]
 dsimp only[fy]
 refine dc (fun w h=>Cw.nilO fJ h)<|aa ?_
 refine dH (fun g:Nat×List fJ×Option Addr×Nat=>g.1<=f.code.length/\kO g.2.1 L (kH s g.1)) (fun g=>f.code.length - g.1) (fun g=> [(7,.pointer (some ⟨gx,0,none⟩)),(8,.slice g.2.2.1 g.2.1.length g.2.2.2),(42,.int .i64 (f.code.length:Int)),(43,.int .i64 (g.1:Int))]) (fun g=>af (.slice g.2.2.1 g.2.1.length g.2.2.2) g.2.1::fy (⟨gx,fs,f,A,c,A1,c1,A2,c2,some ⟨ga,0,none⟩,f.code.length,some ⟨gm,0,none⟩,f.code.length⟩:FC) s hd L At ct) (0,[],none,0) (⟨br _,.nil_⟩) ?_
 rintro⟨i,es,Ae,ce⟩ hi'
 try dsimp only
 obtain⟨hi1,hre⟩:i<=f.code.length/\kO es L (kH s i):=hi'
 have hel:=hre.len
 have hul:=Bc s i
 dsimp only[fy]
 refine an (fun hlt=>?_) (fun hlt=>?_)
 ·have hil:i<f.code.length:=by omega
  have hsu:=rh s i
  refine aa ?_
  refine dA (_) rfl ((SF.own hF.ml fc)) ?_
  refine eB rfl (SF.bool (SF.own hF.ml fc) (by omega))<|aa ?_
  refine bw rfl (fun hm=>?_) (fun hm=>?_)
  ·rw[if_pos hm] at hsu
   have hin:=hR.el i hil
   refine aa ?_
   refine dA (_) rfl ((SF.own hR.hl fc)) ?_
   refine ly (fun w h=>hin.form h fc) ?_
   rintro⟨A3,c3,hv⟩
   rw[hv] at hin
   refine sE (cB (v:= .slice A3 (s.at_.getD i []).length c3) (by rw[<-hv];exact SF.hdr (SF.own hR.hl fc) hil) rfl rfl D8)<|aa ?_
   intro g2 _
   refine oE (dx (α:=fJ) (bytes:=32) ⟨i,.slice A3 (s.at_.getD i []).length c3⟩ [] rfl Tryz.underlying99 (bQ w6) rfl (fQ fc fc) (ew ⟨⟨by show (-9223372036854775808:Int)<=(i:Int);omega,by show (i:Int)<=9223372036854775807;omega⟩,rfl⟩) (by omega) (by omega) rfl rfl rfl) (fun⟨A5,c5⟩ _=>?_)
   refine aT ?_
   refine dm (i+1,es++ [⟨i,.slice A3 (s.at_.getD i []).length c3⟩],A5,c5) (⟨hil,by rw[hsu];exact hre.snoc rfl hin⟩) (by show _ - _<_ - _;omega)
  rw[if_neg (by rw[hm];decide)] at hsu
  refine aa ?_
  refine dm (i+1,es,Ae,ce) (⟨hil,by rw[hsu];exact hre⟩) (by show _ - _<_ - _;omega)
 obtain rfl:i=f.code.length:=by omega
 refine aa ?_
 intro w hw
 exact⟨((Ae,ce),es,L),hre,rfl,hw.msub ms⟩
theorem uG (A:Option Addr) (c:Nat) (fs:List ai) (k:Nat) (w:World) (hs:Sl w (.slice A fs.length c) fs) (hk:k<fs.length) (hok:lr fs (aj fs k)) (hn0:0<(aj fs k).code.length) :
  Calls Tryz.prog 117 #[.agg #[.slice A fs.length c],.int .i64 (k:Int)] w fun e w'=> ∃g:Option Addr×Nat,True/\e= .returned (.tuple #[.slice g.1 (bX fs (aj fs k)).1.length g.2,.bool (bX fs (aj fs k)).2])/\
   Cw w.heap.size w [iq (.slice g.1 (bX fs (aj fs k)).1.length g.2) (bX fs (aj fs k)).1] w':=
 (lj A c fs k w hs hk hok hn0).mono fun e w' ⟨g,h1,h2,h3⟩=>⟨g.1,trivial,by rw[<-h1.len];exact h2,by rw[<-h1.len];exact q9 (Hel:= [af (.slice g.1.1 g.2.1.length g.1.2) g.2.1,fq g.2.2]) (H:= []) (qK h1) h3⟩
end
section
theorem iM {fs:List ai} {k:Nat} (hk:k<fs.length):aj fs k∈fs:=by
 unfold aj
 rw[ac,ae hk]
 exact cc hk
theorem jq {fs:List ai} (h:cD fs=0) {k:Nat} (hk:k<fs.length):lr fs (aj fs k)/\0<(aj fs k).code.length:=by
 obtain⟨_,_,hall⟩:=iA h
 obtain⟨_,_,h3,h4,h5,h6,h7⟩:=kE (hall _ (iM hk))
 obtain⟨h40,_⟩:=lm h6
 refine⟨⟨fun i hi=>?_,fun i hi q hq=>?_,h40⟩,by omega⟩
 ·have hf:=h7 _ (oN hi)
  refine⟨fun hc=>?_,fun hc=>?_,fun j hj=>?_,⟨by omega,by omega⟩⟩
  ·unfold gQ at hf
   rw[if_pos hc] at hf
   have:=hP.1 hf
   omega
  ·unfold gQ at hf
   rw[if_neg (by omega),if_neg (by omega),if_pos hc] at hf
   have:=hP.1 hf
   omega
  obtain⟨g1,g2,_⟩:=kE (hall _ (iM hj))
  exact⟨g2,g1⟩
 have hf:=h7 _ (oN hi)
 have hg:=(rr (aY (aj fs k).code i) i q).1 hq
 have hjz:((aY (aj fs k).code i).c=10\/(aY (aj fs k).code i).c=11)->0<=(aY (aj fs k).code i).a/\(aY (aj fs k).code i).a<(aj fs k).code.length:=fun hc=>by
  unfold gQ at hf
  rw[if_neg (by omega),if_pos hc] at hf
  have:=hP.1 hf
  omega
 unfold ef at hg
 split at hg
 ·simp at hg
 split at hg
 ·rename_i hc
  have:=hjz (.inl hc)
  simp at hg
  omega
 split at hg
 ·rename_i hc
  have:=hjz (.inr hc)
  simp at hg
  omega
 simp at hg
 omega
def jU (fs:List ai) (z:Int):List gH×Int:=
 if cD fs≠0 then ([],cD fs) else if z<0\/(fs.length:Int)<=z then ([],3) else if (bX fs (aj fs z.toNat)).2=true then ((bX fs (aj fs z.toNat)).1,0) else ([],4)
def fm (fs:List ai):Int:=if cD fs≠0 then cD fs else if fs.all (fun f=>(bX fs f).2)=true then 0 else 4
theorem rN {α:Type} {p:α->Bool} {l:List α} {k:Nat} (d:α) (hk:k<l.length):(l.take (k+1)).all p=((l.take k).all p && p (l.getD k d)):=by
 rw[List.take_add_one,ae hk,ac,ae hk,List.all_append]
 simp
theorem xj (A:Option Addr) (c:Nat) (fs:List ai) (z:Int) (w:World) (hs:Sl w (.slice A fs.length c) fs) :
  Calls Tryz.prog 58 #[.agg #[.slice A fs.length c],.int .i64 z] w fun e w'=> ∃g:(Option Addr×Nat)×List fJ×List (Value×List Int),kO g.2.1 g.2.2 (jU fs z).1/\e= .returned (.tuple #[.slice g.1.1 g.2.1.length g.1.2,.int .i64 (jU fs z).2])/\
   Cw w.heap.size w [af (.slice g.1.1 g.2.1.length g.1.2) g.2.1,fq g.2.2] w':=by
 have b1:=bt hs
 refine enter Tryz.func58 rfl Tryz.ntmps58 rfl<|aa ?_
 refine fun g1 _=>aa ?_
 obtain⟨E,hE⟩:∃E:Int,(if cD fs≠0 then cD fs else if z<0\/(fs.length:Int)<=z then 3 else 0)=E:=⟨_,rfl⟩
 refine cd rfl xd (fun w hw=>jm A c fs w (hw.ro hs)) ?_
 refine aC ?_
 refine bE<|dV (fun _:Unit=>True) (fun _=> [(1,.int .i64 z),(2,.pointer (some ⟨g1,0,none⟩)),(6,.int .i64 E)]) (fun _=> [ah g1 [.slice A fs.length c] 24]) ?_ ?_
 ·refine dq 13 (fun h1=>?_) (fun h1=>?_)
  ·have h1:=of_decide_eq_true h1
   rw[if_neg (by simpa using h1)] at hE
   refine dq 16 (fun h2=>?_) (fun h2=>?_)
   ·have h2:=of_decide_eq_true h2
    rw[if_pos (.inl h2)] at hE
    subst hE
    refine aa ?_
    refine bx rfl<|aa ?_
    refine xN () (trivial)
   have h2:=of_decide_eq_false h2
   refine an (fun h3=>?_) (fun h3=>?_)
   ·rw[if_pos (.inr (by omega))] at hE
    subst hE
    refine aa ?_
    refine xN () (trivial)
   rw[if_neg (by omega)] at hE
   subst hE
   rw[h1]
   refine aa ?_
   refine dh () (trivial)
  have h1:=of_decide_eq_false h1
  rw[if_pos h1] at hE
  subst hE
  refine aa ?_
  refine di rfl<|aa ?_
  refine dh () (trivial)
 rintro _ _
 refine cy (fun h0=>?_) (fun h0=>?_)
 ·have hf:jU fs z=([],E):=by
   unfold jU
   by_cases h1:cD fs=0
   ·rw[if_neg (by simpa using h1)] at hE⊢
    by_cases h2:z<0\/(fs.length:Int)<=z
    ·rw[if_pos h2] at hE⊢;rw[hE]
    rw[if_neg h2] at hE;exact absurd hE.symm h0
   rw[if_pos h1] at hE⊢;rw[hE]
  rw[hf]
  refine aa ?_
  intro w hw
  exact⟨((none,0),[],[]),.nil_,rfl,Cw.nilO fJ (kB (hw.msub (T:= []) ms))⟩
 subst h0
 have h1:cD fs=0:=by
  by_cases h1:cD fs=0
  ·exact h1
  rw[if_pos h1] at hE;exact absurd hE h1
 rw[if_neg (by simpa using h1)] at hE
 have h2:¬(z<0\/(fs.length:Int)<=z):=fun h=>by rw[if_pos h] at hE;cases hE
 obtain⟨k,rfl⟩:∃k:Nat,z=(k:Int):=⟨z.toNat,by omega⟩
 have hk:k<fs.length:=by omega
 obtain⟨hok,hn0⟩:=jq h1 hk
 have hf:jU fs (k:Int)=if (bX fs (aj fs k)).2=true then ((bX fs (aj fs k)).1,0) else ([],4):=by
  unfold jU
  rw[if_neg (by simpa using h1),if_neg h2,a6]
 refine aa ?_
 refine eI rfl HA (fun w hw=>lj A c fs k w (hw.ro hs) hk hok hn0) (fun⟨⟨A1,c1⟩,es,L⟩ hre=>?_)
 refine aT ?_
 refine bw rfl (fun h3=>?_) (fun h3=>?_)
 ·rw[hf,if_neg (by simpa using h3)]
  refine aa ?_
  intro w hw
  exact⟨((none,0),[],[]),.nil_,rfl,Cw.nilO fJ (kB (hw.msub (T:= []) ms))⟩
 rw[hf,if_pos (by simpa using h3)]
 refine aa ?_
 intro w hw
 exact⟨((A1,c1),es,L),hre,rfl,hw.msub ms⟩
theorem Gv (A:Option Addr) (c:Nat) (fs:List ai) (z:Int) (w:World) (hs:Sl w (.slice A fs.length c) fs) :
  Calls Tryz.prog 58 #[.agg #[.slice A fs.length c],.int .i64 z] w fun e w'=> ∃g:Option Addr×Nat,True/\e= .returned (.tuple #[.slice g.1 (jU fs z).1.length g.2,.int .i64 (jU fs z).2])/\
   Cw w.heap.size w [iq (.slice g.1 (jU fs z).1.length g.2) (jU fs z).1] w':=
 (xj A c fs z w hs).mono fun e w' ⟨g,h1,h2,h3⟩=>⟨g.1,trivial,by rw[<-h1.len];exact h2,by rw[<-h1.len];exact q9 (Hel:= [af (.slice g.1.1 g.2.1.length g.1.2) g.2.1,fq g.2.2]) (H:= []) (qK h1) h3⟩
theorem qC (A:Option Addr) (c:Nat) (fs:List ai) (w:World) (hs:Sl w (.slice A fs.length c) fs) :
  Calls Tryz.prog 72 #[.agg #[.slice A fs.length c]] w fun e w'=>e= .returned (.int .i64 (fm fs))/\Below w.heap.size w w':=by
 have b1:=bt hs
 refine enter Tryz.func72 rfl Tryz.ntmps72 rfl<|aa ?_
 refine fun g1 _=>aa ?_
 refine cd rfl xd (fun w hw=>jm A c fs w (hw.ro hs))<|cy (fun h0=>?_) (fun h0=>?_)
 ·refine aa ?_
  intro w hw
  exact⟨fw (by unfold fm;rw[if_pos h0]),hw.below⟩
 have hp:fm fs=if fs.all (fun f=>(bX fs f).2)=true then 0 else 4:=by unfold fm;rw[if_neg (by simpa using h0)]
 refine aa ?_
 refine dH (fun k:Nat=>k<=fs.length/\(fs.take k).all (fun f=>(bX fs f).2)=true) (fun k=>fs.length - k) (fun k=> [(1,.pointer (some ⟨g1,0,none⟩)),(14,.int .i64 (fs.length:Int)),(15,.int .i64 (k:Int))]) (fun _=> [ah g1 [.slice A fs.length c] 24]) 0 (⟨br _,rfl⟩) ?_
 rintro k hk'
 obtain⟨hk,hall⟩:k<=fs.length/\(fs.take k).all (fun f=>(bX fs f).2)=true:=hk'
 refine an (fun hlt=>?_) (fun hlt=>?_)
 ·have hkl:k<fs.length:=by omega
  obtain⟨hok,hn0⟩:=jq h0 hkl
  have hsn:=rN (p:=fun f=>(bX fs f).2) (default:ai) hkl
  refine aa ?_
  refine eI rfl HA (fun w hw=>uG A c fs k w (hw.ro hs) hkl hok hn0) (fun⟨A1,c1⟩ _=>?_)
  refine aT ?_
  refine bw rfl (fun h3=>?_) (fun h3=>?_)
  ·have h3:(bX fs (aj fs k)).2=false:=by simpa using h3
   refine aa ?_
   intro w hw
   refine⟨fw ?_,hw.below⟩
   rw[hp,if_neg]
   intro h
   rw[kT] at h
   have:=h _ (iM hkl)
   rw[h3] at this
   cases this
  have h3:(bX fs (aj fs k)).2=true:=by simpa using h3
  refine aa ?_
  refine dm (k+1) (⟨hkl,by rw[hsn,hall];exact h3⟩) (by show _ - _<_ - _;omega)
 obtain rfl:k=fs.length:=by omega
 rw[bL] at hall
 refine aa ?_
 intro w hw
 exact⟨fw (by rw[hp,if_pos hall]),hw.below⟩
end
section
instance:fe ai kP where
 parts h f:= [af h.v1 f.locals,af h.v2 f.code]
 ok h f:=h.p=f.params/\h.r=f.result
 kk:=rfl
 tt:=rfl
 opn {w F cs f} h:=by
  obtain⟨v1,v2,F1,F2,hcs,hi,h1,h2,hd,hF⟩:=h
  obtain⟨A1,c1,e1,_⟩:=h1.sl.form
  obtain⟨A2,c2,e2,_⟩:=h2.sl.form
  refine⟨⟨f.params,v1,f.result,v2⟩,⟨hcs,hi,by rw[e1];rfl,by rw[e2];rfl⟩,⟨rfl,rfl⟩,F1,F2,h1,⟨F2,fun _=>False,h2,fun _ h=>h,fun _ _ h=>h,fun b=>by simp⟩,hd,hF⟩
 cls {w F h f} hwf hok hH:=by
  obtain⟨F1,F2,h1,⟨F3,F4,h3,h4,h5,h6⟩,hd,hF⟩:=hH
  have e:∀b,F2 b↔F3 b:=fun b=>by rw[h6 b];simp[show¬F4 b from h4 b]
  refine⟨h.v1,h.v2,F1,F3,?_,?_,h1,h3,fun b hb hb'=>hd b hb ((e b).2 hb'),fun b=>by rw[hF b,e b]⟩
  ·show [.int .i64 h.p,h.v1,.int .i64 h.r,h.v2]=_
   rw[hok.1,hok.2]
  rw[<-hok.1,<-hok.2];exact hwf.1
def GT (fs:List ai):Prop:=fs.length*64<=140737488355328/\∀f∈fs,f.locals.length*8<=140737488355328/\f.code.length*16<=140737488355328
theorem B8 {fs:List ai} {k:Nat} (hk:k<fs.length):fs.take (k+1)=fs.take k++ [aj fs k]:=by
 rw[List.take_add_one,ae hk]
 unfold aj
 rw[ac,ae hk]
 rfl
theorem mx:(Tryz.prog.info? 86).map (fun i=>(i.zero,i.size,i.bytes))=some (some (.agg #[.int .i64 0,.int .i64 0]),2,16):=by kernel_rfl
theorem Gp (A:Option Addr) (c:Nat) (fs:List ai) (w:World) (hs:Sl w (.slice A fs.length c) fs) (hfit:GT fs) :
  Calls Tryz.prog 35 #[.agg #[.slice A fs.length c]] w fun e w'=> ∃g:Option Addr×Nat,True/\e= .returned (.agg #[.slice g.1 fs.length g.2])/\Cw w.heap.size w [af (.slice g.1 fs.length g.2) fs] w':=by
 have b1:=bt hs
 have hf64:=hfit.1
 refine enter Tryz.func35 rfl Tryz.ntmps35 rfl<|aa ?_
 refine fun g1 _=>aa ?_
 refine fun g2 _=>aa ?_
 refine fun g3 _=>aa ?_
 refine dc (fun w h=>Cw.nilO ai h) ?_
 refine dH (fun g:Nat×Option Addr×Nat=>g.1<=fs.length) (fun g=>fs.length - g.1) (fun g=> [(1,.pointer (some ⟨g1,0,none⟩)),(2,.pointer (some ⟨g2,0,none⟩)),(3,.pointer (some ⟨g3,0,none⟩)),(4,.int .i64 (g.1:Int))]) (fun g=> [af (.slice g.2.1 (fs.take g.1).length g.2.2) (fs.take g.1),ah g1 [.slice A fs.length c] 24,ah g2 [.slice none 0 0] 24,ah g3 [.slice g.2.1 (fs.take g.1).length g.2.2] 24]) (0,none,0) (br _) ?_
 rintro⟨k,A',c'⟩ hk
 try dsimp only
 have hk:k<=fs.length:=hk
 have htl:(fs.take k).length=k:=by rw[am];omega
 refine an (fun hlt=>?_) (fun hlt=>?_)
 ·have hkl:k<fs.length:=by omega
  obtain⟨A1,c1,A2,c2,hl,hc,hi,hcell⟩:=hs.fn hkl
  obtain⟨hb1,hb2⟩:=hfit.2 (aj fs k) (iM hkl)
  have htk:=B8 hkl
  refine aa ?_
  refine dA (_) rfl ((.ro hs)) ?_
  refine i8 rfl (hcell _)<|aa ?_
  intro g4 _
  refine ed (eo _ fc eQ rfl rfl rfl rfl rfl (by rfl) rfl (by rfl)) rfl rfl (fun _ _=>?_)
  refine bE<|dV (fun _:(Option Addr×Nat)×(Option Addr×Nat)=>True) (fun g=> [(1,.pointer (some ⟨g1,0,none⟩)),(2,.pointer (some ⟨g2,0,none⟩)),(3,.pointer (some ⟨g3,0,none⟩)),(4,.int .i64 (k:Int)),(5,.pointer (some ⟨g4,0,none⟩))]) (fun g=> [af (.slice A' (fs.take k).length c') (fs.take k),ah g1 [.slice A fs.length c] 24,ah g2 [.slice none 0 0] 24,ah g3 [.slice A' (fs.take k).length c'] 24,ah g4 [.int .i64 (aj fs k).params,.slice g.1.1 (aj fs k).locals.length g.1.2,.int .i64 (aj fs k).result,.slice g.2.1 (aj fs k).code.length g.2.2] 84,af (.slice g.1.1 (aj fs k).locals.length g.1.2) (aj fs k).locals,af (.slice g.2.1 (aj fs k).code.length g.2.2) (aj fs k).code]) ?_ ?_
  ·refine jd (.still 1 (.still 2 (.still 5 (.still 6 (.pick 0 (.pick 3 (.calm 8 (.pick 4 (.pick 7 (.pick 9 (.calm 10 (.pick 11 .done .stop)) .stop) .stop) .stop)) (.pick 4 (.pick 3 (.calm 8 (.pick 7 (.pick 9 (.calm 10 (.pick 11 .done .stop)) .stop) .stop)) .stop) .stop)) (.pick 4 (.pick 0 (.pick 3 (.calm 8 (.pick 7 (.pick 9 (.calm 10 (.pick 11 .done .stop)) .stop) .stop)) .stop) .stop) .stop)))))) [7,8,9,10,11] rfl (by kernel_rfl) (by kernel_rfl) ?_
   refine aC ?_
   refine cK rfl (eG fc D8 rfl rfl (by rfl)) rfl rfl ha ?_
   refine aC ?_
   refine cK rfl (eG fc D7 rfl rfl (by rfl)) rfl rfl ha ?_
   refine dG rfl ((j3 (cs:= []) aJ bY Tryz.zeroValue3 rfl rfl rfl rfl rfl).mem (H'':=fun g=>af (.slice (some ⟨g,0,none⟩) 0 0) ([]:List Int)::_) fun g w h=>bj (α:=Int) (m:=0) [] rfl (by simp) rfl (by decide) h) rfl rfl (.inr fun _=>ha) (fun ga _=>?_) ?_
   ·refine dG rfl (fV (α:=Int) (bytes:=8) (xs:= []) (ys:=(aj fs k).locals) (xs':=(aj fs k).locals) rfl aJ (bQ e9) rfl fc (.ro hl) (by simp only[aK];omega) (by simp only[aK];omega) rfl rfl rfl) rfl rfl (.inr fun _=>ha) (fun⟨A3,c3⟩ _=>?_) ?_
    ·try dsimp only
     refine aC ?_
     refine pE rfl ((j3 (cs:= []) dD jx Eg rfl rfl rfl rfl rfl).mem (H'':=fun g=>af (.slice (some ⟨g,0,none⟩) 0 0) ([]:List aM)::_) fun g w h=>bj (α:=aM) (m:=0) [] rfl (by simp) rfl (by decide) h) (fun go _=>?_)
     refine pE rfl (fV (α:=aM) (bytes:=16) (xs:= []) (ys:=(aj fs k).code) (xs':=(aj fs k).code) rfl dD (bQ mx) rfl fc (.ro hc) (by simp only[aK];omega) (by simp only[aK];omega) rfl rfl rfl) (fun⟨A4,c4⟩ _=>?_)
     refine aT ?_
     refine cG<|dh ((A3,c3),(A4,c4)) (trivial) (hh:=(fun _ h=>h.msub ms))
    refine pE rfl ((j3 (cs:= []) dD jx Eg rfl rfl rfl rfl rfl).mem (H'':=fun g=>af (.slice (some ⟨g,0,none⟩) 0 0) ([]:List aM)::_) fun g w h=>bj (α:=aM) (m:=0) [] rfl (by simp) rfl (by decide) h) (fun go _=>?_)
    refine pE rfl (fV (α:=Int) (bytes:=8) (xs:= []) (ys:=(aj fs k).locals) (xs':=(aj fs k).locals) rfl aJ (bQ e9) rfl fc (.ro hl) (by simp only[aK];omega) (by simp only[aK];omega) rfl rfl rfl) (fun⟨A3,c3⟩ _=>?_)
    refine aT ?_
    refine pE rfl (fV (α:=aM) (bytes:=16) (xs:= []) (ys:=(aj fs k).code) (xs':=(aj fs k).code) rfl dD (bQ mx) rfl fc (.ro hc) (by simp only[aK];omega) (by simp only[aK];omega) rfl rfl rfl) (fun⟨A4,c4⟩ _=>?_)
    refine aT ?_
    refine cG<|dh ((A3,c3),(A4,c4)) (trivial) (hh:=(fun _ h=>h.msub ms))
   refine pE rfl ((j3 (cs:= []) dD jx Eg rfl rfl rfl rfl rfl).mem (H'':=fun g=>af (.slice (some ⟨g,0,none⟩) 0 0) ([]:List aM)::_) fun g w h=>bj (α:=aM) (m:=0) [] rfl (by simp) rfl (by decide) h) (fun go _=>?_)
   refine pE rfl ((j3 (cs:= []) aJ bY Tryz.zeroValue3 rfl rfl rfl rfl rfl).mem (H'':=fun g=>af (.slice (some ⟨g,0,none⟩) 0 0) ([]:List Int)::_) fun g w h=>bj (α:=Int) (m:=0) [] rfl (by simp) rfl (by decide) h) (fun ga _=>?_)
   refine pE rfl (fV (α:=Int) (bytes:=8) (xs:= []) (ys:=(aj fs k).locals) (xs':=(aj fs k).locals) rfl aJ (bQ e9) rfl fc (.ro hl) (by simp only[aK];omega) (by simp only[aK];omega) rfl rfl rfl) (fun⟨A3,c3⟩ _=>?_)
   refine aT ?_
   refine pE rfl (fV (α:=aM) (bytes:=16) (xs:= []) (ys:=(aj fs k).code) (xs':=(aj fs k).code) rfl dD (bQ mx) rfl fc (.ro hc) (by simp only[aK];omega) (by simp only[aK];omega) rfl rfl rfl) (fun⟨A4,c4⟩ _=>?_)
   refine aT ?_
   refine cG<|dh ((A3,c3),(A4,c4)) (trivial) (hh:=(fun _ h=>h.msub ms))
  rintro⟨⟨A3,c3⟩,⟨A4,c4⟩⟩ _
  refine aT ?_
  intro g5 _
  refine oE (dx (α:=ai) (bytes:=64) (aj fs k) [af (.slice A3 (aj fs k).locals.length c3) (aj fs k).locals,af (.slice A4 (aj fs k).code.length c4) (aj fs k).code] htk et (bQ og) rfl (wg fc fc fc fc) (lO hi) (by omega) (by omega) rfl rfl rfl) (fun⟨A5,c5⟩ _=>?_)
  refine aT ?_
  refine dm (k+1,A5,c5) (by show k+1<=_;omega) (by show _ - _<_ - _;omega)
 obtain rfl:k=fs.length:=by omega
 rw[bL]
 refine aa ?_
 intro w hw
 exact⟨(A',c'),trivial,rfl,hw.msub ms⟩
theorem Cw.oform {α:Type} [Ow α] {B:Nat} {w0 w:World} {H H':List aq} {v:Value} {xs:List α} (hw:Cw B w0 H w) (hp:bu H (af v xs) H'):∃A c,v= .slice A xs.length c:=by
 obtain⟨F,h,_⟩:=hw.rd hp
 obtain⟨A,c,e,_⟩:=bn.sl (show bn w F v xs from h) |>.form
 exact⟨A,c,e⟩
end
section
def iQ:List ai:= [⟨0,[],0,pt⟩]
def HH:List ai:= [⟨0,[],0,[⟨2,0⟩,⟨13,0⟩]⟩]
theorem jW (w:World):Calls Tryz.prog 104 #[] w fun e w'=> ∃g:Nat,True/\e= .returned (.agg #[.slice (some ⟨g,0,none⟩) 1 1])/\Cw w.heap.size w [af (.slice (some ⟨g,0,none⟩) 1 1) iQ] w':=by
 refine enter Tryz.func104 rfl Tryz.ntmps104 rfl<|aa ?_
 refine fun g1 _=>aa ?_
 refine eI rfl Tryz.call92 (fun w hw=>AG w) (fun gl _=>aa ?_)
 refine fun g2 _=>aa ?_
 intro w hw
 refine⟨g2,trivial,rfl,?_⟩
 have h:=Cw.nilO Int hw
 exact nE (H:= []) (xs:=iQ) (kR.cons (Hel:= [af (.slice none 0 0) ([]:List Int),af (.slice (some ⟨gl,0,none⟩) 10 10) pt]) (cs:= [_,_,_,_]) (lO (f:=⟨0,[],0,pt⟩) (by decide)) kR.nil_) rfl (by decide) (h.msub (T:= [ah g2 _ _,af (.slice none 0 0) ([]:List Int),af (.slice (some ⟨gl,0,none⟩) 10 10) _]) ms)
end
section
theorem wW (a b:Int):bV a b=bV b a:=by
 unfold bV bo
 by_cases h1:a=b
 ·simp[h1]
 have h1':¬b=a:=fun e=>h1 e.symm
 by_cases h2:a=3/\b=2
 ·obtain⟨rfl,rfl⟩:=h2;simp
 by_cases h3:b=3/\a=2
 ·obtain⟨rfl,rfl⟩:=h3;simp
 simp[h1,h1',h2,h3]
theorem wu:∀(a b:List Int),aR a b=aR b a
 | [],[]=>rfl
 | [],_::_=>rfl
 | _::_,[]=>rfl
 | a::l,b::m=>by simp only[aR];rw[wW a b,wu l m]
theorem t3 {t:Int} (h:1<=t/\t<=3):t=1\/t=2\/t=3:=by omega
theorem By {a b:Int} (ha:1<=a/\a<=3) (hb:1<=b/\b<=3) (h:bV a b≠0):1<=bV a b/\bV a b<=3:=by
 rcases t3 ha with rfl | rfl | rfl <;> rcases t3 hb with rfl | rfl | rfl <;> revert h <;> decide
theorem uU {a b c:Int} (ha:1<=a/\a<=3) (hb:1<=b/\b<=3) (hc:1<=c/\c<=3) (h1:bV a b≠0) (h2:bV b c≠0):bV (bV a b) c=bV a (bV b c):=by
 rcases t3 ha with rfl | rfl | rfl <;> rcases t3 hb with rfl | rfl | rfl <;> rcases t3 hc with rfl | rfl | rfl <;> revert h1 h2 <;> decide
theorem y7 {a b c:Int} (ha:1<=a/\a<=3) (hb:1<=b/\b<=3) (hc:1<=c/\c<=3) (h1:bV a b≠0) (h2:bV b c=0):bV (bV a b) c=0:=by
 rcases t3 ha with rfl | rfl | rfl <;> rcases t3 hb with rfl | rfl | rfl <;> rcases t3 hc with rfl | rfl | rfl <;> revert h1 h2 <;> decide
theorem tS {a b:Int} (h:bV a b≠0):bo a (bV a b)=true/\bo b (bV a b)=true:=by
 have r:∀x:Int,bo x x=true:=fun x=>by unfold bo;simp
 unfold bV at h⊢
 by_cases h1:bo a b=true
 ·rw[if_pos h1];exact⟨h1,r b⟩
 rw[if_neg h1] at h⊢
 by_cases h2:bo b a=true
 ·rw[if_pos h2];exact⟨r a,h2⟩
 rw[if_neg h2] at h;exact absurd rfl h
theorem ig {a b:Int} {l m j:List Int} (h:aR (a::l) (b::m)=some j):bV a b≠0/\∃k,aR l m=some k/\j=bV a b::k:=by
 simp only[aR] at h
 split at h
 ·cases h
 rename_i h0
 cases e:aR l m with
 | none=>rw[e] at h;cases h
 | some k=>
  rw[e] at h
  simp only[Option.map_some,az] at h
  exact⟨h0,k,rfl,h.symm⟩
theorem tk:∀{a b j:List Int},aR a b=some j->(∀t∈a,1<=t/\t<=3)->(∀t∈b,1<=t/\t<=3)->∀t∈j,1<=t/\t<=3
 | [],[],j,h,_,_=>by simp[aR] at h;subst h;simp
 | [],_::_,j,h,_,_=>by simp[aR] at h
 | _::_,[],j,h,_,_=>by simp[aR] at h
 | a::l,b::m,j,h,ha,hb=>by
  obtain⟨h0,k,hk,rfl⟩:=ig h
  intro t ht
  rcases cu.1 ht with rfl | ht
  ·exact By (ha a (by simp)) (hb b (by simp)) h0
  exact tk hk (fun t h=>ha t (by simp[h])) (fun t h=>hb t (by simp[h])) t ht
theorem wq:∀{a:List Int},(∀t∈a,1<=t/\t<=3)->aR a a=some a
 | [],_=>rfl
 | a::l,h=>by
  have ha:=h a (by simp)
  have e:bV a a=a:=by unfold bV bo;simp
  simp only[aR]
  rw[if_neg (by rw[e];omega),wq (fun t ht=>h t (by simp[ht])),e]
  rfl
theorem lg:∀{a b j:List Int} {i:Nat},aR a b=some j->i<j.length->bo (a.getD i 0) (j.getD i 0)=true/\bo (b.getD i 0) (j.getD i 0)=true
 | [],[],j,i,h,hi=>by simp[aR] at h;subst h;simp at hi
 | [],_::_,j,_,h,_=>by simp[aR] at h
 | _::_,[],j,_,h,_=>by simp[aR] at h
 | a::l,b::m,j,i,h,hi=>by
  obtain⟨h0,k,hk,rfl⟩:=ig h
  cases i with
  | zero=>exact tS h0
  | succ i=>
   have:=lg (i:=i) hk (by simpa using hi)
   simpa using this
theorem uA:∀{a b c x r:List Int},(∀t∈a,1<=t/\t<=3)->(∀t∈b,1<=t/\t<=3)->(∀t∈c,1<=t/\t<=3)->aR a b=some x->aR b c=some r->aR x c=aR a r
 | [],[],[],x,r,_,_,_,h1,h2=>by simp[aR] at h1 h2;subst h1 h2;rfl
 | [],[],_::_,_,_,_,_,_,_,h=>by simp[aR] at h
 | [],_::_,_,_,_,_,_,_,h,_=>by simp[aR] at h
 | _::_,[],_,_,_,_,_,_,h,_=>by simp[aR] at h
 | _::_,_::_,[],_,_,_,_,_,_,h=>by simp[aR] at h
 | a::l,b::m,c::n,x,r,ha,hb,hc,h1,h2=>by
  obtain⟨h3,k,hk,rfl⟩:=ig h1
  obtain⟨h4,q,hq,rfl⟩:=ig h2
  simp only[aR]
  rw[uU (ha a (by simp)) (hb b (by simp)) (hc c (by simp)) h3 h4,uA (fun t h=>ha t (by simp[h])) (fun t h=>hb t (by simp[h])) (fun t h=>hc t (by simp[h])) hk hq]
theorem yu:∀{a b c x:List Int},(∀t∈a,1<=t/\t<=3)->(∀t∈b,1<=t/\t<=3)->(∀t∈c,1<=t/\t<=3)->aR a b=some x->aR b c=none->aR x c=none
 | [],[],[],x,_,_,_,h1,h2=>by simp[aR] at h2
 | [],[],_::_,x,_,_,_,h1,_=>by simp[aR] at h1;subst h1;rfl
 | [],_::_,_,_,_,_,_,h,_=>by simp[aR] at h
 | _::_,[],_,_,_,_,_,h,_=>by simp[aR] at h
 | a::l,b::m,[],x,_,_,_,h,_=>by
  obtain⟨_,k,_,rfl⟩:=ig h
  rfl
 | a::l,b::m,c::n,x,ha,hb,hc,h1,h2=>by
  obtain⟨h3,k,hk,rfl⟩:=ig h1
  simp only[aR] at h2⊢
  by_cases h4:bV b c=0
  ·rw[if_pos (y7 (ha a (by simp)) (hb b (by simp)) (hc c (by simp)) h3 h4)]
  rw[if_neg h4] at h2
  have h5:aR m n=none:=by
   cases e:aR m n with
   | none=>rfl
   | some q=>rw[e] at h2;cases h2
  rw[yu (fun t h=>ha t (by simp[h])) (fun t h=>hb t (by simp[h])) (fun t h=>hc t (by simp[h])) hk h5]
  split <;> rfl
end
section
def Le (a b:List Int):Prop:=a.length=b.length/\∀i,i<a.length->bo (a.getD i 0) (b.getD i 0)=true
theorem Cf (t:Int):bo t t=true:=by unfold bo;simp
theorem sj {a b:Int} :bo a b=true↔a=b\/(a=3/\b=2):=by unfold bo;simp
theorem zL {a b c:Int} (h1:bo a b=true) (h2:bo b c=true):bo a c=true:=by
 rw[sj] at *;omega
theorem Le.refl (a:List Int):Le a a:=⟨rfl,fun _ _=>Cf _⟩
theorem Le.trans {a b c:List Int} (h1:Le a b) (h2:Le b c):Le a c:=⟨h1.1.trans h2.1,fun i hi=>zL (h1.2 i hi) (h2.2 i (by rw[<-h1.1];exact hi))⟩
theorem eK {l:List Int} {k i:Nat} (h:i<k):(l.take k).getD i 0=l.getD i 0:=by
 rw[ac,bO,if_pos h,<-ac]
theorem gi {l:List Int} {k i:Nat} :(l.drop k).getD i 0=l.getD (k+i) 0:=by
 rw[ac,bC,<-ac]
theorem q6 {l m:List Int} {i:Nat} (h:i<l.length):(l++m).getD i 0=l.getD i 0:=by
 rw[ac,cq h,<-ac]
theorem qZ {l m:List Int} {i:Nat} (h:l.length<=i):(l++m).getD i 0=m.getD (i - l.length) 0:=by
 rw[ac,bq h,<-ac]
theorem Le.take {a b:List Int} (h:Le a b) (k:Nat):Le (a.take k) (b.take k):=⟨by rw[am,am,h.1],fun i hi=>by
 rw[am] at hi
 rw[eK (by omega),eK (by omega)]
 exact h.2 i (by omega)⟩
theorem Le.drop {a b:List Int} (h:Le a b) (k:Nat):Le (a.drop k) (b.drop k):=⟨by rw[aA,aA,h.1],fun i hi=>by
 rw[aA] at hi
 rw[gi,gi]
 exact h.2 _ (by omega)⟩
theorem Le.app {a b c d:List Int} (h1:Le a b) (h2:Le c d):Le (a++c) (b++d):=⟨by rw[ag,ag,h1.1,h2.1],fun i hi=>by
 rw[ag] at hi
 by_cases h:i<a.length
 ·rw[q6 h,q6 (by rw[<-h1.1];exact h)];exact h1.2 i h
 rw[qZ (by omega),qZ (by rw[<-h1.1];omega),<-h1.1];exact h2.2 _ (by omega)⟩
theorem jE {l:List Int} {w:Bool} (h:0<l.length):dZ (l,w)=(l.getD (l.length - 1) 0,l.take (l.length - 1),w):=by unfold dZ;rw[if_neg (by show¬l.length=0;omega)]
theorem sN {w:Bool} :dZ ([],w)=(0,[],true):=rfl
theorem lX (xs:List Int):∀(k:Nat) (l:List Int),(cA xs k (l,true)).2=true
 | 0,_=>rfl
 | k+1,l=>by
  unfold cA
  rcases dP l.length with h | h
  ·have:l= []:=aE h
   subst this
   rw[sN]
   exact lX xs k _
  rw[jE h]
  exact lX xs k _
theorem lf (xs:List Int):∀(k:Nat) (l:List Int) (w:Bool),l.length<k->(cA xs k (l,w)).2=true
 | 0,_,_,h=>absurd h (mz _)
 | k+1,l,w,h=>by
  unfold cA
  rcases dP l.length with h0 | h0
  ·have:l= []:=aE h0
   subst this
   rw[sN]
   exact lX xs k _
  rw[jE h0]
  exact lf xs k _ _ (by rw[am];omega)
theorem jA (xs:List Int):∀(k:Nat) (l:List Int) (w:Bool),k<=l.length->k<=xs.length->
  (cA xs k (l,w)).1=l.take (l.length - k)/\((cA xs k (l,w)).2=false↔w=false/\Le (l.drop (l.length - k)) (xs.take k))
 | 0,l,w,_,_=>by
  refine⟨by simp[cA],?_⟩
  simp only[cA]
  constructor
  ·intro h;exact⟨h,by rw[Nat.sub_zero,List.drop_length,List.take_zero];exact .refl _⟩
  exact fun h=>h.1
 | k+1,l,w,h,hx=>by
  unfold cA
  rw[jE (by omega)]
  obtain⟨i1,i2⟩:=jA xs k (l.take (l.length - 1)) (w || !bo (l.getD (l.length - 1) 0) (xs.getD k 0)) (by rw[am];omega) (by omega)
  have hl:(l.take (l.length - 1)).length=l.length - 1:=by rw[am];omega
  rw[hl] at i1 i2
  refine⟨?_,?_⟩
  ·rw[i1,List.take_take]
   congr 1
   omega
  show (cA xs k (l.take (l.length - 1),w || !bo (l.getD (l.length - 1) 0) (xs.getD k 0))).2=false↔_
  rw[i2]
  have hq:l.length - 1 - k=l.length - (k+1):=by omega
  rw[hq]
  constructor
  ·rintro⟨h1,h2⟩
   simp only[Bool.or_eq_false_iff,Bool.not_eq_false'] at h1
   refine⟨h1.1,by rw[aA,am];omega,fun i hi=>?_⟩
   rw[aA] at hi
   by_cases e:i=k
   ·subst e
    rw[gi,eK (by omega),show l.length - (i+1)+i=l.length - 1 from by omega]
    exact h1.2
   have:=h2.2 i (by rw[aA,hl];omega)
   rw[gi,eK (by omega),eK (by omega)] at this
   rw[gi,eK (by omega)]
   exact this
  rintro⟨h1,h2⟩
  simp only[Bool.or_eq_false_iff,Bool.not_eq_false']
  have hk:=h2.2 k (by rw[aA];omega)
  rw[gi,eK (by omega),show l.length - (k+1)+k=l.length - 1 from by omega] at hk
  refine⟨⟨h1,hk⟩,by rw[aA,hl,am];omega,fun i hi=>?_⟩
  rw[aA,hl] at hi
  have:=h2.2 i (by rw[aA];omega)
  rw[gi,eK (by omega)] at this
  rw[gi,eK (by omega),eK (by omega)]
  exact this
def tl (fs:List ai) (f:ai) (o:aM) (s:List Int):Option (List Int×List Int):=
 if o.c=2 then (if s.length<1 then none else some (s.drop (s.length - 1),[])) else
 if o.c=3 then (if s.length<1 then none else some (s.drop (s.length - 1),[s.getD (s.length - 1) 0,s.getD (s.length - 1) 0])) else
 if o.c=4 then (if s.length<2 then none else some (s.drop (s.length - 2),[s.getD (s.length - 1) 0,s.getD (s.length - 2) 0])) else
 if o.c=8 then some ([],[f.locals.getD o.a.toNat 0]) else if o.c=9 then some ([f.locals.getD o.a.toNat 0],[]) else
 if o.c=12 then some (gg (aj fs o.a.toNat),bi (aj fs o.a.toNat)) else
 if o.c=13 then (if s.length≠(bi f).length then none else some (bi f,[])) else some ((bH o.c).1,(bH o.c).2)
def gt (fs:List ai) (f:ai) (o:aM) (s:List Int):Option (List Int):=if (jj fs f o (s,false)).2=true then none else some (jj fs f o (s,false)).1
theorem iX {fs:List ai} {f:ai} {o:aM} {s T V:List Int} (h0:eR fs f o (s,false)=l7 (cA T T.length (s,false)) V) :
  gt fs f o s=if T.length<=s.length/\(s.take (s.length - T.length)++V).length<=8/\(cA T T.length (s,false)).2=false then some (s.take (s.length - T.length)++V) else none:=by
 obtain⟨l',w',e⟩:∃l' w',cA T T.length (s,false)=(l',w'):=⟨_,_,rfl⟩
 have h1:gt fs f o s=if (w' || decide (8<(l'++V).length))=true then none else some (l'++V):=by
  unfold gt jj
  rw[h0,e]
  rfl
 rw[h1,e]
 by_cases hl:T.length<=s.length
 ·obtain⟨e1,e2⟩:=jA T T.length s false hl (aD _)
  rw[e] at e1
  have e1:l'=s.take (s.length - T.length):=e1
  subst e1
  by_cases h8:(s.take (s.length - T.length)++V).length<=8
  ·cases w'
   ·rw[decide_eq_false (by omega)]
    exact(if_pos ⟨hl,h8,rfl⟩).symm
   rw[Bool.true_or]
   exact(if_neg (fun h=>by cases h.2.2)).symm
  rw[decide_eq_true (by omega),Bool.or_true]
  exact(if_neg (fun h=>h8 h.2.1)).symm
 have:=lf T T.length s false (by omega)
 rw[e] at this
 have this:w'=true:=this
 subst this
 rw[Bool.true_or]
 exact(if_neg (fun h=>hl h.1)).symm
theorem oC {s:List Int} {k:Nat} (h:k+1<=s.length):cA (s.drop (s.length - (k+1))) (k+1) (s,false)=(s.take (s.length - (k+1)),false):=by
 obtain⟨e1,e2⟩:=jA (s.drop (s.length - (k+1))) (k+1) s false h (by rw[aA];omega)
 have:(cA (s.drop (s.length - (k+1))) (k+1) (s,false)).2=false:=e2.2 ⟨rfl,by rw[aN (by rw[aA];omega)];exact .refl _⟩
 exact Prod.ext e1 this
theorem B0 (fs:List ai) (f:ai) (o:aM) (s:List Int):gt fs f o s=match tl fs f o s with
  | none=>none
  | some (T,V)=>if T.length<=s.length/\(s.take (s.length - T.length)++V).length<=8/\(cA T T.length (s,false)).2=false then some (s.take (s.length - T.length)++V) else none:=by
 unfold tl
 by_cases h2:o.c=2
 ·rw[if_pos h2]
  by_cases hl:s.length<1
  ·rw[if_pos hl]
   have:s= []:=aE (by omega)
   subst this
   unfold gt jj eR
   rw[if_pos h2]
   rfl
  rw[if_neg hl]
  have e:=oC (s:=s) (k:=0) (by omega)
  have hd:(s.drop (s.length - 1)).length=1:=by rw[aA];omega
  refine iX ?_
  rw[hd,e]
  unfold eR
  rw[if_pos h2,jE (by omega)]
  simp[l7]
 rw[if_neg h2]
 by_cases h3:o.c=3
 ·rw[if_pos h3]
  by_cases hl:s.length<1
  ·rw[if_pos hl]
   have:s= []:=aE (by omega)
   subst this
   unfold gt jj eR
   rw[if_neg h2,if_pos h3]
   rfl
  rw[if_neg hl]
  have e:=oC (s:=s) (k:=0) (by omega)
  have hd:(s.drop (s.length - 1)).length=1:=by rw[aA];omega
  refine iX ?_
  rw[hd,e]
  unfold eR
  rw[if_neg h2,if_pos h3,jE (by omega)]
 rw[if_neg h3]
 by_cases h4:o.c=4
 ·rw[if_pos h4]
  by_cases hl:s.length<2
  ·rw[if_pos hl]
   unfold gt jj eR
   rw[if_neg h2,if_neg h3,if_pos h4]
   rcases dP s.length with h0 | h0
   ·have:s= []:=aE h0
    subst this
    rfl
   obtain⟨t,rfl⟩:∃t,s= [t]:=by
    match s,h0,hl with
    | [t],_,_=>exact⟨t,rfl⟩
   rfl
  rw[if_neg hl]
  have e:=oC (s:=s) (k:=1) (by omega)
  have hd:(s.drop (s.length - 2)).length=2:=by rw[aA];omega
  refine iX ?_
  rw[hd,e]
  unfold eR
  have hl1:(s.take (s.length - 1)).length=s.length - 1:=by rw[am];omega
  have p1:dZ (s,false)=(s.getD (s.length - 1) 0,s.take (s.length - 1),false):=jE (by omega)
  have p2:dZ (s.take (s.length - 1),false)=(s.getD (s.length - 2) 0,s.take (s.length - 2),false):=by
   rw[jE (by rw[hl1];omega),hl1,List.take_take,eK (by omega),show min (s.length - 1 - 1) (s.length - 1)=s.length - 2 from by omega,show s.length - 1 - 1=s.length - 2 from by omega]
  rw[if_neg h2,if_neg h3,if_pos h4]
  simp only[p1,p2]
 rw[if_neg h4]
 by_cases h8:o.c=8
 ·rw[if_pos h8]
  refine iX ?_
  unfold eR
  rw[if_neg h2,if_neg h3,if_neg h4,if_pos h8]
  rfl
 rw[if_neg h8]
 by_cases h9:o.c=9
 ·rw[if_pos h9]
  refine iX ?_
  unfold eR
  rw[if_neg h2,if_neg h3,if_neg h4,if_neg h8,if_pos h9]
  simp[l7]
 rw[if_neg h9]
 by_cases h12:o.c=12
 ·rw[if_pos h12]
  refine iX ?_
  unfold eR
  rw[if_neg h2,if_neg h3,if_neg h4,if_neg h8,if_neg h9,if_pos h12]
 rw[if_neg h12]
 by_cases h13:o.c=13
 ·rw[if_pos h13]
  have hS0:eR fs f o (s,false)=((cA (bi f) (bi f).length (s,false)).1,(cA (bi f) (bi f).length (s,false)).2 || decide (0<(cA (bi f) (bi f).length (s,false)).1.length)):=by
   unfold eR
   rw[if_neg h2,if_neg h3,if_neg h4,if_neg h8,if_neg h9,if_neg h12,if_pos h13]
  by_cases hl:s.length≠(bi f).length
  ·rw[if_pos hl]
   have:(eR fs f o (s,false)).2=true:=by
    rw[hS0]
    by_cases hs:s.length<(bi f).length
    ·rw[lf _ _ _ _ hs];rfl
    rw[(jA (bi f) _ s false (by omega) (aD _)).1,am,decide_eq_true (by omega),Bool.or_true]
   unfold gt jj
   rw[this]
   rfl
  rw[if_neg hl]
  have hl:s.length=(bi f).length:=by simpa using hl
  refine iX ?_
  have e1:=(jA (bi f) _ s false (by omega) (aD _)).1
  rw[hl,my,List.take_zero] at e1
  rw[hS0]
  obtain⟨l',w',e⟩:∃l' w',cA (bi f) (bi f).length (s,false)=(l',w'):=⟨_,_,rfl⟩
  rw[e] at e1⊢
  have e1:l'= []:=e1
  subst e1
  simp[l7]
 rw[if_neg h13]
 refine iX ?_
 unfold eR
 rw[if_neg h2,if_neg h3,if_neg h4,if_neg h8,if_neg h9,if_neg h12,if_neg h13]
end
section
theorem jz {fs:List ai} {f:ai} {o:aM} {s v:List Int} :gt fs f o s=some v↔
  ∃T V,tl fs f o s=some (T,V)/\T.length<=s.length/\(s.take (s.length - T.length)++V).length<=8/\Le (s.drop (s.length - T.length)) T/\v=s.take (s.length - T.length)++V:=by
 have hf:∀T:List Int,T.length<=s.length->((cA T T.length (s,false)).2=false↔Le (s.drop (s.length - T.length)) T):=fun T hT=>by
  rw[(jA T T.length s false hT (aD _)).2,bL]
  simp
 rw[B0]
 constructor
 ·intro h
  cases e:tl fs f o s with
  | none=>rw[e] at h;cases h
  | some p=>
   obtain⟨T,V⟩:=p
   rw[e] at h
   simp only[] at h
   split at h
   ·rename_i hc
    simp only[az] at h
    exact⟨T,V,rfl,hc.1,hc.2.1,(hf T hc.1).1 hc.2.2,h.symm⟩
   cases h
 rintro⟨T,V,e,h1,h2,h3,rfl⟩
 rw[e]
 simp only[]
 rw[if_pos ⟨h1,h2,(hf T h1).2 h3⟩]
theorem B6 {fs:List ai} {f:ai} {o:aM} {a b T V:List Int} (h:Le a b) (e:tl fs f o b=some (T,V)) (hT:Le (b.drop (b.length - T.length)) T) (hl:T.length<=b.length) :
  ∃T' V',tl fs f o a=some (T',V')/\T'.length=T.length/\Le (a.drop (a.length - T.length)) T'/\Le V' V:=by
 have hlen:=h.1
 have fix:∀T V:List Int,Le (b.drop (b.length - T.length)) T->Le (a.drop (a.length - T.length)) T:=fun T V hT=>by rw[hlen];exact(h.drop _).trans hT
 have one:∀i,i<a.length->Le [a.getD i 0] [b.getD i 0]:=fun i hi=>⟨rfl,fun j hj=>by
  have:j=0:=by simpa using hj
  subst this
  exact h.2 i hi⟩
 unfold tl at e⊢
 by_cases h2:o.c=2
 ·rw[if_pos h2] at e⊢
  split at e
  ·cases e
  rename_i hb
  simp only[az,aW] at e
  obtain⟨rfl,rfl⟩:=e
  rw[if_neg (by omega)]
  refine⟨_,_,rfl,by rw[aA,aA,hlen],?_,.refl _⟩
  rw[aA,show b.length - (b.length - 1)=1 from by omega]
  exact .refl _
 rw[if_neg h2] at e⊢
 by_cases h3:o.c=3
 ·rw[if_pos h3] at e⊢
  split at e
  ·cases e
  rename_i hb
  simp only[az,aW] at e
  obtain⟨rfl,rfl⟩:=e
  rw[if_neg (by omega)]
  refine⟨_,_,rfl,by rw[aA,aA,hlen],?_,?_⟩
  ·rw[aA,show b.length - (b.length - 1)=1 from by omega]
   exact .refl _
  rw[<-hlen]
  exact(one _ (by omega)).app (one _ (by omega))
 rw[if_neg h3] at e⊢
 by_cases h4:o.c=4
 ·rw[if_pos h4] at e⊢
  split at e
  ·cases e
  rename_i hb
  simp only[az,aW] at e
  obtain⟨rfl,rfl⟩:=e
  rw[if_neg (by omega)]
  refine⟨_,_,rfl,by rw[aA,aA,hlen],?_,?_⟩
  ·rw[aA,show b.length - (b.length - 2)=2 from by omega]
   exact .refl _
  rw[<-hlen]
  exact(one _ (by omega)).app (one _ (by omega))
 rw[if_neg h4] at e⊢
 by_cases h8:o.c=8
 ·rw[if_pos h8] at e⊢
  simp only[az,aW] at e
  obtain⟨rfl,rfl⟩:=e
  exact⟨_,_,rfl,rfl,fix _ [] hT,.refl _⟩
 rw[if_neg h8] at e⊢
 by_cases h9:o.c=9
 ·rw[if_pos h9] at e⊢
  simp only[az,aW] at e
  obtain⟨rfl,rfl⟩:=e
  exact⟨_,_,rfl,rfl,fix _ [] hT,.refl _⟩
 rw[if_neg h9] at e⊢
 by_cases h12:o.c=12
 ·rw[if_pos h12] at e⊢
  simp only[az,aW] at e
  obtain⟨rfl,rfl⟩:=e
  exact⟨_,_,rfl,rfl,fix _ [] hT,.refl _⟩
 rw[if_neg h12] at e⊢
 by_cases h13:o.c=13
 ·rw[if_pos h13] at e⊢
  split at e
  ·cases e
  rename_i hb
  simp only[az,aW] at e
  obtain⟨rfl,rfl⟩:=e
  rw[if_neg (by omega)]
  exact⟨_,_,rfl,rfl,fix _ [] hT,.refl _⟩
 rw[if_neg h13] at e⊢
 simp only[az,aW] at e
 obtain⟨rfl,rfl⟩:=e
 exact⟨_,_,rfl,rfl,fix _ [] hT,.refl _⟩
theorem qE {fs:List ai} {f:ai} {o:aM} {a b v:List Int} (h:Le a b) (e:gt fs f o b=some v):∃u,gt fs f o a=some u/\Le u v:=by
 obtain⟨T,V,e1,e2,e3,e4,rfl⟩:=jz.1 e
 obtain⟨T',V',k1,k2,k3,k4⟩:=B6 h e1 e4 e2
 have hlen:=h.1
 have hle:Le (a.take (a.length - T'.length)++V') (b.take (b.length - T.length)++V):=by
  rw[k2,hlen]
  exact(h.take _).app k4
 exact⟨_,jz.2 ⟨T',V',k1,by rw[k2,hlen];exact e2,by rw[hle.1];exact e3,by rw[k2];exact k3,rfl⟩,hle⟩
def Ty (l:List Int):Prop:= ∀t∈l,1<=t/\t<=3
structure uh (fs:List ai) (f:ai):Prop where
 loc:Ty f.locals
 res:∀k,k<fs.length->(0<=(aj fs k).result/\(aj fs k).result<=2)
theorem Ty.app {a b:List Int} (h1:Ty a) (h2:Ty b):Ty (a++b):=fun t ht=>by
 rcases cE.1 ht with h | h
 ·exact h1 t h
 exact h2 t h
theorem Ty.at_ {a:List Int} (h:Ty a) {i:Nat} (hi:i<a.length):1<=a.getD i 0/\a.getD i 0<=3:=by
 rw[ac,ae hi]
 exact h _ (cc hi)
theorem Ty.one {t:Int} (h:1<=t/\t<=3):Ty [t]:=fun x hx=>by rw[bG.1 hx];exact h
theorem Ty.two {t u:Int} (h:1<=t/\t<=3) (h2:1<=u/\u<=3):Ty [t,u]:=fun x hx=>by
 rcases cu.1 hx with rfl | hx
 ·exact h
 rw[bG.1 hx];exact h2
theorem BZ {fs:List ai} {f:ai} {o:aM} {s v:List Int} (ht:uh fs f) (hok:BC fs f o) (hs:Ty s) (e:gt fs f o s=some v):Ty v:=by
 obtain⟨T,V,e1,e2,e3,e4,rfl⟩:=jz.1 e
 refine Ty.app (fun t h=>hs t (j8 h)) ?_
 have nil:Ty []:=fun _ h=>by cases h
 have res:∀k,k<fs.length->Ty (bi (aj fs k)):=fun k hk=>by
  unfold bi
  split
  ·exact nil
  rename_i hr
  have:=ht.res k hk
  exact .one (by omega)
 unfold tl at e1
 split at e1
 ·split at e1
  ·cases e1
  simp only[az,aW] at e1
  obtain⟨rfl,rfl⟩:=e1
  exact nil
 split at e1
 ·split at e1
  ·cases e1
  simp only[az,aW] at e1
  obtain⟨rfl,rfl⟩:=e1
  exact .two (hs.at_ (by omega)) (hs.at_ (by omega))
 split at e1
 ·split at e1
  ·cases e1
  simp only[az,aW] at e1
  obtain⟨rfl,rfl⟩:=e1
  exact .two (hs.at_ (by omega)) (hs.at_ (by omega))
 split at e1
 ·rename_i h8
  simp only[az,aW] at e1
  obtain⟨rfl,rfl⟩:=e1
  have:=hok.loc (.inl h8)
  exact .one (ht.loc.at_ (by omega))
 split at e1
 ·simp only[az,aW] at e1
  obtain⟨rfl,rfl⟩:=e1
  exact nil
 split at e1
 ·rename_i h12
  simp only[az,aW] at e1
  obtain⟨rfl,rfl⟩:=e1
  have:=hok.call h12
  exact res _ (by omega)
 split at e1
 ·split at e1
  ·cases e1
  simp only[az,aW] at e1
  obtain⟨rfl,rfl⟩:=e1
  exact nil
 simp only[az,aW] at e1
 obtain⟨rfl,rfl⟩:=e1
 unfold bH
 repeat (first | split | exact nil | exact .one (by decide) | exact .two (by decide) (by decide))
theorem Bx {a b c:Int} (hc:1<=c/\c<=3) (h1:bo a c=true) (h2:bo b c=true):bV a b≠0/\bo (bV a b) c=true:=by
 rw[sj] at h1 h2
 rcases t3 hc with rfl | rfl | rfl
 ·have e1:a=1:=by omega
  have e2:b=1:=by omega
  subst e1 e2;decide
 ·rcases h1 with rfl | ⟨rfl,_⟩ <;> rcases h2 with rfl | ⟨rfl,_⟩ <;> decide
 have e1:a=3:=by omega
 have e2:b=3:=by omega
 subst e1 e2;decide
theorem Le.cons_iff {a b:Int} {l m:List Int} :Le (a::l) (b::m)↔bo a b=true/\Le l m:=by
 constructor
 ·intro h
  refine⟨h.2 0 (by simp),by simpa using h.1,fun i hi=>?_⟩
  have:=h.2 (i+1) (by simpa using hi)
  simpa using this
 rintro⟨h1,h2⟩
 refine⟨by simp[h2.1],fun i hi=>?_⟩
 cases i with
 | zero=>simpa using h1
 | succ i=>simpa using h2.2 i (by simpa using hi)
theorem qn:∀{a b c:List Int},Ty c->Le a c->Le b c->∃j,aR a b=some j/\Le j c
 | [],[],c,_,h,_=>⟨[],rfl,h⟩
 | [],_::_,c,_,h,h'=>by have:=h.1.trans h'.1.symm;simp at this
 | _::_,[],c,_,h,h'=>by have:=h.1.trans h'.1.symm;simp at this
 | a::l,b::m,[],_,h,_=>by have:=h.1;simp at this
 | a::l,b::m,c::n,ht,h,h'=>by
  obtain⟨h1,h2⟩:=Le.cons_iff.1 h
  obtain⟨h3,h4⟩:=Le.cons_iff.1 h'
  obtain⟨k1,k2⟩:=Bx (ht c (by simp)) h1 h3
  obtain⟨j,k3,k4⟩:=qn (fun t h=>ht t (by simp[h])) h2 h4
  refine⟨bV a b::j,?_,Le.cons_iff.2 ⟨k2,k4⟩⟩
  simp only[aR]
  rw[if_neg k1,k3]
  rfl
theorem C6 {a b j:List Int} (h:aR a b=some j):Le a j/\Le b j:=by
 have hl:=ja h
 exact⟨⟨by omega,fun i hi=>(lg h (by omega)).1⟩,⟨by omega,fun i hi=>(lg h (by omega)).2⟩⟩
structure nt (fs:List ai) (f:ai) (M:Nat->Option (List Int)):Prop where
 m0:M 0=some []
 ok:∀k s,M k=some s->k<f.code.length/\Ty s/\∃v,gt fs f (aY f.code k) s=some v/\∀q∈cX (aY f.code k) k,∃s',M q.toNat=some s'/\Le v s'
structure nx (fs:List ai) (f:ai) (s:cU):Prop where
 m0:s.met.getD 0 false=true
 a0:s.at_.getD 0 []= []
 ty:∀i,s.met.getD i false=true->Ty (s.at_.getD i [])
 le:∀M,nt fs f M->∀i,s.met.getD i false=true->∃t,M i=some t/\Le (s.at_.getD i []) t
structure Up (s s':cU):Prop where
 up:∀i,s.met.getD i false=true->s'.met.getD i false=true/\Le (s.at_.getD i []) (s'.at_.getD i [])
 old:∀i,s'.met.getD i false=true->(s.met.getD i false=true/\s'.at_.getD i []=s.at_.getD i [])\/(i:Int)∈s'.todo
 td:∀x∈s.todo,x∈s'.todo
theorem Up.refl (s:cU):Up s s:=⟨fun _ h=>⟨h,.refl _⟩,fun _ h=> .inl ⟨h,rfl⟩,fun _ h=>h⟩
theorem Up.trans {a b c:cU} (h1:Up a b) (h2:Up b c):Up a c:=
 ⟨fun i h=>by
  obtain⟨k1,k2⟩:=h1.up i h
  obtain⟨k3,k4⟩:=h2.up i k1
  exact⟨k3,k2.trans k4⟩,fun i h=>by
  rcases h2.old i h with ⟨k1,k2⟩ | k
  ·rcases h1.old i k1 with ⟨k3,k4⟩ | k3
   ·exact .inl ⟨k3,k2.trans k4⟩
   exact .inr (h2.td _ k3)
  exact .inr k,fun x h=>h2.td x (h1.td x h)⟩
theorem yk {n:Nat} {s:cU} (h:eV n s) {i:Nat} (hm:s.met.getD i false=true):i<n:=by
 rcases it i n with h' | h'
 ·exact h'
 rw[ac,aB (by rw[h.ml];exact h')] at hm
 cases hm
theorem Bp {fs:List ai} {f:ai} {s:cU} (hF:eV f.code.length s) (hI:nx fs f s) {k:Nat} (hk:k<=f.code.length) {l:List Int} (hl:Ty l) (hle:∀M,nt fs f M->∃t,M k=some t/\Le l t) :
  ((bZ f.code.length s k l).1=true->nx fs f (bZ f.code.length s k l).2/\Up s (bZ f.code.length s k l).2/\(bZ f.code.length s k l).2.met.getD k false=true/\Le l ((bZ f.code.length s k l).2.at_.getD k []))/\
  ((bZ f.code.length s k l).1=false->∀M,¬nt fs f M):=by
 have set_:k<f.code.length->∀j:List Int,Ty j->(k=0->j= [])->(s.met.getD k false=true->Le (s.at_.getD k []) j)->Le l j->(∀M,nt fs f M->∃t,M k=some t/\Le j t)->
   nx fs f ⟨s.at_.set k j,s.met.set k true,s.todo++ [(k:Int)]⟩/\Up s ⟨s.at_.set k j,s.met.set k true,s.todo++ [(k:Int)]⟩/\(s.met.set k true).getD k false=true/\Le l ((s.at_.set k j).getD k []):=by
  intro hkn j hj h0 hup hlj hlm
  have hA:∀i,(s.at_.set k j).getD i []=if i=k then j else s.at_.getD i []:=fun i=>eX (by rw[hF.al];exact hkn)
  have hM:∀i,(s.met.set k true).getD i false=if i=k then true else s.met.getD i false:=fun i=>eX (by rw[hF.ml];exact hkn)
  refine⟨⟨?_,?_,fun i hi=>?_,fun M hMs i hi=>?_⟩,⟨fun i hi=>?_,fun i hi=>?_,fun x hx=>fO _ hx⟩,?_,?_⟩
  ·show (s.met.set k true).getD 0 false=true
   rw[hM]
   split
   ·rfl
   exact hI.m0
  ·show (s.at_.set k j).getD 0 []= []
   rw[hA]
   split
   ·rename_i e;exact h0 e.symm
   exact hI.a0
  ·show Ty ((s.at_.set k j).getD i [])
   have hi:(s.met.set k true).getD i false=true:=hi
   rw[hA]
   rw[hM] at hi
   split
   ·exact hj
   rename_i e;rw[if_neg e] at hi;exact hI.ty i hi
  ·show∃t,M i=some t/\Le ((s.at_.set k j).getD i []) t
   have hi:(s.met.set k true).getD i false=true:=hi
   rw[hA]
   rw[hM] at hi
   split
   ·rename_i e;subst e;exact hlm M hMs
   rename_i e;rw[if_neg e] at hi;exact hI.le M hMs i hi
  ·show (s.met.set k true).getD i false=true/\Le (s.at_.getD i []) ((s.at_.set k j).getD i [])
   rw[hA,hM]
   split
   ·rename_i e;subst e;exact⟨rfl,hup hi⟩
   exact⟨hi,.refl _⟩
  ·have hi:(s.met.set k true).getD i false=true:=hi
   rw[hM] at hi
   by_cases e:i=k
   ·subst e;right;exact ez _ (by simp)
   rw[if_neg e] at hi
   left
   refine⟨hi,?_⟩
   show (s.at_.set k j).getD i []=_
   rw[hA,if_neg e]
  ·rw[hM,if_pos rfl]
  rw[hA,if_pos rfl];exact hlj
 unfold bZ
 split
 ·rename_i hkn
  refine⟨fun h=>(by cases h),fun _ M hMs=>?_⟩
  obtain⟨t,h1,_⟩:=hle M hMs
  have:=(hMs.ok k t h1).1
  omega
 rename_i hkn
 split
 ·rename_i hm
  split
  ·rename_i hj
   refine⟨fun h=>(by cases h),fun _ M hMs=>?_⟩
   obtain⟨t,h1,h2⟩:=hle M hMs
   obtain⟨t',h3,h4⟩:=hI.le M hMs k hm
   rw[h1] at h3
   cases h3
   obtain⟨j,h5,_⟩:=qn (hMs.ok k t h1).2.1 h4 h2
   rw[hj] at h5
   cases h5
  rename_i j hj
  have hu:=C6 hj
  split
  ·rename_i he
   refine⟨fun _=>⟨hI,.refl _,hm,by rw[<-he];exact hu.2⟩,fun h=>(by cases h)⟩
  rename_i he
  refine⟨fun _=>set_ (by omega) j (tk hj (hI.ty k hm) hl) (fun e=>?_) (fun _=>hu.1) hu.2 (fun M hMs=>?_),fun h=>(by cases h)⟩
  ·subst e
   rw[hI.a0] at hj
   have:=(ja hj).2
   exact aE this
  obtain⟨t,h1,h2⟩:=hle M hMs
  obtain⟨t',h3,h4⟩:=hI.le M hMs k hm
  rw[h1] at h3
  cases h3
  obtain⟨j',h5,h6⟩:=qn (hMs.ok k t h1).2.1 h4 h2
  rw[hj] at h5
  cases h5
  exact⟨t,h1,h6⟩
 rename_i hm
 refine⟨fun _=>set_ (by omega) l hl (fun e=>?_) (fun h=>absurd h hm) (.refl _) hle,fun h=>(by cases h)⟩
 subst e
 exact absurd hI.m0 hm
theorem rj {fs:List ai} {f:ai} :∀{L:List Int} {s:cU} {l:List Int},eV f.code.length s->nx fs f s->(∀q∈L,0<=q/\q<=f.code.length)->l.length<=8->s.todo.length+L.length<5000->Ty l->(∀M,nt fs f M->∀q∈L,∃t,M q.toNat=some t/\Le l t)->
  (∀s',cg f.code.length s L l=some s'->nx fs f s'/\Up s s'/\∀q∈L,s'.met.getD q.toNat false=true/\Le l (s'.at_.getD q.toNat []))/\(cg f.code.length s L l=none->∀M,¬nt fs f M)
 | [],s,l,hF,hI,_,_,_,_,_=>by
  refine⟨fun s' e=>?_,fun e=>by simp[cg] at e⟩
  simp only[cg,az] at e
  subst e
  exact⟨hI,.refl _,fun q h=>by cases h⟩
 | a::L,s,l,hF,hI,hq,h8,ht,hl,hle=>by
  have ha:=hq a (by simp)
  rw[aI] at ht
  obtain⟨k1,k2⟩:=Bp hF hI (k:=a.toNat) (by omega) hl (fun M hM=>hle M hM a (by simp))
  obtain⟨f1,f2⟩:=jM hF (k:=a.toNat) (by omega) h8 (by omega)
  simp only[cg]
  cases hb:(bZ f.code.length s a.toNat l).1
  ·simp only[ju,if_false]
   exact⟨fun s' e=>(by cases e),fun _=>k2 hb⟩
  simp only[if_true]
  obtain⟨i1,i2,i3,i4⟩:=k1 hb
  obtain⟨j1,j2⟩:=rj (L:=L) (l:=l) f1 i1 (fun q h=>hq q (by simp[h])) h8 (by omega) hl (fun M hM q h=>hle M hM q (by simp[h]))
  refine⟨fun s' e=>?_,j2⟩
  obtain⟨m1,m2,m3⟩:=j1 s' e
  refine⟨m1,i2.trans m2,fun q h=>?_⟩
  rcases cu.1 h with rfl | h
  ·obtain⟨n1,n2⟩:=m2.up _ i3
   exact⟨n1,i4.trans n2⟩
  exact m3 q h
def Dn (fs:List ai) (f:ai) (s:cU) (i:Nat):Prop:= ∃v,gt fs f (aY f.code i) (s.at_.getD i [])=some v/\∀q∈cX (aY f.code i) i,s.met.getD q.toNat false=true/\Le v (s.at_.getD q.toNat [])
def Wk (fs:List ai) (f:ai) (s:cU):Prop:= ∀i:Nat,s.met.getD i false=true->(i:Int)∈s.todo\/Dn fs f s i
theorem Dn.up {fs:List ai} {f:ai} {s s':cU} {i:Nat} (h:Dn fs f s i) (hu:Up s s') (e:s'.at_.getD i []=s.at_.getD i []):Dn fs f s' i:=by
 obtain⟨v,h1,h2⟩:=h
 refine⟨v,by rw[e];exact h1,fun q hq=>?_⟩
 obtain⟨k1,k2⟩:=h2 q hq
 obtain⟨k3,k4⟩:=hu.up _ k1
 exact⟨k3,k2.trans k4⟩
theorem sb {fs:List ai} {f:ai} {o:aM} {s v:List Int} (h:gt fs f o s=some v):v.length<=8:=by
 obtain⟨T,V,_,_,h3,_,rfl⟩:=jz.1 h
 exact h3
def Tm (s:cU):Prop:= ∀x∈s.todo,s.met.getD x.toNat false=true
theorem D1 {n:Nat} {s:cU} (hF:eV n s) (h:Tm s) {k:Nat} (hk:k<=n) (l:List Int):Tm (bZ n s k l).2:=by
 have set_:k≠n->∀j:List Int,Tm ⟨s.at_.set k j,s.met.set k true,s.todo++ [(k:Int)]⟩:=fun hne j x hx=>by
  show (s.met.set k true).getD x.toNat false=true
  rw[eX (by rw[hF.ml];omega)]
  split
  ·rfl
  rename_i e
  rcases cE.1 hx with hx | hx
  ·exact h x hx
  rw[bG.1 hx] at e;exact absurd (a6 k) e
 unfold bZ
 split
 ·exact h
 rename_i hne
 split
 ·split
  ·exact h
  split
  ·exact h
  exact set_ hne _
 exact set_ hne _
theorem tM {n:Nat} :∀{L:List Int} {s s':cU} {l:List Int},eV n s->Tm s->(∀q∈L,0<=q/\q<=n)->l.length<=8->s.todo.length+L.length<5000->cg n s L l=some s'->Tm s'
 | [],s,s',l,_,h,_,_,_,e=>by
  simp only[cg,az] at e
  subst e
  exact h
 | a::L,s,s',l,hF,h,hq,h8,ht,e=>by
  simp only[cg] at e
  split at e
  ·have ha:=hq a (by simp)
   rw[aI] at ht
   obtain⟨f1,f2⟩:=jM hF (k:=a.toNat) (by omega) h8 (by omega)
   exact tM f1 (D1 hF h (by omega) l) (fun q h=>hq q (by simp[h])) h8 (by omega) e
  cases e
theorem zI {fs:List ai} {f:ai} (hok:lr fs f) (hty:uh fs f) {s:cU} (hF:eV f.code.length s) (hI:nx fs f s) (hW:Wk fs f s) (htm:Tm s) (ht:0<s.todo.length) (ht2:s.todo.length<=4000) :
  (∀s',iE fs f s=some s'->nx fs f s'/\Wk fs f s'/\Tm s')/\(iE fs f s=none->∀M,¬nt fs f M):=by
 obtain⟨n,hn⟩:∃n,s.todo.length=n+1:=⟨s.todo.length - 1,by omega⟩
 have hget:s.todo[n]? =some (s.todo.getD n 0):=by rw[ac,ae (by omega)];rfl
 have hmem:s.todo.getD n 0∈s.todo:=dJ hget
 have htd:=hF.td _ hmem
 have hmk:=htm _ hmem
 obtain⟨k,hk⟩:∃k:Nat,s.todo.getD n 0=(k:Int):=⟨(s.todo.getD n 0).toNat,by omega⟩
 rw[hk,a6] at hmk
 have hkl:k<f.code.length:=by omega
 have e:iE fs f s=match gt fs f (aY f.code k) (s.at_.getD k []) with
   | none=>none
   | some v=>cg f.code.length ⟨s.at_,s.met,s.todo.take n⟩ (cX (aY f.code k) k) v:=by
  unfold iE gt
  dsimp only
  rw[show s.todo.length - 1=n from by omega,hk,a6]
  split <;> rfl
 have hF0:eV f.code.length ⟨s.at_,s.met,s.todo.take n⟩:=⟨hF.al,hF.ml,by show (s.todo.take n).length<=_;rw[am];omega,hF.st,fun x hx=>hF.td x (j8 hx)⟩
 have hI0:nx fs f ⟨s.at_,s.met,s.todo.take n⟩:=⟨hI.m0,hI.a0,hI.ty,hI.le⟩
 have hT0:Tm ⟨s.at_,s.met,s.todo.take n⟩:=fun x hx=>htm x (j8 hx)
 have hl2:=mv (aY f.code k) k
 have hlt:(s.todo.take n).length+(cX (aY f.code k) k).length<5000:=by rw[am];omega
 rw[e]
 cases hv:gt fs f (aY f.code k) (s.at_.getD k []) with
 | none=>
  refine⟨fun s' h=>(by cases h),fun _ M hM=>?_⟩
  obtain⟨t,h1,h2⟩:=hI.le M hM k hmk
  obtain⟨_,_,v,h3,_⟩:=hM.ok k t h1
  obtain⟨u,h4,_⟩:=qE h2 h3
  rw[hv] at h4
  cases h4
 | some v=>
  obtain⟨c1,c2⟩:=rj hF0 hI0 (hok.to_ k hkl) (sb hv) hlt (BZ hty (hok.op k hkl) (hI.ty k hmk) hv) (fun M hM q hq=>by
   obtain⟨t,h1,h2⟩:=hI.le M hM k hmk
   obtain⟨_,_,v',h3,h4⟩:=hM.ok k t h1
   obtain⟨u,h5,h6⟩:=qE h2 h3
   rw[hv] at h5
   cases h5
   obtain⟨s',h7,h8⟩:=h4 q hq
   exact⟨s',h7,h6.trans h8⟩)
  refine⟨fun s' h=>?_,c2⟩
  obtain⟨i1,i2,i3⟩:=c1 s' h
  refine⟨i1,fun i hi=>?_,tM hF0 hT0 (hok.to_ k hkl) (sb hv) hlt h⟩
  rcases i2.old i hi with ⟨h1,h2⟩ | h1
  ·rcases hW i h1 with h3 | h3
   ·by_cases hx:(i:Int)∈s.todo.take n
    ·exact .inl (i2.td _ hx)
    have:(i:Int)=k:=by
     rw[<-mB n s.todo] at h3
     rcases cE.1 h3 with h3 | h3
     ·exact absurd h3 hx
     have:s.todo.drop n= [s.todo.getD n 0]:=by
      rw[jR (by omega),List.drop_of_length_le (by omega)]
      rw[ac,ae (by omega)]
      rfl
     rw[this,bG,hk] at h3
     exact h3
    have:i=k:=by omega
    subst this
    right
    have h2:s'.at_.getD i []=s.at_.getD i []:=h2
    exact⟨v,by rw[h2];exact hv,i3⟩
   exact .inr (Dn.up (s:=⟨s.at_,s.met,s.todo.take n⟩) h3 i2 h2)
  exact .inl h1
theorem tf {fs:List ai} {f:ai} (hok:lr fs f) (hty:uh fs f):∀(k:Nat) {s:cU},eV f.code.length s->nx fs f s->Wk fs f s->Tm s->mu f.code.length s<=4000->mu f.code.length s<k->
  (∀s',ic fs f k s=some s'->eV f.code.length s'/\nx fs f s'/\(∀i:Nat,s'.met.getD i false=true->Dn fs f s' i))/\(ic fs f k s=none->∀M,¬nt fs f M)
 | 0,_,_,_,_,_,_,h=>absurd h (mz _)
 | k+1,s,hF,hI,hW,hT,h4,hk=>by
  simp only[ic]
  by_cases h0:s.todo.length=0
  ·simp only[h0,if_true]
   refine⟨fun s' e=>?_,fun e=>(by cases e)⟩
   simp only[az] at e
   subst e
   refine⟨hF,hI,fun i hi=>?_⟩
   rcases hW i hi with h | h
   ·rw[aE h0] at h;cases h
   exact h
  simp only[h0,if_false]
  have htl:s.todo.length<=4000:=by unfold mu at h4;omega
  obtain⟨c1,c2⟩:=zI hok hty hF hI hW hT (by omega) htl
  cases e:iE fs f s with
  | none=>exact⟨fun s' h=>(by cases h),fun _=>c2 e⟩
  | some s1=>
   obtain⟨i1,i2,i3⟩:=c1 s1 e
   obtain⟨j1,j2⟩:=oD hok hF (by omega) htl e
   exact tf hok hty k j1 i1 i2 i3 (by omega) (by omega)
def MO (s:cU) (i:Nat):Option (List Int):=if s.met.getD i false=true then some (s.at_.getD i []) else none
theorem jO {s:cU} {i:Nat} {t:List Int} :MO s i=some t↔s.met.getD i false=true/\s.at_.getD i []=t:=by
 unfold MO
 split
 ·rename_i h
  exact⟨fun e=>⟨h,du e⟩,fun e=>by rw[e.2]⟩
 rename_i h
 exact⟨fun e=>(by cases e),fun e=>absurd e.1 h⟩
theorem wJ {fs:List ai} {f:ai} (hok:lr fs f) (hty:uh fs f) (hn:0<f.code.length) :
  (∀s,ll fs f=some s->eV f.code.length s/\nt fs f (MO s)/\∀M,nt fs f M->∀i t,MO s i=some t->∃u,M i=some u/\Le t u)/\(ll fs f=none->∀M,¬nt fs f M):=by
 have hst:eE f.code.length=⟨(List.replicate f.code.length ([]:List Int)).set 0 [],(List.replicate f.code.length false).set 0 true,[0]⟩:=by
  unfold eE bZ ec
  rw[if_neg (by omega),if_neg (by rw[kA];decide)]
  rfl
 have hA:∀i,(eE f.code.length).at_.getD i []= []:=fun i=>by
  rw[hst]
  show ((List.replicate f.code.length ([]:List Int)).set 0 []).getD i []= []
  rw[eX (by simpa using hn)]
  split
  ·rfl
  exact kA _ _ _
 have hM:∀i,(eE f.code.length).met.getD i false=if i=0 then true else false:=fun i=>by
  rw[hst]
  show ((List.replicate f.code.length false).set 0 true).getD i false=_
  rw[eX (by simpa using hn)]
  split
  ·rfl
  exact kA _ _ _
 have z:∀i,(eE f.code.length).met.getD i false=true->i=0:=fun i h=>by
  rw[hM] at h
  by_cases e:i=0
  ·exact e
  rw[if_neg e] at h;cases h
 have hI:nx fs f (eE f.code.length):=⟨by rw[hM];rfl,hA 0,fun i _=>by rw[hA];exact fun _ h=>(by cases h),fun M h i hi=>by
  have:=z i hi
  subst this
  exact⟨[],h.m0,by rw[hA];exact .refl _⟩⟩
 have hW:Wk fs f (eE f.code.length):=fun i hi=>by
  have:=z i hi
  subst this
  left
  rw[hst]
  simp
 have hT:Tm (eE f.code.length):=fun x hx=>by
  rw[hst] at hx
  have:x=0:=by simpa using hx
  subst this
  rw[hM];rfl
 obtain⟨o1,o2⟩:=qG hn
 have h40:=hok.n40
 obtain⟨c1,c2⟩:=tf hok hty (mu f.code.length (eE f.code.length)+1) o1 hI hW hT (by omega) (by omega)
 refine⟨fun s e=>?_,c2⟩
 obtain⟨k1,k2,k3⟩:=c1 s e
 refine⟨k1,⟨jO.2 ⟨k2.m0,k2.a0⟩,fun i t h=>?_⟩,fun M hMs i t h=>?_⟩
 ·obtain⟨h1,h2⟩:=jO.1 h
  subst h2
  refine⟨yk k1 h1,k2.ty i h1,?_⟩
  obtain⟨v,h3,h4⟩:=k3 i h1
  refine⟨v,h3,fun q hq=>?_⟩
  obtain⟨h5,h6⟩:=h4 q hq
  exact⟨_,jO.2 ⟨h5,rfl⟩,h6⟩
 obtain⟨h1,h2⟩:=jO.1 h
 subst h2
 exact k2.le M hMs i h1
theorem Gl {fs:List ai} (h:cD fs=0) {k:Nat} (hk:k<fs.length):uh fs (aj fs k):=by
 obtain⟨_,_,hall⟩:=iA h
 obtain⟨_,_,_,h4,_⟩:=kE (hall _ (iM hk))
 refine⟨fun t ht=>?_,fun j hj=>?_⟩
 ·have:=h4 t ht;omega
 obtain⟨_,_,g3,_⟩:=kE (hall _ (iM hj))
 exact g3
end
end Go.Proofs.YthfkmcbblnbfaaaGreatDoor
