/- Texts of one proof, one behind the other: lemmas alone. -/
import Derived.Test.YthfkmcbblnbfaaaGreatDoorM0U
import Derived.Test.YthfkmcbblnbfaaaGreatDoorM29U
import Derived.Test.YthfkmcbblnbfaaaGreatDoorM30U
import Derived.Test.YthfkmcbblnbfaaaGreatDoorM18U
import Derived.Test.YthfkmcbblnbfaaaGreatDoorM28U
import Derived.Test.YthfkmcbblnbfaaaGreatDoorM17U
import Derived.Test.YthfkmcbblnbfaaaGreatDoorM26U

namespace Go.Proofs.YthfkmcbblnbfaaaGreatDoor
set_option maxRecDepth 100000
set_option maxHeartbeats 16000000
open Go.RowKit
section
def bQ (n:Nat):cy->List Int->List Int->Option cy
 | s,[],_=>some s
 | s,to_::r,l=>if (bG n s to_.toNat l).1=true then bQ n (bG n s to_.toNat l).2 r l else none
def jh (fs:List ah) (f:ah) (s:cy):Option cy:=
 let k:=(s.todo.getD (s.todo.length - 1) 0).toNat
 let t:=jO fs f (aK f.code k) (s.at_.getD k [],false)
 if t.2=true then none else bQ f.code.length ⟨s.at_,s.met,s.todo.take (s.todo.length - 1)⟩ (cH (aK f.code k) k) t.1
structure dC (n:Nat) (s:cy):Prop where
 al:s.at_.length=n
 ml:s.met.length=n
 tl:s.todo.length<=5000
 st:∀i,(s.at_.getD i []).length<=8
 td:∀x∈s.todo,0<=x/\x<n
theorem jt {n:Nat} {s:cy} (h:dC n s) {k:Nat} (hk:k<=n) {l:List Int} (hl:l.length<=8) (ht:s.todo.length<5000):dC n (bG n s k l).2/\(bG n s k l).2.todo.length<=s.todo.length+1:=by
 have key:k≠n->∀j:List Int,j.length<=8->dC n ⟨s.at_.set k j,s.met.set k true,s.todo++ [(k:Int)]⟩/\(s.todo++ [(k:Int)]).length<=s.todo.length+1:=fun hne j hj=>by
  refine⟨⟨by simp[h.al],by simp[h.ml],by simp only[ag,br];omega,fun i=>?_,fun x hx=>?_⟩,by simp⟩
  ·show ((s.at_.set k j).getD i []).length<=8
   rw[eV (by rw[h.al];omega)]
   split
   ·exact hj
   exact h.st i
  rcases cS.1 hx with hx | hx
  ·exact h.td x hx
  rw[dd.1 hx];omega
 unfold bG
 split
 ·exact⟨h,Nat.le_succ _⟩
 rename_i hne
 split
 ·split
  ·exact⟨h,Nat.le_succ _⟩
  rename_i j hj
  split
  ·exact⟨h,Nat.le_succ _⟩
  exact key hne j (by have:=(iD hj).2;have:=h.st k;omega)
 exact key hne l hl
section
variable {B:Nat} {w0:World} {H:List ar}
abbrev kW (g1 g5 gs gx:Nat) (As:Option Addr) (cs:Nat) (l:List Int):List ar:=
 [af g1 [.pointer (some ⟨gx,0,none⟩)] 221,af g5 [.pointer (some ⟨gs,0,none⟩)] 271,af gs [.slice As l.length cs,.bool false] 273,aj (.slice As l.length cs) l]
theorem xM (C:FC) (s:cy) (hd:List fp) (L:List (Value×List Int)) (At:Option Addr) (ct:Nat) (g1 g5 gs:Nat) (As:Option Addr) (cs:Nat) (k:Nat) (hk:k<=C.f.code.length) (hn:C.f.code.length<=40) (l:List Int) (hl:l.length<=8)
  (hR:fx C.f.code.length hd L s.at_) (hF:dC C.f.code.length s) (w:World) (hw:Cw B w0 (kW g1 g5 gs C.gx As cs l++(fR C s hd L At ct++H)) w) :
  Calls Tryz.prog 224 #[.int .i64 (k:Int),.pointer (some ⟨g1,0,none⟩),.pointer (some ⟨g5,0,none⟩)] w fun e w'=> ∃g:List fp×List (Value×List Int)×Option Addr×Nat,fx C.f.code.length g.1 g.2.1 (bG C.f.code.length s k l).2.at_/\
   e= .returned (.bool (!(bG C.f.code.length s k l).1))/\Cw B w0 (kW g1 g5 gs C.gx As cs l++(fR C (bG C.f.code.length s k l).2 g.1 g.2.1 g.2.2.1 g.2.2.2++H)) w':=by
 refine bX Tryz.func224 rfl Tryz.ntmps224 rfl hw ?_
 dsimp only[kW,dE,e9]
 refine aa ?_
 refine iG [0,3,6,9,12,15,20,23,24,27] [] rfl [af g1 [.pointer (some ⟨C.gx,0,none⟩)] 221,af g5 [.pointer (some ⟨gs,0,none⟩)] 271,af gs [.slice As l.length cs,.bool false] 273]<|aa ?_
 refine pE rfl (eO rfl rfl rfl ik (fun w hw=>qg As cs l w (SF.at_ (SF.own rfl fc) hw) (by omega))) (fun⟨A4,c4⟩ _=>?_)
 try dsimp only
 refine Ef (fun w h=>mG (v:= .slice A4 l.length c4) (xs:=l) (L:=L) (pT (h.msub (.s fc (.s fc .r))))) ?_
 refine yn rfl rfl Tryz.call169 (fun w hw=>uf C s hd ((.slice A4 l.length c4,l)::L) At ct k hk hn l A4 c4 .new (hR.cons _) hF.ml (by have:=hF.tl;omega) (fun i=>by have:=hF.st i;omega) w (hw.msub ms)) (fun⟨hd2,L2,A5,c5⟩ hR2=>?_)
 refine a7 ?_
 intro w hw
 exact⟨(hd2,L2,A5,c5),hR2,rfl,hw.msub ms⟩
structure iY (fs:List ah) (f:ah):Prop where
 op:∀i,i<f.code.length->xw fs f (aK f.code i)
 to_:∀i,i<f.code.length->∀q∈cH (aK f.code i) i,0<=q/\q<=f.code.length
 n40:f.code.length<=40
theorem l7 {n:Nat} :∀{s s':cy} {L:List Int} {k:Nat} {l:List Int},k<L.length->bQ n s (L.take k) l=some s'->bQ n s (L.take (k+1)) l=if (bG n s' (L.getD k 0).toNat l).1=true then some (bG n s' (L.getD k 0).toNat l).2 else none
 | s,s',[],k,l,hk,_=>by simp at hk
 | s,s',a::L,0,l,_,h=>by
  simp only[List.take_zero,bQ,au] at h
  subst h
  simp[bQ]
 | s,s',a::L,k+1,l,hk,h=>by
  simp only[eZ,bQ] at h⊢
  split at h
  ·rename_i h1
   rw[if_pos h1,l7 (by simpa using hk) h]
   simp
  cases h
theorem l8 {n:Nat} :∀{s:cy} {L:List Int} {k:Nat} {l:List Int},bQ n s (L.take k) l=none->bQ n s L l=none
 | s,[],k,l,h=>by simpa using h
 | s,a::L,0,l,h=>by simp[bQ] at h
 | s,a::L,k+1,l,h=>by
  simp only[eZ,bQ] at h⊢
  split at h
  ·rename_i h1;rw[if_pos h1];exact l8 h
  rename_i h1;rw[if_neg h1]
theorem nN {n:Nat} :∀{s s':cy} {L:List Int} {l:List Int},dC n s->(∀q∈L,0<=q/\q<=n)->l.length<=8->s.todo.length+L.length<5000->bQ n s L l=some s'->dC n s'/\s'.todo.length<=s.todo.length+L.length
 | s,s',[],l,h,_,_,_,e=>by
  simp only[bQ,au] at e
  subst e
  exact⟨h,ay _⟩
 | s,s',a::L,l,h,hq,hl,ht,e=>by
  simp only[bQ] at e
  split at e
  ·have ha:=hq a (by simp)
   rw[aA] at ht
   obtain⟨h1,h2⟩:=jt h (k:=a.toNat) (by omega) hl (by omega)
   obtain⟨h3,h4⟩:=nN h1 (fun q hq'=>hq q (by simp[hq'])) hl (by omega) e
   exact⟨h3,by rw[aA];omega⟩
  cases e
theorem su {fs:List ah} {f:ah} {o:aW} {s l':kT} (e:jO fs f o s=l') (h:l'.2=false):l'.1.length<=8:=by
 subst e
 unfold jO at h⊢
 simp only[Bool.or_eq_false_iff,decide_eq_false_iff_not] at h
 show (fi fs f o s).1.length<=8
 omega
theorem jU (o:aW) (pc:Int):(cH o pc).length<=2:=by
 unfold cH
 repeat (first | split | simp)
theorem zQ (C:FC) (s:cy) (hd:List fp) (L:List (Value×List Int)) (At:Option Addr) (ct:Nat) (r:Option cy) (e:jh C.fs C.f s=r) (hok:iY C.fs C.f) (hp:aT w0 B (.slice C.Ap C.fs.length C.cp) C.fs) (hlo:aT w0 B (.slice C.A1 C.f.locals.length C.c1) C.f.locals) (hco:aT w0 B (.slice C.A2 C.f.code.length C.c2) C.f.code)
  (hR:fx C.f.code.length hd L s.at_) (hF:dC C.f.code.length s) (ht:0<s.todo.length) (ht2:s.todo.length<=4000) (w:World) (hw:Cw B w0 (fR C s hd L At ct++H) w) :
  Calls Tryz.prog 170 #[.pointer (some ⟨C.gx,0,none⟩)] w fun e w'=> ∃g:List fp×List (Value×List Int)×Option Addr×Nat,(match r with | some s'=>fx C.f.code.length g.1 g.2.1 s'.at_ | none=>True)/\
   e= .returned (.bool r.isSome)/\Cw B w0 ((match r with | some s'=>fR C s' g.1 g.2.1 g.2.2.1 g.2.2.2 | none=> [])++H) w':=by
 obtain⟨gx,fs,f,Ap,cp,A1,c1,A2,c2,Aa,ca,Am,cm⟩:=C
 obtain⟨at_,met,todo⟩:=s
 dsimp only[fR,dE,e9] at *
 obtain⟨n,hn⟩:∃n,todo.length=n+1:=⟨todo.length - 1,by omega⟩
 have hmem:todo.getD n 0∈todo:=by rw[ac,ae (by omega)];exact cL _
 have htd:=hF.td _ hmem
 obtain⟨k,hk⟩:∃k:Nat,todo.getD n 0=(k:Int):=⟨(todo.getD n 0).toNat,by have:=htd.1;omega⟩
 have hkl:k<f.code.length:=by have:=htd.2;omega
 obtain⟨T,b,eT⟩:∃T b,jO fs f (aK f.code k) (at_.getD k [],false)=(T,b):=⟨_,_,rfl⟩
 have e:(if b=true then none else bQ f.code.length ⟨at_,met,todo.take n⟩ (cH (aK f.code k) k) T)=r:=by
  unfold jh at e
  dsimp only at e
  rw[show todo.length - 1=n from by omega,hk,aV,eT] at e
  exact e
 have htl:(todo.take n).length=n:=by rw[an];omega
 have i1:=yq hco hkl
 refine bX Tryz.func170 rfl Tryz.ntmps170 rfl hw<|aa ?_
 intro g1 _
 refine aw ?_
 refine bV<|cV<|cz<|dJ (da fc Tryz.isAgg221 rfl rfl (by rfl)) rfl rfl ?_
 refine aw ?_
 refine aw ?_
 refine dJ (da fc i6 rfl rfl (by rfl)) rfl rfl ?_
 refine dJ (lw ap rfl rfl) rfl rfl<|dJ (sU rfl rfl rfl (by omega)) rfl rfl<|aw ?_
 refine bV<|cT (t:=3) (v':= .int .i64 (n:Int)) rfl (by congr 1;omega)<|aa ?_
 refine cQ (_) rfl ((SF.own rfl fc)) ?_
 refine jG rfl ((SF.own rfl fc)) ?_
 refine aw ?_
 refine bV<|ia (fun w h=>qB h (xs:=todo) fc) fun hcap=>?_
 refine cT (t:=4) (v':= .int .i64 (k:Int)) rfl (by rw[hk])<|aa ?_
 refine bF [0,3,6,9,12,15,18,21,24,29] [9] rfl<|aa ?_
 refine tE rfl (kZ (k:=n) ap bJ (by omega) rfl rfl rfl) ?_
 refine aw ?_
 refine aw ?_
 refine ix rfl (iy _ fc i8 rfl rfl rfl rfl rfl (by rfl) rfl (by rfl)) rfl rfl (.inl rfl) (fun _ _=>?_) gC
 refine xX<|dg (fun w h=>n4 (k:=n) (xs:=todo) (A:=At) (m:=todo.length) (c:=ct) (by omega) (h.msub (.s fc .r))) ?_
 have hin:=hR.el k hkl
 have h8:(at_.getD k []).length<=8:=hF.st k
 refine aa ?_
 refine cQ (_) rfl ((SF.own hR.hl fc)) ?_
 refine dQ rfl (SF.hdr (SF.own hR.hl fc) hkl) ?_
 refine lh (fun w h=>hin.form h fc) ?_
 rintro⟨A3,c3,hv⟩
 rw[hv] at hin
 refine bq (t:=34) (v':= .slice A3 (at_.getD k []).length c3) rfl (hv) ?_
 refine oE (eO rfl rfl rfl ik (fun w hw=>qg A3 c3 (at_.getD k []) w (hin.sl hw fc) (by omega))) (fun⟨A4,c4⟩ _=>?_)
 refine a7 ?_
 refine fun g2 _=>aa ?_
 intro g3 _
 refine gu (iy _ fc Tryz.sizeOf271 rfl rfl rfl rfl rfl (by rfl) rfl (by rfl)) rfl rfl (fun _ _=>?_)
 refine bV<|aa ?_
 refine iG [0,3,6,9,12,15,18,21,24,27,30,33,36,39,42,45,48,53] [] rfl [af g1 [.pointer (some ⟨gx,0,none⟩)] 221,af gx [.slice Ap fs.length cp,.int .i64 f.params,.slice A1 f.locals.length c1,.int .i64 f.result,.slice A2 f.code.length c2,.slice Aa f.code.length ca,.slice Am f.code.length cm,.slice At n ct] 224,af g3 [.pointer (some ⟨g2,0,none⟩)] 271]<|aa ?_
 refine tE rfl (bt fH j4 (.ro hco) (by omega) rfl rfl rfl) ?_
 refine tE rfl (gV (cs:= [_,_]) (SF.op (.ro hco) (by omega)) rfl rfl Hk j4) ?_
 refine yn rfl rfl Tryz.call222 (fun w hw=>B7 g2 fs f (aK f.code k) eT A4 Ap A1 A2 c4 cp c1 c2 (hok.op k hkl) hp hlo (by omega) w (hw.msub (.s fc (.s fc .r)))) (fun⟨A6,c6⟩ _=>?_)
 refine a7 ?_
 refine aO rfl (fun hb=>?_) (fun hb=>?_)
 ·rw[if_pos hb] at e
  subst e
  refine aa ?_
  intro w hw
  exact⟨(hd,L,At,ct),trivial,rfl,hw.msub ms⟩
 have hb:b=false:=hb
 subst hb
 have hT8:=su eT rfl
 have hT8:T.length<=8:=hT8
 rw[if_neg (by decide)] at e
 obtain⟨LL,hLL⟩:∃LL,cH (aK f.code k) k=LL:=⟨_,rfl⟩
 have hto:=hok.to_ k hkl
 have hl2:=jU (aK f.code k) k
 rw[hLL] at hto hl2 e
 have haft:∀w1,Sl w1 (.slice A2 f.code.length c2) f.code->Calls Tryz.prog 223 #[.slice A2 f.code.length c2,.int .i64 (k:Int)] w1 fun e w'=> ∃g:Option Addr×Nat,True/\e= .returned (.slice g.1 LL.length g.2)/\Cw w1.heap.size w1 [aj (.slice g.1 LL.length g.2) LL] w':=fun w1 h=>by
  have:=zj A2 c2 f.code k w1 h hkl
  rw[hLL] at this
  exact this
 refine aa ?_
 refine fE rfl Tryz.call223 (fun w hw=>haft w (hw.ro hco)) (fun⟨A7,c7⟩ _=>?_)
 refine a7 ?_
 obtain⟨C,hC⟩:∃C:FC,C=⟨gx,fs,f,Ap,cp,A1,c1,A2,c2,Aa,ca,Am,cm⟩:=⟨_,rfl⟩
 have hF0:dC f.code.length ⟨at_,met,todo.take n⟩:=⟨hF.al,hF.ml,by show (todo.take n).length<=_;omega,hF.st,fun x hx=>hF.td x (gn hx)⟩
 have hstep:∀(j:Nat) (g:cy×List fp×List (Value×List Int)×Option Addr×Nat),j<LL.length->((bQ f.code.length ⟨at_,met,todo.take n⟩ (LL.take j) T=some g.1/\dC f.code.length g.1/\g.1.todo.length<=n+j)/\fx f.code.length g.2.1 g.2.2.1 g.1.at_)->∀w,Cw B w0 ((fun g:cy×List fp×List (Value×List Int)×Option Addr×Nat=>kW g1 g3 g2 gx A6 c6 T++(fR C g.1 g.2.1 g.2.2.1 g.2.2.2.1 g.2.2.2.2++(aj (.slice A7 LL.length c7) LL::H))) g) w->
   Calls Tryz.prog 224 ([Value.int .i64 (LL.getD j 0)]++(#[.pointer (some ⟨g1,0,none⟩),.pointer (some ⟨g3,0,none⟩)]:Array Value).toList).toArray w fun e w'=> ∃p:Bool×cy×List fp×List (Value×List Int)×Option Addr×Nat,
    (if p.1 then bQ f.code.length ⟨at_,met,todo.take n⟩ LL T=none else (bQ f.code.length ⟨at_,met,todo.take n⟩ (LL.take (j+1)) T=some p.2.1/\dC f.code.length p.2.1/\p.2.1.todo.length<=n+(j+1))/\fx f.code.length p.2.2.1 p.2.2.2.1 p.2.1.at_)/\e= .returned (.bool p.1)/\Cw B w0 ((fun g:cy×List fp×List (Value×List Int)×Option Addr×Nat=>kW g1 g3 g2 gx A6 c6 T++(fR C g.1 g.2.1 g.2.2.1 g.2.2.2.1 g.2.2.2.2++(aj (.slice A7 LL.length c7) LL::H))) p.2) w':=by
  rintro j ⟨s',hd',L',A',c'⟩ hj ⟨⟨g1',g2',g3'⟩,g4'⟩ w1 hw1
  have hmem:LL.getD j 0∈LL:=by rw[ac,ae hj];exact cL _
  obtain⟨q,hq⟩:∃q:Nat,LL.getD j 0=(q:Int):=⟨(LL.getD j 0).toNat,by have:=hto _ hmem;omega⟩
  have hqn:q<=f.code.length:=by have:=hto _ hmem;omega
  have hsn:=l7 hj g1'
  rw[hq,aV] at hsn
  have hco2:=jt g2' hqn hT8 (by have:=hF.tl;dsimp only at *;omega)
  dsimp only at *
  rw[hq]
  refine(xM (H:=aj (.slice A7 LL.length c7) LL::H) C s' hd' L' A' c' g1 g3 g2 A6 c6 q (by rw[hC];exact hqn) (by rw[hC];exact hok.n40) T hT8 (by rw[hC];exact g4') (by rw[hC];exact g2') w1 (by rw[hC] at hw1⊢;exact hw1)).mono ?_
  rintro e1 w' ⟨⟨hd2,L2,A5,c5⟩,k1,k2,k3⟩
  rw[hC] at k1 k2
  dsimp only at k1 k2
  refine⟨(!(bG f.code.length s' q T).1,(bG f.code.length s' q T).2,hd2,L2,A5,c5),?_,k2,by rw[hC] at k3⊢;exact k3⟩
  dsimp only
  cases hb1:(bG f.code.length s' q T).1
  ·rw[hb1] at hsn
   rw[if_neg (by decide)] at hsn
   simp only[Bool.not_false,if_true]
   exact l8 hsn
  rw[hb1] at hsn
  rw[if_pos rfl] at hsn
  simp only[Bool.not_true,jZ,if_false]
  exact⟨⟨hsn,hco2.1,by omega⟩,k1⟩
 refine ei rfl D0 (fun w hw=>ua (B:=B) (w0:=w0) (fun j g=>(bQ f.code.length ⟨at_,met,todo.take n⟩ (LL.take j) T=some g.1/\dC f.code.length g.1/\g.1.todo.length<=n+j)/\fx f.code.length g.2.1 g.2.2.1 g.1.at_) (fun _=>bQ f.code.length ⟨at_,met,todo.take n⟩ LL T=none) (fun g:cy×List fp×List (Value×List Int)×Option Addr×Nat=>kW g1 g3 g2 gx A6 c6 T++(fR C g.1 g.2.1 g.2.2.1 g.2.2.2.1 g.2.2.2.2++(aj (.slice A7 LL.length c7) LL::H))) A7 c7 LL 224 _ Tryz.call224 (fun g=> .own rfl fc) (by omega) hstep (⟨at_,met,todo.take n⟩,hd,L,At,ct) ⟨⟨rfl,hF0,by show (todo.take n).length<=_;omega⟩,hR⟩ w (by dsimp only[fR,kW,dE,e9];rw[hC];dsimp only;rw[htl];exact hw.msub ms)) (fun⟨bb,s',hd',L',A',c'⟩ hg=>?_)
 refine a7 ?_
 intro w hw
 cases bb
 ·have hg:(bQ f.code.length ⟨at_,met,todo.take n⟩ (LL.take LL.length) T=some s'/\dC f.code.length s'/\s'.todo.length<=n+LL.length)/\fx f.code.length hd' L' s'.at_:=hg
  rw[bh,e] at hg
  obtain⟨⟨k1,_,_⟩,k2⟩:=hg
  subst k1
  refine⟨(hd',L',A',c'),k2,rfl,?_⟩
  dsimp only[fR,kW,dE,e9] at hw⊢
  rw[hC] at hw
  exact hw.msub ms
 have hg:bQ f.code.length ⟨at_,met,todo.take n⟩ LL T=none:=hg
 rw[e] at hg
 subst hg
 refine⟨(hd,L,At,ct),trivial,rfl,?_⟩
 dsimp only[fR,kW,dE,e9] at hw⊢
 exact hw.msub ms
end
end
section
def k0 (l:List Int):Nat:=l.countP fun t=>decide (t=3)
def gM (s:cy) (i:Nat):Nat:=if s.met.getD i false=true then k0 (s.at_.getD i []) else 9
def mj (n:Nat) (s:cy):Nat:=((List.range n).map (gM s)).sum
def mu (n:Nat) (s:cy):Nat:=mj n s+s.todo.length
theorem Cd {n k:Nat} {f g:Nat->Nat} (hk:k<n) (h:∀i,i≠k->f i=g i):((List.range n).map g).sum+f k=((List.range n).map f).sum+g k:=by
 induction n with
 | zero=>omega
 | succ n ih=>
  simp only[List.range_succ,iq,List.sum_append,cR,jX,List.sum_cons,List.sum_nil]
  by_cases e:k=n
  ·subst e
   have:(List.range k).map f=(List.range k).map g:=List.map_congr_left fun i hi=>h i (by have:=fe.1 hi;omega)
   rw[this]
   omega
  have:=ih (by omega)
  have:=h n (fun e'=>e e'.symm)
  omega
theorem u6 {a b:Int} (h:bZ a b≠0):bZ a b=a\/(a=3/\bZ a b=2):=by
 unfold bZ aU at *
 by_cases h1:a=b
 ·left;simp[h1]
 by_cases h2:a=3/\b=2
 ·right;obtain⟨rfl,rfl⟩:=h2;simp
 by_cases h3:b=3/\a=2
 ·left;obtain⟨rfl,rfl⟩:=h3;simp
 exfalso
 apply h
 have e1:¬(a=3/\b=2):=h2
 have e2:¬(b=3/\a=2):=h3
 have e3:¬b=a:=fun e=>h1 e.symm
 simp[h1,e3,e1,e2]
theorem oH:∀{a l j:List Int},aL a l=some j->k0 j<=k0 a/\(j≠a->k0 j<k0 a)
 | [],[],j,h=>by simp[aL] at h;subst h;simp
 | [],_::_,j,h=>by simp[aL] at h
 | _::_,[],j,h=>by simp[aL] at h
 | a::l,b::m,j,h=>by
  simp only[aL] at h
  split at h
  ·cases h
  rename_i h0
  cases e:aL l m with
  | none=>rw[e] at h;cases h
  | some k=>
   rw[e] at h
   simp only[Option.map_some,au] at h
   subst h
   obtain⟨h1,h2⟩:=oH e
   unfold k0 at *
   simp only[List.countP_cons]
   rcases u6 h0 with hb | ⟨rfl,hb⟩
   ·rw[hb]
    refine⟨by omega,fun hne=>?_⟩
    have:k≠l:=fun e=>hne (by rw[e])
    have:=h2 this
    omega
   rw[hb]
   simp only[decide_true,if_true]
   have:(if decide ((2:Int)=3)=true then 1 else 0)=0:=by decide
   rw[this]
   exact⟨by omega,fun _=>by omega⟩
theorem tA (l:List Int):k0 l<=l.length:=List.countP_le_length
theorem rG {n:Nat} {s:cy} (h:dC n s) {k:Nat} (hk:k<=n) {l:List Int} (hl:l.length<=8):mu n (bG n s k l).2<=mu n s:=by
 have key:k<n->∀j:List Int,k0 j<gM s k->mu n ⟨s.at_.set k j,s.met.set k true,s.todo++ [(k:Int)]⟩<=mu n s:=fun hkn j hj=>by
  have e:=Cd (f:=gM s) (g:=gM ⟨s.at_.set k j,s.met.set k true,s.todo++ [(k:Int)]⟩) hkn fun i hi=>by
   unfold gM
   rw[eV (by rw[h.ml];exact hkn),eV (by rw[h.al];exact hkn),if_neg hi,if_neg hi]
  have e2:gM ⟨s.at_.set k j,s.met.set k true,s.todo++ [(k:Int)]⟩ k=k0 j:=by
   unfold gM
   rw[eV (by rw[h.ml];exact hkn),eV (by rw[h.al];exact hkn),if_pos rfl,if_pos rfl,if_pos rfl]
  rw[e2] at e
  unfold mu mj
  simp only[ag,br]
  omega
 unfold bG
 split
 ·exact ay _
 rename_i hne
 split
 ·rename_i hm
  split
  ·exact ay _
  rename_i j hj
  split
  ·exact ay _
  rename_i hja
  exact key (by omega) j (by unfold gM;rw[if_pos hm];exact(oH hj).2 hja)
 rename_i hm
 exact key (by omega) l (by unfold gM;rw[if_neg hm];have:=tA l;omega)
theorem nO {n:Nat} :∀{s s':cy} {L:List Int} {l:List Int},dC n s->(∀q∈L,0<=q/\q<=n)->l.length<=8->s.todo.length+L.length<5000->bQ n s L l=some s'->mu n s'<=mu n s
 | s,s',[],l,h,_,_,_,e=>by
  simp only[bQ,au] at e
  subst e
  exact ay _
 | s,s',a::L,l,h,hq,hl,ht,e=>by
  simp only[bQ] at e
  split at e
  ·have ha:=hq a (by simp)
   rw[aA] at ht
   obtain⟨h1,h2⟩:=jt h (k:=a.toNat) (by omega) hl (by omega)
   exact eu (nO h1 (fun q hq'=>hq q (by simp[hq'])) hl (by omega) e) (rG h (by omega) hl)
  cases e
theorem oX {fs:List ah} {f:ah} (hok:iY fs f) {s s':cy} (h:dC f.code.length s) (ht:0<s.todo.length) (ht2:s.todo.length<=4000) (e:jh fs f s=some s'):dC f.code.length s'/\mu f.code.length s'<mu f.code.length s:=by
 obtain⟨n,hn⟩:∃n,s.todo.length=n+1:=⟨s.todo.length - 1,by omega⟩
 have hmem:s.todo.getD n 0∈s.todo:=by rw[ac,ae (by omega)];exact cL _
 have htd:=h.td _ hmem
 obtain⟨k,hk⟩:∃k:Nat,s.todo.getD n 0=(k:Int):=⟨(s.todo.getD n 0).toNat,by omega⟩
 have hkl:k<f.code.length:=by omega
 unfold jh at e
 dsimp only at e
 rw[show s.todo.length - 1=n from by omega,hk,aV] at e
 split at e
 ·cases e
 rename_i hb
 have hb:(jO fs f (aK f.code k) (s.at_.getD k [],false)).2=false:=by simpa using hb
 have hT8:=su rfl hb
 have hF0:dC f.code.length ⟨s.at_,s.met,s.todo.take n⟩:=⟨h.al,h.ml,by show (s.todo.take n).length<=_;rw[an];omega,h.st,fun x hx=>h.td x (gn hx)⟩
 have hl2:=jU (aK f.code k) k
 have hlt:(s.todo.take n).length+(cH (aK f.code k) k).length<5000:=by rw[an];omega
 have h1:=nN hF0 (hok.to_ k hkl) hT8 hlt e
 have h2:=nO hF0 (hok.to_ k hkl) hT8 hlt e
 refine⟨h1.1,?_⟩
 have:mu f.code.length ⟨s.at_,s.met,s.todo.take n⟩+1=mu f.code.length s:=by
  unfold mu
  show mj f.code.length s+(s.todo.take n).length+1=_
  rw[an]
  omega
 omega
def iN (fs:List ah) (f:ah):Nat->cy->Option cy
 | 0,_=>none
 | k+1,s=>if s.todo.length=0 then some s else match jh fs f s with
  | none=>none
  | some s'=>iN fs f k s'
theorem pL {fs:List ah} {f:ah} (hok:iY fs f):∀(k m:Nat) (s:cy),dC f.code.length s->mu f.code.length s<=4000->mu f.code.length s<k->mu f.code.length s<m->iN fs f k s=iN fs f m s
 | 0,_,_,_,_,h,_=>absurd h (by omega)
 | _+1,0,_,_,_,_,h=>absurd h (by omega)
 | k+1,m+1,s,hF,h4,h1,h2=>by
  simp only[iN]
  split
  ·rfl
  rename_i ht
  cases e:jh fs f s with
  | none=>rfl
  | some s'=>
   have htl:s.todo.length<=4000:=by unfold mu at h4;omega
   obtain⟨h3,h4'⟩:=oX hok hF (by omega) htl e
   exact pL hok k m s' h3 (by omega) (by omega) (by omega)
def ew (n:Nat):cy:=⟨List.replicate n [],List.replicate n false,[]⟩
def ff (n:Nat):cy:=(bG n (ew n) 0 []).2
def kP (fs:List ah) (f:ah):Option cy:=iN fs f (mu f.code.length (ff f.code.length)+1) (ff f.code.length)
structure f8 where
 pc:Int
 stack:List Int
 deriving DecidableEq
def im (s:cy) (i:Nat):List f8:=(List.range i).filterMap fun k=>if s.met.getD k false=true then some ⟨k,s.at_.getD k []⟩ else none
def aY (fs:List ah) (f:ah):List f8×Bool:=match kP fs f with
 | none=>([],false)
 | some s=>(im s f.code.length,true)
theorem nn (n:Nat):dC n (ew n):=by
 refine⟨by simp[ew],by simp[ew],by simp[ew],fun i=>?_,by simp[ew]⟩
 show ((List.replicate n ([]:List Int)).getD i []).length<=8
 rw[ac,List.getElem?_replicate]
 split <;> simp
theorem zR (n:Nat):mu n (ew n)<=9*n:=by
 unfold mu mj
 have:∀m,((List.range m).map (gM (ew n))).sum<=9*m:=fun m=>by
  induction m with
  | zero=>simp
  | succ m ih=>
   simp only[List.range_succ,iq,List.sum_append,cR,jX,List.sum_cons,List.sum_nil]
   have:gM (ew n) m<=9:=by
    unfold gM
    split
    ·rename_i h
     have:(ew n).met.getD m false=false:=by
      show (List.replicate n false).getD m false=false
      rw[ac,List.getElem?_replicate]
      split <;> rfl
     rw[this] at h;cases h
    exact ay _
   omega
 have:=this n
 show _+([]:List Int).length<=_
 simpa using this
theorem qZ {n:Nat} (_:0<n):dC n (ff n)/\mu n (ff n)<=9*n:=by
 have h1:=jt (nn n) (k:=0) (aC _) (l:= []) (by simp) (by simp[ew])
 have h2:=rG (nn n) (k:=0) (aC _) (l:= []) (by simp)
 exact⟨h1.1,eu h2 (zR n)⟩
end
section
instance:am f8 where
 k:=2
 rep w B cs x:= ∃v,cs= [.int .i64 x.pc,v]/\aI x.pc/\aT w B v x.stack
 len h:=by obtain⟨v,h,_⟩:=h;rw[h];rfl
 keep h hc:=by obtain⟨v,h,hi,hs⟩:=h;exact⟨v,h,hi,hs.keep hc⟩
 more h hb:=by obtain⟨v,h,hi,hs⟩:=h;exact⟨v,h,hi,hs.more hb⟩
 one h:=by obtain⟨v,h,hi,hs⟩:=h;obtain⟨A,c,rfl,_⟩:=hs.form;rw[h];simp[Value.oneCell']
structure eF where
 pc:Int
 v:Value
instance:am eF where
 k:=2
 rep _ _ cs h:=cs= [.int .i64 h.pc,h.v]/\aI h.pc/\h.v.oneCell'=true
 len h:=by rw[h.1];rfl
 keep h _:=h
 more h _:=h
 one h:=by rw[h.1];simpa [Value.oneCell'] using h.2.2
instance:Ow eF where
 ty:=105
 own _ F cs h:=(cs= [.int .i64 h.pc,h.v]/\aI h.pc/\h.v.oneCell'=true)/\∀b,¬F b
 rd_ h:=h.1
 lt h hb:=(h.2 _ hb).elim
 frame h _:=h
 cong h hf:=⟨h.1,fun b hb=>h.2 b ((hf b).2 hb)⟩
instance:bA eF where
 enc h:= [.int .i64 h.pc,h.v]
 wf h:=aI h.pc/\h.v.oneCell'=true
 rep_iff:=iK
 own_iff:=iK
structure jv (es:List eF) (L:List (Value×List Int)) (xs:List f8):Prop where
 len:es.length=xs.length
 el:∀i (h:i<es.length) (h2:i<xs.length),es[i].pc=xs[i].pc/\gH L es[i].v xs[i].stack
theorem jv.nil_ {L:List (Value×List Int)} :jv [] L []:=⟨rfl,fun i h=>by simp at h⟩
theorem jv.snoc {es:List eF} {L:List (Value×List Int)} {xs:List f8} (h:jv es L xs) {e:eF} {x:f8} (h1:e.pc=x.pc) (h2:gH L e.v x.stack):jv (es++ [e]) L (xs++ [x]):=
 ⟨by simp[h.len],fun i hi hi2=>by
  by_cases hlt:i<es.length
  ·rw[List.getElem_append_left hlt,List.getElem_append_left (by have:=h.len;omega)]
   exact h.el i hlt (by have:=h.len;omega)
  rw[ag,br] at hi
  have hl:=h.len
  have:i=es.length:=by omega
  subst this
  rw[List.getElem_append_right (ay _),List.getElem_append_right (by omega)]
  simp[h1,h2,hl]⟩
theorem CK {w:World} {F:Nat->Prop} {L:List (Value×List Int)} {v:Value} {xs:List Int} (h:gH L v xs) (hF:Hs w (L.map fun p=>fL p.1 p.2) F):Sl w v xs:=by
 rcases h with ⟨rfl,rfl⟩ | h
 ·exact Sl.nil_
 obtain⟨F',h5,_⟩:=Hs.mem (List.mem_map_of_mem (f:=fun p:Value×List Int=>fL p.1 p.2) h) hF
 exact h5.2 w fun _ _=>rfl
theorem ra {es:List eF} {L:List (Value×List Int)} {xs:List f8} (hr:jv es L xs) {v:Value} :∀w F,Hs w [aj v es,dI L] F->Sl w v xs:=by
 rintro w F ⟨F1,F2,h1,⟨F3,F4,h3,h4,_,_⟩,_,_⟩
 have h1:bS w F1 v es:=h1
 have h3:Hs w (L.map fun p=>fL p.1 p.2) F3:=h3
 obtain⟨A,c,hv,k1,k2,k3,k4⟩:=h1.sl
 refine⟨A,c,by rw[hv,hr.len],by rw[<-hr.len];exact k1,k2,by rw[<-hr.len];exact k3,fun h0=>?_⟩
 obtain⟨b,off,hA,hb,hi⟩:=k4 (by rw[hr.len];exact h0)
 refine⟨b,off,hA,hb,fun i x hx=>?_⟩
 have hix:=(aq.1 hx)
 obtain⟨hil,hix⟩:=hix
 have hie:i<es.length:=by rw[hr.len];exact hil
 obtain⟨cs,⟨hcs,hi1,hi2⟩,hc⟩:=hi i es[i] (ae hie)
 obtain⟨e1,e2⟩:=hr.el i hie hil
 rw[hix] at e1 e2
 subst hcs
 refine⟨[.int .i64 x.pc,es[i].v],⟨es[i].v,rfl,by rw[<-e1];exact hi1,CK e2 h3⟩,fun j u hu=>?_⟩
 rw[<-e1] at hu
 exact hc j u hu
theorem nI (s:cy) (i:Nat):im s (i+1)=if s.met.getD i false=true then im s i++ [⟨i,s.at_.getD i []⟩] else im s i:=by
 unfold im
 rw[List.range_succ,List.filterMap_append]
 split
 ·rename_i h
  simp only[List.filterMap_cons,List.filterMap_nil]
  rw[if_pos h]
 rename_i h
 simp only[List.filterMap_cons,List.filterMap_nil]
 rw[if_neg h]
 simp
theorem tU (s:cy) (i:Nat):(im s i).length<=i:=by
 have:=List.length_filterMap_le (fun k=>if s.met.getD k false=true then some (⟨k,s.at_.getD k []⟩:f8) else none) (List.range i)
 rw[gR] at this
 exact this
theorem mb:(Tryz.prog.info? 35).map (fun i=>(i.zero,i.size,i.bytes))=some (some (.slice none 0 0),1,24):=by kernel_rfl
theorem qj:(Tryz.prog.info? 105).map (fun i=>(i.zero,i.size,i.bytes))=some (some (.agg #[.int .i64 0,.slice none 0 0]),2,32):=by kernel_rfl
theorem gK {α:Type} (n i:Nat) (x:α):(List.replicate n x).getD i x=x:=by
 rw[ac,List.getElem?_replicate]
 split <;> rfl
theorem l6 (A:Option Addr) (c:Nat) (fs:List ah) (k:Nat) (w:World) (hs:Sl w (.slice A fs.length c) fs) (hk:k<fs.length) (hok:iY fs (ai fs k)) (hn0:0<(ai fs k).code.length) :
  Calls Tryz.prog 117 #[.agg #[.slice A fs.length c],.int .i64 (k:Int)] w fun e w'=> ∃g:(Option Addr×Nat)×List eF×List (Value×List Int),jv g.2.1 g.2.2 (aY fs (ai fs k)).1/\e= .returned (.tuple #[.slice g.1.1 g.2.1.length g.1.2,.bool (aY fs (ai fs k)).2])/\
   Cw w.heap.size w [aj (.slice g.1.1 g.2.1.length g.1.2) g.2.1,dI g.2.2] w':=by
 obtain⟨A1,c1,A2,c2,hl,hc,hi,hcell⟩:=hs.fn hk
 generalize ai fs k=f at hl hc hi hcell hok hn0⊢
 have hn40:=hok.n40
 refine enter Tryz.func117 rfl Tryz.ntmps117 rfl<|aa ?_
 refine fun g1 _=>aa ?_
 refine cQ (_) rfl ((.ro hs))<|aa ?_
 refine dQ rfl (fun w hw=>hcell _ w hw 3 _ rfl) ?_
 refine aw ?_
 refine bV<|dw (fun _:Nat×Nat×Nat=>True) (fun g=> [(6,.slice A2 f.code.length c2),(7,.pointer (some ⟨g.2.2,0,none⟩))]) (fun g=> [af g.2.2 [.slice A fs.length c,.int .i64 f.params,.slice A1 f.locals.length c1,.int .i64 f.result,.slice A2 f.code.length c2,.slice (some ⟨g.1,0,none⟩) f.code.length f.code.length,.slice (some ⟨g.2.1,0,none⟩) f.code.length f.code.length,.slice none 0 0] 224,aj (.slice (some ⟨g.1,0,none⟩) f.code.length f.code.length) (List.replicate f.code.length gO),aj (.slice (some ⟨g.2.1,0,none⟩) f.code.length f.code.length) (List.replicate f.code.length false)]) ?_ ?_
 ·refine ot (.still 0 (.still 1 (.still 2 (.still 3 (.still 4 (.still 5 (.still 6 (.still 7 (.still 9 (.still 10 (.pick 8 (.pick 11 (.still 12 (.pick 13 (.still 14 .done) .stop)) .stop) (.pick 11 (.pick 8 (.still 12 (.pick 13 (.still 14 .done) .stop)) .stop) .stop)))))))))))) [] rfl (by kernel_rfl) (by kernel_rfl) ?_
  refine aa ?_
  refine tE rfl (bt gz ij (.ro hs) (by omega) rfl rfl rfl) ?_
  refine tE rfl (gV (hcell _) rfl rfl Hr ij)<|aa ?_
  refine ix rfl (ke (α:=fp) gO fI mb rfl (fun w=>⟨⟨rfl,rfl⟩,fun _ h=>h⟩) rfl (by omega) rfl rfl rfl) rfl rfl (.inr fun _=>ha) (fun ga _=>?_) ?_
  ·refine pE rfl (ke (α:=Bool) false jM ph rfl (fun w=>⟨rfl,fun _ h=>h⟩) rfl (by omega) rfl rfl rfl) (fun gm _=>aa ?_)
   refine fun gx _=>aa ?_
   refine eS<|cG (ga,gm,gx) (trivial)
  refine pE rfl (ke (α:=Bool) false jM ph rfl (fun w=>⟨rfl,fun _ h=>h⟩) rfl (by omega) rfl rfl rfl) (fun gm _=>?_)
  refine pE rfl (ke (α:=fp) gO fI mb rfl (fun w=>⟨⟨rfl,rfl⟩,fun _ h=>h⟩) rfl (by omega) rfl rfl rfl) (fun ga _=>aa ?_)
  refine fun gx _=>aa ?_
  refine eS<|cG (ga,gm,gx) (trivial)
 rintro⟨ga,gm,gx⟩ _
 try dsimp only
 have hR0:fx f.code.length (List.replicate f.code.length gO) [] (ew f.code.length).at_:=⟨by simp,by simp[ew],fun i _=>by
  show gH [] ((List.replicate f.code.length gO).getD i gO).v ((List.replicate f.code.length ([]:List Int)).getD i [])
  rw[gK,gK]
  exact .nil_⟩
 have hso:=qZ hn0
 have hcome:∀w1,Cw w.heap.size w (fR (⟨gx,fs,f,A,c,A1,c1,A2,c2,some ⟨ga,0,none⟩,f.code.length,some ⟨gm,0,none⟩,f.code.length⟩:FC) (ew f.code.length) (List.replicate f.code.length gO) [] none 0++ []) w1->Calls Tryz.prog 169 #[.pointer (some ⟨gx,0,none⟩),.int .i64 0,.slice none 0 0] w1 fun e w'=> ∃g:List fp×List (Value×List Int)×Option Addr×Nat,fx f.code.length g.1 g.2.1 (ff f.code.length).at_/\
   e= .returned (.bool (bG f.code.length (ew f.code.length) 0 []).1)/\Cw w.heap.size w (fR (⟨gx,fs,f,A,c,A1,c1,A2,c2,some ⟨ga,0,none⟩,f.code.length,some ⟨gm,0,none⟩,f.code.length⟩:FC) (ff f.code.length) g.1 g.2.1 g.2.2.1 g.2.2.2++ []) w':=fun w1 h=>
  uf (⟨gx,fs,f,A,c,A1,c1,A2,c2,some ⟨ga,0,none⟩,f.code.length,some ⟨gm,0,none⟩,f.code.length⟩:FC) (ew f.code.length) (List.replicate f.code.length gO) [] none 0 0 (aC _) hn40 [] none 0 .nil_ hR0 (by simp[ew]) (by simp[ew]) (fun i=>by have:=(nn f.code.length).st i;omega) w1 h
 refine dg (fun w h=>gL (Cw.nilO Int h))<|aa ?_
 refine ei rfl Tryz.call169 (fun w hw=>hcome w (hw.msub ms)) (fun⟨hd,L,At,ct⟩ hR=>?_)
 refine a7 ?_
 rw[fD]
 refine ic (fun g:cy×List fp×List (Value×List Int)×Option Addr×Nat=>(kP fs f=some g.1/\dC f.code.length g.1)/\fx f.code.length g.2.1 g.2.2.1 g.1.at_) (fun g=> [(6,.slice A2 f.code.length c2),(7,.pointer (some ⟨gx,0,none⟩))]) (fun g=>fR (⟨gx,fs,f,A,c,A1,c1,A2,c2,some ⟨ga,0,none⟩,f.code.length,some ⟨gm,0,none⟩,f.code.length⟩:FC) g.1 g.2.1 g.2.2.1 g.2.2.2.1 g.2.2.2.2) ?_ ?_
 ·refine cN (fun g:cy×List fp×List (Value×List Int)×Option Addr×Nat=>((iN fs f (mu f.code.length g.1+1) g.1=kP fs f/\dC f.code.length g.1)/\fx f.code.length g.2.1 g.2.2.1 g.1.at_)/\mu f.code.length g.1<=400) (fun g=>mu f.code.length g.1) (fun g=> [(6,.slice A2 f.code.length c2),(7,.pointer (some ⟨gx,0,none⟩))]) (fun g=>fR (⟨gx,fs,f,A,c,A1,c1,A2,c2,some ⟨ga,0,none⟩,f.code.length,some ⟨gm,0,none⟩,f.code.length⟩:FC) g.1 g.2.1 g.2.2.1 g.2.2.2.1 g.2.2.2.2) (ff f.code.length,hd,L,At,ct) (⟨⟨⟨rfl,hso.1⟩,hR⟩,by show mu f.code.length (ff f.code.length)<=_;have:=hso.2;omega⟩) ?_
  rintro⟨s,hd,L,At,ct⟩ hj
  try dsimp only
  obtain⟨⟨⟨hj1,hF⟩,hR⟩,hmu⟩:((iN fs f (mu f.code.length s+1) s=kP fs f/\dC f.code.length s)/\fx f.code.length hd L s.at_)/\mu f.code.length s<=400:=hj
  have htl:s.todo.length<=400:=by unfold mu at hmu;omega
  dsimp only[fR]
  refine ak (fun ht=>?_) (fun ht=>?_)
  ·have ht0:0<s.todo.length:=by omega
   obtain⟨r,hr⟩:∃r,jh fs f s=r:=⟨_,rfl⟩
   have hj2:=hj1
   rw[iN,if_neg (by omega),hr] at hj2
   refine aa ?_
   refine ei rfl Tryz.call170 (fun w hw=>zQ (H:= []) (⟨gx,fs,f,A,c,A1,c1,A2,c2,some ⟨ga,0,none⟩,f.code.length,some ⟨gm,0,none⟩,f.code.length⟩:FC) s hd L At ct r hr hok hs hl hc hR hF ht0 (by omega) w (hw.msub ms)) (fun⟨hd2,L2,A2',c2'⟩ hR2=>?_)
   refine a7 ?_
   refine aO rfl (fun hq=>?_) (fun hq=>?_)
   ·obtain rfl:r=none:=by cases r with | none=>rfl | some s'=>cases hq
    have hent:aY fs f=([],false):=by unfold aY;rw[<-hj2]
    rw[hent]
    refine aa ?_
    intro w hw
    exact⟨((none,0),[],[]),.nil_,rfl,Cw.nilO eF (gL (hw.msub (T:= []) ms))⟩
   obtain⟨s',rfl⟩:∃s',r=some s':=by cases r with | none=>cases hq | some s'=>exact⟨s',rfl⟩
   have hso2:=oX hok hF ht0 (by omega) hr
   have hj3:iN fs f (mu f.code.length s'+1) s'=kP fs f:=by
    rw[<-hj2]
    exact pL hok _ _ s' hso2.1 (by omega) (by omega) hso2.2
   dsimp only[fD]
   rw[fD]
   refine aa ?_
   refine D4 (s',hd2,L2,A2',c2') (⟨⟨⟨hj3,hso2.1⟩,hR2⟩,by show mu f.code.length s'<=_;omega⟩) (hso2.2)
  have ht0:s.todo.length=0:=by omega
  have hj2:=hj1
  rw[iN,if_pos ht0] at hj2
  refine aa ?_
  refine cG (s,hd,L,At,ct) (⟨⟨hj2.symm,hF⟩,hR⟩)
 rintro⟨s,hd,L,At,ct⟩ hj
 obtain⟨⟨hj,hF⟩,hR⟩:(kP fs f=some s/\dC f.code.length s)/\fx f.code.length hd L s.at_:=hj
 have hent:aY fs f=(im s f.code.length,true):=by unfold aY;rw[hj]
 rw[hent]
 dsimp only[fR]
 refine dg (fun w h=>Cw.nilO eF h)<|aa ?_
 refine cN (fun g:Nat×List eF×Option Addr×Nat=>g.1<=f.code.length/\jv g.2.1 L (im s g.1)) (fun g=>f.code.length - g.1) (fun g=> [(7,.pointer (some ⟨gx,0,none⟩)),(8,.slice g.2.2.1 g.2.1.length g.2.2.2),(42,.int .i64 (f.code.length:Int)),(43,.int .i64 (g.1:Int))]) (fun g=>aj (.slice g.2.2.1 g.2.1.length g.2.2.2) g.2.1::fR (⟨gx,fs,f,A,c,A1,c1,A2,c2,some ⟨ga,0,none⟩,f.code.length,some ⟨gm,0,none⟩,f.code.length⟩:FC) s hd L At ct) (0,[],none,0) (⟨aC _,.nil_⟩) ?_
 rintro⟨i,es,Ae,ce⟩ hi'
 try dsimp only
 obtain⟨hi1,hre⟩:i<=f.code.length/\jv es L (im s i):=hi'
 have hel:=hre.len
 have hul:=tU s i
 dsimp only[fR]
 refine ak (fun hlt=>?_) (fun hlt=>?_)
 ·have hil:i<f.code.length:=by omega
  have hsu:=nI s i
  refine aa ?_
  refine cQ (_) rfl ((SF.own hF.ml fc)) ?_
  refine dQ rfl (SF.bool (SF.own hF.ml fc) (by omega))<|aa ?_
  refine aO rfl (fun hm=>?_) (fun hm=>?_)
  ·rw[if_pos hm] at hsu
   have hin:=hR.el i hil
   refine aa ?_
   refine cQ (_) rfl ((SF.own hR.hl fc)) ?_
   refine lh (fun w h=>hin.form h fc) ?_
   rintro⟨A3,c3,hv⟩
   rw[hv] at hin
   refine sE (bT (v:= .slice A3 (s.at_.getD i []).length c3) (by rw[<-hv];exact SF.hdr (SF.own hR.hl fc) hil) rfl rfl i6)<|aa ?_
   intro g2 _
   refine oE (cZ (α:=eF) (bytes:=32) ⟨i,.slice A3 (s.at_.getD i []).length c3⟩ [] rfl H7 (bP qj) rfl (eM fc fc) (du ⟨⟨by show (-9223372036854775808:Int)<=(i:Int);omega,by show (i:Int)<=9223372036854775807;omega⟩,rfl⟩) (by omega) (by omega) rfl rfl rfl) (fun⟨A5,c5⟩ _=>?_)
   refine a7 ?_
   refine bN (i+1,es++ [⟨i,.slice A3 (s.at_.getD i []).length c3⟩],A5,c5) (⟨hil,by rw[hsu];exact hre.snoc rfl hin⟩) (by show _ - _<_ - _;omega)
  rw[if_neg (by rw[hm];decide)] at hsu
  refine aa ?_
  refine bN (i+1,es,Ae,ce) (⟨hil,by rw[hsu];exact hre⟩) (by show _ - _<_ - _;omega)
 obtain rfl:i=f.code.length:=by omega
 refine aa ?_
 intro w hw
 exact⟨((Ae,ce),es,L),hre,rfl,hw.msub ms⟩
theorem uT (A:Option Addr) (c:Nat) (fs:List ah) (k:Nat) (w:World) (hs:Sl w (.slice A fs.length c) fs) (hk:k<fs.length) (hok:iY fs (ai fs k)) (hn0:0<(ai fs k).code.length) :
  Calls Tryz.prog 117 #[.agg #[.slice A fs.length c],.int .i64 (k:Int)] w fun e w'=> ∃g:Option Addr×Nat,True/\e= .returned (.tuple #[.slice g.1 (aY fs (ai fs k)).1.length g.2,.bool (aY fs (ai fs k)).2])/\
   Cw w.heap.size w [fL (.slice g.1 (aY fs (ai fs k)).1.length g.2) (aY fs (ai fs k)).1] w':=
 (l6 A c fs k w hs hk hok hn0).mono fun e w' ⟨g,h1,h2,h3⟩=>⟨g.1,trivial,by rw[<-h1.len];exact h2,by rw[<-h1.len];exact ry (Hel:= [aj (.slice g.1.1 g.2.1.length g.1.2) g.2.1,dI g.2.2]) (H:= []) (ra h1) h3⟩
end
section
theorem jr {fs:List ah} {k:Nat} (hk:k<fs.length):ai fs k∈fs:=by
 unfold ai
 rw[ac,ae hk]
 exact cL hk
theorem jj {fs:List ah} (h:bK fs=0) {k:Nat} (hk:k<fs.length):iY fs (ai fs k)/\0<(ai fs k).code.length:=by
 obtain⟨_,_,hall⟩:=je h
 obtain⟨_,_,h3,h4,h5,h6,h7⟩:=kh (hall _ (jr hk))
 obtain⟨h40,_⟩:=l9 h6
 refine⟨⟨fun i hi=>?_,fun i hi q hq=>?_,h40⟩,by omega⟩
 ·have hf:=h7 _ (mI hi)
  refine⟨fun hc=>?_,fun hc=>?_,fun j hj=>?_,⟨by omega,by omega⟩⟩
  ·unfold dt at hf
   rw[if_pos hc] at hf
   have:=iL.1 hf
   omega
  ·unfold dt at hf
   rw[if_neg (by omega),if_neg (by omega),if_pos hc] at hf
   have:=iL.1 hf
   omega
  obtain⟨g1,g2,_⟩:=kh (hall _ (jr hj))
  exact⟨g2,g1⟩
 have hf:=h7 _ (mI hi)
 have hg:=(lX (aK (ai fs k).code i) i q).1 hq
 have hjz:((aK (ai fs k).code i).c=10\/(aK (ai fs k).code i).c=11)->0<=(aK (ai fs k).code i).a/\(aK (ai fs k).code i).a<(ai fs k).code.length:=fun hc=>by
  unfold dt at hf
  rw[if_neg (by omega),if_pos hc] at hf
  have:=iL.1 hf
  omega
 unfold eA at hg
 split at hg
 ·simp at hg
 split at hg
 ·rename_i hc
  have:=hjz (.inl hc)
  simp at hg
  omega
 split at hg
 ·rename_i hc
  have:=hjz (.inr hc)
  simp at hg
  omega
 simp at hg
 omega
def kx (fs:List ah) (z:Int):List f8×Int:=
 if bK fs≠0 then ([],bK fs) else if z<0\/(fs.length:Int)<=z then ([],3) else if (aY fs (ai fs z.toNat)).2=true then ((aY fs (ai fs z.toNat)).1,0) else ([],4)
def eL (fs:List ah):Int:=if bK fs≠0 then bK fs else if fs.all (fun f=>(aY fs f).2)=true then 0 else 4
theorem m9 {α:Type} {p:α->Bool} {l:List α} {k:Nat} (d:α) (hk:k<l.length):(l.take (k+1)).all p=((l.take k).all p && p (l.getD k d)):=by
 rw[List.take_add_one,ae hk,ac,ae hk,List.all_append]
 simp
theorem xB (A:Option Addr) (c:Nat) (fs:List ah) (z:Int) (w:World) (hs:Sl w (.slice A fs.length c) fs) :
  Calls Tryz.prog 58 #[.agg #[.slice A fs.length c],.int .i64 z] w fun e w'=> ∃g:(Option Addr×Nat)×List eF×List (Value×List Int),jv g.2.1 g.2.2 (kx fs z).1/\e= .returned (.tuple #[.slice g.1.1 g.2.1.length g.1.2,.int .i64 (kx fs z).2])/\
   Cw w.heap.size w [aj (.slice g.1.1 g.2.1.length g.1.2) g.2.1,dI g.2.2] w':=by
 have b1:=be hs
 refine enter Tryz.func58 rfl Tryz.ntmps58 rfl<|aa ?_
 refine fun g1 _=>aa ?_
 obtain⟨E,hE⟩:∃E:Int,(if bK fs≠0 then bK fs else if z<0\/(fs.length:Int)<=z then 3 else 0)=E:=⟨_,rfl⟩
 refine bw rfl HW (fun w hw=>mH A c fs w (hw.ro hs)) ?_
 refine aw ?_
 refine bV<|dw (fun _:Unit=>True) (fun _=> [(1,.int .i64 z),(2,.pointer (some ⟨g1,0,none⟩)),(6,.int .i64 E)]) (fun _=> [af g1 [.slice A fs.length c] 24]) ?_ ?_
 ·refine cD 13 (fun h1=>?_) (fun h1=>?_)
  ·have h1:=of_decide_eq_true h1
   rw[if_neg (by simpa using h1)] at hE
   refine cD 16 (fun h2=>?_) (fun h2=>?_)
   ·have h2:=of_decide_eq_true h2
    rw[if_pos (.inl h2)] at hE
    subst hE
    refine aa ?_
    refine aJ rfl<|aa ?_
    refine lO () (trivial)
   have h2:=of_decide_eq_false h2
   refine ak (fun h3=>?_) (fun h3=>?_)
   ·rw[if_pos (.inr (by omega))] at hE
    subst hE
    refine aa ?_
    refine lO () (trivial)
   rw[if_neg (by omega)] at hE
   subst hE
   rw[h1]
   refine aa ?_
   refine cG () (trivial)
  have h1:=of_decide_eq_false h1
  rw[if_pos h1] at hE
  subst hE
  refine aa ?_
  refine bO rfl<|aa ?_
  refine cG () (trivial)
 rintro _ _
 refine cq (fun h0=>?_) (fun h0=>?_)
 ·have hf:kx fs z=([],E):=by
   unfold kx
   by_cases h1:bK fs=0
   ·rw[if_neg (by simpa using h1)] at hE⊢
    by_cases h2:z<0\/(fs.length:Int)<=z
    ·rw[if_pos h2] at hE⊢;rw[hE]
    rw[if_neg h2] at hE;exact absurd hE.symm h0
   rw[if_pos h1] at hE⊢;rw[hE]
  rw[hf]
  refine aa ?_
  intro w hw
  exact⟨((none,0),[],[]),.nil_,rfl,Cw.nilO eF (gL (hw.msub (T:= []) ms))⟩
 subst h0
 have h1:bK fs=0:=by
  by_cases h1:bK fs=0
  ·exact h1
  rw[if_pos h1] at hE;exact absurd hE h1
 rw[if_neg (by simpa using h1)] at hE
 have h2:¬(z<0\/(fs.length:Int)<=z):=fun h=>by rw[if_pos h] at hE;cases hE
 obtain⟨k,rfl⟩:∃k:Nat,z=(k:Int):=⟨z.toNat,by omega⟩
 have hk:k<fs.length:=by omega
 obtain⟨hok,hn0⟩:=jj h1 hk
 have hf:kx fs (k:Int)=if (aY fs (ai fs k)).2=true then ((aY fs (ai fs k)).1,0) else ([],4):=by
  unfold kx
  rw[if_neg (by simpa using h1),if_neg h2,aV]
 refine aa ?_
 refine fE rfl Hy (fun w hw=>l6 A c fs k w (hw.ro hs) hk hok hn0) (fun⟨⟨A1,c1⟩,es,L⟩ hre=>?_)
 refine a7 ?_
 refine aO rfl (fun h3=>?_) (fun h3=>?_)
 ·rw[hf,if_neg (by simpa using h3)]
  refine aa ?_
  intro w hw
  exact⟨((none,0),[],[]),.nil_,rfl,Cw.nilO eF (gL (hw.msub (T:= []) ms))⟩
 rw[hf,if_pos (by simpa using h3)]
 refine aa ?_
 intro w hw
 exact⟨((A1,c1),es,L),hre,rfl,hw.msub ms⟩
theorem Gp (A:Option Addr) (c:Nat) (fs:List ah) (z:Int) (w:World) (hs:Sl w (.slice A fs.length c) fs) :
  Calls Tryz.prog 58 #[.agg #[.slice A fs.length c],.int .i64 z] w fun e w'=> ∃g:Option Addr×Nat,True/\e= .returned (.tuple #[.slice g.1 (kx fs z).1.length g.2,.int .i64 (kx fs z).2])/\
   Cw w.heap.size w [fL (.slice g.1 (kx fs z).1.length g.2) (kx fs z).1] w':=
 (xB A c fs z w hs).mono fun e w' ⟨g,h1,h2,h3⟩=>⟨g.1,trivial,by rw[<-h1.len];exact h2,by rw[<-h1.len];exact ry (Hel:= [aj (.slice g.1.1 g.2.1.length g.1.2) g.2.1,dI g.2.2]) (H:= []) (ra h1) h3⟩
theorem qV (A:Option Addr) (c:Nat) (fs:List ah) (w:World) (hs:Sl w (.slice A fs.length c) fs) :
  Calls Tryz.prog 72 #[.agg #[.slice A fs.length c]] w fun e w'=>e= .returned (.int .i64 (eL fs))/\Below w.heap.size w w':=by
 have b1:=be hs
 refine enter Tryz.func72 rfl Tryz.ntmps72 rfl<|aa ?_
 refine fun g1 _=>aa ?_
 refine bw rfl HW (fun w hw=>mH A c fs w (hw.ro hs))<|cq (fun h0=>?_) (fun h0=>?_)
 ·refine aa ?_
  intro w hw
  exact⟨dz (by unfold eL;rw[if_pos h0]),hw.below⟩
 have hp:eL fs=if fs.all (fun f=>(aY fs f).2)=true then 0 else 4:=by unfold eL;rw[if_neg (by simpa using h0)]
 refine aa ?_
 refine cN (fun k:Nat=>k<=fs.length/\(fs.take k).all (fun f=>(aY fs f).2)=true) (fun k=>fs.length - k) (fun k=> [(1,.pointer (some ⟨g1,0,none⟩)),(14,.int .i64 (fs.length:Int)),(15,.int .i64 (k:Int))]) (fun _=> [af g1 [.slice A fs.length c] 24]) 0 (⟨aC _,rfl⟩) ?_
 rintro k hk'
 obtain⟨hk,hall⟩:k<=fs.length/\(fs.take k).all (fun f=>(aY fs f).2)=true:=hk'
 refine ak (fun hlt=>?_) (fun hlt=>?_)
 ·have hkl:k<fs.length:=by omega
  obtain⟨hok,hn0⟩:=jj h0 hkl
  have hsn:=m9 (p:=fun f=>(aY fs f).2) (default:ah) hkl
  refine aa ?_
  refine fE rfl Hy (fun w hw=>uT A c fs k w (hw.ro hs) hkl hok hn0) (fun⟨A1,c1⟩ _=>?_)
  refine a7 ?_
  refine aO rfl (fun h3=>?_) (fun h3=>?_)
  ·have h3:(aY fs (ai fs k)).2=false:=by simpa using h3
   refine aa ?_
   intro w hw
   refine⟨dz ?_,hw.below⟩
   rw[hp,if_neg]
   intro h
   rw[gy] at h
   have:=h _ (jr hkl)
   rw[h3] at this
   cases this
  have h3:(aY fs (ai fs k)).2=true:=by simpa using h3
  refine aa ?_
  refine bN (k+1) (⟨hkl,by rw[hsn,hall];exact h3⟩) (by show _ - _<_ - _;omega)
 obtain rfl:k=fs.length:=by omega
 rw[bh] at hall
 refine aa ?_
 intro w hw
 exact⟨dz (by rw[hp,if_pos hall]),hw.below⟩
end
section
theorem xj (a b:Int):bZ a b=bZ b a:=by
 unfold bZ aU
 by_cases h1:a=b
 ·simp[h1]
 have h1':¬b=a:=fun e=>h1 e.symm
 by_cases h2:a=3/\b=2
 ·obtain⟨rfl,rfl⟩:=h2;simp
 by_cases h3:b=3/\a=2
 ·obtain⟨rfl,rfl⟩:=h3;simp
 simp[h1,h1',h2,h3]
theorem wU:∀(a b:List Int),aL a b=aL b a
 | [],[]=>rfl
 | [],_::_=>rfl
 | _::_,[]=>rfl
 | a::l,b::m=>by simp only[aL];rw[xj a b,wU l m]
theorem t3 {t:Int} (h:1<=t/\t<=3):t=1\/t=2\/t=3:=by omega
theorem BB {a b:Int} (ha:1<=a/\a<=3) (hb:1<=b/\b<=3) (h:bZ a b≠0):1<=bZ a b/\bZ a b<=3:=by
 rcases t3 ha with rfl | rfl | rfl <;> rcases t3 hb with rfl | rfl | rfl <;> revert h <;> decide
theorem u7 {a b c:Int} (ha:1<=a/\a<=3) (hb:1<=b/\b<=3) (hc:1<=c/\c<=3) (h1:bZ a b≠0) (h2:bZ b c≠0):bZ (bZ a b) c=bZ a (bZ b c):=by
 rcases t3 ha with rfl | rfl | rfl <;> rcases t3 hb with rfl | rfl | rfl <;> rcases t3 hc with rfl | rfl | rfl <;> revert h1 h2 <;> decide
theorem zb {a b c:Int} (ha:1<=a/\a<=3) (hb:1<=b/\b<=3) (hc:1<=c/\c<=3) (h1:bZ a b≠0) (h2:bZ b c=0):bZ (bZ a b) c=0:=by
 rcases t3 ha with rfl | rfl | rfl <;> rcases t3 hb with rfl | rfl | rfl <;> rcases t3 hc with rfl | rfl | rfl <;> revert h1 h2 <;> decide
theorem uk {a b:Int} (h:bZ a b≠0):aU a (bZ a b)=true/\aU b (bZ a b)=true:=by
 have r:∀x:Int,aU x x=true:=fun x=>by unfold aU;simp
 unfold bZ at h⊢
 by_cases h1:aU a b=true
 ·rw[if_pos h1];exact⟨h1,r b⟩
 rw[if_neg h1] at h⊢
 by_cases h2:aU b a=true
 ·rw[if_pos h2];exact⟨r a,h2⟩
 rw[if_neg h2] at h;exact absurd rfl h
theorem iO {a b:Int} {l m j:List Int} (h:aL (a::l) (b::m)=some j):bZ a b≠0/\∃k,aL l m=some k/\j=bZ a b::k:=by
 simp only[aL] at h
 split at h
 ·cases h
 rename_i h0
 cases e:aL l m with
 | none=>rw[e] at h;cases h
 | some k=>
  rw[e] at h
  simp only[Option.map_some,au] at h
  exact⟨h0,k,rfl,h.symm⟩
theorem tH:∀{a b j:List Int},aL a b=some j->(∀t∈a,1<=t/\t<=3)->(∀t∈b,1<=t/\t<=3)->∀t∈j,1<=t/\t<=3
 | [],[],j,h,_,_=>by simp[aL] at h;subst h;simp
 | [],_::_,j,h,_,_=>by simp[aL] at h
 | _::_,[],j,h,_,_=>by simp[aL] at h
 | a::l,b::m,j,h,ha,hb=>by
  obtain⟨h0,k,hk,rfl⟩:=iO h
  intro t ht
  rcases cc.1 ht with rfl | ht
  ·exact BB (ha a (by simp)) (hb b (by simp)) h0
  exact tH hk (fun t h=>ha t (by simp[h])) (fun t h=>hb t (by simp[h])) t ht
theorem wT:∀{a:List Int},(∀t∈a,1<=t/\t<=3)->aL a a=some a
 | [],_=>rfl
 | a::l,h=>by
  have ha:=h a (by simp)
  have e:bZ a a=a:=by unfold bZ aU;simp
  simp only[aL]
  rw[if_neg (by rw[e];omega),wT (fun t ht=>h t (by simp[ht])),e]
  rfl
theorem l4:∀{a b j:List Int} {i:Nat},aL a b=some j->i<j.length->aU (a.getD i 0) (j.getD i 0)=true/\aU (b.getD i 0) (j.getD i 0)=true
 | [],[],j,i,h,hi=>by simp[aL] at h;subst h;simp at hi
 | [],_::_,j,_,h,_=>by simp[aL] at h
 | _::_,[],j,_,h,_=>by simp[aL] at h
 | a::l,b::m,j,i,h,hi=>by
  obtain⟨h0,k,hk,rfl⟩:=iO h
  cases i with
  | zero=>exact uk h0
  | succ i=>
   have:=l4 (i:=i) hk (by simpa using hi)
   simpa using this
theorem uN:∀{a b c x r:List Int},(∀t∈a,1<=t/\t<=3)->(∀t∈b,1<=t/\t<=3)->(∀t∈c,1<=t/\t<=3)->aL a b=some x->aL b c=some r->aL x c=aL a r
 | [],[],[],x,r,_,_,_,h1,h2=>by simp[aL] at h1 h2;subst h1 h2;rfl
 | [],[],_::_,_,_,_,_,_,_,h=>by simp[aL] at h
 | [],_::_,_,_,_,_,_,_,h,_=>by simp[aL] at h
 | _::_,[],_,_,_,_,_,_,h,_=>by simp[aL] at h
 | _::_,_::_,[],_,_,_,_,_,_,h=>by simp[aL] at h
 | a::l,b::m,c::n,x,r,ha,hb,hc,h1,h2=>by
  obtain⟨h3,k,hk,rfl⟩:=iO h1
  obtain⟨h4,q,hq,rfl⟩:=iO h2
  simp only[aL]
  rw[u7 (ha a (by simp)) (hb b (by simp)) (hc c (by simp)) h3 h4,uN (fun t h=>ha t (by simp[h])) (fun t h=>hb t (by simp[h])) (fun t h=>hc t (by simp[h])) hk hq]
theorem yB:∀{a b c x:List Int},(∀t∈a,1<=t/\t<=3)->(∀t∈b,1<=t/\t<=3)->(∀t∈c,1<=t/\t<=3)->aL a b=some x->aL b c=none->aL x c=none
 | [],[],[],x,_,_,_,h1,h2=>by simp[aL] at h2
 | [],[],_::_,x,_,_,_,h1,_=>by simp[aL] at h1;subst h1;rfl
 | [],_::_,_,_,_,_,_,h,_=>by simp[aL] at h
 | _::_,[],_,_,_,_,_,h,_=>by simp[aL] at h
 | a::l,b::m,[],x,_,_,_,h,_=>by
  obtain⟨_,k,_,rfl⟩:=iO h
  rfl
 | a::l,b::m,c::n,x,ha,hb,hc,h1,h2=>by
  obtain⟨h3,k,hk,rfl⟩:=iO h1
  simp only[aL] at h2⊢
  by_cases h4:bZ b c=0
  ·rw[if_pos (zb (ha a (by simp)) (hb b (by simp)) (hc c (by simp)) h3 h4)]
  rw[if_neg h4] at h2
  have h5:aL m n=none:=by
   cases e:aL m n with
   | none=>rfl
   | some q=>rw[e] at h2;cases h2
  rw[yB (fun t h=>ha t (by simp[h])) (fun t h=>hb t (by simp[h])) (fun t h=>hc t (by simp[h])) hk h5]
  split <;> rfl
theorem l0 (t o:Int) (w:World):Calls Tryz.prog 249 #[.int .i64 t,.int .i64 o] w fun e w'=>e= .returned (.bool (aU t o))/\Below w.heap.size w w':=by
 refine enter Tryz.func249 rfl Tryz.ntmps249 rfl<|cD 8 (fun h1=>?_) (fun h1=>?_)
 ·have h1:=of_decide_eq_true h1
  refine aa ?_
  intro w hw
  exact⟨aS (by unfold aU;rw[decide_eq_true h1];rfl),hw.below⟩
 have h1:=of_decide_eq_false h1
 refine cD 11 (fun h2=>?_) (fun h2=>?_)
 ·have h2:=of_decide_eq_true h2
  refine aa ?_
  intro w hw
  exact⟨aS (by unfold aU;rw[decide_eq_false h1,decide_eq_true h2];rfl),hw.below⟩
 have h2:=of_decide_eq_false h2
 refine aa ?_
 intro w hw
 exact⟨aS (by unfold aU;rw[decide_eq_false h1,decide_eq_false h2];rfl),hw.below⟩
end
section
def Le (a b:List Int):Prop:=a.length=b.length/\∀i,i<a.length->aU (a.getD i 0) (b.getD i 0)=true
theorem Cg (t:Int):aU t t=true:=by unfold aU;simp
theorem pm {a b:Int} :aU a b=true↔a=b\/(a=3/\b=2):=by unfold aU;simp
theorem zS {a b c:Int} (h1:aU a b=true) (h2:aU b c=true):aU a c=true:=by
 rw[pm] at *;omega
theorem Ch {a b:Int} (h1:aU a b=true) (h2:aU b a=true):a=b:=by
 rw[pm] at *;omega
theorem Le.refl (a:List Int):Le a a:=⟨rfl,fun _ _=>Cg _⟩
theorem Le.trans {a b c:List Int} (h1:Le a b) (h2:Le b c):Le a c:=⟨h1.1.trans h2.1,fun i hi=>zS (h1.2 i hi) (h2.2 i (by rw[<-h1.1];exact hi))⟩
theorem Bl {a b:List Int} (hl:a.length=b.length) (h:∀i,i<a.length->a.getD i 0=b.getD i 0):a=b:=by
 apply List.ext_getElem hl
 intro i h1 h2
 have:=h i h1
 rwa [ac,ae h1,ac,ae h2] at this
theorem Le.anti {a b:List Int} (h1:Le a b) (h2:Le b a):a=b:=Bl h1.1 fun i hi=>Ch (h1.2 i hi) (h2.2 i (by rw[<-h1.1];exact hi))
theorem fg {l:List Int} {k i:Nat} (h:i<k):(l.take k).getD i 0=l.getD i 0:=by
 rw[ac,cB,if_pos h,<-ac]
theorem fF {l:List Int} {k i:Nat} :(l.drop k).getD i 0=l.getD (k+i) 0:=by
 rw[ac,bM,<-ac]
theorem rv {l m:List Int} {i:Nat} (h:i<l.length):(l++m).getD i 0=l.getD i 0:=by
 rw[ac,cI h,<-ac]
theorem ru {l m:List Int} {i:Nat} (h:l.length<=i):(l++m).getD i 0=m.getD (i - l.length) 0:=by
 rw[ac,bB h,<-ac]
theorem Le.take {a b:List Int} (h:Le a b) (k:Nat):Le (a.take k) (b.take k):=⟨by rw[an,an,h.1],fun i hi=>by
 rw[an] at hi
 rw[fg (by omega),fg (by omega)]
 exact h.2 i (by omega)⟩
theorem Le.drop {a b:List Int} (h:Le a b) (k:Nat):Le (a.drop k) (b.drop k):=⟨by rw[az,az,h.1],fun i hi=>by
 rw[az] at hi
 rw[fF,fF]
 exact h.2 _ (by omega)⟩
theorem Le.app {a b c d:List Int} (h1:Le a b) (h2:Le c d):Le (a++c) (b++d):=⟨by rw[ag,ag,h1.1,h2.1],fun i hi=>by
 rw[ag] at hi
 by_cases h:i<a.length
 ·rw[rv h,rv (by rw[<-h1.1];exact h)];exact h1.2 i h
 rw[ru (by omega),ru (by rw[<-h1.1];omega),<-h1.1];exact h2.2 _ (by omega)⟩
theorem ka {l:List Int} {w:Bool} (h:0<l.length):en (l,w)=(l.getD (l.length - 1) 0,l.take (l.length - 1),w):=by unfold en;rw[if_neg (by show¬l.length=0;omega)]
theorem tg {w:Bool} :en ([],w)=(0,[],true):=rfl
theorem mz (xs:List Int):∀(k:Nat) (l:List Int),(cO xs k (l,true)).2=true
 | 0,_=>rfl
 | k+1,l=>by
  unfold cO
  rcases eH l.length with h | h
  ·have:l= []:=aN h
   subst this
   rw[tg]
   exact mz xs k _
  rw[ka h]
  exact mz xs k _
theorem lZ (xs:List Int):∀(k:Nat) (l:List Int) (w:Bool),l.length<k->(cO xs k (l,w)).2=true
 | 0,_,_,h=>absurd h (eo _)
 | k+1,l,w,h=>by
  unfold cO
  rcases eH l.length with h0 | h0
  ·have:l= []:=aN h0
   subst this
   rw[tg]
   exact mz xs k _
  rw[ka h0]
  exact lZ xs k _ _ (by rw[an];omega)
theorem j6 (xs:List Int):∀(k:Nat) (l:List Int) (w:Bool),k<=l.length->k<=xs.length->
  (cO xs k (l,w)).1=l.take (l.length - k)/\((cO xs k (l,w)).2=false↔w=false/\Le (l.drop (l.length - k)) (xs.take k))
 | 0,l,w,_,_=>by
  refine⟨by simp[cO],?_⟩
  simp only[cO]
  constructor
  ·intro h;exact⟨h,by rw[Nat.sub_zero,List.drop_length,List.take_zero];exact .refl _⟩
  exact fun h=>h.1
 | k+1,l,w,h,hx=>by
  unfold cO
  rw[ka (by omega)]
  obtain⟨i1,i2⟩:=j6 xs k (l.take (l.length - 1)) (w || !aU (l.getD (l.length - 1) 0) (xs.getD k 0)) (by rw[an];omega) (by omega)
  have hl:(l.take (l.length - 1)).length=l.length - 1:=by rw[an];omega
  rw[hl] at i1 i2
  refine⟨?_,?_⟩
  ·rw[i1,List.take_take]
   congr 1
   omega
  show (cO xs k (l.take (l.length - 1),w || !aU (l.getD (l.length - 1) 0) (xs.getD k 0))).2=false↔_
  rw[i2]
  have hq:l.length - 1 - k=l.length - (k+1):=by omega
  rw[hq]
  constructor
  ·rintro⟨h1,h2⟩
   simp only[Bool.or_eq_false_iff,Bool.not_eq_false'] at h1
   refine⟨h1.1,by rw[az,an];omega,fun i hi=>?_⟩
   rw[az] at hi
   by_cases e:i=k
   ·subst e
    rw[fF,fg (by omega),show l.length - (i+1)+i=l.length - 1 from by omega]
    exact h1.2
   have:=h2.2 i (by rw[az,hl];omega)
   rw[fF,fg (by omega),fg (by omega)] at this
   rw[fF,fg (by omega)]
   exact this
  rintro⟨h1,h2⟩
  simp only[Bool.or_eq_false_iff,Bool.not_eq_false']
  have hk:=h2.2 k (by rw[az];omega)
  rw[fF,fg (by omega),show l.length - (k+1)+k=l.length - 1 from by omega] at hk
  refine⟨⟨h1,hk⟩,by rw[az,hl,an];omega,fun i hi=>?_⟩
  rw[az,hl] at hi
  have:=h2.2 i (by rw[az];omega)
  rw[fF,fg (by omega)] at this
  rw[fF,fg (by omega),fg (by omega)]
  exact this
def tl (fs:List ah) (f:ah) (o:aW) (s:List Int):Option (List Int×List Int):=
 if o.c=2 then (if s.length<1 then none else some (s.drop (s.length - 1),[])) else
 if o.c=3 then (if s.length<1 then none else some (s.drop (s.length - 1),[s.getD (s.length - 1) 0,s.getD (s.length - 1) 0])) else
 if o.c=4 then (if s.length<2 then none else some (s.drop (s.length - 2),[s.getD (s.length - 1) 0,s.getD (s.length - 2) 0])) else
 if o.c=8 then some ([],[f.locals.getD o.a.toNat 0]) else if o.c=9 then some ([f.locals.getD o.a.toNat 0],[]) else
 if o.c=12 then some (dG (ai fs o.a.toNat),aR (ai fs o.a.toNat)) else
 if o.c=13 then (if s.length≠(aR f).length then none else some (aR f,[])) else some ((cn o.c).1,(cn o.c).2)
def dU (fs:List ah) (f:ah) (o:aW) (s:List Int):Option (List Int):=if (jO fs f o (s,false)).2=true then none else some (jO fs f o (s,false)).1
theorem jB {fs:List ah} {f:ah} {o:aW} {s T V:List Int} (h0:fi fs f o (s,false)=mC (cO T T.length (s,false)) V) :
  dU fs f o s=if T.length<=s.length/\(s.take (s.length - T.length)++V).length<=8/\(cO T T.length (s,false)).2=false then some (s.take (s.length - T.length)++V) else none:=by
 obtain⟨l',w',e⟩:∃l' w',cO T T.length (s,false)=(l',w'):=⟨_,_,rfl⟩
 have h1:dU fs f o s=if (w' || decide (8<(l'++V).length))=true then none else some (l'++V):=by
  unfold dU jO
  rw[h0,e]
  rfl
 rw[h1,e]
 by_cases hl:T.length<=s.length
 ·obtain⟨e1,e2⟩:=j6 T T.length s false hl (ay _)
  rw[e] at e1
  have e1:l'=s.take (s.length - T.length):=e1
  subst e1
  by_cases h8:(s.take (s.length - T.length)++V).length<=8
  ·cases w'
   ·rw[decide_eq_false (by omega)]
    exact(if_pos ⟨hl,h8,rfl⟩).symm
   rw[Bool.true_or]
   exact(if_neg (fun h=>by cases h.2.2)).symm
  rw[decide_eq_true (by omega),Bool.or_true]
  exact(if_neg (fun h=>h8 h.2.1)).symm
 have:=lZ T T.length s false (by omega)
 rw[e] at this
 have this:w'=true:=this
 subst this
 rw[Bool.true_or]
 exact(if_neg (fun h=>hl h.1)).symm
theorem oW {s:List Int} {k:Nat} (h:k+1<=s.length):cO (s.drop (s.length - (k+1))) (k+1) (s,false)=(s.take (s.length - (k+1)),false):=by
 obtain⟨e1,e2⟩:=j6 (s.drop (s.length - (k+1))) (k+1) s false h (by rw[az];omega)
 have:(cO (s.drop (s.length - (k+1))) (k+1) (s,false)).2=false:=e2.2 ⟨rfl,by rw[a6 (by rw[az];omega)];exact .refl _⟩
 exact Prod.ext e1 this
theorem vn (fs:List ah) (f:ah) (o:aW) (s:List Int):dU fs f o s=match tl fs f o s with
  | none=>none
  | some (T,V)=>if T.length<=s.length/\(s.take (s.length - T.length)++V).length<=8/\(cO T T.length (s,false)).2=false then some (s.take (s.length - T.length)++V) else none:=by
 unfold tl
 by_cases h2:o.c=2
 ·rw[if_pos h2]
  by_cases hl:s.length<1
  ·rw[if_pos hl]
   have:s= []:=aN (by omega)
   subst this
   unfold dU jO fi
   rw[if_pos h2]
   rfl
  rw[if_neg hl]
  have e:=oW (s:=s) (k:=0) (by omega)
  have hd:(s.drop (s.length - 1)).length=1:=by rw[az];omega
  refine jB ?_
  rw[hd,e]
  unfold fi
  rw[if_pos h2,ka (by omega)]
  simp[mC]
 rw[if_neg h2]
 by_cases h3:o.c=3
 ·rw[if_pos h3]
  by_cases hl:s.length<1
  ·rw[if_pos hl]
   have:s= []:=aN (by omega)
   subst this
   unfold dU jO fi
   rw[if_neg h2,if_pos h3]
   rfl
  rw[if_neg hl]
  have e:=oW (s:=s) (k:=0) (by omega)
  have hd:(s.drop (s.length - 1)).length=1:=by rw[az];omega
  refine jB ?_
  rw[hd,e]
  unfold fi
  rw[if_neg h2,if_pos h3,ka (by omega)]
 rw[if_neg h3]
 by_cases h4:o.c=4
 ·rw[if_pos h4]
  by_cases hl:s.length<2
  ·rw[if_pos hl]
   unfold dU jO fi
   rw[if_neg h2,if_neg h3,if_pos h4]
   rcases eH s.length with h0 | h0
   ·have:s= []:=aN h0
    subst this
    rfl
   obtain⟨t,rfl⟩:∃t,s= [t]:=by
    match s,h0,hl with
    | [t],_,_=>exact⟨t,rfl⟩
   rfl
  rw[if_neg hl]
  have e:=oW (s:=s) (k:=1) (by omega)
  have hd:(s.drop (s.length - 2)).length=2:=by rw[az];omega
  refine jB ?_
  rw[hd,e]
  unfold fi
  have hl1:(s.take (s.length - 1)).length=s.length - 1:=by rw[an];omega
  have p1:en (s,false)=(s.getD (s.length - 1) 0,s.take (s.length - 1),false):=ka (by omega)
  have p2:en (s.take (s.length - 1),false)=(s.getD (s.length - 2) 0,s.take (s.length - 2),false):=by
   rw[ka (by rw[hl1];omega),hl1,List.take_take,fg (by omega),show min (s.length - 1 - 1) (s.length - 1)=s.length - 2 from by omega,show s.length - 1 - 1=s.length - 2 from by omega]
  rw[if_neg h2,if_neg h3,if_pos h4]
  simp only[p1,p2]
 rw[if_neg h4]
 by_cases h8:o.c=8
 ·rw[if_pos h8]
  refine jB ?_
  unfold fi
  rw[if_neg h2,if_neg h3,if_neg h4,if_pos h8]
  rfl
 rw[if_neg h8]
 by_cases h9:o.c=9
 ·rw[if_pos h9]
  refine jB ?_
  unfold fi
  rw[if_neg h2,if_neg h3,if_neg h4,if_neg h8,if_pos h9]
  simp[mC]
 rw[if_neg h9]
 by_cases h12:o.c=12
 ·rw[if_pos h12]
  refine jB ?_
  unfold fi
  rw[if_neg h2,if_neg h3,if_neg h4,if_neg h8,if_neg h9,if_pos h12]
 rw[if_neg h12]
 by_cases h13:o.c=13
 ·rw[if_pos h13]
  have hS0:fi fs f o (s,false)=((cO (aR f) (aR f).length (s,false)).1,(cO (aR f) (aR f).length (s,false)).2 || decide (0<(cO (aR f) (aR f).length (s,false)).1.length)):=by
   unfold fi
   rw[if_neg h2,if_neg h3,if_neg h4,if_neg h8,if_neg h9,if_neg h12,if_pos h13]
  by_cases hl:s.length≠(aR f).length
  ·rw[if_pos hl]
   have:(fi fs f o (s,false)).2=true:=by
    rw[hS0]
    by_cases hs:s.length<(aR f).length
    ·rw[lZ _ _ _ _ hs];rfl
    rw[(j6 (aR f) _ s false (by omega) (ay _)).1,an,decide_eq_true (by omega),Bool.or_true]
   unfold dU jO
   rw[this]
   rfl
  rw[if_neg hl]
  have hl:s.length=(aR f).length:=by simpa using hl
  refine jB ?_
  have e1:=(j6 (aR f) _ s false (by omega) (ay _)).1
  rw[hl,pj,List.take_zero] at e1
  rw[hS0]
  obtain⟨l',w',e⟩:∃l' w',cO (aR f) (aR f).length (s,false)=(l',w'):=⟨_,_,rfl⟩
  rw[e] at e1⊢
  have e1:l'= []:=e1
  subst e1
  simp[mC]
 rw[if_neg h13]
 refine jB ?_
 unfold fi
 rw[if_neg h2,if_neg h3,if_neg h4,if_neg h8,if_neg h9,if_neg h12,if_neg h13]
end
section
theorem iw {fs:List ah} {f:ah} {o:aW} {s v:List Int} :dU fs f o s=some v↔
  ∃T V,tl fs f o s=some (T,V)/\T.length<=s.length/\(s.take (s.length - T.length)++V).length<=8/\Le (s.drop (s.length - T.length)) T/\v=s.take (s.length - T.length)++V:=by
 have hf:∀T:List Int,T.length<=s.length->((cO T T.length (s,false)).2=false↔Le (s.drop (s.length - T.length)) T):=fun T hT=>by
  rw[(j6 T T.length s false hT (ay _)).2,bh]
  simp
 rw[vn]
 constructor
 ·intro h
  cases e:tl fs f o s with
  | none=>rw[e] at h;cases h
  | some p=>
   obtain⟨T,V⟩:=p
   rw[e] at h
   simp only[] at h
   split at h
   ·rename_i hc
    simp only[au] at h
    exact⟨T,V,rfl,hc.1,hc.2.1,(hf T hc.1).1 hc.2.2,h.symm⟩
   cases h
 rintro⟨T,V,e,h1,h2,h3,rfl⟩
 rw[e]
 simp only[]
 rw[if_pos ⟨h1,h2,(hf T h1).2 h3⟩]
theorem B8 {fs:List ah} {f:ah} {o:aW} {a b T V:List Int} (h:Le a b) (e:tl fs f o b=some (T,V)) (hT:Le (b.drop (b.length - T.length)) T) (hl:T.length<=b.length) :
  ∃T' V',tl fs f o a=some (T',V')/\T'.length=T.length/\Le (a.drop (a.length - T.length)) T'/\Le V' V:=by
 have hlen:=h.1
 have fix:∀T V:List Int,Le (b.drop (b.length - T.length)) T->Le (a.drop (a.length - T.length)) T:=fun T V hT=>by rw[hlen];exact(h.drop _).trans hT
 have one:∀i,i<a.length->Le [a.getD i 0] [b.getD i 0]:=fun i hi=>⟨rfl,fun j hj=>by
  have:j=0:=by simpa using hj
  subst this
  exact h.2 i hi⟩
 unfold tl at e⊢
 by_cases h2:o.c=2
 ·rw[if_pos h2] at e⊢
  split at e
  ·cases e
  rename_i hb
  simp only[au,aX] at e
  obtain⟨rfl,rfl⟩:=e
  rw[if_neg (by omega)]
  refine⟨_,_,rfl,by rw[az,az,hlen],?_,.refl _⟩
  rw[az,show b.length - (b.length - 1)=1 from by omega]
  exact .refl _
 rw[if_neg h2] at e⊢
 by_cases h3:o.c=3
 ·rw[if_pos h3] at e⊢
  split at e
  ·cases e
  rename_i hb
  simp only[au,aX] at e
  obtain⟨rfl,rfl⟩:=e
  rw[if_neg (by omega)]
  refine⟨_,_,rfl,by rw[az,az,hlen],?_,?_⟩
  ·rw[az,show b.length - (b.length - 1)=1 from by omega]
   exact .refl _
  rw[<-hlen]
  exact(one _ (by omega)).app (one _ (by omega))
 rw[if_neg h3] at e⊢
 by_cases h4:o.c=4
 ·rw[if_pos h4] at e⊢
  split at e
  ·cases e
  rename_i hb
  simp only[au,aX] at e
  obtain⟨rfl,rfl⟩:=e
  rw[if_neg (by omega)]
  refine⟨_,_,rfl,by rw[az,az,hlen],?_,?_⟩
  ·rw[az,show b.length - (b.length - 2)=2 from by omega]
   exact .refl _
  rw[<-hlen]
  exact(one _ (by omega)).app (one _ (by omega))
 rw[if_neg h4] at e⊢
 by_cases h8:o.c=8
 ·rw[if_pos h8] at e⊢
  simp only[au,aX] at e
  obtain⟨rfl,rfl⟩:=e
  exact⟨_,_,rfl,rfl,fix _ [] hT,.refl _⟩
 rw[if_neg h8] at e⊢
 by_cases h9:o.c=9
 ·rw[if_pos h9] at e⊢
  simp only[au,aX] at e
  obtain⟨rfl,rfl⟩:=e
  exact⟨_,_,rfl,rfl,fix _ [] hT,.refl _⟩
 rw[if_neg h9] at e⊢
 by_cases h12:o.c=12
 ·rw[if_pos h12] at e⊢
  simp only[au,aX] at e
  obtain⟨rfl,rfl⟩:=e
  exact⟨_,_,rfl,rfl,fix _ [] hT,.refl _⟩
 rw[if_neg h12] at e⊢
 by_cases h13:o.c=13
 ·rw[if_pos h13] at e⊢
  split at e
  ·cases e
  rename_i hb
  simp only[au,aX] at e
  obtain⟨rfl,rfl⟩:=e
  rw[if_neg (by omega)]
  exact⟨_,_,rfl,rfl,fix _ [] hT,.refl _⟩
 rw[if_neg h13] at e⊢
 simp only[au,aX] at e
 obtain⟨rfl,rfl⟩:=e
 exact⟨_,_,rfl,rfl,fix _ [] hT,.refl _⟩
theorem lN {fs:List ah} {f:ah} {o:aW} {a b v:List Int} (h:Le a b) (e:dU fs f o b=some v):∃u,dU fs f o a=some u/\Le u v:=by
 obtain⟨T,V,e1,e2,e3,e4,rfl⟩:=iw.1 e
 obtain⟨T',V',k1,k2,k3,k4⟩:=B8 h e1 e4 e2
 have hlen:=h.1
 have hle:Le (a.take (a.length - T'.length)++V') (b.take (b.length - T.length)++V):=by
  rw[k2,hlen]
  exact(h.take _).app k4
 exact⟨_,iw.2 ⟨T',V',k1,by rw[k2,hlen];exact e2,by rw[hle.1];exact e3,by rw[k2];exact k3,rfl⟩,hle⟩
def Ty (l:List Int):Prop:= ∀t∈l,1<=t/\t<=3
structure lH (fs:List ah) (f:ah):Prop where
 loc:Ty f.locals
 res:∀k,k<fs.length->(0<=(ai fs k).result/\(ai fs k).result<=2)
theorem Ty.app {a b:List Int} (h1:Ty a) (h2:Ty b):Ty (a++b):=fun t ht=>by
 rcases cS.1 ht with h | h
 ·exact h1 t h
 exact h2 t h
theorem Ty.at_ {a:List Int} (h:Ty a) {i:Nat} (hi:i<a.length):1<=a.getD i 0/\a.getD i 0<=3:=by
 rw[ac,ae hi]
 exact h _ (cL hi)
theorem Ty.one {t:Int} (h:1<=t/\t<=3):Ty [t]:=fun x hx=>by rw[dd.1 hx];exact h
theorem Ty.two {t u:Int} (h:1<=t/\t<=3) (h2:1<=u/\u<=3):Ty [t,u]:=fun x hx=>by
 rcases cc.1 hx with rfl | hx
 ·exact h
 rw[dd.1 hx];exact h2
theorem qs {fs:List ah} {f:ah} {o:aW} {s v:List Int} (ht:lH fs f) (hok:xw fs f o) (hs:Ty s) (e:dU fs f o s=some v):Ty v:=by
 obtain⟨T,V,e1,e2,e3,e4,rfl⟩:=iw.1 e
 refine Ty.app (fun t h=>hs t (gn h)) ?_
 have nil:Ty []:=fun _ h=>by cases h
 have res:∀k,k<fs.length->Ty (aR (ai fs k)):=fun k hk=>by
  unfold aR
  split
  ·exact nil
  rename_i hr
  have:=ht.res k hk
  exact .one (by omega)
 unfold tl at e1
 split at e1
 ·split at e1
  ·cases e1
  simp only[au,aX] at e1
  obtain⟨rfl,rfl⟩:=e1
  exact nil
 split at e1
 ·split at e1
  ·cases e1
  simp only[au,aX] at e1
  obtain⟨rfl,rfl⟩:=e1
  exact .two (hs.at_ (by omega)) (hs.at_ (by omega))
 split at e1
 ·split at e1
  ·cases e1
  simp only[au,aX] at e1
  obtain⟨rfl,rfl⟩:=e1
  exact .two (hs.at_ (by omega)) (hs.at_ (by omega))
 split at e1
 ·rename_i h8
  simp only[au,aX] at e1
  obtain⟨rfl,rfl⟩:=e1
  have:=hok.loc (.inl h8)
  exact .one (ht.loc.at_ (by omega))
 split at e1
 ·simp only[au,aX] at e1
  obtain⟨rfl,rfl⟩:=e1
  exact nil
 split at e1
 ·rename_i h12
  simp only[au,aX] at e1
  obtain⟨rfl,rfl⟩:=e1
  have:=hok.call h12
  exact res _ (by omega)
 split at e1
 ·split at e1
  ·cases e1
  simp only[au,aX] at e1
  obtain⟨rfl,rfl⟩:=e1
  exact nil
 simp only[au,aX] at e1
 obtain⟨rfl,rfl⟩:=e1
 unfold cn
 repeat (first | split | exact nil | exact .one (by decide) | exact .two (by decide) (by decide))
theorem BA {a b c:Int} (hc:1<=c/\c<=3) (h1:aU a c=true) (h2:aU b c=true):bZ a b≠0/\aU (bZ a b) c=true:=by
 rw[pm] at h1 h2
 rcases t3 hc with rfl | rfl | rfl
 ·have e1:a=1:=by omega
  have e2:b=1:=by omega
  subst e1 e2;decide
 ·rcases h1 with rfl | ⟨rfl,_⟩ <;> rcases h2 with rfl | ⟨rfl,_⟩ <;> decide
 have e1:a=3:=by omega
 have e2:b=3:=by omega
 subst e1 e2;decide
theorem Le.cons_iff {a b:Int} {l m:List Int} :Le (a::l) (b::m)↔aU a b=true/\Le l m:=by
 constructor
 ·intro h
  refine⟨h.2 0 (by simp),by simpa using h.1,fun i hi=>?_⟩
  have:=h.2 (i+1) (by simpa using hi)
  simpa using this
 rintro⟨h1,h2⟩
 refine⟨by simp[h2.1],fun i hi=>?_⟩
 cases i with
 | zero=>simpa using h1
 | succ i=>simpa using h2.2 i (by simpa using hi)
theorem qH:∀{a b c:List Int},Ty c->Le a c->Le b c->∃j,aL a b=some j/\Le j c
 | [],[],c,_,h,_=>⟨[],rfl,h⟩
 | [],_::_,c,_,h,h'=>by have:=h.1.trans h'.1.symm;simp at this
 | _::_,[],c,_,h,h'=>by have:=h.1.trans h'.1.symm;simp at this
 | a::l,b::m,[],_,h,_=>by have:=h.1;simp at this
 | a::l,b::m,c::n,ht,h,h'=>by
  obtain⟨h1,h2⟩:=Le.cons_iff.1 h
  obtain⟨h3,h4⟩:=Le.cons_iff.1 h'
  obtain⟨k1,k2⟩:=BA (ht c (by simp)) h1 h3
  obtain⟨j,k3,k4⟩:=qH (fun t h=>ht t (by simp[h])) h2 h4
  refine⟨bZ a b::j,?_,Le.cons_iff.2 ⟨k2,k4⟩⟩
  simp only[aL]
  rw[if_neg k1,k3]
  rfl
theorem C4 {a b j:List Int} (h:aL a b=some j):Le a j/\Le b j:=by
 have hl:=iD h
 exact⟨⟨by omega,fun i hi=>(l4 h (by omega)).1⟩,⟨by omega,fun i hi=>(l4 h (by omega)).2⟩⟩
structure lF (fs:List ah) (f:ah) (M:Nat->Option (List Int)):Prop where
 m0:M 0=some []
 ok:∀k s,M k=some s->k<f.code.length/\Ty s/\∃v,dU fs f (aK f.code k) s=some v/\∀q∈cH (aK f.code k) k,∃s',M q.toNat=some s'/\Le v s'
structure jV (fs:List ah) (f:ah) (s:cy):Prop where
 m0:s.met.getD 0 false=true
 a0:s.at_.getD 0 []= []
 ty:∀i,s.met.getD i false=true->Ty (s.at_.getD i [])
 le:∀M,lF fs f M->∀i,s.met.getD i false=true->∃t,M i=some t/\Le (s.at_.getD i []) t
structure Up (s s':cy):Prop where
 up:∀i,s.met.getD i false=true->s'.met.getD i false=true/\Le (s.at_.getD i []) (s'.at_.getD i [])
 old:∀i,s'.met.getD i false=true->(s.met.getD i false=true/\s'.at_.getD i []=s.at_.getD i [])\/(i:Int)∈s'.todo
 td:∀x∈s.todo,x∈s'.todo
theorem Up.refl (s:cy):Up s s:=⟨fun _ h=>⟨h,.refl _⟩,fun _ h=> .inl ⟨h,rfl⟩,fun _ h=>h⟩
theorem Up.trans {a b c:cy} (h1:Up a b) (h2:Up b c):Up a c:=
 ⟨fun i h=>by
  obtain⟨k1,k2⟩:=h1.up i h
  obtain⟨k3,k4⟩:=h2.up i k1
  exact⟨k3,k2.trans k4⟩,fun i h=>by
  rcases h2.old i h with ⟨k1,k2⟩ | k
  ·rcases h1.old i k1 with ⟨k3,k4⟩ | k3
   ·exact .inl ⟨k3,k2.trans k4⟩
   exact .inr (h2.td _ k3)
  exact .inr k,fun x h=>h2.td x (h1.td x h)⟩
theorem pJ {n:Nat} {s:cy} (h:dC n s) {i:Nat} (hm:s.met.getD i false=true):i<n:=by
 rcases dZ i n with h' | h'
 ·exact h'
 rw[ac,aM (by rw[h.ml];exact h')] at hm
 cases hm
theorem Br {fs:List ah} {f:ah} {s:cy} (hF:dC f.code.length s) (hI:jV fs f s) {k:Nat} (hk:k<=f.code.length) {l:List Int} (hl:Ty l) (hle:∀M,lF fs f M->∃t,M k=some t/\Le l t) :
  ((bG f.code.length s k l).1=true->jV fs f (bG f.code.length s k l).2/\Up s (bG f.code.length s k l).2/\(bG f.code.length s k l).2.met.getD k false=true/\Le l ((bG f.code.length s k l).2.at_.getD k []))/\
  ((bG f.code.length s k l).1=false->∀M,¬lF fs f M):=by
 have set_:k<f.code.length->∀j:List Int,Ty j->(k=0->j= [])->(s.met.getD k false=true->Le (s.at_.getD k []) j)->Le l j->(∀M,lF fs f M->∃t,M k=some t/\Le j t)->
   jV fs f ⟨s.at_.set k j,s.met.set k true,s.todo++ [(k:Int)]⟩/\Up s ⟨s.at_.set k j,s.met.set k true,s.todo++ [(k:Int)]⟩/\(s.met.set k true).getD k false=true/\Le l ((s.at_.set k j).getD k []):=by
  intro hkn j hj h0 hup hlj hlm
  have hA:∀i,(s.at_.set k j).getD i []=if i=k then j else s.at_.getD i []:=fun i=>eV (by rw[hF.al];exact hkn)
  have hM:∀i,(s.met.set k true).getD i false=if i=k then true else s.met.getD i false:=fun i=>eV (by rw[hF.ml];exact hkn)
  refine⟨⟨?_,?_,fun i hi=>?_,fun M hMs i hi=>?_⟩,⟨fun i hi=>?_,fun i hi=>?_,fun x hx=>iV _ hx⟩,?_,?_⟩
  ·show (s.met.set k true).getD 0 false=true
   rw[hM]
   split
   ·rfl
   exact hI.m0
  ·show (s.at_.set k j).getD 0 []= []
   rw[hA]
   split
   ·rename_i e;exact h0 e.symm
   exact hI.a0
  ·show Ty ((s.at_.set k j).getD i [])
   have hi:(s.met.set k true).getD i false=true:=hi
   rw[hA]
   rw[hM] at hi
   split
   ·exact hj
   rename_i e;rw[if_neg e] at hi;exact hI.ty i hi
  ·show∃t,M i=some t/\Le ((s.at_.set k j).getD i []) t
   have hi:(s.met.set k true).getD i false=true:=hi
   rw[hA]
   rw[hM] at hi
   split
   ·rename_i e;subst e;exact hlm M hMs
   rename_i e;rw[if_neg e] at hi;exact hI.le M hMs i hi
  ·show (s.met.set k true).getD i false=true/\Le (s.at_.getD i []) ((s.at_.set k j).getD i [])
   rw[hA,hM]
   split
   ·rename_i e;subst e;exact⟨rfl,hup hi⟩
   exact⟨hi,.refl _⟩
  ·have hi:(s.met.set k true).getD i false=true:=hi
   rw[hM] at hi
   by_cases e:i=k
   ·subst e;right;exact jW _ (by simp)
   rw[if_neg e] at hi
   left
   refine⟨hi,?_⟩
   show (s.at_.set k j).getD i []=_
   rw[hA,if_neg e]
  ·rw[hM,if_pos rfl]
  rw[hA,if_pos rfl];exact hlj
 unfold bG
 split
 ·rename_i hkn
  refine⟨fun h=>(by cases h),fun _ M hMs=>?_⟩
  obtain⟨t,h1,_⟩:=hle M hMs
  have:=(hMs.ok k t h1).1
  omega
 rename_i hkn
 split
 ·rename_i hm
  split
  ·rename_i hj
   refine⟨fun h=>(by cases h),fun _ M hMs=>?_⟩
   obtain⟨t,h1,h2⟩:=hle M hMs
   obtain⟨t',h3,h4⟩:=hI.le M hMs k hm
   rw[h1] at h3
   cases h3
   obtain⟨j,h5,_⟩:=qH (hMs.ok k t h1).2.1 h4 h2
   rw[hj] at h5
   cases h5
  rename_i j hj
  have hu:=C4 hj
  split
  ·rename_i he
   refine⟨fun _=>⟨hI,.refl _,hm,by rw[<-he];exact hu.2⟩,fun h=>(by cases h)⟩
  rename_i he
  refine⟨fun _=>set_ (by omega) j (tH hj (hI.ty k hm) hl) (fun e=>?_) (fun _=>hu.1) hu.2 (fun M hMs=>?_),fun h=>(by cases h)⟩
  ·subst e
   rw[hI.a0] at hj
   have:=(iD hj).2
   exact aN this
  obtain⟨t,h1,h2⟩:=hle M hMs
  obtain⟨t',h3,h4⟩:=hI.le M hMs k hm
  rw[h1] at h3
  cases h3
  obtain⟨j',h5,h6⟩:=qH (hMs.ok k t h1).2.1 h4 h2
  rw[hj] at h5
  cases h5
  exact⟨t,h1,h6⟩
 rename_i hm
 refine⟨fun _=>set_ (by omega) l hl (fun e=>?_) (fun h=>absurd h hm) (.refl _) hle,fun h=>(by cases h)⟩
 subst e
 exact absurd hI.m0 hm
theorem nM {fs:List ah} {f:ah} :∀{L:List Int} {s:cy} {l:List Int},dC f.code.length s->jV fs f s->(∀q∈L,0<=q/\q<=f.code.length)->l.length<=8->s.todo.length+L.length<5000->Ty l->(∀M,lF fs f M->∀q∈L,∃t,M q.toNat=some t/\Le l t)->
  (∀s',bQ f.code.length s L l=some s'->jV fs f s'/\Up s s'/\∀q∈L,s'.met.getD q.toNat false=true/\Le l (s'.at_.getD q.toNat []))/\(bQ f.code.length s L l=none->∀M,¬lF fs f M)
 | [],s,l,hF,hI,_,_,_,_,_=>by
  refine⟨fun s' e=>?_,fun e=>by simp[bQ] at e⟩
  simp only[bQ,au] at e
  subst e
  exact⟨hI,.refl _,fun q h=>by cases h⟩
 | a::L,s,l,hF,hI,hq,h8,ht,hl,hle=>by
  have ha:=hq a (by simp)
  rw[aA] at ht
  obtain⟨k1,k2⟩:=Br hF hI (k:=a.toNat) (by omega) hl (fun M hM=>hle M hM a (by simp))
  obtain⟨f1,f2⟩:=jt hF (k:=a.toNat) (by omega) h8 (by omega)
  simp only[bQ]
  cases hb:(bG f.code.length s a.toNat l).1
  ·simp only[jZ,if_false]
   exact⟨fun s' e=>(by cases e),fun _=>k2 hb⟩
  simp only[if_true]
  obtain⟨i1,i2,i3,i4⟩:=k1 hb
  obtain⟨j1,j2⟩:=nM (L:=L) (l:=l) f1 i1 (fun q h=>hq q (by simp[h])) h8 (by omega) hl (fun M hM q h=>hle M hM q (by simp[h]))
  refine⟨fun s' e=>?_,j2⟩
  obtain⟨m1,m2,m3⟩:=j1 s' e
  refine⟨m1,i2.trans m2,fun q h=>?_⟩
  rcases cc.1 h with rfl | h
  ·obtain⟨n1,n2⟩:=m2.up _ i3
   exact⟨n1,i4.trans n2⟩
  exact m3 q h
def Dn (fs:List ah) (f:ah) (s:cy) (i:Nat):Prop:= ∃v,dU fs f (aK f.code i) (s.at_.getD i [])=some v/\∀q∈cH (aK f.code i) i,s.met.getD q.toNat false=true/\Le v (s.at_.getD q.toNat [])
def Wk (fs:List ah) (f:ah) (s:cy):Prop:= ∀i:Nat,s.met.getD i false=true->(i:Int)∈s.todo\/Dn fs f s i
theorem Dn.up {fs:List ah} {f:ah} {s s':cy} {i:Nat} (h:Dn fs f s i) (hu:Up s s') (e:s'.at_.getD i []=s.at_.getD i []):Dn fs f s' i:=by
 obtain⟨v,h1,h2⟩:=h
 refine⟨v,by rw[e];exact h1,fun q hq=>?_⟩
 obtain⟨k1,k2⟩:=h2 q hq
 obtain⟨k3,k4⟩:=hu.up _ k1
 exact⟨k3,k2.trans k4⟩
theorem j5 {fs:List ah} {f:ah} {o:aW} {s v:List Int} (h:dU fs f o s=some v):v.length<=8:=by
 obtain⟨T,V,_,_,h3,_,rfl⟩:=iw.1 h
 exact h3
def Tm (s:cy):Prop:= ∀x∈s.todo,s.met.getD x.toNat false=true
theorem DT {n:Nat} {s:cy} (hF:dC n s) (h:Tm s) {k:Nat} (hk:k<=n) (l:List Int):Tm (bG n s k l).2:=by
 have set_:k≠n->∀j:List Int,Tm ⟨s.at_.set k j,s.met.set k true,s.todo++ [(k:Int)]⟩:=fun hne j x hx=>by
  show (s.met.set k true).getD x.toNat false=true
  rw[eV (by rw[hF.ml];omega)]
  split
  ·rfl
  rename_i e
  rcases cS.1 hx with hx | hx
  ·exact h x hx
  rw[dd.1 hx] at e;exact absurd (aV k) e
 unfold bG
 split
 ·exact h
 rename_i hne
 split
 ·split
  ·exact h
  split
  ·exact h
  exact set_ hne _
 exact set_ hne _
theorem ue {n:Nat} :∀{L:List Int} {s s':cy} {l:List Int},dC n s->Tm s->(∀q∈L,0<=q/\q<=n)->l.length<=8->s.todo.length+L.length<5000->bQ n s L l=some s'->Tm s'
 | [],s,s',l,_,h,_,_,_,e=>by
  simp only[bQ,au] at e
  subst e
  exact h
 | a::L,s,s',l,hF,h,hq,h8,ht,e=>by
  simp only[bQ] at e
  split at e
  ·have ha:=hq a (by simp)
   rw[aA] at ht
   obtain⟨f1,f2⟩:=jt hF (k:=a.toNat) (by omega) h8 (by omega)
   exact ue f1 (DT hF h (by omega) l) (fun q h=>hq q (by simp[h])) h8 (by omega) e
  cases e
theorem zP {fs:List ah} {f:ah} (hok:iY fs f) (hty:lH fs f) {s:cy} (hF:dC f.code.length s) (hI:jV fs f s) (hW:Wk fs f s) (htm:Tm s) (ht:0<s.todo.length) (ht2:s.todo.length<=4000) :
  (∀s',jh fs f s=some s'->jV fs f s'/\Wk fs f s'/\Tm s')/\(jh fs f s=none->∀M,¬lF fs f M):=by
 obtain⟨n,hn⟩:∃n,s.todo.length=n+1:=⟨s.todo.length - 1,by omega⟩
 have hget:s.todo[n]? =some (s.todo.getD n 0):=by rw[ac,ae (by omega)];rfl
 have hmem:s.todo.getD n 0∈s.todo:=cJ hget
 have htd:=hF.td _ hmem
 have hmk:=htm _ hmem
 obtain⟨k,hk⟩:∃k:Nat,s.todo.getD n 0=(k:Int):=⟨(s.todo.getD n 0).toNat,by omega⟩
 rw[hk,aV] at hmk
 have hkl:k<f.code.length:=by omega
 have e:jh fs f s=match dU fs f (aK f.code k) (s.at_.getD k []) with
   | none=>none
   | some v=>bQ f.code.length ⟨s.at_,s.met,s.todo.take n⟩ (cH (aK f.code k) k) v:=by
  unfold jh dU
  dsimp only
  rw[show s.todo.length - 1=n from by omega,hk,aV]
  split <;> rfl
 have hF0:dC f.code.length ⟨s.at_,s.met,s.todo.take n⟩:=⟨hF.al,hF.ml,by show (s.todo.take n).length<=_;rw[an];omega,hF.st,fun x hx=>hF.td x (gn hx)⟩
 have hI0:jV fs f ⟨s.at_,s.met,s.todo.take n⟩:=⟨hI.m0,hI.a0,hI.ty,hI.le⟩
 have hT0:Tm ⟨s.at_,s.met,s.todo.take n⟩:=fun x hx=>htm x (gn hx)
 have hl2:=jU (aK f.code k) k
 have hlt:(s.todo.take n).length+(cH (aK f.code k) k).length<5000:=by rw[an];omega
 rw[e]
 cases hv:dU fs f (aK f.code k) (s.at_.getD k []) with
 | none=>
  refine⟨fun s' h=>(by cases h),fun _ M hM=>?_⟩
  obtain⟨t,h1,h2⟩:=hI.le M hM k hmk
  obtain⟨_,_,v,h3,_⟩:=hM.ok k t h1
  obtain⟨u,h4,_⟩:=lN h2 h3
  rw[hv] at h4
  cases h4
 | some v=>
  obtain⟨c1,c2⟩:=nM hF0 hI0 (hok.to_ k hkl) (j5 hv) hlt (qs hty (hok.op k hkl) (hI.ty k hmk) hv) (fun M hM q hq=>by
   obtain⟨t,h1,h2⟩:=hI.le M hM k hmk
   obtain⟨_,_,v',h3,h4⟩:=hM.ok k t h1
   obtain⟨u,h5,h6⟩:=lN h2 h3
   rw[hv] at h5
   cases h5
   obtain⟨s',h7,h8⟩:=h4 q hq
   exact⟨s',h7,h6.trans h8⟩)
  refine⟨fun s' h=>?_,c2⟩
  obtain⟨i1,i2,i3⟩:=c1 s' h
  refine⟨i1,fun i hi=>?_,ue hF0 hT0 (hok.to_ k hkl) (j5 hv) hlt h⟩
  rcases i2.old i hi with ⟨h1,h2⟩ | h1
  ·rcases hW i h1 with h3 | h3
   ·by_cases hx:(i:Int)∈s.todo.take n
    ·exact .inl (i2.td _ hx)
    have:(i:Int)=k:=by
     rw[<-List.take_append_drop n s.todo] at h3
     rcases cS.1 h3 with h3 | h3
     ·exact absurd h3 hx
     have:s.todo.drop n= [s.todo.getD n 0]:=by
      rw[ku (by omega),List.drop_of_length_le (by omega)]
      rw[ac,ae (by omega)]
      rfl
     rw[this,dd,hk] at h3
     exact h3
    have:i=k:=by omega
    subst this
    right
    have h2:s'.at_.getD i []=s.at_.getD i []:=h2
    exact⟨v,by rw[h2];exact hv,i3⟩
   exact .inr (Dn.up (s:=⟨s.at_,s.met,s.todo.take n⟩) h3 i2 h2)
  exact .inl h1
theorem tC {fs:List ah} {f:ah} (hok:iY fs f) (hty:lH fs f):∀(k:Nat) {s:cy},dC f.code.length s->jV fs f s->Wk fs f s->Tm s->mu f.code.length s<=4000->mu f.code.length s<k->
  (∀s',iN fs f k s=some s'->dC f.code.length s'/\jV fs f s'/\(∀i:Nat,s'.met.getD i false=true->Dn fs f s' i))/\(iN fs f k s=none->∀M,¬lF fs f M)
 | 0,_,_,_,_,_,_,h=>absurd h (eo _)
 | k+1,s,hF,hI,hW,hT,h4,hk=>by
  simp only[iN]
  by_cases h0:s.todo.length=0
  ·simp only[h0,if_true]
   refine⟨fun s' e=>?_,fun e=>(by cases e)⟩
   simp only[au] at e
   subst e
   refine⟨hF,hI,fun i hi=>?_⟩
   rcases hW i hi with h | h
   ·rw[aN h0] at h;cases h
   exact h
  simp only[h0,if_false]
  have htl:s.todo.length<=4000:=by unfold mu at h4;omega
  obtain⟨c1,c2⟩:=zP hok hty hF hI hW hT (by omega) htl
  cases e:jh fs f s with
  | none=>exact⟨fun s' h=>(by cases h),fun _=>c2 e⟩
  | some s1=>
   obtain⟨i1,i2,i3⟩:=c1 s1 e
   obtain⟨j1,j2⟩:=oX hok hF (by omega) htl e
   exact tC hok hty k j1 i1 i2 i3 (by omega) (by omega)
def MO (s:cy) (i:Nat):Option (List Int):=if s.met.getD i false=true then some (s.at_.getD i []) else none
theorem fm {s:cy} {i:Nat} {t:List Int} :MO s i=some t↔s.met.getD i false=true/\s.at_.getD i []=t:=by
 unfold MO
 split
 ·rename_i h
  exact⟨fun e=>⟨h,dF e⟩,fun e=>by rw[e.2]⟩
 rename_i h
 exact⟨fun e=>(by cases e),fun e=>absurd e.1 h⟩
theorem ld {fs:List ah} {f:ah} (hok:iY fs f) (hty:lH fs f) (hn:0<f.code.length) :
  (∀s,kP fs f=some s->dC f.code.length s/\lF fs f (MO s)/\∀M,lF fs f M->∀i t,MO s i=some t->∃u,M i=some u/\Le t u)/\(kP fs f=none->∀M,¬lF fs f M):=by
 have hst:ff f.code.length=⟨(List.replicate f.code.length ([]:List Int)).set 0 [],(List.replicate f.code.length false).set 0 true,[0]⟩:=by
  unfold ff bG ew
  rw[if_neg (by omega),if_neg (by rw[gK];decide)]
  rfl
 have hA:∀i,(ff f.code.length).at_.getD i []= []:=fun i=>by
  rw[hst]
  show ((List.replicate f.code.length ([]:List Int)).set 0 []).getD i []= []
  rw[eV (by simpa using hn)]
  split
  ·rfl
  exact gK _ _ _
 have hM:∀i,(ff f.code.length).met.getD i false=if i=0 then true else false:=fun i=>by
  rw[hst]
  show ((List.replicate f.code.length false).set 0 true).getD i false=_
  rw[eV (by simpa using hn)]
  split
  ·rfl
  exact gK _ _ _
 have z:∀i,(ff f.code.length).met.getD i false=true->i=0:=fun i h=>by
  rw[hM] at h
  by_cases e:i=0
  ·exact e
  rw[if_neg e] at h;cases h
 have hI:jV fs f (ff f.code.length):=⟨by rw[hM];rfl,hA 0,fun i _=>by rw[hA];exact fun _ h=>(by cases h),fun M h i hi=>by
  have:=z i hi
  subst this
  exact⟨[],h.m0,by rw[hA];exact .refl _⟩⟩
 have hW:Wk fs f (ff f.code.length):=fun i hi=>by
  have:=z i hi
  subst this
  left
  rw[hst]
  simp
 have hT:Tm (ff f.code.length):=fun x hx=>by
  rw[hst] at hx
  have:x=0:=by simpa using hx
  subst this
  rw[hM];rfl
 obtain⟨o1,o2⟩:=qZ hn
 have h40:=hok.n40
 obtain⟨c1,c2⟩:=tC hok hty (mu f.code.length (ff f.code.length)+1) o1 hI hW hT (by omega) (by omega)
 refine⟨fun s e=>?_,c2⟩
 obtain⟨k1,k2,k3⟩:=c1 s e
 refine⟨k1,⟨fm.2 ⟨k2.m0,k2.a0⟩,fun i t h=>?_⟩,fun M hMs i t h=>?_⟩
 ·obtain⟨h1,h2⟩:=fm.1 h
  subst h2
  refine⟨pJ k1 h1,k2.ty i h1,?_⟩
  obtain⟨v,h3,h4⟩:=k3 i h1
  refine⟨v,h3,fun q hq=>?_⟩
  obtain⟨h5,h6⟩:=h4 q hq
  exact⟨_,fm.2 ⟨h5,rfl⟩,h6⟩
 obtain⟨h1,h2⟩:=fm.1 h
 subst h2
 exact k2.le M hMs i h1
theorem w4 {fs:List ah} (h:bK fs=0) {k:Nat} (hk:k<fs.length):lH fs (ai fs k):=by
 obtain⟨_,_,hall⟩:=je h
 obtain⟨_,_,_,h4,_⟩:=kh (hall _ (jr hk))
 refine⟨fun t ht=>?_,fun j hj=>?_⟩
 ·have:=h4 t ht;omega
 obtain⟨_,_,g3,_⟩:=kh (hall _ (jr hj))
 exact g3
end
section
theorem EO {n:Nat} {s:cy} (h:dC n s):mj n s<=9*n:=by
 have key:∀m:Nat,((List.range m).map (gM s)).sum<=9*m:=fun m=>by
  induction m with
  | zero=>simp
  | succ m ih=>
   rw[List.range_succ,iq,List.sum_append]
   have:gM s m<=9:=by
    unfold gM
    split
    ·have:=tA (s.at_.getD m []);have:=h.st m;omega
    exact ay _
   simp only[cR,jX,List.sum_cons,List.sum_nil]
   omega
 exact key n
theorem y9 {n:Nat} {s:cy} {k:Nat} {l:List Int} :(bG n s k l).2=s\/(bG n s k l).2.todo=s.todo++ [(k:Int)]:=by
 unfold bG
 repeat (first | exact .inl rfl | exact .inr rfl | split)
theorem qb {n:Nat} :∀{L:List Int} {s s':cy} {l:List Int},bQ n s L l=some s'->s'.todo= []->s'=s
 | [],s,s',l,e,_=>by
  simp only[bQ,au] at e
  exact e.symm
 | a::L,s,s',l,e,h=>by
  simp only[bQ] at e
  split at e
  ·have h1:=qb e h
   rcases y9 (n:=n) (s:=s) (k:=a.toNat) (l:=l) with h2 | h2
   ·rw[h1,h2]
   rw[<-h1,h] at h2
   have:=congrArg List.length h2
   simp at this
  cases e
structure Sw (fs:List ah) (f:ah) (s0:cy) (i:Nat) (s:cy):Prop where
 ok:dC f.code.length s
 inv:jV fs f s
 mu_:mu f.code.length s<=mu f.code.length s0
 dn:s.todo= []->s=s0/\∀j,j<i->s.met.getD j false=true->Dn fs f s j
theorem Sw.todo {fs:List ah} {f:ah} {s0 s:cy} {i:Nat} (h:Sw fs f s0 i s) (h0:dC f.code.length s0) (ht:s0.todo= []) (hn:f.code.length<=40):s.todo.length<=360:=by
 have h1:=h.mu_
 have h2:=EO h0
 unfold mu at h1
 rw[ht] at h1
 simp only[aH] at h1
 omega
theorem Sw.start {fs:List ah} {f:ah} {s0:cy} (h:dC f.code.length s0) (hi:jV fs f s0):Sw fs f s0 0 s0:=⟨h,hi,ay _,fun _=>⟨rfl,fun _ hj=>absurd hj (eo _)⟩⟩
theorem Sw.skip {fs:List ah} {f:ah} {s0 s:cy} {i:Nat} (h:Sw fs f s0 i s) (hm:¬s.met.getD i false=true):Sw fs f s0 (i+1) s:=
 ⟨h.ok,h.inv,h.mu_,fun e=>⟨(h.dn e).1,fun j hj hj2=>by
  by_cases e2:j=i
  ·subst e2;exact absurd hj2 hm
  exact(h.dn e).2 j (by omega) hj2⟩⟩
theorem Sw.bad {fs:List ah} {f:ah} {s0 s:cy} {i:Nat} (h:Sw fs f s0 i s) (hm:s.met.getD i false=true) (hv:dU fs f (aK f.code i) (s.at_.getD i [])=none) (M:Nat->Option (List Int)):¬lF fs f M:=fun hM=>by
 obtain⟨t,h1,h2⟩:=h.inv.le M hM i hm
 obtain⟨_,_,v,h3,_⟩:=hM.ok i t h1
 obtain⟨u,h4,_⟩:=lN h2 h3
 rw[hv] at h4
 cases h4
theorem Sw.comes {fs:List ah} {f:ah} (hok:iY fs f) (hty:lH fs f) {s0 s:cy} {i:Nat} (h:Sw fs f s0 i s) (h0:dC f.code.length s0) (ht:s0.todo= []) (hi:i<f.code.length) (hm:s.met.getD i false=true) {v:List Int} (hv:dU fs f (aK f.code i) (s.at_.getD i [])=some v)
  {L:List Int} (hL:∀q∈L,q∈cH (aK f.code i) i) (hl4:L.length<=4) :
  (∀s',bQ f.code.length s L v=some s'->jV fs f s'/\Up s s'/\∀q∈L,s'.met.getD q.toNat false=true/\Le v (s'.at_.getD q.toNat []))/\(bQ f.code.length s L v=none->∀M,¬lF fs f M):=by
 have h36:=h.todo h0 ht hok.n40
 exact nM h.ok h.inv (fun q hq=>hok.to_ i hi q (hL q hq)) (j5 hv) (by omega) (qs hty (hok.op i hi) (h.inv.ty i hm) hv) (fun M hM q hq=>by
   obtain⟨t,h1,h2⟩:=h.inv.le M hM i hm
   obtain⟨_,_,v',h3,h4⟩:=hM.ok i t h1
   obtain⟨u,h5,h6⟩:=lN h2 h3
   rw[hv] at h5
   cases h5
   obtain⟨s',h7,h8⟩:=h4 q (hL q hq)
   exact⟨s',h7,h6.trans h8⟩)
theorem Sw.step {fs:List ah} {f:ah} (hok:iY fs f) (hty:lH fs f) {s0 s:cy} {i:Nat} (h:Sw fs f s0 i s) (h0:dC f.code.length s0) (ht:s0.todo= []) (hi:i<f.code.length) (hm:s.met.getD i false=true) {v:List Int} (hv:dU fs f (aK f.code i) (s.at_.getD i [])=some v)
  {s':cy} (e:bQ f.code.length s (cH (aK f.code i) i) v=some s'):Sw fs f s0 (i+1) s':=by
 have h36:=h.todo h0 ht hok.n40
 have hl2:=jU (aK f.code i) i
 obtain⟨k1,k2,k3⟩:=(h.comes hok hty h0 ht hi hm hv (fun q hq=>hq) (by omega)).1 s' e
 have hc:=nN h.ok (hok.to_ i hi) (j5 hv) (by omega) e
 have hmu:=nO h.ok (hok.to_ i hi) (j5 hv) (by omega) e
 refine⟨hc.1,k1,eu hmu h.mu_,fun e0=>?_⟩
 have es:=qb e e0
 subst es
 obtain⟨d1,d2⟩:=h.dn e0
 refine⟨d1,fun j hj hj2=>?_⟩
 by_cases e2:j=i
 ·subst e2;exact⟨v,hv,k3⟩
 exact d2 j (by omega) hj2
theorem Sw.again {fs:List ah} {f:ah} {s0 s:cy} {i:Nat} (h:Sw fs f s0 i s) (h0:s0.todo= []) (hne:s.todo≠[]):dC f.code.length ⟨s.at_,s.met,[]⟩/\jV fs f ⟨s.at_,s.met,[]⟩/\mj f.code.length ⟨s.at_,s.met,[]⟩<mj f.code.length s0:=by
 refine⟨⟨h.ok.al,h.ok.ml,by simp,h.ok.st,fun x hx=>by cases hx⟩,⟨h.inv.m0,h.inv.a0,h.inv.ty,h.inv.le⟩,?_⟩
 have h1:=h.mu_
 unfold mu at h1
 rw[h0] at h1
 simp only[aH] at h1
 have h2:=List.length_pos_iff.2 hne
 show mj f.code.length s<_
 omega
theorem rD {fs:List ah} {f:ah} (hok:iY fs f) (hty:lH fs f) (hn:0<f.code.length) (h:∀M,¬lF fs f M):aY fs f=([],false):=by
 unfold aY
 cases e:kP fs f with
 | none=>rfl
 | some s=>exact absurd ((ld hok hty hn).1 s e).2.1 (h _)
theorem yV {fs:List ah} {f:ah} (hok:iY fs f) (hty:lH fs f) (hn:0<f.code.length) {s:cy} (hF:dC f.code.length s) (hI:jV fs f s) (hd:∀i:Nat,s.met.getD i false=true->Dn fs f s i):aY fs f=(im s f.code.length,true):=by
 have hst:lF fs f (MO s):=⟨fm.2 ⟨hI.m0,hI.a0⟩,fun i t h=>by
  obtain⟨h1,h2⟩:=fm.1 h
  subst h2
  refine⟨pJ hF h1,hI.ty i h1,?_⟩
  obtain⟨v,h3,h4⟩:=hd i h1
  refine⟨v,h3,fun q hq=>?_⟩
  obtain⟨h5,h6⟩:=h4 q hq
  exact⟨_,fm.2 ⟨h5,rfl⟩,h6⟩⟩
 unfold aY
 cases e:kP fs f with
 | none=>exact absurd hst ((ld hok hty hn).2 e _)
 | some s'=>
  obtain⟨k1,k2,k3⟩:=(ld hok hty hn).1 s' e
  show (im s' f.code.length,true)=_
  congr 1
  unfold im
  congr 1
  funext i
  by_cases hm:s.met.getD i false=true
  ·obtain⟨t,h1,h2⟩:=hI.le _ k2 i hm
   obtain⟨h3,h4⟩:=fm.1 h1
   subst h4
   obtain⟨u,h5,h6⟩:=k3 _ hst i _ h1
   obtain⟨_,h7⟩:=fm.1 h5
   subst h7
   rw[if_pos hm,if_pos h3,h2.anti h6]
  rw[if_neg hm,if_neg]
  intro h3
  obtain⟨u,h5,_⟩:=k3 _ hst i _ (fm.2 ⟨h3,rfl⟩)
  exact hm (fm.1 h5).1
def oB (n:Nat):cy:=⟨List.replicate n [],(List.replicate n false).set 0 true,[]⟩
theorem D8 {fs:List ah} {f:ah} (hn:0<f.code.length):dC f.code.length (oB f.code.length)/\jV fs f (oB f.code.length):=by
 have hA:∀i,(oB f.code.length).at_.getD i []= []:=fun i=>gK _ _ _
 have hM:∀i,(oB f.code.length).met.getD i false=if i=0 then true else false:=fun i=>by
  show ((List.replicate f.code.length false).set 0 true).getD i false=_
  rw[eV (by simpa using hn)]
  split
  ·rfl
  exact gK _ _ _
 refine⟨⟨by simp[oB],by simp[oB],by simp[oB],fun i=>by rw[hA];simp,fun x hx=>by cases hx⟩,⟨by rw[hM];rfl,hA 0,fun i _=>by rw[hA];exact fun _ h=>(by cases h),fun M h i hi=>?_⟩⟩
 rw[hM] at hi
 by_cases e:i=0
 ·subst e;exact⟨[],h.m0,by rw[hA];exact .refl _⟩
 rw[if_neg e] at hi;cases hi
end
section
section
variable {B:Nat} {w0:World}
def HF (l:List f8) (k:Nat):f8:=l.getD k ⟨0,[]⟩
end
def tR (a b:Int):Nat->Int
 | 0=>0
 | k+1=>if tR a b k=0/\aU a (3 - k)=true/\aU b (3 - k)=true then 3 - k else tR a b k
theorem Cb {a b:Int} (ha:1<=a/\a<=3) (hb:1<=b/\b<=3):tR a b 3=bZ a b:=by
 rcases t3 ha with rfl | rfl | rfl <;> rcases t3 hb with rfl | rfl | rfl <;> decide
theorem uD (A1 A2:Option Addr) (c1 c2:Nat) (a b:List Int) (w:World) (h1:Sl w (.slice A1 a.length c1) a) (h2:Sl w (.slice A2 b.length c2) b) (ta:Ty a) (tb:Ty b) (hle:a.length<=1000000) :
  Calls Tryz.prog 197 #[.slice A1 a.length c1,.slice A2 b.length c2] w fun e w'=> ∃u,e= .returned (.tuple #[u,.bool (aL a b).isSome])/\Below w.heap.size w w'/\dx w' w.heap.size u ((aL a b).getD []):=by
 have bb:=be h2
 refine enter Tryz.func197 rfl Tryz.ntmps197 rfl<|cq (fun hl=>?_) (fun hl=>?_)
 ·have hn:=tG (a:=a) (b:=b) (fun e=>hl (by rw[e]))
  refine aa ?_
  intro w hw
  rw[hn]
  exact⟨_,rfl,hZ hw⟩
 have hl:a.length=b.length:=by omega
 refine aa ?_
 refine dg (fun w h=>Cw.nilO Int h) ?_
 refine cN (fun g:Nat×List Int×Option Addr×Nat=>g.1<=a.length/\aL (a.take g.1) (b.take g.1)=some g.2.1) (fun g=>a.length - g.1) (fun g=> [(0,.slice A1 a.length c1),(1,.slice A2 b.length c2),(6,.slice g.2.2.1 g.2.1.length g.2.2.2),(7,.int .i64 (g.1:Int))]) (fun g=> [aj (.slice g.2.2.1 g.2.1.length g.2.2.2) g.2.1]) (0,[],none,0) (⟨aC _,rfl⟩) ?_
 rintro⟨i,out,Ao,co⟩ hi'
 try dsimp only
 obtain⟨hi,hj⟩:i<=a.length/\aL (a.take i) (b.take i)=some out:=hi'
 have hol:out.length=i:=by have:=(iD hj).2;rw[an] at this;omega
 refine ak (fun hlt=>?_) (fun hlt=>?_)
 ·have hil:i<a.length:=by omega
  have hst:=mL hil (by omega) hj
  have i1:=gF h1 hil
  have i2:=gF h2 (k:=i) (by omega)
  have hbt:=Cb (ta.at_ hil) (tb.at_ (i:=i) (by omega))
  refine aa ?_
  refine ic (fun _:Unit=>True) (fun _=> [(0,.slice A1 a.length c1),(1,.slice A2 b.length c2),(6,.slice Ao out.length co),(7,.int .i64 (i:Int)),(8,.int .i64 (bZ (a.getD i 0) (b.getD i 0)))]) (fun _=> [aj (.slice Ao out.length co) out]) ?_ ?_
  ·refine cN (fun g:Nat×Int=>g.1<=3/\g.2=3 - (g.1:Int)) (fun g=>3 - g.1) (fun g=> [(0,.slice A1 a.length c1),(1,.slice A2 b.length c2),(6,.slice Ao out.length co),(7,.int .i64 (i:Int)),(8,.int .i64 (tR (a.getD i 0) (b.getD i 0) g.1)),(9,.int .i64 g.2)]) (fun _=> [aj (.slice Ao out.length co) out]) (0,3) (⟨aC _,rfl⟩) ?_
   rintro⟨k,x⟩ hk'
   try dsimp only
   obtain⟨hk,hx⟩:k<=3/\x=3 - (k:Int):=hk'
   refine ak (fun hk3=>?_) (fun hk3=>?_)
   ·have hk2:k<3:=by omega
    have htr:tR (a.getD i 0) (b.getD i 0) (k+1)=if tR (a.getD i 0) (b.getD i 0) k=0/\aU (a.getD i 0) x=true/\aU (b.getD i 0) x=true then x else tR (a.getD i 0) (b.getD i 0) k:=by rw[tR,hx]
    refine fU (eR ?_)
    refine dw (fun _:Unit=>True) (fun _=> [(0,.slice A1 a.length c1),(1,.slice A2 b.length c2),(6,.slice Ao out.length co),(7,.int .i64 (i:Int)),(8,.int .i64 (tR (a.getD i 0) (b.getD i 0) (k+1))),(9,.int .i64 x)]) (fun _=> [aj (.slice Ao out.length co) out]) ?_ ?_
    ·rw[htr]
     refine cD 27 (fun f1=>?_) (fun f1=>?_)
     ·have f1:=of_decide_eq_true f1
      refine aa ?_
      refine cQ (_) rfl ((.ro h1)) ?_
      refine jG rfl ((.ro h1))<|aa ?_
      refine bw rfl Hu (fun w hw=>l0 (a.getD i 0) x w)<|cD 35 (fun f2=>?_) (fun f2=>?_)
      ·refine aa ?_
       refine cQ (_) rfl ((.ro h2)) ?_
       refine jG rfl ((.ro h2))<|aa ?_
       refine bw rfl Hu (fun w hw=>l0 (b.getD i 0) x w)<|aa ?_
       refine aO rfl (fun f3=>?_) (fun f3=>?_)
       ·rw[if_pos ⟨f1,f2,f3⟩]
        refine aa ?_
        refine cG () (trivial)
       rw[if_neg (fun h=>by rw[h.2.2] at f3;cases f3)]
       refine aa ?_
       refine cG () (trivial)
      rw[if_neg (fun h=>by rw[h.2.1] at f2;cases f2)]
      refine aa ?_
      refine bO rfl<|aa ?_
      refine cG () (trivial)
     have f1:=of_decide_eq_false f1
     rw[if_neg (fun h=>f1 h.1)]
     refine aa ?_
     refine bO rfl<|aa ?_
     refine cG () (trivial)
    rintro _ _
    refine aa ?_
    refine bN (k+1,x - 1) (⟨hk2,by show x - 1=3 - ((k+1:Nat):Int);omega⟩) (by show 3 - (k+1)<3 - k;omega)
   obtain rfl:k=3:=by omega
   rw[hbt]
   refine aa ?_
   refine cG () (trivial)
  rintro _ _
  refine ak (fun h0=>?_) (fun h0=>?_)
  ·rw[if_pos h0] at hst
   have hn:=mM hst hl
   refine aa ?_
   intro w hw
   rw[hn]
   exact⟨_,rfl,hZ hw⟩
  rw[if_neg h0] at hst
  refine aa ?_
  intro g1 _
  refine oE (cZ (α:=Int) (bytes:=8) (bZ (a.getD i 0) (b.getD i 0)) [] rfl ap (bP dA) rfl (eM fc fc) (du (rI i1 i2)) (by omega) (by omega) rfl rfl rfl) (fun⟨A5,c5⟩ _=>?_)
  refine a7 ?_
  refine bN (i+1,out++ [bZ (a.getD i 0) (b.getD i 0)],A5,c5) (⟨hil,hst⟩) (by show _ - _<_ - _;omega)
 obtain rfl:i=a.length:=by omega
 rw[bh,hl,bh] at hj
 refine aa ?_
 intro w hw
 rw[hj]
 exact⟨_,rfl,jD hw⟩
end
section
def bE (c:Int):List UInt8×List UInt8:=
 if c=1\/c=21 then ([],[105]) else if c=5\/c=6\/c=7 then ([105,105],[105]) else if c=8 then ([],[108]) else if c=9 then ([108],[]) else if c=11\/c=20 then ([105],[]) else if c=14 then ([105],[114]) else if c=15 then ([114,105],[105]) else if c=16 then ([114,105,105],[]) else if c=17\/c=19 then ([114],[105]) else if c=18 then ([],[110]) else ([],[])
def lM (local_:Int) (b:UInt8):List Int:=if (b.toNat:Int)=105 then [1] else if (b.toNat:Int)=114 then [2] else if (b.toNat:Int)=110 then [3] else if (b.toNat:Int)=108 then [local_] else []
def gT (local_:Int) (s:List UInt8):List Int:=s.flatMap (lM local_)
theorem wG (c:Int) (w:World):Calls Tryz.prog 247 #[.int .i64 c] w fun e w'=>e= .returned (.tuple #[.string ⟨(bE c).1.toArray⟩,.string ⟨(bE c).2.toArray⟩])/\Below w.heap.size w w':=by
 refine enter Tryz.func247 rfl Tryz.ntmps247 rfl<|ak (fun h1=>?_) (fun h1=>?_)
 ·refine cT (t:=5) (v':= .bool true) rfl (by rw[decide_eq_true h1])<|aa ?_
  refine aJ rfl<|aa ?_
  have e:bE c=([],[105]):=by rw[h1];rfl
  refine aa ?_
  intro w hw
  rw[e]
  exact⟨rfl,hw.below⟩
 refine ak (fun h21=>?_) (fun h21=>?_)
 ·have e:bE c=([],[105]):=by rw[h21];rfl
  refine aa ?_
  intro w hw
  rw[e]
  exact⟨rfl,hw.below⟩
 refine ak (fun h5=>?_) (fun h5=>?_)
 ·refine cT (t:=8) (v':= .bool true) rfl (by rw[decide_eq_true h5])<|aa ?_
  refine aJ rfl<|aa ?_
  have e:bE c=([105,105],[105]):=by rw[h5];rfl
  refine aa ?_
  intro w hw
  rw[e]
  exact⟨rfl,hw.below⟩
 refine ak (fun h6=>?_) (fun h6=>?_)
 ·refine cT (t:=8) (v':= .bool true) rfl (by rw[decide_eq_true h6])<|aa ?_
  refine aJ rfl<|aa ?_
  have e:bE c=([105,105],[105]):=by rw[h6];rfl
  refine aa ?_
  intro w hw
  rw[e]
  exact⟨rfl,hw.below⟩
 refine ak (fun h7=>?_) (fun h7=>?_)
 ·have e:bE c=([105,105],[105]):=by rw[h7];rfl
  refine aa ?_
  intro w hw
  rw[e]
  exact⟨rfl,hw.below⟩
 refine ak (fun h8=>?_) (fun h8=>?_)
 ·have e:bE c=([],[108]):=by rw[h8];rfl
  refine aa ?_
  intro w hw
  rw[e]
  exact⟨rfl,hw.below⟩
 refine ak (fun h9=>?_) (fun h9=>?_)
 ·have e:bE c=([108],[]):=by rw[h9];rfl
  refine aa ?_
  intro w hw
  rw[e]
  exact⟨rfl,hw.below⟩
 refine ak (fun h11=>?_) (fun h11=>?_)
 ·refine cT (t:=16) (v':= .bool true) rfl (by rw[decide_eq_true h11])<|aa ?_
  refine aJ rfl<|aa ?_
  have e:bE c=([105],[]):=by rw[h11];rfl
  refine aa ?_
  intro w hw
  rw[e]
  exact⟨rfl,hw.below⟩
 refine ak (fun h20=>?_) (fun h20=>?_)
 ·have e:bE c=([105],[]):=by rw[h20];rfl
  refine aa ?_
  intro w hw
  rw[e]
  exact⟨rfl,hw.below⟩
 refine ak (fun h14=>?_) (fun h14=>?_)
 ·have e:bE c=([105],[114]):=by rw[h14];rfl
  refine aa ?_
  intro w hw
  rw[e]
  exact⟨rfl,hw.below⟩
 refine ak (fun h15=>?_) (fun h15=>?_)
 ·have e:bE c=([114,105],[105]):=by rw[h15];rfl
  refine aa ?_
  intro w hw
  rw[e]
  exact⟨rfl,hw.below⟩
 refine ak (fun h16=>?_) (fun h16=>?_)
 ·have e:bE c=([114,105,105],[]):=by rw[h16];rfl
  refine aa ?_
  intro w hw
  rw[e]
  exact⟨rfl,hw.below⟩
 refine ak (fun h17=>?_) (fun h17=>?_)
 ·refine cT (t:=25) (v':= .bool true) rfl (by rw[decide_eq_true h17])<|aa ?_
  refine aJ rfl<|aa ?_
  have e:bE c=([114],[105]):=by rw[h17];rfl
  refine aa ?_
  intro w hw
  rw[e]
  exact⟨rfl,hw.below⟩
 refine ak (fun h19=>?_) (fun h19=>?_)
 ·have e:bE c=([114],[105]):=by rw[h19];rfl
  refine aa ?_
  intro w hw
  rw[e]
  exact⟨rfl,hw.below⟩
 refine ak (fun h18=>?_) (fun h18=>?_)
 ·have e:bE c=([],[110]):=by rw[h18];rfl
  refine aa ?_
  intro w hw
  rw[e]
  exact⟨rfl,hw.below⟩
 refine aa ?_
 have e:bE c=([],[]):=by unfold bE;simp[h1,h21,h5,h6,h7,h8,h9,h11,h20,h14,h15,h16,h17,h19,h18]
 refine aa ?_
 intro w hw
 rw[e]
 exact⟨rfl,hw.below⟩
theorem B6 (x:Int) (b:UInt8):(lM x b).length<=1:=by
 unfold lM
 repeat (first | split | simp)
theorem nZ (x:Int):∀s:List UInt8,(gT x s).length<=s.length
 | []=>by simp[gT]
 | b::s=>by
  have h1:=nZ x s
  have h2:=B6 x b
  simp only[gT,dD,ag,aA] at *
  omega
theorem zL {x:Int} {s:List UInt8} {i:Nat} (hi:i<s.length):gT x (s.take (i+1))=gT x (s.take i)++lM x (s.getD i 0):=by
 unfold gT
 rw[dM hi,List.flatMap_append,ac,ae hi]
 simp
theorem pt (s:List UInt8) (x:Int) (hx:aI x) (w:World) (hl:s.length<=1000):Calls Tryz.prog 248 #[.string ⟨s.toArray⟩,.int .i64 x] w fun e w'=> ∃u,e= .returned u/\Below w.heap.size w w'/\dx w' w.heap.size u (gT x s):=by
 refine enter Tryz.func248 rfl Tryz.ntmps248 rfl<|aa ?_
 refine dg (fun w h=>Cw.nilO Int h) ?_
 refine cN (fun g:Nat×Option Addr×Nat=>g.1<=s.length) (fun g=>s.length - g.1) (fun g=> [(0,.string ⟨s.toArray⟩),(1,.int .i64 x),(5,.slice g.2.1 (gT x (s.take g.1)).length g.2.2),(6,.int .i64 (g.1:Int))]) (fun g=> [aj (.slice g.2.1 (gT x (s.take g.1)).length g.2.2) (gT x (s.take g.1))]) (0,none,0) (aC _) ?_
 rintro⟨i,Ao,co⟩ hi'
 try dsimp only
 have hi:i<=s.length:=hi'
 have hlt:=nZ x (s.take i)
 rw[an] at hlt
 refine ak (fun hlt=>?_) (fun hlt=>?_)
 ·have hil:i<s.length:=by omega
  have hsn:=zL (x:=x) hil
  refine fU (eR ?_)
  refine dw (fun _:Option Addr×Nat=>True) (fun g=> [(0,.string ⟨s.toArray⟩),(1,.int .i64 x),(5,.slice g.1 (gT x (s.take (i+1))).length g.2),(6,.int .i64 (i:Int))]) (fun g=> [aj (.slice g.1 (gT x (s.take (i+1))).length g.2) (gT x (s.take (i+1)))]) ?_ ?_
  ·rw[hsn]
   refine aa ?_
   refine sE (jC (k:=i) fw hil rfl rfl rfl)<|ak (fun h1=>?_) (fun h1=>?_)
   ·have e:lM x (s.getD i 0)= [1]:=by unfold lM;rw[if_pos h1]
    rw[e]
    refine aa ?_
    intro g1 _
    refine oE (cZ (α:=Int) (bytes:=8) 1 [] rfl ap (bP dA) rfl (eM fc fc) (du (show aI _ from by decide)) (by omega) (by omega) rfl rfl rfl) (fun⟨A5,c5⟩ _=>?_)
    refine a7 ?_
    refine cG (A5,c5) (trivial)
   refine ak (fun h2=>?_) (fun h2=>?_)
   ·have e:lM x (s.getD i 0)= [2]:=by unfold lM;rw[if_neg h1,if_pos h2]
    rw[e]
    refine aa ?_
    intro g2 _
    refine oE (cZ (α:=Int) (bytes:=8) 2 [] rfl ap (bP dA) rfl (eM fc fc) (du (show aI _ from by decide)) (by omega) (by omega) rfl rfl rfl) (fun⟨A5,c5⟩ _=>?_)
    refine a7 ?_
    refine cG (A5,c5) (trivial)
   refine ak (fun h3=>?_) (fun h3=>?_)
   ·have e:lM x (s.getD i 0)= [3]:=by unfold lM;rw[if_neg h1,if_neg h2,if_pos h3]
    rw[e]
    refine aa ?_
    intro g3 _
    refine oE (cZ (α:=Int) (bytes:=8) 3 [] rfl ap (bP dA) rfl (eM fc fc) (du (show aI _ from by decide)) (by omega) (by omega) rfl rfl rfl) (fun⟨A5,c5⟩ _=>?_)
    refine a7 ?_
    refine cG (A5,c5) (trivial)
   refine ak (fun h4=>?_) (fun h4=>?_)
   ·have e:lM x (s.getD i 0)= [x]:=by unfold lM;rw[if_neg h1,if_neg h2,if_neg h3,if_pos h4]
    rw[e]
    refine aa ?_
    intro g4 _
    refine oE (cZ (α:=Int) (bytes:=8) x [] rfl ap (bP dA) rfl (eM fc fc) (du hx) (by omega) (by omega) rfl rfl rfl) (fun⟨A5,c5⟩ _=>?_)
    refine a7 ?_
    refine cG (A5,c5) (trivial)
   have e:lM x (s.getD i 0)= []:=by unfold lM;rw[if_neg h1,if_neg h2,if_neg h3,if_neg h4]
   rw[e,fD]
   refine aa ?_
   refine cG (Ao,co) (trivial)
  rintro⟨A5,c5⟩ _
  refine aa ?_
  refine bN (i+1,A5,c5) (hil) (by show _ - _<_ - _;omega)
 obtain rfl:i=s.length:=by omega
 refine aa ?_
 intro w hw
 rw[bh] at hw⊢
 exact⟨_,rfl,jD hw⟩
end
section
theorem m6 {c:Int} (h8:¬c=8) (h9:¬c=9) (x:Int):gT x (bE c).1=(cn c).1/\gT x (bE c).2=(cn c).2:=by
 unfold bE cn
 by_cases h1:c=1\/c=21
 ·rw[if_pos h1,if_pos h1];exact⟨rfl,rfl⟩
 rw[if_neg h1,if_neg h1]
 by_cases h2:c=5\/c=6\/c=7
 ·rw[if_pos h2,if_pos h2];exact⟨rfl,rfl⟩
 rw[if_neg h2,if_neg h2,if_neg h8,if_neg h9]
 by_cases h3:c=11\/c=20
 ·rw[if_pos h3,if_pos h3];exact⟨rfl,rfl⟩
 rw[if_neg h3,if_neg h3]
 by_cases h4:c=14
 ·rw[if_pos h4,if_pos h4];exact⟨rfl,rfl⟩
 rw[if_neg h4,if_neg h4]
 by_cases h5:c=15
 ·rw[if_pos h5,if_pos h5];exact⟨rfl,rfl⟩
 rw[if_neg h5,if_neg h5]
 by_cases h6:c=16
 ·rw[if_pos h6,if_pos h6];exact⟨rfl,rfl⟩
 rw[if_neg h6,if_neg h6]
 by_cases h7:c=17\/c=19
 ·rw[if_pos h7,if_pos h7];exact⟨rfl,rfl⟩
 rw[if_neg h7,if_neg h7]
 by_cases h10:c=18
 ·rw[if_pos h10,if_pos h10];exact⟨rfl,rfl⟩
 rw[if_neg h10,if_neg h10]
 exact⟨rfl,rfl⟩
theorem uK (c:Int):(bE c).1.length<=3/\(bE c).2.length<=3:=by
 unfold bE
 repeat (first | split | decide)
def fB (f:ah) (o:aW):Int:=if o.c=8\/o.c=9 then f.locals.getD o.a.toNat 0 else 0
theorem wx {fs:List ah} {f:ah} {o:aW} {s:List Int} (h2:¬o.c=2) (h3:¬o.c=3) (h4:¬o.c=4) (h12:¬o.c=12) (h13:¬o.c=13):tl fs f o s=some (gT (fB f o) (bE o.c).1,gT (fB f o) (bE o.c).2):=by
 unfold tl fB
 rw[if_neg h2,if_neg h3,if_neg h4,if_neg h12,if_neg h13]
 by_cases h8:o.c=8
 ·rw[if_pos h8,if_pos (.inl h8),h8];rfl
 rw[if_neg h8]
 by_cases h9:o.c=9
 ·rw[if_pos h9,if_pos (.inr h9),h9];rfl
 rw[if_neg h9,if_neg (by omega),(m6 h8 h9 0).1,(m6 h8 h9 0).2]
theorem nm {fs:List ah} {f:ah} {o:aW} {s:List Int} (h:tl fs f o s=none):dU fs f o s=none:=by rw[vn,h]
theorem oV {fs:List ah} {f:ah} {o:aW} {s T V:List Int} (h:tl fs f o s=some (T,V)) (hn:¬(T.length<=s.length/\(s.take (s.length - T.length)++V).length<=8/\Le (s.drop (s.length - T.length)) T)):dU fs f o s=none:=by
 cases e:dU fs f o s with
 | none=>rfl
 | some v=>
  obtain⟨T',V',h1,h2,h3,h4,_⟩:=iw.1 e
  rw[h] at h1
  cases h1
  exact absurd ⟨h2,h3,h4⟩ hn
theorem zX (fs:List ah) (f:ah) (o:aW) (s:List Int) (Ap A1 A2 As:Option Addr) (cp c1 c2 cs:Nat) (w:World) (hp:Sl w (.slice Ap fs.length cp) fs) (hlo:Sl w (.slice A1 f.locals.length c1) f.locals) (hs:Sl w (.slice As s.length cs) s)
  (hok:xw fs f o) (hres:∀k,k<fs.length->0<=(ai fs k).result) (hrf:0<=f.result) (hl:s.length<=1000) :
  Calls Tryz.prog 195 #[.agg #[.slice Ap fs.length cp],.agg #[.int .i64 f.params,.slice A1 f.locals.length c1,.int .i64 f.result,.slice A2 f.code.length c2],.agg #[.int .i64 o.c,.int .i64 o.a],.slice As s.length cs] w fun e w'=>
   ∃g:(Option Addr×Nat)×List Int,(∀v,dU fs f o s=some v->g.2=v)/\e= .returned (.tuple #[.slice g.1.1 g.2.length g.1.2,.bool (dU fs f o s).isSome])/\Cw w.heap.size w [aj (.slice g.1.1 g.2.length g.1.2) g.2] w':=by
 have hcapS:=aT.cap hs
 refine enter Tryz.func195 rfl Tryz.ntmps195 rfl<|aa ?_
 refine fun g1 _=>aa ?_
 refine fun g2 _=>aa ?_
 intro g3 _
 refine aw ?_
 refine aw ?_
 refine bV<|cV<|cz<|aw ?_
 refine dJ (lw ap rfl rfl) rfl rfl<|aw ?_
 refine bV<|cV<|cz<|aw ?_
 refine aw ?_
 refine bV<|dw (fun g:List Int×List Int×(Option Addr×Nat)×(Option Addr×Nat)=>tl fs f o s=some (g.1,g.2.1)/\(g.1.length<=1000/\g.2.1.length<=1000)) (fun g=> [(3,.slice As s.length cs),(10,.int .i64 (s.length:Int)),(11,.slice g.2.2.1.1 g.1.length g.2.2.1.2),(12,.slice g.2.2.2.1 g.2.1.length g.2.2.2.2)]) (fun g=> [nW w.heap.size w (.slice g.2.2.1.1 g.1.length g.2.2.1.2) g.1,nW w.heap.size w (.slice g.2.2.2.1 g.2.1.length g.2.2.2.2) g.2.1]) ?_ ?_
 ·have hpar:=hok.par
  refine aa ?_
  refine ic (fun _:Unit=>True) (fun _=> [(3,.slice As s.length cs),(4,.pointer (some ⟨g1,0,none⟩)),(5,.pointer (some ⟨g2,0,none⟩)),(6,.pointer (some ⟨g3,0,none⟩)),(10,.int .i64 (s.length:Int)),(11,.slice none 0 0),(12,.slice none 0 0),(22,.int .i64 o.c),(49,.bool (decide (o.c=2\/o.c=3)))]) (fun _=> [af g1 [.slice Ap fs.length cp] 24,af g2 [.int .i64 f.params,.slice A1 f.locals.length c1,.int .i64 f.result,.slice A2 f.code.length c2] 84,af g3 [.int .i64 o.c,.int .i64 o.a] 86]) ?_ ?_
  ·refine ec rfl (fun k2=>?_) (fun k2=>?_)
   ·rw[decide_eq_true (.inl k2)]
    refine cT (t:=49) (v':= .bool true) rfl (by rw[decide_eq_true k2])<|aa ?_
    refine cG () (trivial)
   rw[show decide (o.c=2\/o.c=3)=decide (o.c=3) from decide_eq_decide.2 ⟨fun h=>h.resolve_left k2,.inr⟩]
   refine aa ?_
   refine lO () (trivial)
  rintro _ _
  refine ec rfl (fun k23=>?_) (fun k23=>?_)
  ·refine ak (fun hn=>?_) (fun hn=>?_)
   ·have hno:=nm (show tl fs f o s=none from by
     unfold tl
     rcases k23 with k | k
     ·rw[if_pos k,if_pos (by omega)]
     rw[if_neg (by omega),if_pos k,if_pos (by omega)])
    refine aa ?_
    intro w hw
    exact⟨((none,0),[]),fun v hv=>(by rw[hno] at hv;cases hv),by rw[hno];rfl,Cw.nilO Int (hw.msub (T:= []) ms)⟩
   have hcut:=aT.cut hs (s.length - 1) s.length (by omega) (ay _)
   have hdl:(s.drop (s.length - 1)).length=s.length - (s.length - 1):=az
   rw[a6 (by omega),<-hdl] at hcut
   refine aa ?_
   refine bq (t:=56) (v':= .int .i64 ((s.length - 1:Nat):Int)) rfl (by congr 1;omega) ?_
   refine sE (lu (lo:=s.length - 1) (hi:=s.length) ap bJ ⟨by omega,by omega⟩ rfl rfl rfl rfl) ?_
   refine aw ?_
   refine bV<|cT (t:=11) (v':= .slice (fS As (s.length - 1) cs 1) (s.drop (s.length - 1)).length (cs - (s.length - 1))) rfl (by rw[hdl])<|ak (fun h3=>?_) (fun h3=>?_)
   ·have htl:tl fs f o s=some (s.drop (s.length - 1),[s.getD (s.length - 1) 0,s.getD (s.length - 1) 0]):=by unfold tl;rw[if_neg (by omega),if_pos h3,if_neg (by omega)]
    have i1:=gF hs (k:=s.length - 1) (by omega)
    have ez:((s.length:Int) - 1).toNat=s.length - 1:=by omega
    refine bF [0,3,6,9,12,15,18,21,24,27,32,34] [10,11] rfl<|aa ?_
    refine tE rfl (j9 ap bJ (.ro hs) (by omega) rfl rfl rfl) ?_
    refine tE rfl (bT (SF.int (.ro hs) (by omega)) rfl rfl bd)<|aa ?_
    refine tE rfl (j9 ap bJ (.ro hs) (by omega) rfl rfl rfl) ?_
    refine tE rfl (bT (SF.int (.ro hs) (by omega)) rfl rfl bd)<|aa ?_
    refine fun g4 _=>aa ?_
    rw[ez]
    refine cG (s.drop (s.length - 1),[s.getD (s.length - 1) 0,s.getD (s.length - 1) 0],(fS As (s.length - 1) cs 1,cs - (s.length - 1)),(some ⟨g4,0,none⟩,2)) (⟨htl,by show (s.drop (s.length - 1)).length<=1000;omega,by show 2<=1000;decide⟩) (hh:=(fun w h=>(kY hcut (mi (bW (α:=Int) (m:=2) [s.getD (s.length - 1) 0,s.getD (s.length - 1) 0] rfl (jA i1 i1) rfl (by decide) (h.msub (T:= [af g4 _ _]) ms)))).msub ms))
   have htl:tl fs f o s=some (s.drop (s.length - 1),[]):=by unfold tl;rw[if_pos (by omega),if_neg (by omega)]
   refine aa ?_
   refine cG (s.drop (s.length - 1),[],(fS As (s.length - 1) cs 1,cs - (s.length - 1)),(none,0)) (⟨htl,by show (s.drop (s.length - 1)).length<=1000;omega,by show 0<=1000;decide⟩) (hh:=(fun w h=>(kY hcut (kY (aT.nil_ (α:=Int)) h)).msub ms))
  have n2:¬o.c=2:=fun e=>k23 (.inl e)
  have n3:¬o.c=3:=fun e=>k23 (.inr e)
  refine ak (fun h4=>?_) (fun h4=>?_)
  ·refine ak (fun hn=>?_) (fun hn=>?_)
   ·have hno:=nm (show tl fs f o s=none from by unfold tl;rw[if_neg n2,if_neg n3,if_pos h4,if_pos (by omega)])
    refine aa ?_
    intro w hw
    exact⟨((none,0),[]),fun v hv=>(by rw[hno] at hv;cases hv),by rw[hno];rfl,Cw.nilO Int (hw.msub (T:= []) ms)⟩
   have htl:tl fs f o s=some (s.drop (s.length - 2),[s.getD (s.length - 1) 0,s.getD (s.length - 2) 0]):=by unfold tl;rw[if_neg n2,if_neg n3,if_pos h4,if_neg (by omega)]
   have hcut:=aT.cut hs (s.length - 2) s.length (by omega) (ay _)
   have hdl:(s.drop (s.length - 2)).length=s.length - (s.length - 2):=az
   rw[a6 (by omega),<-hdl] at hcut
   have i1:=gF hs (k:=s.length - 1) (by omega)
   have i2:=gF hs (k:=s.length - 2) (by omega)
   have ez:((s.length:Int) - 1).toNat=s.length - 1:=by omega
   have ez2:((s.length:Int) - 2).toNat=s.length - 2:=by omega
   refine aa ?_
   refine bF [0,3,6,9,12,15,18,21,24,27,30,33,36,39,45,44,48] [] rfl<|aa ?_
   refine fN (t:=78) (v':= .int .i64 ((s.length - 2:Nat):Int)) rfl (by congr 1;omega) ?_
   refine tE rfl (lu (lo:=s.length - 2) (hi:=s.length) ap bJ ⟨by omega,by omega⟩ rfl rfl rfl rfl)<|aa ?_
   refine tE rfl (j9 ap bJ (.ro hs) (by omega) rfl rfl rfl) ?_
   refine tE rfl (bT (SF.int (.ro hs) (by omega)) rfl rfl bd)<|aa ?_
   refine tE rfl (j9 ap bJ (.ro hs) (by omega) rfl rfl rfl) ?_
   refine tE rfl (bT (SF.int (.ro hs) (by omega)) rfl rfl bd)<|aa ?_
   refine fun g5 _=>aa ?_
   rw[ez,ez2,<-hdl]
   refine cG (s.drop (s.length - 2),[s.getD (s.length - 1) 0,s.getD (s.length - 2) 0],(fS As (s.length - 2) cs 1,cs - (s.length - 2)),(some ⟨g5,0,none⟩,2)) (⟨htl,by show (s.drop (s.length - 2)).length<=1000;omega,by show 2<=1000;decide⟩) (hh:=(fun w h=>(kY hcut (mi (bW (α:=Int) (m:=2) [s.getD (s.length - 1) 0,s.getD (s.length - 2) 0] rfl (jA i1 i2) rfl (by decide) (h.msub (T:= [af g5 _ _]) ms)))).msub ms))
  refine ak (fun h12=>?_) (fun h12=>?_)
  ·have ⟨ha0,hal⟩:=hok.call h12
   have hkl:o.a.toNat<fs.length:=by omega
   obtain⟨B1,d1,B2,d2,hBl,hBc,hBi,hcell⟩:=aT.fn hp hkl
   have hpk:=hpar o.a.toNat hkl
   have hrk:=hres o.a.toNat hkl
   have htl:tl fs f o s=some (dG (ai fs o.a.toNat),aR (ai fs o.a.toNat)):=by unfold tl;rw[if_neg n2,if_neg n3,if_neg h4,if_neg (by omega),if_neg (by omega),if_pos h12]
   have hcl:(dG (ai fs o.a.toNat)).length=(ai fs o.a.toNat).params.toNat:=by unfold dG;rw[an];omega
   have hkp:(ai fs o.a.toNat).params.toNat<=(ai fs o.a.toNat).locals.length:=by omega
   have hto:Sl w (.slice B1 (dG (ai fs o.a.toNat)).length d1) (dG (ai fs o.a.toNat)):=by
    rw[hcl]
    exact aT.to hBl hkp
   have hBcap:=aT.cap hBl
   refine aa ?_
   refine nG rfl ((.ro hp)) ?_
   refine iW rfl (hcell _)<|aa ?_
   refine fun g6 _=>aa ?_
   refine bq (t:=102) (v':= .int .i64 ((((ai fs o.a.toNat).params.toNat:Nat)):Int)) rfl (by congr 1;omega) ?_
   refine sE (kZ (k:=(ai fs o.a.toNat).params.toNat) ap bJ (eu hkp hBcap) rfl rfl rfl)<|aa ?_
   refine cT (t:=11) (v':= .slice B1 (dG (ai fs o.a.toNat)).length d1) rfl (by rw[hcl]) ?_
   refine ec rfl (fun hr0=>?_) (fun hr0=>?_)
   ·have er:aR (ai fs o.a.toNat)= [(ai fs o.a.toNat).result]:=by unfold aR;rw[if_neg (by omega)]
    refine aa ?_
    refine fun g7 _=>aa ?_
    refine cG (dG (ai fs o.a.toNat),[(ai fs o.a.toNat).result],(B1,d1),(some ⟨g7,0,none⟩,1)) (⟨er▸htl,by show (dG (ai fs o.a.toNat)).length<=1000;omega,by show 1<=1000;decide⟩) (hh:=(fun w h=>(kY hto (mi (bW (α:=Int) (m:=1) [(ai fs o.a.toNat).result] rfl (jE hBi.2) rfl (by decide) (h.msub (T:= [af g7 _ _]) ms)))).msub ms))
   have er:aR (ai fs o.a.toNat)= []:=by unfold aR;rw[if_pos (by omega)]
   refine aa ?_
   refine cG (dG (ai fs o.a.toNat),[],(B1,d1),(none,0)) (⟨er▸htl,by show (dG (ai fs o.a.toNat)).length<=1000;omega,by show 0<=1000;decide⟩) (hh:=(fun w h=>(kY hto (kY (aT.nil_ (α:=Int)) h)).msub ms))
  refine ak (fun h13=>?_) (fun h13=>?_)
  ·refine aa ?_
   refine ic (fun _:Option Addr×Nat=>True) (fun g=> [(3,.slice As s.length cs),(10,.int .i64 (s.length:Int)),(11,.slice g.1 (aR f).length g.2),(12,.slice none 0 0)]) (fun g=> [nW w.heap.size w (.slice g.1 (aR f).length g.2) (aR f)]) ?_ ?_
   ·refine ec rfl (fun hr0=>?_) (fun hr0=>?_)
    ·have er:aR f= [f.result]:=by unfold aR;rw[if_neg (by omega)]
     rw[er]
     refine aa ?_
     refine fun g8 _=>aa ?_
     refine lO (some ⟨g8,0,none⟩,1) (trivial) (hh:=(fun w h=>(mi (bW (α:=Int) (m:=1) [f.result] rfl (jE hok.res) rfl (by decide) (h.msub (T:= [af g8 _ _]) ms))).msub ms))
    have er:aR f= []:=by unfold aR;rw[if_pos (by omega)]
    rw[er]
    refine aa ?_
    refine cG (none,0) (trivial) (hh:=(fun w h=>(kY (aT.nil_ (α:=Int)) h).msub ms))
   rintro⟨A4,c4⟩ _
   try dsimp only
   have hrl:(aR f).length<=1:=by unfold aR;split <;> simp
   refine cq (fun hne=>?_) (fun hne=>?_)
   ·have hno:=nm (show tl fs f o s=none from by unfold tl;rw[if_neg n2,if_neg n3,if_neg h4,if_neg (by omega),if_neg (by omega),if_neg h12,if_pos h13,if_pos (by omega)])
    refine aa ?_
    intro w hw
    exact⟨((none,0),[]),fun v hv=>(by rw[hno] at hv;cases hv),by rw[hno];rfl,Cw.nilO Int (hw.msub (T:= []) ms)⟩
   have htl:tl fs f o s=some (aR f,[]):=by unfold tl;rw[if_neg n2,if_neg n3,if_neg h4,if_neg (by omega),if_neg (by omega),if_neg h12,if_pos h13,if_neg (by omega)]
   refine aa ?_
   refine cG (aR f,[],(A4,c4),(none,0)) (⟨htl,by show (aR f).length<=1000;omega,by show 0<=1000;decide⟩) (hh:=(fun w h=>(kY (aT.nil_ (α:=Int)) h).msub ms))
  have htl:=wx (fs:=fs) (f:=f) (o:=o) (s:=s) n2 n3 h4 h12 h13
  have hll:=uK o.c
  have h1l:=nZ (fB f o) (bE o.c).1
  have h2l:=nZ (fB f o) (bE o.c).2
  have hxi:aI (fB f o):=by
   unfold fB
   split
   ·rename_i k
    have:=hok.loc k
    exact gF hlo (k:=o.a.toNat) (by omega)
   decide
  refine cV<|cz<|aw ?_
  refine bV<|dw (fun _:Unit=>True) (fun _=> [(3,.slice As s.length cs),(6,.pointer (some ⟨g3,0,none⟩)),(10,.int .i64 (s.length:Int)),(14,.int .i64 (fB f o))]) (fun _=> [af g1 [.slice Ap fs.length cp] 24,af g2 [.int .i64 f.params,.slice A1 f.locals.length c1,.int .i64 f.result,.slice A2 f.code.length c2] 84,af g3 [.int .i64 o.c,.int .i64 o.a] 86]) ?_ ?_
  ·refine cD 26 (fun h8=>?_) (fun h8=>?_)
   ·have h8:o.c=8:=of_decide_eq_true h8
    have el:fB f o=f.locals.getD o.a.toNat 0:=by unfold fB;rw[if_pos (.inl h8)]
    have hlk:=hok.loc (.inl h8)
    rw[el]
    refine aa ?_
    refine aJ rfl<|aa ?_
    refine nG rfl ((.ro hlo)) ?_
    refine jG rfl ((.ro hlo))<|aa ?_
    refine lO () (trivial)
   have h8:¬o.c=8:=of_decide_eq_false h8
   refine ak (fun h9=>?_) (fun h9=>?_)
   ·have el:fB f o=f.locals.getD o.a.toNat 0:=by unfold fB;rw[if_pos (.inr h9)]
    have hlk:=hok.loc (.inr h9)
    rw[el]
    refine aa ?_
    refine nG rfl ((.ro hlo)) ?_
    refine jG rfl ((.ro hlo))<|aa ?_
    refine lO () (trivial)
   have el:fB f o=0:=by unfold fB;rw[if_neg (fun h=>h.elim h8 h9)]
   rw[el]
   refine aa ?_
   refine cG () (trivial)
  rintro _ _
  refine aa ?_
  refine bw rfl Tryz.call247 (fun w hw=>wG o.c w)<|aa ?_
  refine oE (eO rfl rfl rfl Tryz.call248 (fun w hw=>pt (bE o.c).1 (fB f o) hxi w (by omega))) (fun⟨A7,c7⟩ _=>?_)
  refine a7 ?_
  refine oE (eO rfl rfl rfl Tryz.call248 (fun w hw=>pt (bE o.c).2 (fB f o) hxi w (by omega))) (fun⟨A8,c8⟩ _=>?_)
  refine a7 ?_
  refine cG (gT (fB f o) (bE o.c).1,gT (fB f o) (bE o.c).2,(A7,c7),(A8,c8)) (⟨htl,by show (gT (fB f o) (bE o.c).1).length<=1000;omega,by show (gT (fB f o) (bE o.c).2).length<=1000;omega⟩) (hh:=(fun w' h=>(mi ((mi h).msub (T:= [aj (.slice A7 (gT (fB f o) (bE o.c).1).length c7) (gT (fB f o) (bE o.c).1),nW w.heap.size w (.slice A8 (gT (fB f o) (bE o.c).2).length c8) (gT (fB f o) (bE o.c).2)]) ms)).msub ms))
 rintro⟨T,V,⟨At,ct⟩,Av,cv⟩ hg
 obtain⟨htl,hT,hV⟩:tl fs f o s=some (T,V)/\(T.length<=1000/\V.length<=1000):=hg
 refine a7 ?_
 refine ec rfl (fun h1=>?_) (fun h1=>?_)
 ·have hno:=oV htl (fun h=>by have:=h.1;omega)
  refine aa ?_
  intro w hw
  exact⟨((none,0),[]),fun v hv=>(by rw[hno] at hv;cases hv),by rw[hno];rfl,Cw.nilO Int (hw.msub (T:= []) ms)⟩
 have hTs:T.length<=s.length:=by omega
 refine aa ?_
 refine ic (fun _:Unit=>Le (s.drop (s.length - T.length)) T) (fun _=> [(3,.slice As s.length cs),(10,.int .i64 (s.length:Int)),(11,.slice At T.length ct),(12,.slice Av V.length cv)]) (fun _=> [nW w.heap.size w (.slice At T.length ct) T,nW w.heap.size w (.slice Av V.length cv) V]) ?_ ?_
 ·refine cN (fun i:Nat=>i<=T.length/\∀j,j<i->aU (s.getD (s.length - T.length+j) 0) (T.getD j 0)=true) (fun i=>T.length - i) (fun i=> [(3,.slice As s.length cs),(10,.int .i64 (s.length:Int)),(11,.slice At T.length ct),(12,.slice Av V.length cv),(17,.int .i64 (i:Int))]) (fun _=> [nW w.heap.size w (.slice At T.length ct) T,nW w.heap.size w (.slice Av V.length cv) V]) 0 (⟨aC _,by omega⟩) ?_
  rintro i hi'
  obtain⟨hi,hall⟩:i<=T.length/\∀j,j<i->aU (s.getD (s.length - T.length+j) 0) (T.getD j 0)=true:=hi'
  refine ak (fun hlt=>?_) (fun hlt=>?_)
  ·have hil:i<T.length:=by omega
   refine aa ?_
   refine bF [0,3,6,9,12,15,18,21,24,27,30,33,36,41,42] [] rfl<|aa ?_
   refine tE rfl (j9 ap bJ (.ro hs) (by omega) rfl rfl rfl) ?_
   refine tE rfl (bT (SF.int (.ro hs) (by omega)) rfl rfl bd)<|aa ?_
   refine tE rfl (bt ap bJ (SF.rb rfl fc) (by omega) rfl rfl rfl) ?_
   refine tE rfl (bT (SF.int (SF.rb rfl fc) (by omega)) rfl rfl bd) ?_
   refine fN (t:=140) (v':= .int .i64 (s.getD (s.length - T.length+i) 0)) rfl (by rw[show ((s.length:Int) - (T.length:Int)+(i:Int)).toNat=s.length - T.length+i from by omega]) ?_
   refine kG rfl rfl Hu (fun w hw=>l0 (s.getD (s.length - T.length+i) 0) (T.getD i 0) w)<|aa ?_
   refine aO rfl (fun hb=>?_) (fun hb=>?_)
   ·have hb:aU (s.getD (s.length - T.length+i) 0) (T.getD i 0)=false:=by simpa using hb
    have hno:=oV htl (fun h=>by
     have:=h.2.2.2 i (by rw[az];omega)
     rw[fF,hb] at this
     cases this)
    refine aa ?_
    intro w hw
    exact⟨((none,0),[]),fun v hv=>(by rw[hno] at hv;cases hv),by rw[hno];rfl,Cw.nilO Int (hw.msub (T:= []) ms)⟩
   have hb:aU (s.getD (s.length - T.length+i) 0) (T.getD i 0)=true:=by simpa using hb
   refine aa ?_
   refine bN (i+1) (⟨hil,fun j hj=>by by_cases e:j=i;(· rw[e];exact hb);(· exact hall j (by omega))⟩) (by show _ - _<_ - _;omega)
  obtain rfl:i=T.length:=by omega
  refine aa ?_
  refine cG () (⟨by rw[az];omega,fun j hj=>by rw[az] at hj;rw[fF];exact hall j (by omega)⟩)
 rintro _ hLe
 refine aa ?_
 refine fun g9 _=>aa ?_
 refine lp (fun w h=>bW (α:=Int) (m:=0) [] rfl (by simp) rfl (by decide) h) ?_
 refine bq (t:=152) (v':= .int .i64 ((s.length - T.length:Nat):Int)) rfl (by congr 1;omega) ?_
 refine sE (kZ (k:=s.length - T.length) ap bJ (by omega) rfl rfl rfl) ?_
 have hto:=aT.to hs (k:=s.length - T.length) (by omega)
 have htl2:(s.take (s.length - T.length)).length=s.length - T.length:=by rw[an];omega
 refine oE (gE (α:=Int) (bytes:=8) (xs:= []) (ys:=s.take (s.length - T.length)) rfl ap (bP dA) rfl fc (.ro hto) (by simp only[aH];omega) (by simp only[aH];omega) rfl rfl rfl) (fun⟨A5,c5⟩ _=>?_)
 refine a7 ?_
 rw[e9]
 refine oE (gE (α:=Int) (bytes:=8) (xs:=s.take (s.length - T.length)) (ys:=V) rfl ap (bP dA) rfl fc (SF.rb rfl fc) (by omega) (by omega) rfl rfl rfl) (fun⟨A6,c6⟩ _=>?_)
 refine a7 ?_
 intro w hw
 by_cases h8:(s.take (s.length - T.length)++V).length<=8
 ·have hso:dU fs f o s=some (s.take (s.length - T.length)++V):=iw.2 ⟨T,V,htl,hTs,h8,hLe,rfl⟩
  refine⟨((A6,c6),s.take (s.length - T.length)++V),fun v hv=>by rw[hso] at hv;exact dF hv,?_,hw.msub ms⟩
  rw[hso,decide_eq_true (by omega)]
  rfl
 have hno:=oV htl (fun h=>h8 h.2.1)
 refine⟨((A6,c6),s.take (s.length - T.length)++V),fun v hv=>(by rw[hno] at hv;cases hv),?_,hw.msub ms⟩
 rw[hno,decide_eq_false (by omega)]
 rfl
end
section
theorem va {l:List aW} {pc:Nat} (hb:∀q∈cH (aK l pc) pc,0<=q/\q<=l.length):cH (aK l pc) pc=oc l pc:=by
 refine lP (nQ _ _) ((uC _).filter _) fun a=>?_
 unfold oc
 rw[lX,List.mem_filter,zJ]
 constructor
 ·intro hg
  have:=hb a ((lX _ _ _).2 hg)
  exact⟨by omega,hg⟩
 exact fun hg=>hg.2
theorem ny (A:Option Addr) (c:Nat) (fs:List ah) (k:Nat) (w:World) (hs:Sl w (.slice A fs.length c) fs) (hk:k<fs.length) (hok:iY fs (ai fs k)) (hty:lH fs (ai fs k)) (hn0:0<(ai fs k).code.length) :
  Calls Tryz.prog 139 #[.agg #[.slice A fs.length c],.int .i64 (k:Int)] w fun e w'=> ∃g:(Option Addr×Nat)×List eF×List (Value×List Int),jv g.2.1 g.2.2 (aY fs (ai fs k)).1/\e= .returned (.tuple #[.slice g.1.1 g.2.1.length g.1.2,.bool (aY fs (ai fs k)).2])/\
   Cw w.heap.size w [aj (.slice g.1.1 g.2.1.length g.1.2) g.2.1,dI g.2.2] w':=by
 obtain⟨A1,c1,A2,c2,hl,hc,hi,hcell⟩:=hs.fn hk
 have hrf:=(hty.res k hk).1
 have hres:∀j,j<fs.length->0<=(ai fs j).result:=fun j hj=>(hty.res j hj).1
 generalize ai fs k=f at hl hc hi hcell hok hty hn0 hrf⊢
 have hn40:=hok.n40
 have h0:=D8 (fs:=fs) hn0
 have hR0:fx f.code.length (List.replicate f.code.length gO) [] (oB f.code.length).at_:=⟨by simp,by simp[oB],fun i _=>by
  show gH [] ((List.replicate f.code.length gO).getD i gO).v ((List.replicate f.code.length ([]:List Int)).getD i [])
  rw[gK,gK]
  exact .nil_⟩
 refine enter Tryz.func139 rfl Tryz.ntmps139 rfl<|aa ?_
 refine fun g1 _=>aa ?_
 refine cQ (k) rfl ((.ro hs))<|aa ?_
 refine dQ rfl (fun w hw=>hcell _ w hw 3 _ rfl)<|aa ?_
 refine oE (ke (α:=fp) gO fI mb rfl (fun w=>⟨⟨rfl,rfl⟩,fun _ h=>h⟩) rfl (by omega) rfl rfl rfl) (fun ga _=>aa ?_)
 refine oE (ke (α:=Bool) false jM ph rfl (fun w=>⟨rfl,fun _ h=>h⟩) rfl (by omega) rfl rfl rfl) (fun gm _=>aa ?_)
 refine sE (fT (k:=0) jM pi rfl hn0 rfl rfl rfl) ?_
 refine oE (kc (α:=Bool) true false rfl fc hn0 trivial pi rfl rfl rfl rfl rfl rfl rfl rfl) (fun _ _=>aa ?_)
 refine dg (fun w h=>gL h) ?_
 refine ic (fun g:cy×List fp×List (Value×List Int)=>(aY fs f=(im g.1 f.code.length,true)/\dC f.code.length g.1)/\fx f.code.length g.2.1 g.2.2 g.1.at_) (fun g=> [(6,.slice A2 f.code.length c2),(7,.slice (some ⟨ga,0,none⟩) f.code.length f.code.length),(8,.slice (some ⟨gm,0,none⟩) f.code.length f.code.length)]) (fun g=> [af g1 [.slice A fs.length c] 24,aj (.slice (some ⟨ga,0,none⟩) f.code.length f.code.length) g.2.1,aj (.slice (some ⟨gm,0,none⟩) f.code.length f.code.length) g.1.met,dI g.2.2]) ?_ ?_
 ·refine cN (fun g:Bool×cy×List fp×List (Value×List Int)=>((dC f.code.length g.2.1/\jV fs f g.2.1)/\g.2.1.todo= []/\(g.1=false->∀i:Nat,g.2.1.met.getD i false=true->Dn fs f g.2.1 i))/\fx f.code.length g.2.2.1 g.2.2.2 g.2.1.at_) (fun g=>2*mj f.code.length g.2.1+g.1.toNat) (fun g=> [(1,.int .i64 (k:Int)),(2,.pointer (some ⟨g1,0,none⟩)),(6,.slice A2 f.code.length c2),(7,.slice (some ⟨ga,0,none⟩) f.code.length f.code.length),(8,.slice (some ⟨gm,0,none⟩) f.code.length f.code.length),(9,.bool g.1)]) (fun g=> [af g1 [.slice A fs.length c] 24,aj (.slice (some ⟨ga,0,none⟩) f.code.length f.code.length) g.2.2.1,aj (.slice (some ⟨gm,0,none⟩) f.code.length f.code.length) g.2.1.met,dI g.2.2.2]) (true,oB f.code.length,List.replicate f.code.length gO,[]) (⟨⟨h0,rfl,fun h=>(by cases h)⟩,hR0⟩) ?_ (hh:=(fun _ h=>h.msub ms))
  rintro⟨more,s0,hd,L⟩ hj
  try dsimp only
  obtain⟨⟨⟨hF0,hI0⟩,hT0,hD0⟩,hR⟩:((dC f.code.length s0/\jV fs f s0)/\s0.todo= []/\(more=false->∀i:Nat,s0.met.getD i false=true->Dn fs f s0 i))/\fx f.code.length hd L s0.at_:=hj
  refine aa ?_
  refine aO rfl (fun hmore=>?_) (fun hmore=>?_)
  ·have hmore:more=true:=hmore
   subst hmore
   refine aa ?_
   refine cN (fun g:Nat×Bool×cy×List fp×List (Value×List Int)=>((g.1<=f.code.length/\g.2.1=decide (0<g.2.2.1.todo.length))/\Sw fs f s0 g.1 g.2.2.1)/\fx f.code.length g.2.2.2.1 g.2.2.2.2 g.2.2.1.at_) (fun g=>f.code.length - g.1) (fun g=> [(1,.int .i64 (k:Int)),(2,.pointer (some ⟨g1,0,none⟩)),(6,.slice A2 f.code.length c2),(7,.slice (some ⟨ga,0,none⟩) f.code.length f.code.length),(8,.slice (some ⟨gm,0,none⟩) f.code.length f.code.length),(9,.bool g.2.1),(10,.int .i64 (g.1:Int))]) (fun g=> [af g1 [.slice A fs.length c] 24,aj (.slice (some ⟨ga,0,none⟩) f.code.length f.code.length) g.2.2.2.1,aj (.slice (some ⟨gm,0,none⟩) f.code.length f.code.length) g.2.2.1.met,dI g.2.2.2.2]) (0,false,s0,hd,L) (⟨⟨⟨aC _,by rw[hT0];rfl⟩,.start hF0 hI0⟩,hR⟩) ?_ (hh:=(fun _ h=>h.msub ms))
   rintro⟨i,b,s,hd,L⟩ hj
   try dsimp only
   obtain⟨⟨⟨hi0,hb⟩,hS⟩,hR2⟩:((i<=f.code.length/\b=decide (0<s.todo.length))/\Sw fs f s0 i s)/\fx f.code.length hd L s.at_:=hj
   have hF:=hS.ok
   have hT36:=hS.todo hF0 hT0 hn40
   refine ak (fun hlt=>?_) (fun hlt=>?_)
   ·have hil:i<f.code.length:=by omega
    refine aa ?_
    refine cQ (_) rfl ((SF.own hF.ml fc)) ?_
    refine dQ rfl (SF.bool (SF.own hF.ml fc) (by omega))<|aa ?_
    refine aO rfl (fun hm=>?_) (fun hm=>?_)
    ·have hm:¬s.met.getD i false=true:=by simpa using hm
     refine aa ?_
     refine bN (i+1,b,s,hd,L) (⟨⟨⟨hil,hb⟩,hS.skip hm⟩,hR2⟩) (by show _ - _<_ - _;omega) (hh:=(fun _ h=>h.msub ms))
    have hm:s.met.getD i false=true:=by simpa using hm
    have hin:=hR2.el i hil
    refine ia (fun w h=>hin.form h fc) ?_
    rintro⟨A3,c3,hv⟩
    rw[hv] at hin
    have h8:=hF.st i
    refine aa ?_
    refine bF [0,3,6,9,12,15,18,21,24,27,30,33,36,39,44,45,48,51,54,57] [] rfl<|aa ?_
    refine tE rfl (bt (k:=k) gz ij (.ro hs) (by omega) rfl rfl rfl) ?_
    refine tE rfl (gV (hcell _) rfl rfl Hr ij)<|aa ?_
    refine tE rfl (bt fH j4 (.ro hc) (by omega) rfl rfl rfl) ?_
    refine tE rfl (gV (cs:= [_,_]) (SF.op (.ro hc) (by omega)) rfl rfl Hk j4)<|aa ?_
    refine tE rfl (bt fI i8 (SF.own hR2.hl fc) (by omega) rfl rfl rfl) ?_
    refine tE rfl (bT (v:= .slice A3 (s.at_.getD i []).length c3) (by rw[<-hv];exact SF.hdr (SF.own hR2.hl fc) hil) rfl rfl i6) ?_
    refine vN rfl rfl Tryz.call195 (fun w hw=>zX fs f (aK f.code i) (s.at_.getD i []) A A1 A2 A3 c c1 c2 c3 w (hw.ro hs) (hw.ro hl) (hin.sl hw fc) (hok.op i hil) hres hrf (by omega)) (fun⟨⟨A4,c4⟩,T⟩ hT=>?_)
    refine a7 ?_
    refine aO rfl (fun hok1=>?_) (fun hok1=>?_)
    ·have hv0:dU fs f (aK f.code i) (s.at_.getD i [])=none:=by
      cases e:dU fs f (aK f.code i) (s.at_.getD i []) with
      | none=>rfl
      | some v=>rw[e] at hok1;cases hok1
     rw[rD hok hty hn0 (hS.bad hm hv0)]
     refine aa ?_
     intro w hw
     exact⟨((none,0),[],[]),.nil_,rfl,Cw.nilO eF (gL (hw.msub (T:= []) ms))⟩
    obtain⟨v,hv0⟩:∃v,dU fs f (aK f.code i) (s.at_.getD i [])=some v:=by
     cases e:dU fs f (aK f.code i) (s.at_.getD i []) with
     | none=>rw[e] at hok1;cases hok1
     | some v=>exact⟨v,rfl⟩
    have hTv:T=v:=hT v hv0
    subst hTv
    have hT8:=j5 hv0
    have hTty:=qs hty (hok.op i hil) (hS.inv.ty i hm) hv0
    refine dg (fun w h=>mG (pT (h.msub (T:=aj (.slice A4 T.length c4) T::dI L:: [af g1 [.slice A fs.length c] 24,aj (.slice (some ⟨ga,0,none⟩) f.code.length f.code.length) hd,aj (.slice (some ⟨gm,0,none⟩) f.code.length f.code.length) s.met]) ms))) ?_
    have hinT:gH ((.slice A4 T.length c4,T)::L) (.slice A4 T.length c4) T:= .new
    have hR3:=hR2.cons (.slice A4 T.length c4,T)
    generalize (.slice A4 T.length c4,T)::L=L3 at hinT hR3⊢
    obtain⟨LL,hLL⟩:∃LL,cH (aK f.code i) i=LL:=⟨_,rfl⟩
    have hto:=hok.to_ i hil
    have hl2:=jU (aK f.code i) i
    have hcs:=fun(K:List Int) (h1:∀q∈K,q∈cH (aK f.code i) i) (h2:K.length<=4)=>hS.comes hok hty hF0 hT0 hil hm hv0 (L:=K) h1 h2
    have hnx:=va (l:=f.code) (pc:=i) (fun q hq=>hto q hq)
    have hstp:=fun s'=>hS.step (s':=s') hok hty hF0 hT0 hil hm hv0
    rw[hLL] at hto hl2 hcs hnx hstp
    have hnext:∀w1,Sl w1 (.slice A2 f.code.length c2) f.code->Calls Tryz.prog 196 #[.slice A2 f.code.length c2,.int .i64 (i:Int)] w1 fun e w'=> ∃g:Option Addr×Nat,True/\e= .returned (.slice g.1 LL.length g.2)/\Cw w1.heap.size w1 [aj (.slice g.1 LL.length g.2) LL] w':=fun w1 h=>by
     rw[hnx]
     exact Ct A2 c2 f.code i w1 h hil hn40
    refine aa ?_
    refine fE rfl Tryz.call196 (fun w hw=>hnext w (hw.ro hc)) (fun⟨A7,c7⟩ _=>?_)
    refine a7 ?_
    refine cN (fun g:Nat×Bool×cy×List fp×List (Value×List Int)=>(((g.1<=LL.length/\g.2.1=decide (0<g.2.2.1.todo.length))/\dC f.code.length g.2.2.1/\g.2.2.1.todo.length<=s.todo.length+g.1)/\bQ f.code.length s (LL.take g.1) T=some g.2.2.1/\gH g.2.2.2.2 (.slice A4 T.length c4) T)/\fx f.code.length g.2.2.2.1 g.2.2.2.2 g.2.2.1.at_) (fun g=>LL.length - g.1) (fun g=> [(1,.int .i64 (k:Int)),(2,.pointer (some ⟨g1,0,none⟩)),(6,.slice A2 f.code.length c2),(7,.slice (some ⟨ga,0,none⟩) f.code.length f.code.length),(8,.slice (some ⟨gm,0,none⟩) f.code.length f.code.length),(9,.bool g.2.1),(10,.int .i64 (i:Int)),(11,.slice A4 T.length c4),(13,.slice A7 LL.length c7),(14,.int .i64 (g.1:Int))]) (fun g=> [af g1 [.slice A fs.length c] 24,aj (.slice (some ⟨ga,0,none⟩) f.code.length f.code.length) g.2.2.2.1,aj (.slice (some ⟨gm,0,none⟩) f.code.length f.code.length) g.2.2.1.met,dI g.2.2.2.2,aj (.slice A7 LL.length c7) LL]) (0,b,s,hd,L3) (⟨⟨⟨⟨aC _,hb⟩,hF,ay _⟩,rfl,hinT⟩,hR3⟩) ?_ (hh:=(fun _ h=>h.msub ms))
    rintro⟨j,b,s',hd,L⟩ hj
    try dsimp only
    obtain⟨⟨⟨⟨hj0,hb2⟩,hF2,htd2⟩,hco,hinT2⟩,hR4⟩:(((j<=LL.length/\b=decide (0<s'.todo.length))/\dC f.code.length s'/\s'.todo.length<=s.todo.length+j)/\bQ f.code.length s (LL.take j) T=some s'/\gH L (.slice A4 T.length c4) T)/\fx f.code.length hd L s'.at_:=hj
    refine ak (fun hjl=>?_) (fun hjl=>?_)
    ·have hjl:j<LL.length:=by omega
     have hmem:LL.getD j 0∈LL:=by rw[ac,ae hjl];exact cL _
     obtain⟨q,hq⟩:∃q:Nat,LL.getD j 0=(q:Int):=⟨(LL.getD j 0).toNat,by have:=hto _ hmem;omega⟩
     have hqn:q<=f.code.length:=by have:=hto _ hmem;omega
     have hsn:=l7 hjl hco
     rw[hq,aV] at hsn
     have hco2:=jt hF2 hqn hT8 (by omega)
     refine aa ?_
     refine cQ (_) rfl ((SF.own rfl fc)) ?_
     refine jG rfl ((SF.own rfl fc))<|aa ?_
     refine cT (t:=15) (v':= .int .i64 (q:Int)) rfl (by rw[hq]) ?_
     have hfail:(bG f.code.length s' q T).1=false->aY fs f=([],false):=fun h=>rD hok hty hn0 ((hcs LL (fun q h=>h) (by omega)).2 (l8 (k:=j+1) (by rw[hsn,h];rfl)))
     refine ec rfl (fun hqe=>?_) (fun hqe=>?_)
     ·rw[hfail (by unfold bG;rw[if_pos (by omega)])]
      refine aa ?_
      intro w hw
      exact⟨((none,0),[],[]),.nil_,rfl,Cw.nilO eF (gL (hw.msub (T:= []) ms))⟩
     have hql:q<f.code.length:=by omega
     refine aa ?_
     refine cQ (_) rfl ((SF.own hF2.ml fc)) ?_
     refine dQ rfl (SF.bool (SF.own hF2.ml fc) (by omega))<|aa ?_
     refine aO rfl (fun hmq=>?_) (fun hmq=>?_)
     ·have hmq:¬s'.met.getD q false=true:=by simpa using hmq
      have hc1:bG f.code.length s' q T=(true,⟨s'.at_.set q T,s'.met.set q true,s'.todo++ [(q:Int)]⟩):=by unfold bG;rw[if_neg (by omega),if_neg hmq]
      rw[hc1] at hco2 hsn
      refine aa ?_
      refine sE (fT fI i8 rfl hql rfl rfl rfl) ?_
      refine oE (kc (α:=fp) ⟨.slice A4 T.length c4⟩ gO rfl fc hql rfl i8 rfl rfl rfl rfl rfl rfl rfl rfl) (fun _ _=>?_)
      refine sE (fT jM pi rfl hql rfl rfl rfl) ?_
      refine oE (kc (α:=Bool) true false rfl fc hql trivial pi rfl rfl rfl rfl rfl rfl rfl rfl) (fun _ _=>aa ?_)
      refine bN (j+1,true,⟨s'.at_.set q T,s'.met.set q true,s'.todo++ [(q:Int)]⟩,hd.set q ⟨.slice A4 T.length c4⟩,L) (⟨⟨⟨⟨hjl,by simp⟩,hco2.1,by show (s'.todo++ [(q:Int)]).length<=s.todo.length+(j+1);rw[ag,br];omega⟩,hsn,hinT2⟩,hR4.set hql hinT2⟩) (by show _ - _<_ - _;omega) (hh:=(fun _ h=>h.msub ms))
     have hmq:s'.met.getD q false=true:=by simpa using hmq
     have hI2:=((hcs (LL.take j) (fun q h=>gn h) (by rw[an];omega)).1 s' hco).1
     have hin5:=hR4.el q hql
     have h85:=hF2.st q
     refine ia (fun w h=>hin5.form h fc) ?_
     rintro⟨A5,c5,hv5⟩
     rw[hv5] at hin5
     refine aa ?_
     refine cQ (_) rfl ((SF.own hR4.hl fc)) ?_
     refine sE (bT (v:= .slice A5 (s'.at_.getD q []).length c5) (by rw[<-hv5];exact SF.hdr (SF.own hR4.hl fc) hql) rfl rfl i6)<|aa ?_
     refine oE (eO rfl rfl rfl Tryz.call197 (fun w hw=>uD A5 A4 c5 c4 (s'.at_.getD q []) T w (hin5.sl hw fc) (hinT2.sl hw fc) (hI2.ty q hmq) hTty (by omega))) (fun⟨A6,c6⟩ _=>?_)
     refine a7 ?_
     refine aO rfl (fun hjo=>?_) (fun hjo=>?_)
     ·have hjn:aL (s'.at_.getD q []) T=none:=by
       cases e:aL (s'.at_.getD q []) T with
       | none=>rfl
       | some v=>rw[e] at hjo;cases hjo
      rw[hfail (by unfold bG;rw[if_neg (by omega),if_pos hmq,hjn])]
      refine aa ?_
      intro w hw
      exact⟨((none,0),[],[]),.nil_,rfl,Cw.nilO eF (gL (hw.msub (T:= []) ms))⟩
     obtain⟨jn,hjn⟩:∃v,aL (s'.at_.getD q []) T=some v:=by
      cases e:aL (s'.at_.getD q []) T with
      | none=>rw[e] at hjo;cases hjo
      | some v=>exact⟨v,rfl⟩
     rw[hjn,lK]
     refine aa ?_
     refine cQ (_) rfl ((SF.own hR4.hl fc)) ?_
     refine sE (bT (v:= .slice A5 (s'.at_.getD q []).length c5) (by rw[<-hv5];exact SF.hdr (SF.own hR4.hl fc) hql) rfl rfl i6) ?_
     refine bw rfl HY (fun w hw=>mB A6 A5 c6 c5 jn (s'.at_.getD q []) w (SF.at_ (SF.own rfl fc) hw) (hin5.sl hw fc))<|aa ?_
     refine aO rfl (fun he=>?_) (fun he=>?_)
     ·have he:¬jn=s'.at_.getD q []:=by simpa using he
      have hset:s'.met.set q true=s'.met:=by
       refine List.ext_getElem (by simp) fun n h1 h2=>?_
       rw[List.getElem_set]
       split
       ·rename_i e
        subst e
        rw[ac,ae h2] at hmq
        exact hmq.symm
       rfl
      have hc1:bG f.code.length s' q T=(true,⟨s'.at_.set q jn,s'.met,s'.todo++ [(q:Int)]⟩):=by
       unfold bG
       rw[if_neg (by omega),if_pos hmq,hjn]
       simp only[]
       rw[if_neg he,hset]
      rw[hc1] at hco2 hsn
      refine dg (fun w h=>mG (pT (h.msub (T:=aj (.slice A6 jn.length c6) jn::dI L:: [af g1 [.slice A fs.length c] 24,aj (.slice (some ⟨ga,0,none⟩) f.code.length f.code.length) hd,aj (.slice (some ⟨gm,0,none⟩) f.code.length f.code.length) s'.met,aj (.slice A7 LL.length c7) LL]) ms)))<|aa ?_
      refine sE (fT fI i8 rfl hql rfl rfl rfl) ?_
      refine oE (kc (α:=fp) ⟨.slice A6 jn.length c6⟩ gO rfl fc hql rfl i8 rfl rfl rfl rfl rfl rfl rfl rfl) (fun _ _=>aa ?_)
      refine bN (j+1,true,⟨s'.at_.set q jn,s'.met,s'.todo++ [(q:Int)]⟩,hd.set q ⟨.slice A6 jn.length c6⟩,(.slice A6 jn.length c6,jn)::L) (⟨⟨⟨⟨hjl,by simp⟩,hco2.1,by show (s'.todo++ [(q:Int)]).length<=s.todo.length+(j+1);rw[ag,br];omega⟩,hsn,hinT2.cons⟩,(hR4.cons _).set hql .new⟩) (by show _ - _<_ - _;omega) (hh:=(fun _ h=>h.msub ms))
     have he:jn=s'.at_.getD q []:=by simpa using he
     have hc1:bG f.code.length s' q T=(true,s'):=by
      unfold bG
      rw[if_neg (by omega),if_pos hmq,hjn]
      simp only[]
      rw[if_pos he]
     rw[hc1] at hco2 hsn
     refine aa ?_
     refine bN (j+1,b,s',hd,L) (⟨⟨⟨⟨hjl,hb2⟩,hF2,by show s'.todo.length<=s.todo.length+(j+1);omega⟩,hsn,hinT2⟩,hR4⟩) (by show _ - _<_ - _;omega) (hh:=(fun _ h=>h.msub ms))
    obtain rfl:j=LL.length:=by omega
    rw[bh] at hco
    have hS2:=hstp s' hco
    refine aa ?_
    refine bN (i+1,b,s',hd,L) (⟨⟨⟨hil,hb2⟩,hS2⟩,hR4⟩) (by show _ - _<_ - _;omega) (hh:=(fun _ h=>h.msub ms))
   obtain rfl:i=f.code.length:=by omega
   refine aa ?_
   by_cases hne:s.todo= []
   ·obtain⟨rfl,hdn⟩:=hS.dn hne
    refine D4 (b,s,hd,L) (⟨⟨⟨hF,hS.inv⟩,hne,fun _ j hj=>hdn j (pJ hF hj) hj⟩,hR2⟩) ((by rw[hb,hne];exact Nat.lt_succ_self _)) (hh:=(fun _ h=>h.msub ms))
   obtain⟨a1,a2,a3⟩:=hS.again hT0 hne
   refine D4 (b,⟨s.at_,s.met,[]⟩,hd,L) (⟨⟨⟨a1,a2⟩,rfl,fun h=>absurd (List.length_pos_iff.2 hne) (by rw[hb] at h;simpa using h)⟩,hR2⟩) ((by cases b;(· show 2*mj f.code.length ⟨s.at_,s.met,[]⟩+0<2*mj f.code.length s0+1;omega);(· show 2*mj f.code.length ⟨s.at_,s.met,[]⟩+1<2*mj f.code.length s0+1;omega))) (hh:=(fun _ h=>h.msub ms))
  have hmore:more=false:=by simpa using hmore
  have hd0:=yV hok hty hn0 hF0 hI0 (hD0 hmore)
  refine aa ?_
  refine cG (s0,hd,L) (⟨⟨hd0,hF0⟩,hR⟩) (hh:=(fun _ h=>h.msub ms))
 rintro⟨s,hd,L⟩ hj
 obtain⟨⟨hent,hF⟩,hR⟩:(aY fs f=(im s f.code.length,true)/\dC f.code.length s)/\fx f.code.length hd L s.at_:=hj
 rw[hent]
 try dsimp only
 refine dg (fun w h=>Cw.nilO eF h)<|aa ?_
 refine cN (fun g:Nat×List eF×Option Addr×Nat=>g.1<=f.code.length/\jv g.2.1 L (im s g.1)) (fun g=>f.code.length - g.1) (fun g=> [(6,.slice A2 f.code.length c2),(7,.slice (some ⟨ga,0,none⟩) f.code.length f.code.length),(8,.slice (some ⟨gm,0,none⟩) f.code.length f.code.length),(18,.slice g.2.2.1 g.2.1.length g.2.2.2),(19,.int .i64 (g.1:Int))]) (fun g=> [aj (.slice g.2.2.1 g.2.1.length g.2.2.2) g.2.1,aj (.slice (some ⟨ga,0,none⟩) f.code.length f.code.length) hd,aj (.slice (some ⟨gm,0,none⟩) f.code.length f.code.length) s.met,dI L]) (0,[],none,0) (⟨aC _,.nil_⟩) ?_
 rintro⟨i,es,Ae,ce⟩ hi'
 try dsimp only
 obtain⟨hi1,hre⟩:i<=f.code.length/\jv es L (im s i):=hi'
 have hel:=hre.len
 have hul:=tU s i
 refine ak (fun hlt=>?_) (fun hlt=>?_)
 ·have hil:i<f.code.length:=by omega
  have hsu:=nI s i
  refine aa ?_
  refine cQ (_) rfl ((SF.own hF.ml fc)) ?_
  refine dQ rfl (SF.bool (SF.own hF.ml fc) (by omega))<|aa ?_
  refine aO rfl (fun hm=>?_) (fun hm=>?_)
  ·rw[if_pos hm] at hsu
   have hin:=hR.el i hil
   refine aa ?_
   refine cQ (_) rfl ((SF.own hR.hl fc)) ?_
   refine lh (fun w h=>hin.form h fc) ?_
   rintro⟨A3,c3,hv⟩
   rw[hv] at hin
   refine sE (bT (v:= .slice A3 (s.at_.getD i []).length c3) (by rw[<-hv];exact SF.hdr (SF.own hR.hl fc) hil) rfl rfl i6)<|aa ?_
   intro g2 _
   refine oE (cZ (α:=eF) (bytes:=32) ⟨i,.slice A3 (s.at_.getD i []).length c3⟩ [] rfl H7 (bP qj) rfl (eM fc fc) (du ⟨⟨by show (-9223372036854775808:Int)<=(i:Int);omega,by show (i:Int)<=9223372036854775807;omega⟩,rfl⟩) (by omega) (by omega) rfl rfl rfl) (fun⟨A5,c5⟩ _=>?_)
   refine a7 ?_
   refine bN (i+1,es++ [⟨i,.slice A3 (s.at_.getD i []).length c3⟩],A5,c5) (⟨hil,by rw[hsu];exact hre.snoc rfl hin⟩) (by show _ - _<_ - _;omega)
  rw[if_neg (by rw[hm];decide)] at hsu
  refine aa ?_
  refine bN (i+1,es,Ae,ce) (⟨hil,by rw[hsu];exact hre⟩) (by show _ - _<_ - _;omega)
 obtain rfl:i=f.code.length:=by omega
 refine aa ?_
 intro w hw
 exact⟨((Ae,ce),es,L),hre,rfl,hw.msub ms⟩
end
section
def jT (fs:List ah) (i:Nat):Int:=if bK fs≠0 then bK fs else if (fs.take i).all (fun f=>(aY fs f).2)=true then 0 else 4
theorem Bg {fs:List ah} {i:Nat} (h:jT fs i≠0):jT fs i=eL fs:=by
 unfold jT at h⊢
 unfold eL
 by_cases h0:bK fs≠0
 ·rw[if_pos h0,if_pos h0]
 rw[if_neg h0] at h⊢
 rw[if_neg h0]
 by_cases h1:(fs.take i).all (fun f=>(aY fs f).2)=true
 ·rw[if_pos h1] at h;exact absurd rfl h
 rw[if_neg h1,if_neg]
 intro h2
 apply h1
 rw[gy] at h2⊢
 exact fun x hx=>h2 x (gn hx)
theorem Bf {fs:List ah} :jT fs fs.length=eL fs:=by unfold jT eL;rw[bh]
theorem yQ {fs:List ah} {i:Nat} (h:jT fs i=0):bK fs=0/\(fs.take i).all (fun f=>(aY fs f).2)=true:=by
 unfold jT at h
 by_cases h0:bK fs≠0
 ·rw[if_pos h0] at h;exact absurd h h0
 rw[if_neg h0] at h
 refine⟨by simpa using h0,?_⟩
 split at h
 ·assumption
 cases h
theorem qy (A:Option Addr) (c:Nat) (fs:List ah) (w:World) (hs:Sl w (.slice A fs.length c) fs) :
  Calls Tryz.prog 78 #[.agg #[.slice A fs.length c]] w fun e w'=>e= .returned (.int .i64 (eL fs))/\Below w.heap.size w w':=by
 have b1:=be hs
 refine enter Tryz.func78 rfl Tryz.ntmps78 rfl<|aa ?_
 refine fun g1 _=>aa ?_
 refine bw rfl Tryz.call138 (fun w hw=>uH A c fs w (hw.ro hs))<|aa ?_
 refine ic (fun e:Int=>e=eL fs) (fun e=> [(3,.int .i64 e)]) (fun _=> []) ?_ ?_
 ·refine cN (fun g:Nat×Int=>g.1<=fs.length/\g.2=jT fs g.1) (fun g=>fs.length - g.1) (fun g=> [(1,.pointer (some ⟨g1,0,none⟩)),(3,.int .i64 g.2),(4,.int .i64 (g.1:Int))]) (fun _=> [af g1 [.slice A fs.length c] 24]) (0,bK fs) (⟨aC _,by show bK fs=jT fs 0;unfold jT;rw[List.take_zero];by_cases h:bK fs≠0;(· rw[if_pos h]);(· rw[if_neg h,List.all_nil,if_pos rfl];simpa using h)⟩) ?_
  rintro⟨i,e⟩ hj
  try dsimp only
  obtain⟨hi,he⟩:i<=fs.length/\e=jT fs i:=hj
  refine cD 14 (fun h1=>?_) (fun h1=>?_)
  ·have h1:=of_decide_eq_true h1
   have hil:i<fs.length:=by omega
   refine ak (fun h2=>?_) (fun h2=>?_)
   ·have hz:jT fs i=0:=by omega
    obtain⟨hc0,hall⟩:=yQ hz
    obtain⟨hok,hn0⟩:=jj hc0 hil
    have hty:=w4 hc0 hil
    have hsn:=m9 (p:=fun f=>(aY fs f).2) (default:ah) hil
    have hnx:jT fs (i+1)=if (aY fs (ai fs i)).2=true then 0 else 4:=by
     unfold jT
     rw[if_neg (by simpa using hc0),hsn,hall]
     rfl
    refine aa ?_
    refine fE rfl Tryz.call139 (fun w hw=>ny A c fs i w (hw.ro hs) hil hok hty hn0) (fun⟨⟨A1,c1⟩,es,L⟩ _=>?_)
    refine a7 ?_
    refine aO rfl (fun h3=>?_) (fun h3=>?_)
    ·have h3:(aY fs (ai fs i)).2=false:=by simpa using h3
     refine aa ?_
     refine bN (i+1,4) (⟨hil,by rw[hnx,h3];rfl⟩) (by show _ - _<_ - _;omega)
    have h3:(aY fs (ai fs i)).2=true:=by simpa using h3
    refine aa ?_
    refine bN (i+1,e) (⟨hil,by rw[hnx,h3];show e=0;exact h2⟩) (by show _ - _<_ - _;omega)
   refine aa ?_
   refine cG e (by rw[he];exact Bg (by rw[<-he];exact h2))
  have h1:=of_decide_eq_false h1
  obtain rfl:i=fs.length:=by omega
  refine aa ?_
  refine bO rfl<|aa ?_
  refine cG e (he.trans Bf)
 rintro e rfl
 refine aa ?_
 intro w hw
 exact⟨rfl,hw.below⟩
end
end Go.Proofs.YthfkmcbblnbfaaaGreatDoor
