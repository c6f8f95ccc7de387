/- Lemmas of one proof. -/
import Derived.Test.YthfkmcbblnbfaaaGreatDoorM0S
import Derived.Test.YthfkmcbblnbfaaaGreatDoorM29S
import Derived.Test.YthfkmcbblnbfaaaGreatDoorM30S

namespace Go.Proofs.YthfkmcbblnbfaaaGreatDoor
set_option maxRecDepth 100000
set_option maxHeartbeats 16000000
open Go.RowKit
section
def dx (n:Nat):eq->List Int->List Int->Option eq
 | s,[],_=>some s
 | s,to_::r,l=>if (dk n s to_.toNat l).1=true then dx n (dk n s to_.toNat l).2 r l else none
def lp (fs:List au) (f:au) (s:eq):Option eq:=
 let k:=(s.todo.getD (s.todo.length - 1) 0).toNat
 let t:=mi fs f (bu f.C k) (s.at_.getD k [],false)
 if t.2=true then none else dx f.C.length ⟨s.at_,s.met,s.todo.take (s.todo.length - 1)⟩ (dg (bu f.C k) k) t.1
structure gU (n:Nat) (s:eq):Prop where
 al:s.at_.length=n
 ml:s.met.length=n
 tl:s.todo.length<=5000
 st:∀i,(s.at_.getD i []).length<=8
 td:∀x∈s.todo,0<=x/\x<n
theorem nk {n:Nat} {s:eq} (h:gU n s) {k:Nat} (hk:k<=n) {l:List Int} (hl:l.length<=8) (ht:s.todo.length<5000):gU n (dk n s k l).2/\(dk n s k l).2.todo.length<=s.todo.length+1:=by
 have key:k≠n->∀j:List Int,j.length<=8->gU n ⟨s.at_.set k j,s.met.set k true,s.todo++ [(k:Int)]⟩/\(s.todo++ [(k:Int)]).length<=s.todo.length+1:=fun hne j hj=>by
  refine⟨⟨by simp[h.al],by simp[h.ml],by simp only[aq,aK];omega,fun i=>?_,fun x hx=>?_⟩,by simp⟩
  ·show ((s.at_.set k j).getD i []).length<=8
   rw[gW (by rw[h.al];omega)]
   split
   ·exact hj
   exact h.st i
  rcases cD.1 hx with hx | hx
  ·exact h.td x hx
  rw[bK.1 hx];omega
 unfold dk
 split
 ·exact⟨h,Nat.le_succ _⟩
 rename_i hne
 split
 ·split
  ·exact⟨h,Nat.le_succ _⟩
  rename_i j hj
  split
  ·exact⟨h,Nat.le_succ _⟩
  exact key hne j (by have:=(lS hj).2;have:=h.st k;omega)
 exact key hne l hl
section
variable {B:Nat} {w0:World} {H:List aC}
abbrev nW (g1 g5 gs gx:Nat) (As:Option Addr) (cs:Nat) (l:List Int):List aC:=
 [am g1 [.pointer (some ⟨gx,0,none⟩)] 221,am g5 [.pointer (some ⟨gs,0,none⟩)] 271,am gs [.slice As l.length cs,.bool false] 273,ap (.slice As l.length cs) l]
theorem Gc (C:FC) (s:eq) (hd:List jx) (L:List (Value×List Int)) (At:Option Addr) (ct:Nat) (g1 g5 gs:Nat) (As:Option Addr) (cs:Nat) (k:Nat) (hk:k<=C.f.C.length) (hn:C.f.C.length<=40) (l:List Int) (hl:l.length<=8)
  (hR:kc C.f.C.length hd L s.at_) (hF:gU C.f.C.length s) (w:World) (hw:Cw B w0 (nW g1 g5 gs C.gx As cs l++(iG C s hd L At ct++H)) w) :
  Calls Tryz.prog 224 #[.int .i64 (k:Int),.pointer (some ⟨g1,0,none⟩),.pointer (some ⟨g5,0,none⟩)] w fun e w'=> ∃g:List jx×List (Value×List Int)×Option Addr×Nat,kc C.f.C.length g.1 g.2.1 (dk C.f.C.length s k l).2.at_/\
   e= .returned (.bool (!(dk C.f.C.length s k l).1))/\Cw B w0 (nW g1 g5 gs C.gx As cs l++(iG C (dk C.f.C.length s k l).2 g.1 g.2.1 g.2.2.1 g.2.2.2++H)) w':=by
 refine aY Tryz.func224 rfl Tryz.ntmps224 rfl hw ?_
 dsimp only[nW,dt,jd]
 refine aj ?_
 refine dK [0,3,6,9,12,15,20,23,24,27] [] rfl [am g1 [.pointer (some ⟨C.gx,0,none⟩)] 221,am g5 [.pointer (some ⟨gs,0,none⟩)] 271,am gs [.slice As l.length cs,.bool false] 273]<|aj ?_
 refine pE rfl (fC rfl rfl rfl jS (fun w hw=>wF As cs l w (SF.at_ (SF.own rfl fc) hw) (by omega))) (fun⟨A4,c4⟩ _=>?_)
 try dsimp only
 refine Gw (fun w h=>AR (v:= .slice A4 l.length c4) (xs:=l) (L:=L) (HK (h.msub (.s fc (.s fc .r))))) ?_
 refine vR rfl rfl Tryz.call169 (fun w hw=>BX C s hd ((.slice A4 l.length c4,l)::L) At ct k hk hn l A4 c4 .new (hR.cons _) hF.ml (by have:=hF.tl;omega) (fun i=>by have:=hF.st i;omega) w (hw.msub ms)) (fun⟨hd2,L2,A5,c5⟩ hR2=>?_)
 refine aL ?_
 intro w hw
 exact⟨(hd2,L2,A5,c5),hR2,rfl,hw.msub ms⟩
structure pS (fs:List au) (f:au):Prop where
 op:∀i,i<f.C.length->KP fs f (bu f.C i)
 to_:∀i,i<f.C.length->∀q∈dg (bu f.C i) i,0<=q/\q<=f.C.length
 n40:f.C.length<=40
theorem um {n:Nat} :∀{s s':eq} {L:List Int} {k:Nat} {l:List Int},k<L.length->dx n s (L.take k) l=some s'->dx n s (L.take (k+1)) l=if (dk n s' (L.getD k 0).toNat l).1=true then some (dk n s' (L.getD k 0).toNat l).2 else none
 | s,s',[],k,l,hk,_=>by simp at hk
 | s,s',a::L,0,l,_,h=>by
  simp only[List.take_zero,dx,aV] at h
  subst h
  simp[dx]
 | s,s',a::L,k+1,l,hk,h=>by
  simp only[fy,dx] at h⊢
  split at h
  ·rename_i h1
   rw[if_pos h1,um (by simpa using hk) h]
   simp
  cases h
theorem un {n:Nat} :∀{s:eq} {L:List Int} {k:Nat} {l:List Int},dx n s (L.take k) l=none->dx n s L l=none
 | s,[],k,l,h=>by simpa using h
 | s,a::L,0,l,h=>by simp[dx] at h
 | s,a::L,k+1,l,h=>by
  simp only[fy,dx] at h⊢
  split at h
  ·rename_i h1;rw[if_pos h1];exact un h
  rename_i h1;rw[if_neg h1]
theorem yv {n:Nat} :∀{s s':eq} {L:List Int} {l:List Int},gU n s->(∀q∈L,0<=q/\q<=n)->l.length<=8->s.todo.length+L.length<5000->dx n s L l=some s'->gU n s'/\s'.todo.length<=s.todo.length+L.length
 | s,s',[],l,h,_,_,_,e=>by
  simp only[dx,aV] at e
  subst e
  exact⟨h,aA _⟩
 | s,s',a::L,l,h,hq,hl,ht,e=>by
  simp only[dx] at e
  split at e
  ·have ha:=hq a (by simp)
   rw[aS] at ht
   obtain⟨h1,h2⟩:=nk h (k:=a.toNat) (by omega) hl (by omega)
   obtain⟨h3,h4⟩:=yv h1 (fun q hq'=>hq q (by simp[hq'])) hl (by omega) e
   exact⟨h3,by rw[aS];omega⟩
  cases e
theorem zC {fs:List au} {f:au} {o:bd} {s l':nT} (e:mi fs f o s=l') (h:l'.2=false):l'.1.length<=8:=by
 subst e
 unfold mi at h⊢
 simp only[Bool.or_eq_false_iff,decide_eq_false_iff_not] at h
 show (gN fs f o s).1.length<=8
 omega
theorem rF (o:bd) (pc:Int):(dg o pc).length<=2:=by
 unfold dg
 repeat (first | split | simp)
theorem Ja (C:FC) (s:eq) (hd:List jx) (L:List (Value×List Int)) (At:Option Addr) (ct:Nat) (r:Option eq) (e:lp C.fs C.f s=r) (hok:pS C.fs C.f) (hp:br w0 B (.slice C.Ap C.fs.length C.cp) C.fs) (hlo:br w0 B (.slice C.A1 C.f.L.length C.c1) C.f.L) (hco:br w0 B (.slice C.A2 C.f.C.length C.c2) C.f.C)
  (hR:kc C.f.C.length hd L s.at_) (hF:gU C.f.C.length s) (ht:0<s.todo.length) (ht2:s.todo.length<=4000) (w:World) (hw:Cw B w0 (iG C s hd L At ct++H) w) :
  Calls Tryz.prog 170 #[.pointer (some ⟨C.gx,0,none⟩)] w fun e w'=> ∃g:List jx×List (Value×List Int)×Option Addr×Nat,(match r with | some s'=>kc C.f.C.length g.1 g.2.1 s'.at_ | none=>True)/\
   e= .returned (.bool r.isSome)/\Cw B w0 ((match r with | some s'=>iG C s' g.1 g.2.1 g.2.2.1 g.2.2.2 | none=> [])++H) w':=by
 obtain⟨gx,fs,f,Ap,cp,A1,c1,A2,c2,Aa,ca,Am,cm⟩:=C
 obtain⟨at_,met,todo⟩:=s
 dsimp only[iG,dt,jd] at *
 obtain⟨n,hn⟩:∃n,todo.length=n+1:=⟨todo.length - 1,by omega⟩
 have hmem:todo.getD n 0∈todo:=by rw[ak,an (by omega)];exact cP _
 have htd:=hF.td _ hmem
 obtain⟨k,hk⟩:∃k:Nat,todo.getD n 0=(k:Int):=⟨(todo.getD n 0).toNat,by have:=htd.1;omega⟩
 have hkl:k<f.C.length:=by have:=htd.2;omega
 obtain⟨T,b,eT⟩:∃T b,mi fs f (bu f.C k) (at_.getD k [],false)=(T,b):=⟨_,_,rfl⟩
 have e:(if b=true then none else dx f.C.length ⟨at_,met,todo.take n⟩ (dg (bu f.C k) k) T)=r:=by
  unfold lp at e
  dsimp only at e
  rw[show todo.length - 1=n from by omega,hk,bi,eT] at e
  exact e
 have htl:(todo.take n).length=n:=by rw[ax];omega
 have i1:=AZ hco hkl
 refine aY Tryz.func170 rfl Tryz.ntmps170 rfl hw<|aj ?_
 intro g1 _
 refine aH ?_
 refine bL<|cM<|bM<|dY (fi fc Tryz.isAgg221 rfl rfl (by rfl)) rfl rfl ?_
 refine aH ?_
 refine aH ?_
 refine dY (fi fc vq rfl rfl (by rfl)) rfl rfl ?_
 refine dY (mo aW rfl rfl) rfl rfl<|dY (AI rfl rfl rfl (by omega)) rfl rfl<|aH ?_
 refine bL<|di (t:=3) (v':= .int .i64 (n:Int)) rfl (by congr 1;omega)<|aj ?_
 refine dB (_) rfl ((SF.own rfl fc)) ?_
 refine oN rfl ((SF.own rfl fc)) ?_
 refine aH ?_
 refine bL<|gR (fun w h=>mV h (xs:=todo) fc) fun hcap=>?_
 refine di (t:=4) (v':= .int .i64 (k:Int)) rfl (by rw[hk])<|aj ?_
 refine bR [0,3,6,9,12,15,18,21,24,29] [9] rfl<|aj ?_
 refine tE rfl (pz (k:=n) aW cG (by omega) rfl rfl rfl) ?_
 refine aH ?_
 refine aH ?_
 refine en rfl (ey _ fc kZ rfl rfl rfl rfl rfl (by rfl) rfl (by rfl)) rfl rfl (.inl rfl) (fun _ _=>?_) fW
 refine Gx<|dC (fun w h=>tv (k:=n) (xs:=todo) (A:=At) (m:=todo.length) (c:=ct) (by omega) (h.msub (.s fc .r))) ?_
 have hin:=hR.el k hkl
 have h8:(at_.getD k []).length<=8:=hF.st k
 refine aj ?_
 refine dB (_) rfl ((SF.own hR.hl fc)) ?_
 refine eR rfl (SF.hdr (SF.own hR.hl fc) hkl) ?_
 refine qa (fun w h=>hin.form h fc) ?_
 rintro⟨A3,c3,hv⟩
 rw[hv] at hin
 refine cH (t:=34) (v':= .slice A3 (at_.getD k []).length c3) rfl (hv) ?_
 refine oE (fC rfl rfl rfl jS (fun w hw=>wF A3 c3 (at_.getD k []) w (hin.sl hw fc) (by omega))) (fun⟨A4,c4⟩ _=>?_)
 refine aL ?_
 refine fun g2 _=>aj ?_
 intro g3 _
 refine eP (ey _ fc Tryz.sizeOf271 rfl rfl rfl rfl rfl (by rfl) rfl (by rfl)) rfl rfl (fun _ _=>?_)
 refine bL<|aj ?_
 refine dK [0,3,6,9,12,15,18,21,24,27,30,33,36,39,42,45,48,53] [] rfl [am g1 [.pointer (some ⟨gx,0,none⟩)] 221,am gx [.slice Ap fs.length cp,.int .i64 f.params,.slice A1 f.L.length c1,.int .i64 f.result,.slice A2 f.C.length c2,.slice Aa f.C.length ca,.slice Am f.C.length cm,.slice At n ct] 224,am g3 [.pointer (some ⟨g2,0,none⟩)] 271]<|aj ?_
 refine tE rfl (bX eK jR (.ro hco) (by omega) rfl rfl rfl) ?_
 refine tE rfl (fj (cs:= [_,_]) (SF.op (.ro hco) (by omega)) rfl rfl Rm jR) ?_
 refine vR rfl rfl Tryz.call222 (fun w hw=>Ln g2 fs f (bu f.C k) eT A4 Ap A1 A2 c4 cp c1 c2 (hok.op k hkl) hp hlo (by omega) w (hw.msub (.s fc (.s fc .r)))) (fun⟨A6,c6⟩ _=>?_)
 refine aL ?_
 refine cg rfl (fun hb=>?_) (fun hb=>?_)
 ·rw[if_pos hb] at e
  subst e
  refine aj ?_
  intro w hw
  exact⟨(hd,L,At,ct),trivial,rfl,hw.msub ms⟩
 have hb:b=false:=hb
 subst hb
 have hT8:=zC eT rfl
 have hT8:T.length<=8:=hT8
 rw[if_neg (by decide)] at e
 obtain⟨LL,hLL⟩:∃LL,dg (bu f.C k) k=LL:=⟨_,rfl⟩
 have hto:=hok.to_ k hkl
 have hl2:=rF (bu f.C k) k
 rw[hLL] at hto hl2 e
 have haft:∀w1,Sl w1 (.slice A2 f.C.length c2) f.C->Calls Tryz.prog 223 #[.slice A2 f.C.length c2,.int .i64 (k:Int)] w1 fun e w'=> ∃g:Option Addr×Nat,True/\e= .returned (.slice g.1 LL.length g.2)/\Cw w1.heap.size w1 [ap (.slice g.1 LL.length g.2) LL] w':=fun w1 h=>by
  have:=Ir A2 c2 f.C k w1 h hkl
  rw[hLL] at this
  exact this
 refine aj ?_
 refine eQ rfl Tryz.call223 (fun w hw=>haft w (hw.ro hco)) (fun⟨A7,c7⟩ _=>?_)
 refine aL ?_
 obtain⟨C,hC⟩:∃C:FC,C=⟨gx,fs,f,Ap,cp,A1,c1,A2,c2,Aa,ca,Am,cm⟩:=⟨_,rfl⟩
 have hF0:gU f.C.length ⟨at_,met,todo.take n⟩:=⟨hF.al,hF.ml,by show (todo.take n).length<=_;omega,hF.st,fun x hx=>hF.td x (kR hx)⟩
 have hstep:∀(j:Nat) (g:eq×List jx×List (Value×List Int)×Option Addr×Nat),j<LL.length->((dx f.C.length ⟨at_,met,todo.take n⟩ (LL.take j) T=some g.1/\gU f.C.length g.1/\g.1.todo.length<=n+j)/\kc f.C.length g.2.1 g.2.2.1 g.1.at_)->∀w,Cw B w0 ((fun g:eq×List jx×List (Value×List Int)×Option Addr×Nat=>nW g1 g3 g2 gx A6 c6 T++(iG C g.1 g.2.1 g.2.2.1 g.2.2.2.1 g.2.2.2.2++(ap (.slice A7 LL.length c7) LL::H))) g) w->
   Calls Tryz.prog 224 ([Value.int .i64 (LL.getD j 0)]++(#[.pointer (some ⟨g1,0,none⟩),.pointer (some ⟨g3,0,none⟩)]:Array Value).toList).toArray w fun e w'=> ∃p:Bool×eq×List jx×List (Value×List Int)×Option Addr×Nat,
    (if p.1 then dx f.C.length ⟨at_,met,todo.take n⟩ LL T=none else (dx f.C.length ⟨at_,met,todo.take n⟩ (LL.take (j+1)) T=some p.2.1/\gU f.C.length p.2.1/\p.2.1.todo.length<=n+(j+1))/\kc f.C.length p.2.2.1 p.2.2.2.1 p.2.1.at_)/\e= .returned (.bool p.1)/\Cw B w0 ((fun g:eq×List jx×List (Value×List Int)×Option Addr×Nat=>nW g1 g3 g2 gx A6 c6 T++(iG C g.1 g.2.1 g.2.2.1 g.2.2.2.1 g.2.2.2.2++(ap (.slice A7 LL.length c7) LL::H))) p.2) w':=by
  rintro j ⟨s',hd',L',A',c'⟩ hj ⟨⟨g1',g2',g3'⟩,g4'⟩ w1 hw1
  have hmem:LL.getD j 0∈LL:=by rw[ak,an hj];exact cP _
  obtain⟨q,hq⟩:∃q:Nat,LL.getD j 0=(q:Int):=⟨(LL.getD j 0).toNat,by have:=hto _ hmem;omega⟩
  have hqn:q<=f.C.length:=by have:=hto _ hmem;omega
  have hsn:=um hj g1'
  rw[hq,bi] at hsn
  have hco2:=nk g2' hqn hT8 (by have:=hF.tl;dsimp only at *;omega)
  dsimp only at *
  rw[hq]
  refine(Gc (H:=ap (.slice A7 LL.length c7) LL::H) C s' hd' L' A' c' g1 g3 g2 A6 c6 q (by rw[hC];exact hqn) (by rw[hC];exact hok.n40) T hT8 (by rw[hC];exact g4') (by rw[hC];exact g2') w1 (by rw[hC] at hw1⊢;exact hw1)).mono ?_
  rintro e1 w' ⟨⟨hd2,L2,A5,c5⟩,k1,k2,k3⟩
  rw[hC] at k1 k2
  dsimp only at k1 k2
  refine⟨(!(dk f.C.length s' q T).1,(dk f.C.length s' q T).2,hd2,L2,A5,c5),?_,k2,by rw[hC] at k3⊢;exact k3⟩
  dsimp only
  cases hb1:(dk f.C.length s' q T).1
  ·rw[hb1] at hsn
   rw[if_neg (by decide)] at hsn
   simp only[Bool.not_false,if_true]
   exact un hsn
  rw[hb1] at hsn
  rw[if_pos rfl] at hsn
  simp only[Bool.not_true,mK,if_false]
  exact⟨⟨hsn,hco2.1,by omega⟩,k1⟩
 refine cc rfl NS (fun w hw=>BT (B:=B) (w0:=w0) (fun j g=>(dx f.C.length ⟨at_,met,todo.take n⟩ (LL.take j) T=some g.1/\gU f.C.length g.1/\g.1.todo.length<=n+j)/\kc f.C.length g.2.1 g.2.2.1 g.1.at_) (fun _=>dx f.C.length ⟨at_,met,todo.take n⟩ LL T=none) (fun g:eq×List jx×List (Value×List Int)×Option Addr×Nat=>nW g1 g3 g2 gx A6 c6 T++(iG C g.1 g.2.1 g.2.2.1 g.2.2.2.1 g.2.2.2.2++(ap (.slice A7 LL.length c7) LL::H))) A7 c7 LL 224 _ Tryz.call224 (fun g=> .own rfl fc) (by omega) hstep (⟨at_,met,todo.take n⟩,hd,L,At,ct) ⟨⟨rfl,hF0,by show (todo.take n).length<=_;omega⟩,hR⟩ w (by dsimp only[iG,nW,dt,jd];rw[hC];dsimp only;rw[htl];exact hw.msub ms)) (fun⟨bb,s',hd',L',A',c'⟩ hg=>?_)
 refine aL ?_
 intro w hw
 cases bb
 ·have hg:(dx f.C.length ⟨at_,met,todo.take n⟩ (LL.take LL.length) T=some s'/\gU f.C.length s'/\s'.todo.length<=n+LL.length)/\kc f.C.length hd' L' s'.at_:=hg
  rw[aR,e] at hg
  obtain⟨⟨k1,_,_⟩,k2⟩:=hg
  subst k1
  refine⟨(hd',L',A',c'),k2,rfl,?_⟩
  dsimp only[iG,nW,dt,jd] at hw⊢
  rw[hC] at hw
  exact hw.msub ms
 have hg:dx f.C.length ⟨at_,met,todo.take n⟩ LL T=none:=hg
 rw[e] at hg
 subst hg
 refine⟨(hd,L,At,ct),trivial,rfl,?_⟩
 dsimp only[iG,nW,dt,jd] at hw⊢
 exact hw.msub ms
end
end
section
def nZ (l:List Int):Nat:=l.countP fun t=>decide (t=3)
def lr (s:eq) (i:Nat):Nat:=if s.met.getD i false=true then nZ (s.at_.getD i []) else 9
def KU (n:Nat) (s:eq):Nat:=((List.range n).map (lr s)).sum
def mu (n:Nat) (s:eq):Nat:=KU n s+s.todo.length
theorem Lw {n k:Nat} {f g:Nat->Nat} (hk:k<n) (h:∀i,i≠k->f i=g i):((List.range n).map g).sum+f k=((List.range n).map f).sum+g k:=by
 induction n with
 | zero=>omega
 | succ n ih=>
  simp only[lI,dm,List.sum_append,dW,hZ,List.sum_cons,List.sum_nil]
  by_cases e:k=n
  ·subst e
   have:(List.range k).map f=(List.range k).map g:=List.map_congr_left fun i hi=>h i (by have:=kX.1 hi;omega)
   rw[this]
   omega
  have:=ih (by omega)
  have:=h n (fun e'=>e e'.symm)
  omega
theorem C7 {a b:Int} (h:dd a b≠0):dd a b=a\/(a=3/\dd a b=2):=by
 unfold dd bW at *
 by_cases h1:a=b
 ·left;simp[h1]
 by_cases h2:a=3/\b=2
 ·right;obtain⟨rfl,rfl⟩:=h2;simp
 by_cases h3:b=3/\a=2
 ·left;obtain⟨rfl,rfl⟩:=h3;simp
 exfalso
 apply h
 have e1:¬(a=3/\b=2):=h2
 have e2:¬(b=3/\a=2):=h3
 have e3:¬b=a:=fun e=>h1 e.symm
 simp[h1,e3,e1,e2]
theorem uh:∀{a l j:List Int},bw a l=some j->nZ j<=nZ a/\(j≠a->nZ j<nZ a)
 | [],[],j,h=>by simp[bw] at h;subst h;simp
 | [],_::_,j,h=>by simp[bw] at h
 | _::_,[],j,h=>by simp[bw] at h
 | a::l,b::m,j,h=>by
  simp only[bw] at h
  split at h
  ·cases h
  rename_i h0
  cases e:bw l m with
  | none=>rw[e] at h;cases h
  | some k=>
   rw[e] at h
   simp only[Option.map_some,aV] at h
   subst h
   obtain⟨h1,h2⟩:=uh e
   unfold nZ at *
   simp only[List.countP_cons]
   rcases C7 h0 with hb | ⟨rfl,hb⟩
   ·rw[hb]
    refine⟨by omega,fun hne=>?_⟩
    have:k≠l:=fun e=>hne (by rw[e])
    have:=h2 this
    omega
   rw[hb]
   simp only[decide_true,if_true]
   have:(if decide ((2:Int)=3)=true then 1 else 0)=0:=by decide
   rw[this]
   exact⟨by omega,fun _=>by omega⟩
theorem JS (l:List Int):nZ l<=l.length:=List.countP_le_length
theorem yx {n:Nat} {s:eq} (h:gU n s) {k:Nat} (hk:k<=n) {l:List Int} (hl:l.length<=8):mu n (dk n s k l).2<=mu n s:=by
 have key:k<n->∀j:List Int,nZ j<lr s k->mu n ⟨s.at_.set k j,s.met.set k true,s.todo++ [(k:Int)]⟩<=mu n s:=fun hkn j hj=>by
  have e:=Lw (f:=lr s) (g:=lr ⟨s.at_.set k j,s.met.set k true,s.todo++ [(k:Int)]⟩) hkn fun i hi=>by
   unfold lr
   rw[gW (by rw[h.ml];exact hkn),gW (by rw[h.al];exact hkn),if_neg hi,if_neg hi]
  have e2:lr ⟨s.at_.set k j,s.met.set k true,s.todo++ [(k:Int)]⟩ k=nZ j:=by
   unfold lr
   rw[gW (by rw[h.ml];exact hkn),gW (by rw[h.al];exact hkn),if_pos rfl,if_pos rfl,if_pos rfl]
  rw[e2] at e
  unfold mu KU
  simp only[aq,aK]
  omega
 unfold dk
 split
 ·exact aA _
 rename_i hne
 split
 ·rename_i hm
  split
  ·exact aA _
  rename_i j hj
  split
  ·exact aA _
  rename_i hja
  exact key (by omega) j (by unfold lr;rw[if_pos hm];exact(uh hj).2 hja)
 rename_i hm
 exact key (by omega) l (by unfold lr;rw[if_neg hm];have:=JS l;omega)
theorem yw {n:Nat} :∀{s s':eq} {L:List Int} {l:List Int},gU n s->(∀q∈L,0<=q/\q<=n)->l.length<=8->s.todo.length+L.length<5000->dx n s L l=some s'->mu n s'<=mu n s
 | s,s',[],l,h,_,_,_,e=>by
  simp only[dx,aV] at e
  subst e
  exact aA _
 | s,s',a::L,l,h,hq,hl,ht,e=>by
  simp only[dx] at e
  split at e
  ·have ha:=hq a (by simp)
   rw[aS] at ht
   obtain⟨h1,h2⟩:=nk h (k:=a.toNat) (by omega) hl (by omega)
   exact cY (yw h1 (fun q hq'=>hq q (by simp[hq'])) hl (by omega) e) (yx h (by omega) hl)
  cases e
theorem uK {fs:List au} {f:au} (hok:pS fs f) {s s':eq} (h:gU f.C.length s) (ht:0<s.todo.length) (ht2:s.todo.length<=4000) (e:lp fs f s=some s'):gU f.C.length s'/\mu f.C.length s'<mu f.C.length s:=by
 obtain⟨n,hn⟩:∃n,s.todo.length=n+1:=⟨s.todo.length - 1,by omega⟩
 have hmem:s.todo.getD n 0∈s.todo:=by rw[ak,an (by omega)];exact cP _
 have htd:=h.td _ hmem
 obtain⟨k,hk⟩:∃k:Nat,s.todo.getD n 0=(k:Int):=⟨(s.todo.getD n 0).toNat,by omega⟩
 have hkl:k<f.C.length:=by omega
 unfold lp at e
 dsimp only at e
 rw[show s.todo.length - 1=n from by omega,hk,bi] at e
 split at e
 ·cases e
 rename_i hb
 have hb:(mi fs f (bu f.C k) (s.at_.getD k [],false)).2=false:=by simpa using hb
 have hT8:=zC rfl hb
 have hF0:gU f.C.length ⟨s.at_,s.met,s.todo.take n⟩:=⟨h.al,h.ml,by show (s.todo.take n).length<=_;rw[ax];omega,h.st,fun x hx=>h.td x (kR hx)⟩
 have hl2:=rF (bu f.C k) k
 have hlt:(s.todo.take n).length+(dg (bu f.C k) k).length<5000:=by rw[ax];omega
 have h1:=yv hF0 (hok.to_ k hkl) hT8 hlt e
 have h2:=yw hF0 (hok.to_ k hkl) hT8 hlt e
 refine⟨h1.1,?_⟩
 have:mu f.C.length ⟨s.at_,s.met,s.todo.take n⟩+1=mu f.C.length s:=by
  unfold mu
  show KU f.C.length s+(s.todo.take n).length+1=_
  rw[ax]
  omega
 omega
def kK (fs:List au) (f:au):Nat->eq->Option eq
 | 0,_=>none
 | k+1,s=>if s.todo.length=0 then some s else match lp fs f s with
  | none=>none
  | some s'=>kK fs f k s'
theorem wb {fs:List au} {f:au} (hok:pS fs f):∀(k m:Nat) (s:eq),gU f.C.length s->mu f.C.length s<=4000->mu f.C.length s<k->mu f.C.length s<m->kK fs f k s=kK fs f m s
 | 0,_,_,_,_,h,_=>absurd h (by omega)
 | _+1,0,_,_,_,_,h=>absurd h (by omega)
 | k+1,m+1,s,hF,h4,h1,h2=>by
  simp only[kK]
  split
  ·rfl
  rename_i ht
  cases e:lp fs f s with
  | none=>rfl
  | some s'=>
   have htl:s.todo.length<=4000:=by unfold mu at h4;omega
   obtain⟨h3,h4'⟩:=uK hok hF (by omega) htl e
   exact wb hok k m s' h3 (by omega) (by omega) (by omega)
def fM (n:Nat):eq:=⟨List.replicate n [],List.replicate n false,[]⟩
def gF (n:Nat):eq:=(dk n (fM n) 0 []).2
def pO (fs:List au) (f:au):Option eq:=kK fs f (mu f.C.length (gF f.C.length)+1) (gF f.C.length)
structure jK where
 pc:Int
 K:List Int
 deriving DecidableEq
def oR (s:eq) (i:Nat):List jK:=(List.range i).filterMap fun k=>if s.met.getD k false=true then some ⟨k,s.at_.getD k []⟩ else none
def de (fs:List au) (f:au):List jK×Bool:=match pO fs f with
 | none=>([],false)
 | some s=>(oR s f.C.length,true)
theorem sc (n:Nat):gU n (fM n):=by
 refine⟨by simp[fM],by simp[fM],by simp[fM],fun i=>?_,by simp[fM]⟩
 show ((List.replicate n ([]:List Int)).getD i []).length<=8
 rw[ak,pj]
 split <;> simp
theorem Jb (n:Nat):mu n (fM n)<=9*n:=by
 unfold mu KU
 have:∀m,((List.range m).map (lr (fM n))).sum<=9*m:=fun m=>by
  induction m with
  | zero=>simp
  | succ m ih=>
   simp only[lI,dm,List.sum_append,dW,hZ,List.sum_cons,List.sum_nil]
   have:lr (fM n) m<=9:=by
    unfold lr
    split
    ·rename_i h
     have:(fM n).met.getD m false=false:=by
      show (List.replicate n false).getD m false=false
      rw[ak,pj]
      split <;> rfl
     rw[this] at h;cases h
    exact aA _
   omega
 have:=this n
 show _+([]:List Int).length<=_
 simpa using this
theorem xL {n:Nat} (_:0<n):gU n (gF n)/\mu n (gF n)<=9*n:=by
 have h1:=nk (sc n) (k:=0) (bn _) (l:= []) (by simp) (by simp[fM])
 have h2:=yx (sc n) (k:=0) (bn _) (l:= []) (by simp)
 exact⟨h1.1,cY h2 (Jb n)⟩
end
section
instance:ay jK where
 k:=2
 rep w B cs x:= ∃v,cs= [.int .i64 x.pc,v]/\aD x.pc/\br w B v x.K
 len h:=by obtain⟨v,h,_⟩:=h;rw[h];rfl
 keep h hc:=by obtain⟨v,h,hi,hs⟩:=h;exact⟨v,h,hi,hs.keep hc⟩
 more h hb:=by obtain⟨v,h,hi,hs⟩:=h;exact⟨v,h,hi,hs.more hb⟩
 one h:=by obtain⟨v,h,hi,hs⟩:=h;obtain⟨A,c,rfl,_⟩:=hs.form;rw[h];simp[Value.oneCell']
structure jc where
 pc:Int
 v:Value
instance:ay jc where
 k:=2
 rep _ _ cs h:=cs= [.int .i64 h.pc,h.v]/\aD h.pc/\h.v.oneCell'=true
 len h:=by rw[h.1];rfl
 keep h _:=h
 more h _:=h
 one h:=by rw[h.1];simpa [Value.oneCell'] using h.2.2
instance:Ow jc where
 ty:=105
 own _ F cs h:=(cs= [.int .i64 h.pc,h.v]/\aD h.pc/\h.v.oneCell'=true)/\∀b,¬F b
 rd_ h:=h.1
 lt h hb:=(h.2 _ hb).elim
 frame h _:=h
 cong h hf:=⟨h.1,fun b hb=>h.2 b ((hf b).2 hb)⟩
instance:bP jc where
 enc h:= [.int .i64 h.pc,h.v]
 wf h:=aD h.pc/\h.v.oneCell'=true
 rep_iff:=ix
 own_iff:=ix
structure pb (es:List jc) (L:List (Value×List Int)) (xs:List jK):Prop where
 len:es.length=xs.length
 el:∀i (h:i<es.length) (h2:i<xs.length),es[i].pc=xs[i].pc/\kV L es[i].v xs[i].K
theorem pb.nil_ {L:List (Value×List Int)} :pb [] L []:=⟨rfl,fun i h=>by simp at h⟩
theorem pb.snoc {es:List jc} {L:List (Value×List Int)} {xs:List jK} (h:pb es L xs) {e:jc} {x:jK} (h1:e.pc=x.pc) (h2:kV L e.v x.K):pb (es++ [e]) L (xs++ [x]):=
 ⟨by simp[h.len],fun i hi hi2=>by
  by_cases hlt:i<es.length
  ·rw[List.getElem_append_left hlt,List.getElem_append_left (by have:=h.len;omega)]
   exact h.el i hlt (by have:=h.len;omega)
  rw[aq,aK] at hi
  have hl:=h.len
  have:i=es.length:=by omega
  subst this
  rw[List.getElem_append_right (aA _),List.getElem_append_right (by omega)]
  simp[h1,h2,hl]⟩
theorem L9 {w:World} {F:Nat->Prop} {L:List (Value×List Int)} {v:Value} {xs:List Int} (h:kV L v xs) (hF:Hs w (L.map fun p=>kU p.1 p.2) F):Sl w v xs:=by
 rcases h with ⟨rfl,rfl⟩ | h
 ·exact Sl.nil_
 obtain⟨F',h5,_⟩:=Hs.mem (ph (f:=fun p:Value×List Int=>kU p.1 p.2) h) hF
 exact h5.2 w fun _ _=>rfl
theorem xR {es:List jc} {L:List (Value×List Int)} {xs:List jK} (hr:pb es L xs) {v:Value} :∀w F,Hs w [ap v es,iB L] F->Sl w v xs:=by
 rintro w F ⟨F1,F2,h1,⟨F3,F4,h3,h4,_,_⟩,_,_⟩
 have h1:bS w F1 v es:=h1
 have h3:Hs w (L.map fun p=>kU p.1 p.2) F3:=h3
 obtain⟨A,c,hv,k1,k2,k3,k4⟩:=h1.sl
 refine⟨A,c,by rw[hv,hr.len],by rw[<-hr.len];exact k1,k2,by rw[<-hr.len];exact k3,fun h0=>?_⟩
 obtain⟨b,off,hA,hb,hi⟩:=k4 (by rw[hr.len];exact h0)
 refine⟨b,off,hA,hb,fun i x hx=>?_⟩
 have hix:=(aO.1 hx)
 obtain⟨hil,hix⟩:=hix
 have hie:i<es.length:=by rw[hr.len];exact hil
 obtain⟨cs,⟨hcs,hi1,hi2⟩,hc⟩:=hi i es[i] (an hie)
 obtain⟨e1,e2⟩:=hr.el i hie hil
 rw[hix] at e1 e2
 subst hcs
 refine⟨[.int .i64 x.pc,es[i].v],⟨es[i].v,rfl,by rw[<-e1];exact hi1,L9 e2 h3⟩,fun j u hu=>?_⟩
 rw[<-e1] at hu
 exact hc j u hu
theorem yr (s:eq) (i:Nat):oR s (i+1)=if s.met.getD i false=true then oR s i++ [⟨i,s.at_.getD i []⟩] else oR s i:=by
 unfold oR
 rw[lI,List.filterMap_append]
 split
 ·rename_i h
  simp only[List.filterMap_cons,List.filterMap_nil]
  rw[if_pos h]
 rename_i h
 simp only[List.filterMap_cons,List.filterMap_nil]
 rw[if_neg h]
 simp
theorem Kr (s:eq) (i:Nat):(oR s i).length<=i:=by
 have:=List.length_filterMap_le (fun k=>if s.met.getD k false=true then some (⟨k,s.at_.getD k []⟩:jK) else none) (List.range i)
 rw[nN] at this
 exact this
theorem uv:(Tryz.prog.info? 35).map (fun i=>(i.zero,i.size,i.bytes))=some (some (.slice none 0 0),1,24):=by kernel_rfl
theorem Fz:(Tryz.prog.info? 105).map (fun i=>(i.zero,i.size,i.bytes))=some (some (.agg #[.int .i64 0,.slice none 0 0]),2,32):=by kernel_rfl
theorem oF {α:Type} (n i:Nat) (x:α):(List.replicate n x).getD i x=x:=by
 rw[ak,pj]
 split <;> rfl
theorem pN (A:Option Addr) (c:Nat) (fs:List au) (k:Nat) (w:World) (hs:Sl w (.slice A fs.length c) fs) (hk:k<fs.length) (hok:pS fs (av fs k)) (hn0:0<(av fs k).C.length) :
  Calls Tryz.prog 117 #[.agg #[.slice A fs.length c],.int .i64 (k:Int)] w fun e w'=> ∃g:(Option Addr×Nat)×List jc×List (Value×List Int),pb g.2.1 g.2.2 (de fs (av fs k)).1/\e= .returned (.tuple #[.slice g.1.1 g.2.1.length g.1.2,.bool (de fs (av fs k)).2])/\
   Cw w.heap.size w [ap (.slice g.1.1 g.2.1.length g.1.2) g.2.1,iB g.2.2] w':=by
 obtain⟨A1,c1,A2,c2,hl,hc,hi,hcell⟩:=hs.fn hk
 generalize av fs k=f at hl hc hi hcell hok hn0⊢
 have hn40:=hok.n40
 refine enter Tryz.func117 rfl Tryz.ntmps117 rfl<|aj ?_
 refine fun g1 _=>aj ?_
 refine dB (_) rfl ((.ro hs))<|aj ?_
 refine eR rfl (fun w hw=>hcell _ w hw 3 _ rfl) ?_
 refine aH ?_
 refine bL<|dD (fun _:Nat×Nat×Nat=>True) (fun g=> [(6,.slice A2 f.C.length c2),(7,.pointer (some ⟨g.2.2,0,none⟩))]) (fun g=> [am g.2.2 [.slice A fs.length c,.int .i64 f.params,.slice A1 f.L.length c1,.int .i64 f.result,.slice A2 f.C.length c2,.slice (some ⟨g.1,0,none⟩) f.C.length f.C.length,.slice (some ⟨g.2.1,0,none⟩) f.C.length f.C.length,.slice none 0 0] 224,ap (.slice (some ⟨g.1,0,none⟩) f.C.length f.C.length) (List.replicate f.C.length nI),ap (.slice (some ⟨g.2.1,0,none⟩) f.C.length f.C.length) (List.replicate f.C.length false)]) ?_ ?_
 ·refine iH (.still 0 (.still 1 (.still 2 (.still 3 (.still 4 (.still 5 (.still 6 (.still 7 (.still 9 (.still 10 (.pick 8 (.pick 11 (.still 12 (.pick 13 (.still 14 .done) .stop)) .stop) (.pick 11 (.pick 8 (.still 12 (.pick 13 (.still 14 .done) .stop)) .stop) .stop)))))))))))) [] rfl (by kernel_rfl) (by kernel_rfl) ?_
  refine aj ?_
  refine tE rfl (bX fz ge (.ro hs) (by omega) rfl rfl rfl) ?_
  refine tE rfl (fj (hcell _) rfl rfl NP ge)<|aj ?_
  refine en rfl (qr (α:=jx) nI iq uv rfl (fun w=>⟨⟨rfl,rfl⟩,fun _ h=>h⟩) rfl (by omega) rfl rfl rfl) rfl rfl (.inr fun _=>ha) (fun ga _=>?_) ?_
  ·refine pE rfl (qr (α:=Bool) false IH Ch rfl (fun w=>⟨rfl,fun _ h=>h⟩) rfl (by omega) rfl rfl rfl) (fun gm _=>aj ?_)
   refine fun gx _=>aj ?_
   refine cu<|du (ga,gm,gx) (trivial)
  refine pE rfl (qr (α:=Bool) false IH Ch rfl (fun w=>⟨rfl,fun _ h=>h⟩) rfl (by omega) rfl rfl rfl) (fun gm _=>?_)
  refine pE rfl (qr (α:=jx) nI iq uv rfl (fun w=>⟨⟨rfl,rfl⟩,fun _ h=>h⟩) rfl (by omega) rfl rfl rfl) (fun ga _=>aj ?_)
  refine fun gx _=>aj ?_
  refine cu<|du (ga,gm,gx) (trivial)
 rintro⟨ga,gm,gx⟩ _
 try dsimp only
 have hR0:kc f.C.length (List.replicate f.C.length nI) [] (fM f.C.length).at_:=⟨by simp,by simp[fM],fun i _=>by
  show kV [] ((List.replicate f.C.length nI).getD i nI).v ((List.replicate f.C.length ([]:List Int)).getD i [])
  rw[oF,oF]
  exact .nil_⟩
 have hso:=xL hn0
 have hcome:∀w1,Cw w.heap.size w (iG (⟨gx,fs,f,A,c,A1,c1,A2,c2,some ⟨ga,0,none⟩,f.C.length,some ⟨gm,0,none⟩,f.C.length⟩:FC) (fM f.C.length) (List.replicate f.C.length nI) [] none 0++ []) w1->Calls Tryz.prog 169 #[.pointer (some ⟨gx,0,none⟩),.int .i64 0,.slice none 0 0] w1 fun e w'=> ∃g:List jx×List (Value×List Int)×Option Addr×Nat,kc f.C.length g.1 g.2.1 (gF f.C.length).at_/\
   e= .returned (.bool (dk f.C.length (fM f.C.length) 0 []).1)/\Cw w.heap.size w (iG (⟨gx,fs,f,A,c,A1,c1,A2,c2,some ⟨ga,0,none⟩,f.C.length,some ⟨gm,0,none⟩,f.C.length⟩:FC) (gF f.C.length) g.1 g.2.1 g.2.2.1 g.2.2.2++ []) w':=fun w1 h=>
  BX (⟨gx,fs,f,A,c,A1,c1,A2,c2,some ⟨ga,0,none⟩,f.C.length,some ⟨gm,0,none⟩,f.C.length⟩:FC) (fM f.C.length) (List.replicate f.C.length nI) [] none 0 0 (bn _) hn40 [] none 0 .nil_ hR0 (by simp[fM]) (by simp[fM]) (fun i=>by have:=(sc f.C.length).st i;omega) w1 h
 refine dC (fun w h=>oJ (Cw.nilO Int h))<|aj ?_
 refine cc rfl Tryz.call169 (fun w hw=>hcome w (hw.msub ms)) (fun⟨hd,L,At,ct⟩ hR=>?_)
 refine aL ?_
 rw[dN]
 refine tQ (fun g:eq×List jx×List (Value×List Int)×Option Addr×Nat=>(pO fs f=some g.1/\gU f.C.length g.1)/\kc f.C.length g.2.1 g.2.2.1 g.1.at_) (fun g=> [(6,.slice A2 f.C.length c2),(7,.pointer (some ⟨gx,0,none⟩))]) (fun g=>iG (⟨gx,fs,f,A,c,A1,c1,A2,c2,some ⟨ga,0,none⟩,f.C.length,some ⟨gm,0,none⟩,f.C.length⟩:FC) g.1 g.2.1 g.2.2.1 g.2.2.2.1 g.2.2.2.2) ?_ ?_
 ·refine dG (fun g:eq×List jx×List (Value×List Int)×Option Addr×Nat=>((kK fs f (mu f.C.length g.1+1) g.1=pO fs f/\gU f.C.length g.1)/\kc f.C.length g.2.1 g.2.2.1 g.1.at_)/\mu f.C.length g.1<=400) (fun g=>mu f.C.length g.1) (fun g=> [(6,.slice A2 f.C.length c2),(7,.pointer (some ⟨gx,0,none⟩))]) (fun g=>iG (⟨gx,fs,f,A,c,A1,c1,A2,c2,some ⟨ga,0,none⟩,f.C.length,some ⟨gm,0,none⟩,f.C.length⟩:FC) g.1 g.2.1 g.2.2.1 g.2.2.2.1 g.2.2.2.2) (gF f.C.length,hd,L,At,ct) (⟨⟨⟨rfl,hso.1⟩,hR⟩,by show mu f.C.length (gF f.C.length)<=_;have:=hso.2;omega⟩) ?_
  rintro⟨s,hd,L,At,ct⟩ hj
  try dsimp only
  obtain⟨⟨⟨hj1,hF⟩,hR⟩,hmu⟩:((kK fs f (mu f.C.length s+1) s=pO fs f/\gU f.C.length s)/\kc f.C.length hd L s.at_)/\mu f.C.length s<=400:=hj
  have htl:s.todo.length<=400:=by unfold mu at hmu;omega
  dsimp only[iG]
  refine az (fun ht=>?_) (fun ht=>?_)
  ·have ht0:0<s.todo.length:=by omega
   obtain⟨r,hr⟩:∃r,lp fs f s=r:=⟨_,rfl⟩
   have hj2:=hj1
   rw[kK,if_neg (by omega),hr] at hj2
   refine aj ?_
   refine cc rfl Tryz.call170 (fun w hw=>Ja (H:= []) (⟨gx,fs,f,A,c,A1,c1,A2,c2,some ⟨ga,0,none⟩,f.C.length,some ⟨gm,0,none⟩,f.C.length⟩:FC) s hd L At ct r hr hok hs hl hc hR hF ht0 (by omega) w (hw.msub ms)) (fun⟨hd2,L2,A2',c2'⟩ hR2=>?_)
   refine aL ?_
   refine cg rfl (fun hq=>?_) (fun hq=>?_)
   ·obtain rfl:r=none:=by cases r with | none=>rfl | some s'=>cases hq
    have hent:de fs f=([],false):=by unfold de;rw[<-hj2]
    rw[hent]
    refine aj ?_
    intro w hw
    exact⟨((none,0),[],[]),.nil_,rfl,Cw.nilO jc (oJ (hw.msub (T:= []) ms))⟩
   obtain⟨s',rfl⟩:∃s',r=some s':=by cases r with | none=>cases hq | some s'=>exact⟨s',rfl⟩
   have hso2:=uK hok hF ht0 (by omega) hr
   have hj3:kK fs f (mu f.C.length s'+1) s'=pO fs f:=by
    rw[<-hj2]
    exact wb hok _ _ s' hso2.1 (by omega) (by omega) hso2.2
   dsimp only[dN]
   rw[dN]
   refine aj ?_
   refine NZ (s',hd2,L2,A2',c2') (⟨⟨⟨hj3,hso2.1⟩,hR2⟩,by show mu f.C.length s'<=_;omega⟩) (hso2.2)
  have ht0:s.todo.length=0:=by omega
  have hj2:=hj1
  rw[kK,if_pos ht0] at hj2
  refine aj ?_
  refine du (s,hd,L,At,ct) (⟨⟨hj2.symm,hF⟩,hR⟩)
 rintro⟨s,hd,L,At,ct⟩ hj
 obtain⟨⟨hj,hF⟩,hR⟩:(pO fs f=some s/\gU f.C.length s)/\kc f.C.length hd L s.at_:=hj
 have hent:de fs f=(oR s f.C.length,true):=by unfold de;rw[hj]
 rw[hent]
 dsimp only[iG]
 refine dC (fun w h=>Cw.nilO jc h)<|aj ?_
 refine dG (fun g:Nat×List jc×Option Addr×Nat=>g.1<=f.C.length/\pb g.2.1 L (oR s g.1)) (fun g=>f.C.length - g.1) (fun g=> [(7,.pointer (some ⟨gx,0,none⟩)),(8,.slice g.2.2.1 g.2.1.length g.2.2.2),(42,.int .i64 (f.C.length:Int)),(43,.int .i64 (g.1:Int))]) (fun g=>ap (.slice g.2.2.1 g.2.1.length g.2.2.2) g.2.1::iG (⟨gx,fs,f,A,c,A1,c1,A2,c2,some ⟨ga,0,none⟩,f.C.length,some ⟨gm,0,none⟩,f.C.length⟩:FC) s hd L At ct) (0,[],none,0) (⟨bn _,.nil_⟩) ?_
 rintro⟨i,es,Ae,ce⟩ hi'
 try dsimp only
 obtain⟨hi1,hre⟩:i<=f.C.length/\pb es L (oR s i):=hi'
 have hel:=hre.len
 have hul:=Kr s i
 dsimp only[iG]
 refine az (fun hlt=>?_) (fun hlt=>?_)
 ·have hil:i<f.C.length:=by omega
  have hsu:=yr s i
  refine aj ?_
  refine dB (_) rfl ((SF.own hF.ml fc)) ?_
  refine eR rfl (SF.bool (SF.own hF.ml fc) (by omega))<|aj ?_
  refine cg rfl (fun hm=>?_) (fun hm=>?_)
  ·rw[if_pos hm] at hsu
   have hin:=hR.el i hil
   refine aj ?_
   refine dB (_) rfl ((SF.own hR.hl fc)) ?_
   refine qa (fun w h=>hin.form h fc) ?_
   rintro⟨A3,c3,hv⟩
   rw[hv] at hin
   refine sE (dO (v:= .slice A3 (s.at_.getD i []).length c3) (by rw[<-hv];exact SF.hdr (SF.own hR.hl fc) hil) rfl rfl vq)<|aj ?_
   intro g2 _
   refine oE (cT (α:=jc) (bytes:=32) ⟨i,.slice A3 (s.at_.getD i []).length c3⟩ [] rfl Tryz.underlying99 (bJ Fz) rfl (fN fc fc) (eG ⟨⟨by show (-9223372036854775808:Int)<=(i:Int);omega,by show (i:Int)<=9223372036854775807;omega⟩,rfl⟩) (by omega) (by omega) rfl rfl rfl) (fun⟨A5,c5⟩ _=>?_)
   refine aL ?_
   refine dw (i+1,es++ [⟨i,.slice A3 (s.at_.getD i []).length c3⟩],A5,c5) (⟨hil,by rw[hsu];exact hre.snoc rfl hin⟩) (by show _ - _<_ - _;omega)
  rw[if_neg (by rw[hm];decide)] at hsu
  refine aj ?_
  refine dw (i+1,es,Ae,ce) (⟨hil,by rw[hsu];exact hre⟩) (by show _ - _<_ - _;omega)
 obtain rfl:i=f.C.length:=by omega
 refine aj ?_
 intro w hw
 exact⟨((Ae,ce),es,L),hre,rfl,hw.msub ms⟩
theorem CT (A:Option Addr) (c:Nat) (fs:List au) (k:Nat) (w:World) (hs:Sl w (.slice A fs.length c) fs) (hk:k<fs.length) (hok:pS fs (av fs k)) (hn0:0<(av fs k).C.length) :
  Calls Tryz.prog 117 #[.agg #[.slice A fs.length c],.int .i64 (k:Int)] w fun e w'=> ∃g:Option Addr×Nat,True/\e= .returned (.tuple #[.slice g.1 (de fs (av fs k)).1.length g.2,.bool (de fs (av fs k)).2])/\
   Cw w.heap.size w [kU (.slice g.1 (de fs (av fs k)).1.length g.2) (de fs (av fs k)).1] w':=
 (pN A c fs k w hs hk hok hn0).mono fun e w' ⟨g,h1,h2,h3⟩=>⟨g.1,trivial,by rw[<-h1.len];exact h2,by rw[<-h1.len];exact ym (Hel:= [ap (.slice g.1.1 g.2.1.length g.1.2) g.2.1,iB g.2.2]) (H:= []) (xR h1) h3⟩
end
section
theorem iZ {fs:List au} {k:Nat} (hk:k<fs.length):av fs k∈fs:=by
 unfold av
 rw[ak,an hk]
 exact cP hk
theorem jj {fs:List au} (h:dy fs=0) {k:Nat} (hk:k<fs.length):pS fs (av fs k)/\0<(av fs k).C.length:=by
 obtain⟨_,_,hall⟩:=ip h
 obtain⟨_,_,h3,h4,h5,h6,h7⟩:=kr (hall _ (iZ hk))
 obtain⟨h40,_⟩:=pP h6
 refine⟨⟨fun i hi=>?_,fun i hi q hq=>?_,h40⟩,by omega⟩
 ·have hf:=h7 _ (uS hi)
  refine⟨fun hc=>?_,fun hc=>?_,fun j hj=>?_,⟨by omega,by omega⟩⟩
  ·unfold kb at hf
   rw[if_pos hc] at hf
   have:=kH.1 hf
   omega
  ·unfold kb at hf
   rw[if_neg (by omega),if_neg (by omega),if_pos hc] at hf
   have:=kH.1 hf
   omega
  obtain⟨g1,g2,_⟩:=kr (hall _ (iZ hj))
  exact⟨g2,g1⟩
 have hf:=h7 _ (uS hi)
 have hg:=(yD (bu (av fs k).C i) i q).1 hq
 have hjz:((bu (av fs k).C i).c=10\/(bu (av fs k).C i).c=11)->0<=(bu (av fs k).C i).a/\(bu (av fs k).C i).a<(av fs k).C.length:=fun hc=>by
  unfold kb at hf
  rw[if_neg (by omega),if_pos hc] at hf
  have:=kH.1 hf
  omega
 unfold fQ at hg
 split at hg
 ·simp at hg
 split at hg
 ·rename_i hc
  have:=hjz (.inl hc)
  simp at hg
  omega
 split at hg
 ·rename_i hc
  have:=hjz (.inr hc)
  simp at hg
  omega
 simp at hg
 omega
def nu (fs:List au) (z:Int):List jK×Int:=
 if dy fs≠0 then ([],dy fs) else if z<0\/(fs.length:Int)<=z then ([],3) else if (de fs (av fs z.toNat)).2=true then ((de fs (av fs z.toNat)).1,0) else ([],4)
def dU (fs:List au):Int:=if dy fs≠0 then dy fs else if fs.all (fun f=>(de fs f).2)=true then 0 else 4
theorem zb {α:Type} {p:α->Bool} {l:List α} {k:Nat} (d:α) (hk:k<l.length):(l.take (k+1)).all p=((l.take k).all p && p (l.getD k d)):=by
 rw[List.take_add_one,an hk,ak,an hk,List.all_append]
 simp
theorem FT (A:Option Addr) (c:Nat) (fs:List au) (z:Int) (w:World) (hs:Sl w (.slice A fs.length c) fs) :
  Calls Tryz.prog 58 #[.agg #[.slice A fs.length c],.int .i64 z] w fun e w'=> ∃g:(Option Addr×Nat)×List jc×List (Value×List Int),pb g.2.1 g.2.2 (nu fs z).1/\e= .returned (.tuple #[.slice g.1.1 g.2.1.length g.1.2,.int .i64 (nu fs z).2])/\
   Cw w.heap.size w [ap (.slice g.1.1 g.2.1.length g.1.2) g.2.1,iB g.2.2] w':=by
 have b1:=bB hs
 refine enter Tryz.func58 rfl Tryz.ntmps58 rfl<|aj ?_
 refine fun g1 _=>aj ?_
 obtain⟨E,hE⟩:∃E:Int,(if dy fs≠0 then dy fs else if z<0\/(fs.length:Int)<=z then 3 else 0)=E:=⟨_,rfl⟩
 refine cy rfl FJ (fun w hw=>mq A c fs w (hw.ro hs)) ?_
 refine aH ?_
 refine bL<|dD (fun _:Unit=>True) (fun _=> [(1,.int .i64 z),(2,.pointer (some ⟨g1,0,none⟩)),(6,.int .i64 E)]) (fun _=> [am g1 [.slice A fs.length c] 24]) ?_ ?_
 ·refine dc 13 (fun h1=>?_) (fun h1=>?_)
  ·have h1:=of_decide_eq_true h1
   rw[if_neg (by simpa using h1)] at hE
   refine dc 16 (fun h2=>?_) (fun h2=>?_)
   ·have h2:=of_decide_eq_true h2
    rw[if_pos (.inl h2)] at hE
    subst hE
    refine aj ?_
    refine bo rfl<|aj ?_
    refine nR () (trivial)
   have h2:=of_decide_eq_false h2
   refine az (fun h3=>?_) (fun h3=>?_)
   ·rw[if_pos (.inr (by omega))] at hE
    subst hE
    refine aj ?_
    refine nR () (trivial)
   rw[if_neg (by omega)] at hE
   subst hE
   rw[h1]
   refine aj ?_
   refine du () (trivial)
  have h1:=of_decide_eq_false h1
  rw[if_pos h1] at hE
  subst hE
  refine aj ?_
  refine cB rfl<|aj ?_
  refine du () (trivial)
 rintro _ _
 refine bU (fun h0=>?_) (fun h0=>?_)
 ·have hf:nu fs z=([],E):=by
   unfold nu
   by_cases h1:dy fs=0
   ·rw[if_neg (by simpa using h1)] at hE⊢
    by_cases h2:z<0\/(fs.length:Int)<=z
    ·rw[if_pos h2] at hE⊢;rw[hE]
    rw[if_neg h2] at hE;exact absurd hE.symm h0
   rw[if_pos h1] at hE⊢;rw[hE]
  rw[hf]
  refine aj ?_
  intro w hw
  exact⟨((none,0),[],[]),.nil_,rfl,Cw.nilO jc (oJ (hw.msub (T:= []) ms))⟩
 subst h0
 have h1:dy fs=0:=by
  by_cases h1:dy fs=0
  ·exact h1
  rw[if_pos h1] at hE;exact absurd hE h1
 rw[if_neg (by simpa using h1)] at hE
 have h2:¬(z<0\/(fs.length:Int)<=z):=fun h=>by rw[if_pos h] at hE;cases hE
 obtain⟨k,rfl⟩:∃k:Nat,z=(k:Int):=⟨z.toNat,by omega⟩
 have hk:k<fs.length:=by omega
 obtain⟨hok,hn0⟩:=jj h1 hk
 have hf:nu fs (k:Int)=if (de fs (av fs k)).2=true then ((de fs (av fs k)).1,0) else ([],4):=by
  unfold nu
  rw[if_neg (by simpa using h1),if_neg h2,bi]
 refine aj ?_
 refine eQ rfl Rv (fun w hw=>pN A c fs k w (hw.ro hs) hk hok hn0) (fun⟨⟨A1,c1⟩,es,L⟩ hre=>?_)
 refine aL ?_
 refine cg rfl (fun h3=>?_) (fun h3=>?_)
 ·rw[hf,if_neg (by simpa using h3)]
  refine aj ?_
  intro w hw
  exact⟨((none,0),[],[]),.nil_,rfl,Cw.nilO jc (oJ (hw.msub (T:= []) ms))⟩
 rw[hf,if_pos (by simpa using h3)]
 refine aj ?_
 intro w hw
 exact⟨((A1,c1),es,L),hre,rfl,hw.msub ms⟩
theorem Qq (A:Option Addr) (c:Nat) (fs:List au) (z:Int) (w:World) (hs:Sl w (.slice A fs.length c) fs) :
  Calls Tryz.prog 58 #[.agg #[.slice A fs.length c],.int .i64 z] w fun e w'=> ∃g:Option Addr×Nat,True/\e= .returned (.tuple #[.slice g.1 (nu fs z).1.length g.2,.int .i64 (nu fs z).2])/\
   Cw w.heap.size w [kU (.slice g.1 (nu fs z).1.length g.2) (nu fs z).1] w':=
 (FT A c fs z w hs).mono fun e w' ⟨g,h1,h2,h3⟩=>⟨g.1,trivial,by rw[<-h1.len];exact h2,by rw[<-h1.len];exact ym (Hel:= [ap (.slice g.1.1 g.2.1.length g.1.2) g.2.1,iB g.2.2]) (H:= []) (xR h1) h3⟩
theorem nx (A:Option Addr) (c:Nat) (fs:List au) (w:World) (hs:Sl w (.slice A fs.length c) fs) :
  Calls Tryz.prog 72 #[.agg #[.slice A fs.length c]] w fun e w'=>e= .returned (.int .i64 (dU fs))/\Below w.heap.size w w':=by
 have b1:=bB hs
 refine enter Tryz.func72 rfl Tryz.ntmps72 rfl<|aj ?_
 refine fun g1 _=>aj ?_
 refine cy rfl FJ (fun w hw=>mq A c fs w (hw.ro hs))<|bU (fun h0=>?_) (fun h0=>?_)
 ·refine aj ?_
  intro w hw
  exact⟨gA (by unfold dU;rw[if_pos h0]),hw.below⟩
 have hp:dU fs=if fs.all (fun f=>(de fs f).2)=true then 0 else 4:=by unfold dU;rw[if_neg (by simpa using h0)]
 refine aj ?_
 refine dG (fun k:Nat=>k<=fs.length/\(fs.take k).all (fun f=>(de fs f).2)=true) (fun k=>fs.length - k) (fun k=> [(1,.pointer (some ⟨g1,0,none⟩)),(14,.int .i64 (fs.length:Int)),(15,.int .i64 (k:Int))]) (fun _=> [am g1 [.slice A fs.length c] 24]) 0 (⟨bn _,rfl⟩) ?_
 rintro k hk'
 obtain⟨hk,hall⟩:k<=fs.length/\(fs.take k).all (fun f=>(de fs f).2)=true:=hk'
 refine az (fun hlt=>?_) (fun hlt=>?_)
 ·have hkl:k<fs.length:=by omega
  obtain⟨hok,hn0⟩:=jj h0 hkl
  have hsn:=zb (p:=fun f=>(de fs f).2) (default:au) hkl
  refine aj ?_
  refine eQ rfl Rv (fun w hw=>CT A c fs k w (hw.ro hs) hkl hok hn0) (fun⟨A1,c1⟩ _=>?_)
  refine aL ?_
  refine cg rfl (fun h3=>?_) (fun h3=>?_)
  ·have h3:(de fs (av fs k)).2=false:=by simpa using h3
   refine aj ?_
   intro w hw
   refine⟨gA ?_,hw.below⟩
   rw[hp,if_neg]
   intro h
   rw[List.all_eq_true] at h
   have:=h _ (iZ hkl)
   rw[h3] at this
   cases this
  have h3:(de fs (av fs k)).2=true:=by simpa using h3
  refine aj ?_
  refine dw (k+1) (⟨hkl,by rw[hsn,hall];exact h3⟩) (by show _ - _<_ - _;omega)
 obtain rfl:k=fs.length:=by omega
 rw[aR] at hall
 refine aj ?_
 intro w hw
 exact⟨gA (by rw[hp,if_pos hall]),hw.below⟩
end
section
instance:gT au pd where
 parts h f:= [ap h.v1 f.L,ap h.v2 f.C]
 ok h f:=h.p=f.params/\h.r=f.result
 kk:=rfl
 tt:=rfl
 opn {w F cs f} h:=by
  obtain⟨v1,v2,F1,F2,hcs,hi,h1,h2,hd,hF⟩:=h
  obtain⟨A1,c1,e1,_⟩:=h1.sl.form
  obtain⟨A2,c2,e2,_⟩:=h2.sl.form
  refine⟨⟨f.params,v1,f.result,v2⟩,⟨hcs,hi,by rw[e1];rfl,by rw[e2];rfl⟩,⟨rfl,rfl⟩,F1,F2,h1,⟨F2,fun _=>False,h2,fun _ h=>h,fun _ _ h=>h,fun b=>by simp⟩,hd,hF⟩
 cls {w F h f} hwf hok hH:=by
  obtain⟨F1,F2,h1,⟨F3,F4,h3,h4,h5,h6⟩,hd,hF⟩:=hH
  have e:∀b,F2 b↔F3 b:=fun b=>by rw[h6 b];simp[show¬F4 b from h4 b]
  refine⟨h.v1,h.v2,F1,F3,?_,?_,h1,h3,fun b hb hb'=>hd b hb ((e b).2 hb'),fun b=>by rw[hF b,e b]⟩
  ·show [.int .i64 h.p,h.v1,.int .i64 h.r,h.v2]=_
   rw[hok.1,hok.2]
  rw[<-hok.1,<-hok.2];exact hwf.1
def QO (fs:List au):Prop:=fs.length*64<=140737488355328/\∀f∈fs,f.L.length*8<=140737488355328/\f.C.length*16<=140737488355328
theorem Ls {fs:List au} {k:Nat} (hk:k<fs.length):fs.take (k+1)=fs.take k++ [av fs k]:=by
 rw[List.take_add_one,an hk]
 unfold av
 rw[ak,an hk]
 rfl
theorem rH:(Tryz.prog.info? 86).map (fun i=>(i.zero,i.size,i.bytes))=some (some (.agg #[.int .i64 0,.int .i64 0]),2,16):=by kernel_rfl
theorem Qk (A:Option Addr) (c:Nat) (fs:List au) (w:World) (hs:Sl w (.slice A fs.length c) fs) (hfit:QO fs) :
  Calls Tryz.prog 35 #[.agg #[.slice A fs.length c]] w fun e w'=> ∃g:Option Addr×Nat,True/\e= .returned (.agg #[.slice g.1 fs.length g.2])/\Cw w.heap.size w [ap (.slice g.1 fs.length g.2) fs] w':=by
 have b1:=bB hs
 have hf64:=hfit.1
 refine enter Tryz.func35 rfl Tryz.ntmps35 rfl<|aj ?_
 refine fun g1 _=>aj ?_
 refine fun g2 _=>aj ?_
 refine fun g3 _=>aj ?_
 refine dC (fun w h=>Cw.nilO au h) ?_
 refine dG (fun g:Nat×Option Addr×Nat=>g.1<=fs.length) (fun g=>fs.length - g.1) (fun g=> [(1,.pointer (some ⟨g1,0,none⟩)),(2,.pointer (some ⟨g2,0,none⟩)),(3,.pointer (some ⟨g3,0,none⟩)),(4,.int .i64 (g.1:Int))]) (fun g=> [ap (.slice g.2.1 (fs.take g.1).length g.2.2) (fs.take g.1),am g1 [.slice A fs.length c] 24,am g2 [.slice none 0 0] 24,am g3 [.slice g.2.1 (fs.take g.1).length g.2.2] 24]) (0,none,0) (bn _) ?_
 rintro⟨k,A',c'⟩ hk
 try dsimp only
 have hk:k<=fs.length:=hk
 have htl:(fs.take k).length=k:=by rw[ax];omega
 refine az (fun hlt=>?_) (fun hlt=>?_)
 ·have hkl:k<fs.length:=by omega
  obtain⟨A1,c1,A2,c2,hl,hc,hi,hcell⟩:=hs.fn hkl
  obtain⟨hb1,hb2⟩:=hfit.2 (av fs k) (iZ hkl)
  have htk:=Ls hkl
  refine aj ?_
  refine dB (_) rfl ((.ro hs)) ?_
  refine iQ rfl (hcell _)<|aj ?_
  intro g4 _
  refine eP (ey _ fc ge rfl rfl rfl rfl rfl (by rfl) rfl (by rfl)) rfl rfl (fun _ _=>?_)
  refine bL<|dD (fun _:(Option Addr×Nat)×(Option Addr×Nat)=>True) (fun g=> [(1,.pointer (some ⟨g1,0,none⟩)),(2,.pointer (some ⟨g2,0,none⟩)),(3,.pointer (some ⟨g3,0,none⟩)),(4,.int .i64 (k:Int)),(5,.pointer (some ⟨g4,0,none⟩))]) (fun g=> [ap (.slice A' (fs.take k).length c') (fs.take k),am g1 [.slice A fs.length c] 24,am g2 [.slice none 0 0] 24,am g3 [.slice A' (fs.take k).length c'] 24,am g4 [.int .i64 (av fs k).params,.slice g.1.1 (av fs k).L.length g.1.2,.int .i64 (av fs k).result,.slice g.2.1 (av fs k).C.length g.2.2] 84,ap (.slice g.1.1 (av fs k).L.length g.1.2) (av fs k).L,ap (.slice g.2.1 (av fs k).C.length g.2.2) (av fs k).C]) ?_ ?_
  ·refine iH (.still 1 (.still 2 (.still 5 (.still 6 (.pick 0 (.pick 3 (.calm 8 (.pick 4 (.pick 7 (.pick 9 (.calm 10 (.pick 11 .done .stop)) .stop) .stop) .stop)) (.pick 4 (.pick 3 (.calm 8 (.pick 7 (.pick 9 (.calm 10 (.pick 11 .done .stop)) .stop) .stop)) .stop) .stop)) (.pick 4 (.pick 0 (.pick 3 (.calm 8 (.pick 7 (.pick 9 (.calm 10 (.pick 11 .done .stop)) .stop) .stop)) .stop) .stop) .stop)))))) [7,8,9,10,11] rfl (by kernel_rfl) (by kernel_rfl) ?_
   refine aH ?_
   refine et rfl (fi fc vq rfl rfl (by rfl)) rfl rfl ha ?_
   refine aH ?_
   refine et rfl (fi fc Cu rfl rfl (by rfl)) rfl rfl ha ?_
   refine en rfl ((ld (cs:= []) aW cG PN rfl rfl rfl rfl rfl).mem (H'':=fun g=>ap (.slice (some ⟨g,0,none⟩) 0 0) ([]:List Int)::_) fun g w h=>bG (α:=Int) (m:=0) [] rfl (by simp) rfl (by decide) h) rfl rfl (.inr fun _=>ha) (fun ga _=>?_) ?_
   ·refine en rfl (jp (α:=Int) (bytes:=8) (xs:= []) (ys:=(av fs k).L) (xs':=(av fs k).L) rfl aW (bJ fU) rfl fc (.ro hl) (by simp only[aZ];omega) (by simp only[aZ];omega) rfl rfl rfl) rfl rfl (.inr fun _=>ha) (fun⟨A3,c3⟩ _=>?_) ?_
    ·try dsimp only
     refine aH ?_
     refine pE rfl ((ld (cs:= []) eK jR NX rfl rfl rfl rfl rfl).mem (H'':=fun g=>ap (.slice (some ⟨g,0,none⟩) 0 0) ([]:List bd)::_) fun g w h=>bG (α:=bd) (m:=0) [] rfl (by simp) rfl (by decide) h) (fun go _=>?_)
     refine pE rfl (jp (α:=bd) (bytes:=16) (xs:= []) (ys:=(av fs k).C) (xs':=(av fs k).C) rfl eK (bJ rH) rfl fc (.ro hc) (by simp only[aZ];omega) (by simp only[aZ];omega) rfl rfl rfl) (fun⟨A4,c4⟩ _=>?_)
     refine aL ?_
     refine cu<|du ((A3,c3),(A4,c4)) (trivial) (hh:=(fun _ h=>h.msub ms))
    refine pE rfl ((ld (cs:= []) eK jR NX rfl rfl rfl rfl rfl).mem (H'':=fun g=>ap (.slice (some ⟨g,0,none⟩) 0 0) ([]:List bd)::_) fun g w h=>bG (α:=bd) (m:=0) [] rfl (by simp) rfl (by decide) h) (fun go _=>?_)
    refine pE rfl (jp (α:=Int) (bytes:=8) (xs:= []) (ys:=(av fs k).L) (xs':=(av fs k).L) rfl aW (bJ fU) rfl fc (.ro hl) (by simp only[aZ];omega) (by simp only[aZ];omega) rfl rfl rfl) (fun⟨A3,c3⟩ _=>?_)
    refine aL ?_
    refine pE rfl (jp (α:=bd) (bytes:=16) (xs:= []) (ys:=(av fs k).C) (xs':=(av fs k).C) rfl eK (bJ rH) rfl fc (.ro hc) (by simp only[aZ];omega) (by simp only[aZ];omega) rfl rfl rfl) (fun⟨A4,c4⟩ _=>?_)
    refine aL ?_
    refine cu<|du ((A3,c3),(A4,c4)) (trivial) (hh:=(fun _ h=>h.msub ms))
   refine pE rfl ((ld (cs:= []) eK jR NX rfl rfl rfl rfl rfl).mem (H'':=fun g=>ap (.slice (some ⟨g,0,none⟩) 0 0) ([]:List bd)::_) fun g w h=>bG (α:=bd) (m:=0) [] rfl (by simp) rfl (by decide) h) (fun go _=>?_)
   refine pE rfl ((ld (cs:= []) aW cG PN rfl rfl rfl rfl rfl).mem (H'':=fun g=>ap (.slice (some ⟨g,0,none⟩) 0 0) ([]:List Int)::_) fun g w h=>bG (α:=Int) (m:=0) [] rfl (by simp) rfl (by decide) h) (fun ga _=>?_)
   refine pE rfl (jp (α:=Int) (bytes:=8) (xs:= []) (ys:=(av fs k).L) (xs':=(av fs k).L) rfl aW (bJ fU) rfl fc (.ro hl) (by simp only[aZ];omega) (by simp only[aZ];omega) rfl rfl rfl) (fun⟨A3,c3⟩ _=>?_)
   refine aL ?_
   refine pE rfl (jp (α:=bd) (bytes:=16) (xs:= []) (ys:=(av fs k).C) (xs':=(av fs k).C) rfl eK (bJ rH) rfl fc (.ro hc) (by simp only[aZ];omega) (by simp only[aZ];omega) rfl rfl rfl) (fun⟨A4,c4⟩ _=>?_)
   refine aL ?_
   refine cu<|du ((A3,c3),(A4,c4)) (trivial) (hh:=(fun _ h=>h.msub ms))
  rintro⟨⟨A3,c3⟩,⟨A4,c4⟩⟩ _
  refine aL ?_
  intro g5 _
  refine oE (cT (α:=au) (bytes:=64) (av fs k) [ap (.slice A3 (av fs k).L.length c3) (av fs k).L,ap (.slice A4 (av fs k).C.length c4) (av fs k).C] htk fz (bJ uw) rfl (zh fc fc fc fc) (sN hi) (by omega) (by omega) rfl rfl rfl) (fun⟨A5,c5⟩ _=>?_)
  refine aL ?_
  refine dw (k+1,A5,c5) (by show k+1<=_;omega) (by show _ - _<_ - _;omega)
 obtain rfl:k=fs.length:=by omega
 rw[aR]
 refine aj ?_
 intro w hw
 exact⟨(A',c'),trivial,rfl,hw.msub ms⟩
theorem Cw.oform {α:Type} [Ow α] {B:Nat} {w0 w:World} {H H':List aC} {v:Value} {xs:List α} (hw:Cw B w0 H w) (hp:bz H (ap v xs) H'):∃A c,v= .slice A xs.length c:=by
 obtain⟨F,h,_⟩:=hw.rd hp
 obtain⟨A,c,e,_⟩:=bS.sl (show bS w F v xs from h) |>.form
 exact⟨A,c,e⟩
end
section
def oU:List au:= [⟨0,[],0,P9⟩]
def Ry:List au:= [⟨0,[],0,[⟨2,0⟩,⟨13,0⟩]⟩]
end
section
theorem Fp (a b:Int):dd a b=dd b a:=by
 unfold dd bW
 by_cases h1:a=b
 ·simp[h1]
 have h1':¬b=a:=fun e=>h1 e.symm
 by_cases h2:a=3/\b=2
 ·obtain⟨rfl,rfl⟩:=h2;simp
 by_cases h3:b=3/\a=2
 ·obtain⟨rfl,rfl⟩:=h3;simp
 simp[h1,h1',h2,h3]
theorem ET:∀(a b:List Int),bw a b=bw b a
 | [],[]=>rfl
 | [],_::_=>rfl
 | _::_,[]=>rfl
 | a::l,b::m=>by simp only[bw];rw[Fp a b,ET l m]
theorem t3 {t:Int} (h:1<=t/\t<=3):t=1\/t=2\/t=3:=by omega
theorem KK {a b:Int} (ha:1<=a/\a<=3) (hb:1<=b/\b<=3) (h:dd a b≠0):1<=dd a b/\dd a b<=3:=by
 rcases t3 ha with rfl | rfl | rfl <;> rcases t3 hb with rfl | rfl | rfl <;> revert h <;> decide
theorem C8 {a b c:Int} (ha:1<=a/\a<=3) (hb:1<=b/\b<=3) (hc:1<=c/\c<=3) (h1:dd a b≠0) (h2:dd b c≠0):dd (dd a b) c=dd a (dd b c):=by
 rcases t3 ha with rfl | rfl | rfl <;> rcases t3 hb with rfl | rfl | rfl <;> rcases t3 hc with rfl | rfl | rfl <;> revert h1 h2 <;> decide
theorem Ij {a b c:Int} (ha:1<=a/\a<=3) (hb:1<=b/\b<=3) (hc:1<=c/\c<=3) (h1:dd a b≠0) (h2:dd b c=0):dd (dd a b) c=0:=by
 rcases t3 ha with rfl | rfl | rfl <;> rcases t3 hb with rfl | rfl | rfl <;> rcases t3 hc with rfl | rfl | rfl <;> revert h1 h2 <;> decide
theorem B8 {a b:Int} (h:dd a b≠0):bW a (dd a b)=true/\bW b (dd a b)=true:=by
 have r:∀x:Int,bW x x=true:=fun x=>by unfold bW;simp
 unfold dd at h⊢
 by_cases h1:bW a b=true
 ·rw[if_pos h1];exact⟨h1,r b⟩
 rw[if_neg h1] at h⊢
 by_cases h2:bW b a=true
 ·rw[if_pos h2];exact⟨r a,h2⟩
 rw[if_neg h2] at h;exact absurd rfl h
theorem kM {a b:Int} {l m j:List Int} (h:bw (a::l) (b::m)=some j):dd a b≠0/\∃k,bw l m=some k/\j=dd a b::k:=by
 simp only[bw] at h
 split at h
 ·cases h
 rename_i h0
 cases e:bw l m with
 | none=>rw[e] at h;cases h
 | some k=>
  rw[e] at h
  simp only[Option.map_some,aV] at h
  exact⟨h0,k,rfl,h.symm⟩
theorem Bs:∀{a b j:List Int},bw a b=some j->(∀t∈a,1<=t/\t<=3)->(∀t∈b,1<=t/\t<=3)->∀t∈j,1<=t/\t<=3
 | [],[],j,h,_,_=>by simp[bw] at h;subst h;simp
 | [],_::_,j,h,_,_=>by simp[bw] at h
 | _::_,[],j,h,_,_=>by simp[bw] at h
 | a::l,b::m,j,h,ha,hb=>by
  obtain⟨h0,k,hk,rfl⟩:=kM h
  intro t ht
  rcases cZ.1 ht with rfl | ht
  ·exact KK (ha a (by simp)) (hb b (by simp)) h0
  exact Bs hk (fun t h=>ha t (by simp[h])) (fun t h=>hb t (by simp[h])) t ht
theorem ES:∀{a:List Int},(∀t∈a,1<=t/\t<=3)->bw a a=some a
 | [],_=>rfl
 | a::l,h=>by
  have ha:=h a (by simp)
  have e:dd a a=a:=by unfold dd bW;simp
  simp only[bw]
  rw[if_neg (by rw[e];omega),ES (fun t ht=>h t (by simp[ht])),e]
  rfl
theorem pL:∀{a b j:List Int} {i:Nat},bw a b=some j->i<j.length->bW (a.getD i 0) (j.getD i 0)=true/\bW (b.getD i 0) (j.getD i 0)=true
 | [],[],j,i,h,hi=>by simp[bw] at h;subst h;simp at hi
 | [],_::_,j,_,h,_=>by simp[bw] at h
 | _::_,[],j,_,h,_=>by simp[bw] at h
 | a::l,b::m,j,i,h,hi=>by
  obtain⟨h0,k,hk,rfl⟩:=kM h
  cases i with
  | zero=>exact B8 h0
  | succ i=>
   have:=pL (i:=i) hk (by simpa using hi)
   simpa using this
theorem CL:∀{a b c x r:List Int},(∀t∈a,1<=t/\t<=3)->(∀t∈b,1<=t/\t<=3)->(∀t∈c,1<=t/\t<=3)->bw a b=some x->bw b c=some r->bw x c=bw a r
 | [],[],[],x,r,_,_,_,h1,h2=>by simp[bw] at h1 h2;subst h1 h2;rfl
 | [],[],_::_,_,_,_,_,_,_,h=>by simp[bw] at h
 | [],_::_,_,_,_,_,_,_,h,_=>by simp[bw] at h
 | _::_,[],_,_,_,_,_,_,h,_=>by simp[bw] at h
 | _::_,_::_,[],_,_,_,_,_,_,h=>by simp[bw] at h
 | a::l,b::m,c::n,x,r,ha,hb,hc,h1,h2=>by
  obtain⟨h3,k,hk,rfl⟩:=kM h1
  obtain⟨h4,q,hq,rfl⟩:=kM h2
  simp only[bw]
  rw[C8 (ha a (by simp)) (hb b (by simp)) (hc c (by simp)) h3 h4,CL (fun t h=>ha t (by simp[h])) (fun t h=>hb t (by simp[h])) (fun t h=>hc t (by simp[h])) hk hq]
theorem Hv:∀{a b c x:List Int},(∀t∈a,1<=t/\t<=3)->(∀t∈b,1<=t/\t<=3)->(∀t∈c,1<=t/\t<=3)->bw a b=some x->bw b c=none->bw x c=none
 | [],[],[],x,_,_,_,h1,h2=>by simp[bw] at h2
 | [],[],_::_,x,_,_,_,h1,_=>by simp[bw] at h1;subst h1;rfl
 | [],_::_,_,_,_,_,_,h,_=>by simp[bw] at h
 | _::_,[],_,_,_,_,_,h,_=>by simp[bw] at h
 | a::l,b::m,[],x,_,_,_,h,_=>by
  obtain⟨_,k,_,rfl⟩:=kM h
  rfl
 | a::l,b::m,c::n,x,ha,hb,hc,h1,h2=>by
  obtain⟨h3,k,hk,rfl⟩:=kM h1
  simp only[bw] at h2⊢
  by_cases h4:dd b c=0
  ·rw[if_pos (Ij (ha a (by simp)) (hb b (by simp)) (hc c (by simp)) h3 h4)]
  rw[if_neg h4] at h2
  have h5:bw m n=none:=by
   cases e:bw m n with
   | none=>rfl
   | some q=>rw[e] at h2;cases h2
  rw[Hv (fun t h=>ha t (by simp[h])) (fun t h=>hb t (by simp[h])) (fun t h=>hc t (by simp[h])) hk h5]
  split <;> rfl
end
section
def Le (a b:List Int):Prop:=a.length=b.length/\∀i,i<a.length->bW (a.getD i 0) (b.getD i 0)=true
theorem LA (t:Int):bW t t=true:=by unfold bW;simp
theorem zN {a b:Int} :bW a b=true↔a=b\/(a=3/\b=2):=by unfold bW;simp
theorem Jc {a b c:Int} (h1:bW a b=true) (h2:bW b c=true):bW a c=true:=by
 rw[zN] at *;omega
theorem Le.refl (a:List Int):Le a a:=⟨rfl,fun _ _=>LA _⟩
theorem Le.trans {a b c:List Int} (h1:Le a b) (h2:Le b c):Le a c:=⟨h1.1.trans h2.1,fun i hi=>Jc (h1.2 i hi) (h2.2 i (by rw[<-h1.1];exact hi))⟩
theorem gI {l:List Int} {k i:Nat} (h:i<k):(l.take k).getD i 0=l.getD i 0:=by
 rw[ak,da,if_pos h,<-ak]
theorem jy {l:List Int} {k i:Nat} :(l.drop k).getD i 0=l.getD (k+i) 0:=by
 rw[ak,cE,<-ak]
theorem yj {l m:List Int} {i:Nat} (h:i<l.length):(l++m).getD i 0=l.getD i 0:=by
 rw[ak,dA h,<-ak]
theorem yi {l m:List Int} {i:Nat} (h:l.length<=i):(l++m).getD i 0=m.getD (i - l.length) 0:=by
 rw[ak,bZ h,<-ak]
theorem Le.take {a b:List Int} (h:Le a b) (k:Nat):Le (a.take k) (b.take k):=⟨by rw[ax,ax,h.1],fun i hi=>by
 rw[ax] at hi
 rw[gI (by omega),gI (by omega)]
 exact h.2 i (by omega)⟩
theorem Le.drop {a b:List Int} (h:Le a b) (k:Nat):Le (a.drop k) (b.drop k):=⟨by rw[aE,aE,h.1],fun i hi=>by
 rw[aE] at hi
 rw[jy,jy]
 exact h.2 _ (by omega)⟩
theorem Le.app {a b c d:List Int} (h1:Le a b) (h2:Le c d):Le (a++c) (b++d):=⟨by rw[aq,aq,h1.1,h2.1],fun i hi=>by
 rw[aq] at hi
 by_cases h:i<a.length
 ·rw[yj h,yj (by rw[<-h1.1];exact h)];exact h1.2 i h
 rw[yi (by omega),yi (by rw[<-h1.1];omega),<-h1.1];exact h2.2 _ (by omega)⟩
theorem mT {l:List Int} {w:Bool} (h:0<l.length):fH (l,w)=(l.getD (l.length - 1) 0,l.take (l.length - 1),w):=by unfold fH;rw[if_neg (by show¬l.length=0;omega)]
theorem AO {w:Bool} :fH ([],w)=(0,[],true):=rfl
theorem qM (xs:List Int):∀(k:Nat) (l:List Int),(dH xs k (l,true)).2=true
 | 0,_=>rfl
 | k+1,l=>by
  unfold dH
  rcases fp l.length with h | h
  ·have:l= []:=aT h
   subst this
   rw[AO]
   exact qM xs k _
  rw[mT h]
  exact qM xs k _
theorem pI (xs:List Int):∀(k:Nat) (l:List Int) (w:Bool),l.length<k->(dH xs k (l,w)).2=true
 | 0,_,_,h=>absurd h (lH _)
 | k+1,l,w,h=>by
  unfold dH
  rcases fp l.length with h0 | h0
  ·have:l= []:=aT h0
   subst this
   rw[AO]
   exact qM xs k _
  rw[mT h0]
  exact pI xs k _ _ (by rw[ax];omega)
theorem mP (xs:List Int):∀(k:Nat) (l:List Int) (w:Bool),k<=l.length->k<=xs.length->
  (dH xs k (l,w)).1=l.take (l.length - k)/\((dH xs k (l,w)).2=false↔w=false/\Le (l.drop (l.length - k)) (xs.take k))
 | 0,l,w,_,_=>by
  refine⟨by simp[dH],?_⟩
  simp only[dH]
  constructor
  ·intro h;exact⟨h,by rw[vu,List.drop_length,List.take_zero];exact .refl _⟩
  exact fun h=>h.1
 | k+1,l,w,h,hx=>by
  unfold dH
  rw[mT (by omega)]
  obtain⟨i1,i2⟩:=mP xs k (l.take (l.length - 1)) (w || !bW (l.getD (l.length - 1) 0) (xs.getD k 0)) (by rw[ax];omega) (by omega)
  have hl:(l.take (l.length - 1)).length=l.length - 1:=by rw[ax];omega
  rw[hl] at i1 i2
  refine⟨?_,?_⟩
  ·rw[i1,List.take_take]
   congr 1
   omega
  show (dH xs k (l.take (l.length - 1),w || !bW (l.getD (l.length - 1) 0) (xs.getD k 0))).2=false↔_
  rw[i2]
  have hq:l.length - 1 - k=l.length - (k+1):=by omega
  rw[hq]
  constructor
  ·rintro⟨h1,h2⟩
   simp only[Bool.or_eq_false_iff,Bool.not_eq_false'] at h1
   refine⟨h1.1,by rw[aE,ax];omega,fun i hi=>?_⟩
   rw[aE] at hi
   by_cases e:i=k
   ·subst e
    rw[jy,gI (by omega),show l.length - (i+1)+i=l.length - 1 from by omega]
    exact h1.2
   have:=h2.2 i (by rw[aE,hl];omega)
   rw[jy,gI (by omega),gI (by omega)] at this
   rw[jy,gI (by omega)]
   exact this
  rintro⟨h1,h2⟩
  simp only[Bool.or_eq_false_iff,Bool.not_eq_false']
  have hk:=h2.2 k (by rw[aE];omega)
  rw[jy,gI (by omega),show l.length - (k+1)+k=l.length - 1 from by omega] at hk
  refine⟨⟨h1,hk⟩,by rw[aE,hl,ax];omega,fun i hi=>?_⟩
  rw[aE,hl] at hi
  have:=h2.2 i (by rw[aE];omega)
  rw[jy,gI (by omega)] at this
  rw[jy,gI (by omega),gI (by omega)]
  exact this
def tl (fs:List au) (f:au) (o:bd) (s:List Int):Option (List Int×List Int):=
 if o.c=2 then (if s.length<1 then none else some (s.drop (s.length - 1),[])) else
 if o.c=3 then (if s.length<1 then none else some (s.drop (s.length - 1),[s.getD (s.length - 1) 0,s.getD (s.length - 1) 0])) else
 if o.c=4 then (if s.length<2 then none else some (s.drop (s.length - 2),[s.getD (s.length - 1) 0,s.getD (s.length - 2) 0])) else
 if o.c=8 then some ([],[f.L.getD o.a.toNat 0]) else if o.c=9 then some ([f.L.getD o.a.toNat 0],[]) else
 if o.c=12 then some (gS (av fs o.a.toNat),bN (av fs o.a.toNat)) else
 if o.c=13 then (if s.length≠(bN f).length then none else some (bN f,[])) else some ((bI o.c).1,(bI o.c).2)
def jA (fs:List au) (f:au) (o:bd) (s:List Int):Option (List Int):=if (mi fs f o (s,false)).2=true then none else some (mi fs f o (s,false)).1
theorem lM {fs:List au} {f:au} {o:bd} {s T V:List Int} (h0:gN fs f o (s,false)=ra (dH T T.length (s,false)) V) :
  jA fs f o s=if T.length<=s.length/\(s.take (s.length - T.length)++V).length<=8/\(dH T T.length (s,false)).2=false then some (s.take (s.length - T.length)++V) else none:=by
 obtain⟨l',w',e⟩:∃l' w',dH T T.length (s,false)=(l',w'):=⟨_,_,rfl⟩
 have h1:jA fs f o s=if (w' || decide (8<(l'++V).length))=true then none else some (l'++V):=by
  unfold jA mi
  rw[h0,e]
  rfl
 rw[h1,e]
 by_cases hl:T.length<=s.length
 ·obtain⟨e1,e2⟩:=mP T T.length s false hl (aA _)
  rw[e] at e1
  have e1:l'=s.take (s.length - T.length):=e1
  subst e1
  by_cases h8:(s.take (s.length - T.length)++V).length<=8
  ·cases w'
   ·rw[decide_eq_false (by omega)]
    exact(if_pos ⟨hl,h8,rfl⟩).symm
   rw[Bool.true_or]
   exact(if_neg (fun h=>by cases h.2.2)).symm
  rw[decide_eq_true (by omega),Bool.or_true]
  exact(if_neg (fun h=>h8 h.2.1)).symm
 have:=pI T T.length s false (by omega)
 rw[e] at this
 have this:w'=true:=this
 subst this
 rw[Bool.true_or]
 exact(if_neg (fun h=>hl h.1)).symm
theorem uI {s:List Int} {k:Nat} (h:k+1<=s.length):dH (s.drop (s.length - (k+1))) (k+1) (s,false)=(s.take (s.length - (k+1)),false):=by
 obtain⟨e1,e2⟩:=mP (s.drop (s.length - (k+1))) (k+1) s false h (by rw[aE];omega)
 have:(dH (s.drop (s.length - (k+1))) (k+1) (s,false)).2=false:=e2.2 ⟨rfl,by rw[bg (by rw[aE];omega)];exact .refl _⟩
 exact Prod.ext e1 this
theorem Lp (fs:List au) (f:au) (o:bd) (s:List Int):jA fs f o s=match tl fs f o s with
  | none=>none
  | some (T,V)=>if T.length<=s.length/\(s.take (s.length - T.length)++V).length<=8/\(dH T T.length (s,false)).2=false then some (s.take (s.length - T.length)++V) else none:=by
 unfold tl
 by_cases h2:o.c=2
 ·rw[if_pos h2]
  by_cases hl:s.length<1
  ·rw[if_pos hl]
   have:s= []:=aT (by omega)
   subst this
   unfold jA mi gN
   rw[if_pos h2]
   rfl
  rw[if_neg hl]
  have e:=uI (s:=s) (k:=0) (by omega)
  have hd:(s.drop (s.length - 1)).length=1:=by rw[aE];omega
  refine lM ?_
  rw[hd,e]
  unfold gN
  rw[if_pos h2,mT (by omega)]
  simp[ra]
 rw[if_neg h2]
 by_cases h3:o.c=3
 ·rw[if_pos h3]
  by_cases hl:s.length<1
  ·rw[if_pos hl]
   have:s= []:=aT (by omega)
   subst this
   unfold jA mi gN
   rw[if_neg h2,if_pos h3]
   rfl
  rw[if_neg hl]
  have e:=uI (s:=s) (k:=0) (by omega)
  have hd:(s.drop (s.length - 1)).length=1:=by rw[aE];omega
  refine lM ?_
  rw[hd,e]
  unfold gN
  rw[if_neg h2,if_pos h3,mT (by omega)]
 rw[if_neg h3]
 by_cases h4:o.c=4
 ·rw[if_pos h4]
  by_cases hl:s.length<2
  ·rw[if_pos hl]
   unfold jA mi gN
   rw[if_neg h2,if_neg h3,if_pos h4]
   rcases fp s.length with h0 | h0
   ·have:s= []:=aT h0
    subst this
    rfl
   obtain⟨t,rfl⟩:∃t,s= [t]:=by
    match s,h0,hl with
    | [t],_,_=>exact⟨t,rfl⟩
   rfl
  rw[if_neg hl]
  have e:=uI (s:=s) (k:=1) (by omega)
  have hd:(s.drop (s.length - 2)).length=2:=by rw[aE];omega
  refine lM ?_
  rw[hd,e]
  unfold gN
  have hl1:(s.take (s.length - 1)).length=s.length - 1:=by rw[ax];omega
  have p1:fH (s,false)=(s.getD (s.length - 1) 0,s.take (s.length - 1),false):=mT (by omega)
  have p2:fH (s.take (s.length - 1),false)=(s.getD (s.length - 2) 0,s.take (s.length - 2),false):=by
   rw[mT (by rw[hl1];omega),hl1,List.take_take,gI (by omega),show min (s.length - 1 - 1) (s.length - 1)=s.length - 2 from by omega,show s.length - 1 - 1=s.length - 2 from by omega]
  rw[if_neg h2,if_neg h3,if_pos h4]
  simp only[p1,p2]
 rw[if_neg h4]
 by_cases h8:o.c=8
 ·rw[if_pos h8]
  refine lM ?_
  unfold gN
  rw[if_neg h2,if_neg h3,if_neg h4,if_pos h8]
  rfl
 rw[if_neg h8]
 by_cases h9:o.c=9
 ·rw[if_pos h9]
  refine lM ?_
  unfold gN
  rw[if_neg h2,if_neg h3,if_neg h4,if_neg h8,if_pos h9]
  simp[ra]
 rw[if_neg h9]
 by_cases h12:o.c=12
 ·rw[if_pos h12]
  refine lM ?_
  unfold gN
  rw[if_neg h2,if_neg h3,if_neg h4,if_neg h8,if_neg h9,if_pos h12]
 rw[if_neg h12]
 by_cases h13:o.c=13
 ·rw[if_pos h13]
  have hS0:gN fs f o (s,false)=((dH (bN f) (bN f).length (s,false)).1,(dH (bN f) (bN f).length (s,false)).2 || decide (0<(dH (bN f) (bN f).length (s,false)).1.length)):=by
   unfold gN
   rw[if_neg h2,if_neg h3,if_neg h4,if_neg h8,if_neg h9,if_neg h12,if_pos h13]
  by_cases hl:s.length≠(bN f).length
  ·rw[if_pos hl]
   have:(gN fs f o (s,false)).2=true:=by
    rw[hS0]
    by_cases hs:s.length<(bN f).length
    ·rw[pI _ _ _ _ hs];rfl
    rw[(mP (bN f) _ s false (by omega) (aA _)).1,ax,decide_eq_true (by omega),Bool.or_true]
   unfold jA mi
   rw[this]
   rfl
  rw[if_neg hl]
  have hl:s.length=(bN f).length:=by simpa using hl
  refine lM ?_
  have e1:=(mP (bN f) _ s false (by omega) (aA _)).1
  rw[hl,rJ,List.take_zero] at e1
  rw[hS0]
  obtain⟨l',w',e⟩:∃l' w',dH (bN f) (bN f).length (s,false)=(l',w'):=⟨_,_,rfl⟩
  rw[e] at e1⊢
  have e1:l'= []:=e1
  subst e1
  simp[ra]
 rw[if_neg h13]
 refine lM ?_
 unfold gN
 rw[if_neg h2,if_neg h3,if_neg h4,if_neg h8,if_neg h9,if_neg h12,if_neg h13]
end
section
theorem kj {fs:List au} {f:au} {o:bd} {s v:List Int} :jA fs f o s=some v↔
  ∃T V,tl fs f o s=some (T,V)/\T.length<=s.length/\(s.take (s.length - T.length)++V).length<=8/\Le (s.drop (s.length - T.length)) T/\v=s.take (s.length - T.length)++V:=by
 have hf:∀T:List Int,T.length<=s.length->((dH T T.length (s,false)).2=false↔Le (s.drop (s.length - T.length)) T):=fun T hT=>by
  rw[(mP T T.length s false hT (aA _)).2,aR]
  simp
 rw[Lp]
 constructor
 ·intro h
  cases e:tl fs f o s with
  | none=>rw[e] at h;cases h
  | some p=>
   obtain⟨T,V⟩:=p
   rw[e] at h
   simp only[] at h
   split at h
   ·rename_i hc
    simp only[aV] at h
    exact⟨T,V,rfl,hc.1,hc.2.1,(hf T hc.1).1 hc.2.2,h.symm⟩
   cases h
 rintro⟨T,V,e,h1,h2,h3,rfl⟩
 rw[e]
 simp only[]
 rw[if_pos ⟨h1,h2,(hf T h1).2 h3⟩]
theorem Lq {fs:List au} {f:au} {o:bd} {a b T V:List Int} (h:Le a b) (e:tl fs f o b=some (T,V)) (hT:Le (b.drop (b.length - T.length)) T) (hl:T.length<=b.length) :
  ∃T' V',tl fs f o a=some (T',V')/\T'.length=T.length/\Le (a.drop (a.length - T.length)) T'/\Le V' V:=by
 have hlen:=h.1
 have fix:∀T V:List Int,Le (b.drop (b.length - T.length)) T->Le (a.drop (a.length - T.length)) T:=fun T V hT=>by rw[hlen];exact(h.drop _).trans hT
 have one:∀i,i<a.length->Le [a.getD i 0] [b.getD i 0]:=fun i hi=>⟨rfl,fun j hj=>by
  have:j=0:=by simpa using hj
  subst this
  exact h.2 i hi⟩
 unfold tl at e⊢
 by_cases h2:o.c=2
 ·rw[if_pos h2] at e⊢
  split at e
  ·cases e
  rename_i hb
  simp only[aV,bE] at e
  obtain⟨rfl,rfl⟩:=e
  rw[if_neg (by omega)]
  refine⟨_,_,rfl,by rw[aE,aE,hlen],?_,.refl _⟩
  rw[aE,show b.length - (b.length - 1)=1 from by omega]
  exact .refl _
 rw[if_neg h2] at e⊢
 by_cases h3:o.c=3
 ·rw[if_pos h3] at e⊢
  split at e
  ·cases e
  rename_i hb
  simp only[aV,bE] at e
  obtain⟨rfl,rfl⟩:=e
  rw[if_neg (by omega)]
  refine⟨_,_,rfl,by rw[aE,aE,hlen],?_,?_⟩
  ·rw[aE,show b.length - (b.length - 1)=1 from by omega]
   exact .refl _
  rw[<-hlen]
  exact(one _ (by omega)).app (one _ (by omega))
 rw[if_neg h3] at e⊢
 by_cases h4:o.c=4
 ·rw[if_pos h4] at e⊢
  split at e
  ·cases e
  rename_i hb
  simp only[aV,bE] at e
  obtain⟨rfl,rfl⟩:=e
  rw[if_neg (by omega)]
  refine⟨_,_,rfl,by rw[aE,aE,hlen],?_,?_⟩
  ·rw[aE,show b.length - (b.length - 2)=2 from by omega]
   exact .refl _
  rw[<-hlen]
  exact(one _ (by omega)).app (one _ (by omega))
 rw[if_neg h4] at e⊢
 by_cases h8:o.c=8
 ·rw[if_pos h8] at e⊢
  simp only[aV,bE] at e
  obtain⟨rfl,rfl⟩:=e
  exact⟨_,_,rfl,rfl,fix _ [] hT,.refl _⟩
 rw[if_neg h8] at e⊢
 by_cases h9:o.c=9
 ·rw[if_pos h9] at e⊢
  simp only[aV,bE] at e
  obtain⟨rfl,rfl⟩:=e
  exact⟨_,_,rfl,rfl,fix _ [] hT,.refl _⟩
 rw[if_neg h9] at e⊢
 by_cases h12:o.c=12
 ·rw[if_pos h12] at e⊢
  simp only[aV,bE] at e
  obtain⟨rfl,rfl⟩:=e
  exact⟨_,_,rfl,rfl,fix _ [] hT,.refl _⟩
 rw[if_neg h12] at e⊢
 by_cases h13:o.c=13
 ·rw[if_pos h13] at e⊢
  split at e
  ·cases e
  rename_i hb
  simp only[aV,bE] at e
  obtain⟨rfl,rfl⟩:=e
  rw[if_neg (by omega)]
  exact⟨_,_,rfl,rfl,fix _ [] hT,.refl _⟩
 rw[if_neg h13] at e⊢
 simp only[aV,bE] at e
 obtain⟨rfl,rfl⟩:=e
 exact⟨_,_,rfl,rfl,fix _ [] hT,.refl _⟩
theorem xI {fs:List au} {f:au} {o:bd} {a b v:List Int} (h:Le a b) (e:jA fs f o b=some v):∃u,jA fs f o a=some u/\Le u v:=by
 obtain⟨T,V,e1,e2,e3,e4,rfl⟩:=kj.1 e
 obtain⟨T',V',k1,k2,k3,k4⟩:=Lq h e1 e4 e2
 have hlen:=h.1
 have hle:Le (a.take (a.length - T'.length)++V') (b.take (b.length - T.length)++V):=by
  rw[k2,hlen]
  exact(h.take _).app k4
 exact⟨_,kj.2 ⟨T',V',k1,by rw[k2,hlen];exact e2,by rw[hle.1];exact e3,by rw[k2];exact k3,rfl⟩,hle⟩
def Ty (l:List Int):Prop:= ∀t∈l,1<=t/\t<=3
structure Cr (fs:List au) (f:au):Prop where
 loc:Ty f.L
 res:∀k,k<fs.length->(0<=(av fs k).result/\(av fs k).result<=2)
theorem Ty.app {a b:List Int} (h1:Ty a) (h2:Ty b):Ty (a++b):=fun t ht=>by
 rcases cD.1 ht with h | h
 ·exact h1 t h
 exact h2 t h
theorem Ty.at_ {a:List Int} (h:Ty a) {i:Nat} (hi:i<a.length):1<=a.getD i 0/\a.getD i 0<=3:=by
 rw[ak,an hi]
 exact h _ (cP hi)
theorem Ty.one {t:Int} (h:1<=t/\t<=3):Ty [t]:=fun x hx=>by rw[bK.1 hx];exact h
theorem Ty.two {t u:Int} (h:1<=t/\t<=3) (h2:1<=u/\u<=3):Ty [t,u]:=fun x hx=>by
 rcases cZ.1 hx with rfl | hx
 ·exact h
 rw[bK.1 hx];exact h2
theorem Lo {fs:List au} {f:au} {o:bd} {s v:List Int} (ht:Cr fs f) (hok:KP fs f o) (hs:Ty s) (e:jA fs f o s=some v):Ty v:=by
 obtain⟨T,V,e1,e2,e3,e4,rfl⟩:=kj.1 e
 refine Ty.app (fun t h=>hs t (kR h)) ?_
 have nil:Ty []:=fun _ h=>by cases h
 have res:∀k,k<fs.length->Ty (bN (av fs k)):=fun k hk=>by
  unfold bN
  split
  ·exact nil
  rename_i hr
  have:=ht.res k hk
  exact .one (by omega)
 unfold tl at e1
 split at e1
 ·split at e1
  ·cases e1
  simp only[aV,bE] at e1
  obtain⟨rfl,rfl⟩:=e1
  exact nil
 split at e1
 ·split at e1
  ·cases e1
  simp only[aV,bE] at e1
  obtain⟨rfl,rfl⟩:=e1
  exact .two (hs.at_ (by omega)) (hs.at_ (by omega))
 split at e1
 ·split at e1
  ·cases e1
  simp only[aV,bE] at e1
  obtain⟨rfl,rfl⟩:=e1
  exact .two (hs.at_ (by omega)) (hs.at_ (by omega))
 split at e1
 ·rename_i h8
  simp only[aV,bE] at e1
  obtain⟨rfl,rfl⟩:=e1
  have:=hok.loc (.inl h8)
  exact .one (ht.loc.at_ (by omega))
 split at e1
 ·simp only[aV,bE] at e1
  obtain⟨rfl,rfl⟩:=e1
  exact nil
 split at e1
 ·rename_i h12
  simp only[aV,bE] at e1
  obtain⟨rfl,rfl⟩:=e1
  have:=hok.call h12
  exact res _ (by omega)
 split at e1
 ·split at e1
  ·cases e1
  simp only[aV,bE] at e1
  obtain⟨rfl,rfl⟩:=e1
  exact nil
 simp only[aV,bE] at e1
 obtain⟨rfl,rfl⟩:=e1
 unfold bI
 repeat (first | split | exact nil | exact .one (by decide) | exact .two (by decide) (by decide))
theorem KJ {a b c:Int} (hc:1<=c/\c<=3) (h1:bW a c=true) (h2:bW b c=true):dd a b≠0/\bW (dd a b) c=true:=by
 rw[zN] at h1 h2
 rcases t3 hc with rfl | rfl | rfl
 ·have e1:a=1:=by omega
  have e2:b=1:=by omega
  subst e1 e2;decide
 ·rcases h1 with rfl | ⟨rfl,_⟩ <;> rcases h2 with rfl | ⟨rfl,_⟩ <;> decide
 have e1:a=3:=by omega
 have e2:b=3:=by omega
 subst e1 e2;decide
theorem Le.cons_iff {a b:Int} {l m:List Int} :Le (a::l) (b::m)↔bW a b=true/\Le l m:=by
 constructor
 ·intro h
  refine⟨h.2 0 (by simp),by simpa using h.1,fun i hi=>?_⟩
  have:=h.2 (i+1) (by simpa using hi)
  simpa using this
 rintro⟨h1,h2⟩
 refine⟨by simp[h2.1],fun i hi=>?_⟩
 cases i with
 | zero=>simpa using h1
 | succ i=>simpa using h2.2 i (by simpa using hi)
theorem xm:∀{a b c:List Int},Ty c->Le a c->Le b c->∃j,bw a b=some j/\Le j c
 | [],[],c,_,h,_=>⟨[],rfl,h⟩
 | [],_::_,c,_,h,h'=>by have:=h.1.trans h'.1.symm;simp at this
 | _::_,[],c,_,h,h'=>by have:=h.1.trans h'.1.symm;simp at this
 | a::l,b::m,[],_,h,_=>by have:=h.1;simp at this
 | a::l,b::m,c::n,ht,h,h'=>by
  obtain⟨h1,h2⟩:=Le.cons_iff.1 h
  obtain⟨h3,h4⟩:=Le.cons_iff.1 h'
  obtain⟨k1,k2⟩:=KJ (ht c (by simp)) h1 h3
  obtain⟨j,k3,k4⟩:=xm (fun t h=>ht t (by simp[h])) h2 h4
  refine⟨dd a b::j,?_,Le.cons_iff.2 ⟨k2,k4⟩⟩
  simp only[bw]
  rw[if_neg k1,k3]
  rfl
theorem Mv {a b j:List Int} (h:bw a b=some j):Le a j/\Le b j:=by
 have hl:=lS h
 exact⟨⟨by omega,fun i hi=>(pL h (by omega)).1⟩,⟨by omega,fun i hi=>(pL h (by omega)).2⟩⟩
structure th (fs:List au) (f:au) (M:Nat->Option (List Int)):Prop where
 m0:M 0=some []
 ok:∀k s,M k=some s->k<f.C.length/\Ty s/\∃v,jA fs f (bu f.C k) s=some v/\∀q∈dg (bu f.C k) k,∃s',M q.toNat=some s'/\Le v s'
structure tk (fs:List au) (f:au) (s:eq):Prop where
 m0:s.met.getD 0 false=true
 a0:s.at_.getD 0 []= []
 ty:∀i,s.met.getD i false=true->Ty (s.at_.getD i [])
 le:∀M,th fs f M->∀i,s.met.getD i false=true->∃t,M i=some t/\Le (s.at_.getD i []) t
structure Up (s s':eq):Prop where
 up:∀i,s.met.getD i false=true->s'.met.getD i false=true/\Le (s.at_.getD i []) (s'.at_.getD i [])
 old:∀i,s'.met.getD i false=true->(s.met.getD i false=true/\s'.at_.getD i []=s.at_.getD i [])\/(i:Int)∈s'.todo
 td:∀x∈s.todo,x∈s'.todo
theorem Up.refl (s:eq):Up s s:=⟨fun _ h=>⟨h,.refl _⟩,fun _ h=> .inl ⟨h,rfl⟩,fun _ h=>h⟩
theorem Up.trans {a b c:eq} (h1:Up a b) (h2:Up b c):Up a c:=
 ⟨fun i h=>by
  obtain⟨k1,k2⟩:=h1.up i h
  obtain⟨k3,k4⟩:=h2.up i k1
  exact⟨k3,k2.trans k4⟩,fun i h=>by
  rcases h2.old i h with ⟨k1,k2⟩ | k
  ·rcases h1.old i k1 with ⟨k3,k4⟩ | k3
   ·exact .inl ⟨k3,k2.trans k4⟩
   exact .inr (h2.td _ k3)
  exact .inr k,fun x h=>h2.td x (h1.td x h)⟩
theorem G9 {n:Nat} {s:eq} (h:gU n s) {i:Nat} (hm:s.met.getD i false=true):i<n:=by
 rcases jl i n with h' | h'
 ·exact h'
 rw[ak,aU (by rw[h.ml];exact h')] at hm
 cases hm
theorem KD {fs:List au} {f:au} {s:eq} (hF:gU f.C.length s) (hI:tk fs f s) {k:Nat} (hk:k<=f.C.length) {l:List Int} (hl:Ty l) (hle:∀M,th fs f M->∃t,M k=some t/\Le l t) :
  ((dk f.C.length s k l).1=true->tk fs f (dk f.C.length s k l).2/\Up s (dk f.C.length s k l).2/\(dk f.C.length s k l).2.met.getD k false=true/\Le l ((dk f.C.length s k l).2.at_.getD k []))/\
  ((dk f.C.length s k l).1=false->∀M,¬th fs f M):=by
 have set_:k<f.C.length->∀j:List Int,Ty j->(k=0->j= [])->(s.met.getD k false=true->Le (s.at_.getD k []) j)->Le l j->(∀M,th fs f M->∃t,M k=some t/\Le j t)->
   tk fs f ⟨s.at_.set k j,s.met.set k true,s.todo++ [(k:Int)]⟩/\Up s ⟨s.at_.set k j,s.met.set k true,s.todo++ [(k:Int)]⟩/\(s.met.set k true).getD k false=true/\Le l ((s.at_.set k j).getD k []):=by
  intro hkn j hj h0 hup hlj hlm
  have hA:∀i,(s.at_.set k j).getD i []=if i=k then j else s.at_.getD i []:=fun i=>gW (by rw[hF.al];exact hkn)
  have hM:∀i,(s.met.set k true).getD i false=if i=k then true else s.met.getD i false:=fun i=>gW (by rw[hF.ml];exact hkn)
  refine⟨⟨?_,?_,fun i hi=>?_,fun M hMs i hi=>?_⟩,⟨fun i hi=>?_,fun i hi=>?_,fun x hx=>fK _ hx⟩,?_,?_⟩
  ·show (s.met.set k true).getD 0 false=true
   rw[hM]
   split
   ·rfl
   exact hI.m0
  ·show (s.at_.set k j).getD 0 []= []
   rw[hA]
   split
   ·rename_i e;exact h0 e.symm
   exact hI.a0
  ·show Ty ((s.at_.set k j).getD i [])
   have hi:(s.met.set k true).getD i false=true:=hi
   rw[hA]
   rw[hM] at hi
   split
   ·exact hj
   rename_i e;rw[if_neg e] at hi;exact hI.ty i hi
  ·show∃t,M i=some t/\Le ((s.at_.set k j).getD i []) t
   have hi:(s.met.set k true).getD i false=true:=hi
   rw[hA]
   rw[hM] at hi
   split
   ·rename_i e;subst e;exact hlm M hMs
   rename_i e;rw[if_neg e] at hi;exact hI.le M hMs i hi
  ·show (s.met.set k true).getD i false=true/\Le (s.at_.getD i []) ((s.at_.set k j).getD i [])
   rw[hA,hM]
   split
   ·rename_i e;subst e;exact⟨rfl,hup hi⟩
   exact⟨hi,.refl _⟩
  ·have hi:(s.met.set k true).getD i false=true:=hi
   rw[hM] at hi
   by_cases e:i=k
   ·subst e;right;exact gC _ (by simp)
   rw[if_neg e] at hi
   left
   refine⟨hi,?_⟩
   show (s.at_.set k j).getD i []=_
   rw[hA,if_neg e]
  ·rw[hM,if_pos rfl]
  rw[hA,if_pos rfl];exact hlj
 unfold dk
 split
 ·rename_i hkn
  refine⟨fun h=>(by cases h),fun _ M hMs=>?_⟩
  obtain⟨t,h1,_⟩:=hle M hMs
  have:=(hMs.ok k t h1).1
  omega
 rename_i hkn
 split
 ·rename_i hm
  split
  ·rename_i hj
   refine⟨fun h=>(by cases h),fun _ M hMs=>?_⟩
   obtain⟨t,h1,h2⟩:=hle M hMs
   obtain⟨t',h3,h4⟩:=hI.le M hMs k hm
   rw[h1] at h3
   cases h3
   obtain⟨j,h5,_⟩:=xm (hMs.ok k t h1).2.1 h4 h2
   rw[hj] at h5
   cases h5
  rename_i j hj
  have hu:=Mv hj
  split
  ·rename_i he
   refine⟨fun _=>⟨hI,.refl _,hm,by rw[<-he];exact hu.2⟩,fun h=>(by cases h)⟩
  rename_i he
  refine⟨fun _=>set_ (by omega) j (Bs hj (hI.ty k hm) hl) (fun e=>?_) (fun _=>hu.1) hu.2 (fun M hMs=>?_),fun h=>(by cases h)⟩
  ·subst e
   rw[hI.a0] at hj
   have:=(lS hj).2
   exact aT this
  obtain⟨t,h1,h2⟩:=hle M hMs
  obtain⟨t',h3,h4⟩:=hI.le M hMs k hm
  rw[h1] at h3
  cases h3
  obtain⟨j',h5,h6⟩:=xm (hMs.ok k t h1).2.1 h4 h2
  rw[hj] at h5
  cases h5
  exact⟨t,h1,h6⟩
 rename_i hm
 refine⟨fun _=>set_ (by omega) l hl (fun e=>?_) (fun h=>absurd h hm) (.refl _) hle,fun h=>(by cases h)⟩
 subst e
 exact absurd hI.m0 hm
theorem yu {fs:List au} {f:au} :∀{L:List Int} {s:eq} {l:List Int},gU f.C.length s->tk fs f s->(∀q∈L,0<=q/\q<=f.C.length)->l.length<=8->s.todo.length+L.length<5000->Ty l->(∀M,th fs f M->∀q∈L,∃t,M q.toNat=some t/\Le l t)->
  (∀s',dx f.C.length s L l=some s'->tk fs f s'/\Up s s'/\∀q∈L,s'.met.getD q.toNat false=true/\Le l (s'.at_.getD q.toNat []))/\(dx f.C.length s L l=none->∀M,¬th fs f M)
 | [],s,l,hF,hI,_,_,_,_,_=>by
  refine⟨fun s' e=>?_,fun e=>by simp[dx] at e⟩
  simp only[dx,aV] at e
  subst e
  exact⟨hI,.refl _,fun q h=>by cases h⟩
 | a::L,s,l,hF,hI,hq,h8,ht,hl,hle=>by
  have ha:=hq a (by simp)
  rw[aS] at ht
  obtain⟨k1,k2⟩:=KD hF hI (k:=a.toNat) (by omega) hl (fun M hM=>hle M hM a (by simp))
  obtain⟨f1,f2⟩:=nk hF (k:=a.toNat) (by omega) h8 (by omega)
  simp only[dx]
  cases hb:(dk f.C.length s a.toNat l).1
  ·simp only[mK,if_false]
   exact⟨fun s' e=>(by cases e),fun _=>k2 hb⟩
  simp only[if_true]
  obtain⟨i1,i2,i3,i4⟩:=k1 hb
  obtain⟨j1,j2⟩:=yu (L:=L) (l:=l) f1 i1 (fun q h=>hq q (by simp[h])) h8 (by omega) hl (fun M hM q h=>hle M hM q (by simp[h]))
  refine⟨fun s' e=>?_,j2⟩
  obtain⟨m1,m2,m3⟩:=j1 s' e
  refine⟨m1,i2.trans m2,fun q h=>?_⟩
  rcases cZ.1 h with rfl | h
  ·obtain⟨n1,n2⟩:=m2.up _ i3
   exact⟨n1,i4.trans n2⟩
  exact m3 q h
def Dn (fs:List au) (f:au) (s:eq) (i:Nat):Prop:= ∃v,jA fs f (bu f.C i) (s.at_.getD i [])=some v/\∀q∈dg (bu f.C i) i,s.met.getD q.toNat false=true/\Le v (s.at_.getD q.toNat [])
def Wk (fs:List au) (f:au) (s:eq):Prop:= ∀i:Nat,s.met.getD i false=true->(i:Int)∈s.todo\/Dn fs f s i
theorem Dn.up {fs:List au} {f:au} {s s':eq} {i:Nat} (h:Dn fs f s i) (hu:Up s s') (e:s'.at_.getD i []=s.at_.getD i []):Dn fs f s' i:=by
 obtain⟨v,h1,h2⟩:=h
 refine⟨v,by rw[e];exact h1,fun q hq=>?_⟩
 obtain⟨k1,k2⟩:=h2 q hq
 obtain⟨k3,k4⟩:=hu.up _ k1
 exact⟨k3,k2.trans k4⟩
theorem zD {fs:List au} {f:au} {o:bd} {s v:List Int} (h:jA fs f o s=some v):v.length<=8:=by
 obtain⟨T,V,_,_,h3,_,rfl⟩:=kj.1 h
 exact h3
def Tm (s:eq):Prop:= ∀x∈s.todo,s.met.getD x.toNat false=true
theorem NH {n:Nat} {s:eq} (hF:gU n s) (h:Tm s) {k:Nat} (hk:k<=n) (l:List Int):Tm (dk n s k l).2:=by
 have set_:k≠n->∀j:List Int,Tm ⟨s.at_.set k j,s.met.set k true,s.todo++ [(k:Int)]⟩:=fun hne j x hx=>by
  show (s.met.set k true).getD x.toNat false=true
  rw[gW (by rw[hF.ml];omega)]
  split
  ·rfl
  rename_i e
  rcases cD.1 hx with hx | hx
  ·exact h x hx
  rw[bK.1 hx] at e;exact absurd (bi k) e
 unfold dk
 split
 ·exact h
 rename_i hne
 split
 ·split
  ·exact h
  split
  ·exact h
  exact set_ hne _
 exact set_ hne _
theorem BW {n:Nat} :∀{L:List Int} {s s':eq} {l:List Int},gU n s->Tm s->(∀q∈L,0<=q/\q<=n)->l.length<=8->s.todo.length+L.length<5000->dx n s L l=some s'->Tm s'
 | [],s,s',l,_,h,_,_,_,e=>by
  simp only[dx,aV] at e
  subst e
  exact h
 | a::L,s,s',l,hF,h,hq,h8,ht,e=>by
  simp only[dx] at e
  split at e
  ·have ha:=hq a (by simp)
   rw[aS] at ht
   obtain⟨f1,f2⟩:=nk hF (k:=a.toNat) (by omega) h8 (by omega)
   exact BW f1 (NH hF h (by omega) l) (fun q h=>hq q (by simp[h])) h8 (by omega) e
  cases e
theorem I9 {fs:List au} {f:au} (hok:pS fs f) (hty:Cr fs f) {s:eq} (hF:gU f.C.length s) (hI:tk fs f s) (hW:Wk fs f s) (htm:Tm s) (ht:0<s.todo.length) (ht2:s.todo.length<=4000) :
  (∀s',lp fs f s=some s'->tk fs f s'/\Wk fs f s'/\Tm s')/\(lp fs f s=none->∀M,¬th fs f M):=by
 obtain⟨n,hn⟩:∃n,s.todo.length=n+1:=⟨s.todo.length - 1,by omega⟩
 have hget:s.todo[n]? =some (s.todo.getD n 0):=by rw[ak,an (by omega)];rfl
 have hmem:s.todo.getD n 0∈s.todo:=eJ hget
 have htd:=hF.td _ hmem
 have hmk:=htm _ hmem
 obtain⟨k,hk⟩:∃k:Nat,s.todo.getD n 0=(k:Int):=⟨(s.todo.getD n 0).toNat,by omega⟩
 rw[hk,bi] at hmk
 have hkl:k<f.C.length:=by omega
 have e:lp fs f s=match jA fs f (bu f.C k) (s.at_.getD k []) with
   | none=>none
   | some v=>dx f.C.length ⟨s.at_,s.met,s.todo.take n⟩ (dg (bu f.C k) k) v:=by
  unfold lp jA
  dsimp only
  rw[show s.todo.length - 1=n from by omega,hk,bi]
  split <;> rfl
 have hF0:gU f.C.length ⟨s.at_,s.met,s.todo.take n⟩:=⟨hF.al,hF.ml,by show (s.todo.take n).length<=_;rw[ax];omega,hF.st,fun x hx=>hF.td x (kR hx)⟩
 have hI0:tk fs f ⟨s.at_,s.met,s.todo.take n⟩:=⟨hI.m0,hI.a0,hI.ty,hI.le⟩
 have hT0:Tm ⟨s.at_,s.met,s.todo.take n⟩:=fun x hx=>htm x (kR hx)
 have hl2:=rF (bu f.C k) k
 have hlt:(s.todo.take n).length+(dg (bu f.C k) k).length<5000:=by rw[ax];omega
 rw[e]
 cases hv:jA fs f (bu f.C k) (s.at_.getD k []) with
 | none=>
  refine⟨fun s' h=>(by cases h),fun _ M hM=>?_⟩
  obtain⟨t,h1,h2⟩:=hI.le M hM k hmk
  obtain⟨_,_,v,h3,_⟩:=hM.ok k t h1
  obtain⟨u,h4,_⟩:=xI h2 h3
  rw[hv] at h4
  cases h4
 | some v=>
  obtain⟨c1,c2⟩:=yu hF0 hI0 (hok.to_ k hkl) (zD hv) hlt (Lo hty (hok.op k hkl) (hI.ty k hmk) hv) (fun M hM q hq=>by
   obtain⟨t,h1,h2⟩:=hI.le M hM k hmk
   obtain⟨_,_,v',h3,h4⟩:=hM.ok k t h1
   obtain⟨u,h5,h6⟩:=xI h2 h3
   rw[hv] at h5
   cases h5
   obtain⟨s',h7,h8⟩:=h4 q hq
   exact⟨s',h7,h6.trans h8⟩)
  refine⟨fun s' h=>?_,c2⟩
  obtain⟨i1,i2,i3⟩:=c1 s' h
  refine⟨i1,fun i hi=>?_,BW hF0 hT0 (hok.to_ k hkl) (zD hv) hlt h⟩
  rcases i2.old i hi with ⟨h1,h2⟩ | h1
  ·rcases hW i h1 with h3 | h3
   ·by_cases hx:(i:Int)∈s.todo.take n
    ·exact .inl (i2.td _ hx)
    have:(i:Int)=k:=by
     rw[<-mI n s.todo] at h3
     rcases cD.1 h3 with h3 | h3
     ·exact absurd h3 hx
     have:s.todo.drop n= [s.todo.getD n 0]:=by
      rw[nq (by omega),List.drop_of_length_le (by omega)]
      rw[ak,an (by omega)]
      rfl
     rw[this,bK,hk] at h3
     exact h3
    have:i=k:=by omega
    subst this
    right
    have h2:s'.at_.getD i []=s.at_.getD i []:=h2
    exact⟨v,by rw[h2];exact hv,i3⟩
   exact .inr (Dn.up (s:=⟨s.at_,s.met,s.todo.take n⟩) h3 i2 h2)
  exact .inl h1
theorem Bm {fs:List au} {f:au} (hok:pS fs f) (hty:Cr fs f):∀(k:Nat) {s:eq},gU f.C.length s->tk fs f s->Wk fs f s->Tm s->mu f.C.length s<=4000->mu f.C.length s<k->
  (∀s',kK fs f k s=some s'->gU f.C.length s'/\tk fs f s'/\(∀i:Nat,s'.met.getD i false=true->Dn fs f s' i))/\(kK fs f k s=none->∀M,¬th fs f M)
 | 0,_,_,_,_,_,_,h=>absurd h (lH _)
 | k+1,s,hF,hI,hW,hT,h4,hk=>by
  simp only[kK]
  by_cases h0:s.todo.length=0
  ·simp only[h0,if_true]
   refine⟨fun s' e=>?_,fun e=>(by cases e)⟩
   simp only[aV] at e
   subst e
   refine⟨hF,hI,fun i hi=>?_⟩
   rcases hW i hi with h | h
   ·rw[aT h0] at h;cases h
   exact h
  simp only[h0,if_false]
  have htl:s.todo.length<=4000:=by unfold mu at h4;omega
  obtain⟨c1,c2⟩:=I9 hok hty hF hI hW hT (by omega) htl
  cases e:lp fs f s with
  | none=>exact⟨fun s' h=>(by cases h),fun _=>c2 e⟩
  | some s1=>
   obtain⟨i1,i2,i3⟩:=c1 s1 e
   obtain⟨j1,j2⟩:=uK hok hF (by omega) htl e
   exact Bm hok hty k j1 i1 i2 i3 (by omega) (by omega)
def MO (s:eq) (i:Nat):Option (List Int):=if s.met.getD i false=true then some (s.at_.getD i []) else none
theorem nn {s:eq} {i:Nat} {t:List Int} :MO s i=some t↔s.met.getD i false=true/\s.at_.getD i []=t:=by
 unfold MO
 split
 ·rename_i h
  exact⟨fun e=>⟨h,dM e⟩,fun e=>by rw[e.2]⟩
 rename_i h
 exact⟨fun e=>(by cases e),fun e=>absurd e.1 h⟩
theorem E8 {fs:List au} {f:au} (hok:pS fs f) (hty:Cr fs f) (hn:0<f.C.length) :
  (∀s,pO fs f=some s->gU f.C.length s/\th fs f (MO s)/\∀M,th fs f M->∀i t,MO s i=some t->∃u,M i=some u/\Le t u)/\(pO fs f=none->∀M,¬th fs f M):=by
 have hst:gF f.C.length=⟨(List.replicate f.C.length ([]:List Int)).set 0 [],(List.replicate f.C.length false).set 0 true,[0]⟩:=by
  unfold gF dk fM
  rw[if_neg (by omega),if_neg (by rw[oF];decide)]
  rfl
 have hA:∀i,(gF f.C.length).at_.getD i []= []:=fun i=>by
  rw[hst]
  show ((List.replicate f.C.length ([]:List Int)).set 0 []).getD i []= []
  rw[gW (by simpa using hn)]
  split
  ·rfl
  exact oF _ _ _
 have hM:∀i,(gF f.C.length).met.getD i false=if i=0 then true else false:=fun i=>by
  rw[hst]
  show ((List.replicate f.C.length false).set 0 true).getD i false=_
  rw[gW (by simpa using hn)]
  split
  ·rfl
  exact oF _ _ _
 have z:∀i,(gF f.C.length).met.getD i false=true->i=0:=fun i h=>by
  rw[hM] at h
  by_cases e:i=0
  ·exact e
  rw[if_neg e] at h;cases h
 have hI:tk fs f (gF f.C.length):=⟨by rw[hM];rfl,hA 0,fun i _=>by rw[hA];exact fun _ h=>(by cases h),fun M h i hi=>by
  have:=z i hi
  subst this
  exact⟨[],h.m0,by rw[hA];exact .refl _⟩⟩
 have hW:Wk fs f (gF f.C.length):=fun i hi=>by
  have:=z i hi
  subst this
  left
  rw[hst]
  simp
 have hT:Tm (gF f.C.length):=fun x hx=>by
  rw[hst] at hx
  have:x=0:=by simpa using hx
  subst this
  rw[hM];rfl
 obtain⟨o1,o2⟩:=xL hn
 have h40:=hok.n40
 obtain⟨c1,c2⟩:=Bm hok hty (mu f.C.length (gF f.C.length)+1) o1 hI hW hT (by omega) (by omega)
 refine⟨fun s e=>?_,c2⟩
 obtain⟨k1,k2,k3⟩:=c1 s e
 refine⟨k1,⟨nn.2 ⟨k2.m0,k2.a0⟩,fun i t h=>?_⟩,fun M hMs i t h=>?_⟩
 ·obtain⟨h1,h2⟩:=nn.1 h
  subst h2
  refine⟨G9 k1 h1,k2.ty i h1,?_⟩
  obtain⟨v,h3,h4⟩:=k3 i h1
  refine⟨v,h3,fun q hq=>?_⟩
  obtain⟨h5,h6⟩:=h4 q hq
  exact⟨_,nn.2 ⟨h5,rfl⟩,h6⟩
 obtain⟨h1,h2⟩:=nn.1 h
 subst h2
 exact k2.le M hMs i h1
theorem Qf {fs:List au} (h:dy fs=0) {k:Nat} (hk:k<fs.length):Cr fs (av fs k):=by
 obtain⟨_,_,hall⟩:=ip h
 obtain⟨_,_,_,h4,_⟩:=kr (hall _ (iZ hk))
 refine⟨fun t ht=>?_,fun j hj=>?_⟩
 ·have:=h4 t ht;omega
 obtain⟨_,_,g3,_⟩:=kr (hall _ (iZ hj))
 exact g3
end
