/- Lemmas of one proof. -/
import Derived.Test.YthfkmcbblnbfaaaGreatDoorM0Q
import Derived.Test.YthfkmcbblnbfaaaGreatDoorM29Q
import Derived.Test.YthfkmcbblnbfaaaGreatDoorM30Q

namespace Go.Proofs.YthfkmcbblnbfaaaGreatDoor
set_option maxRecDepth 100000
set_option maxHeartbeats 16000000
open Go.RowKit
section
def dB (n:Nat):ew->List Int->List Int->Option ew
 | s,[],_=>some s
 | s,to_::r,l=>if (dq n s to_.toNat l).1=true then dB n (dq n s to_.toNat l).2 r l else none
def ls (fs:List au) (f:au) (s:ew):Option ew:=
 let k:=(s.todo.getD (s.todo.length - 1) 0).toNat
 let t:=mj fs f (bt f.C k) (s.at_.getD k [],false)
 if t.2=true then none else dB f.C.length ⟨s.at_,s.met,s.todo.take (s.todo.length - 1)⟩ (dm (bt f.C k) k) t.1
structure ia (n:Nat) (s:ew):Prop where
 al:s.at_.length=n
 ml:s.met.length=n
 tl:s.todo.length<=5000
 st:∀i,(s.at_.getD i []).length<=8
 td:∀x∈s.todo,0<=x/\x<n
theorem na {n:Nat} {s:ew} (h:ia n s) {k:Nat} (hk:k<=n) {l:List Int} (hl:l.length<=8) (ht:s.todo.length<5000):ia n (dq n s k l).2/\(dq n s k l).2.todo.length<=s.todo.length+1:=by
 have key:k≠n->∀j:List Int,j.length<=8->ia n ⟨s.at_.set k j,s.met.set k true,s.todo++ [(k:Int)]⟩/\(s.todo++ [(k:Int)]).length<=s.todo.length+1:=fun hne j hj=>by
  refine⟨⟨by simp[h.al],by simp[h.ml],by simp only[aq,aL];omega,fun i=>?_,fun x hx=>?_⟩,by simp⟩
  ·show ((s.at_.set k j).getD i []).length<=8
   rw[ig (by rw[h.al];omega)]
   split
   ·exact hj
   exact h.st i
  rcases cG.1 hx with hx | hx
  ·exact h.td x hx
  rw[bN.1 hx];omega
 unfold dq
 split
 ·exact⟨h,Nat.le_succ _⟩
 rename_i hne
 split
 ·split
  ·exact⟨h,Nat.le_succ _⟩
  rename_i j hj
  split
  ·exact⟨h,Nat.le_succ _⟩
  exact key hne j (by have:=(lU hj).2;have:=h.st k;omega)
 exact key hne l hl
section
variable {B:Nat} {w0:World} {H:List aC}
abbrev nV (g1 g5 gs gx:Nat) (As:Option Addr) (cs:Nat) (l:List Int):List aC:=
 [am g1 [.pointer (some ⟨gx,0,none⟩)] 221,am g5 [.pointer (some ⟨gs,0,none⟩)] 271,am gs [.slice As l.length cs,.bool false] 273,an (.slice As l.length cs) l]
theorem FU (C:FC) (s:ew) (hd:List jB) (L:List (Value×List Int)) (At:Option Addr) (ct:Nat) (g1 g5 gs:Nat) (As:Option Addr) (cs:Nat) (k:Nat) (hk:k<=C.f.C.length) (hn:C.f.C.length<=40) (l:List Int) (hl:l.length<=8)
  (hR:kh C.f.C.length hd L s.at_) (hF:ia C.f.C.length s) (w:World) (hw:Cw B w0 (nV g1 g5 gs C.gx As cs l++(iO C s hd L At ct++H)) w) :
  Calls Tryz.prog 224 #[.int .i64 (k:Int),.pointer (some ⟨g1,0,none⟩),.pointer (some ⟨g5,0,none⟩)] w fun e w'=> ∃g:List jB×List (Value×List Int)×Option Addr×Nat,kh C.f.C.length g.1 g.2.1 (dq C.f.C.length s k l).2.at_/\
   e= .returned (.bool (!(dq C.f.C.length s k l).1))/\Cw B w0 (nV g1 g5 gs C.gx As cs l++(iO C (dq C.f.C.length s k l).2 g.1 g.2.1 g.2.2.1 g.2.2.2++H)) w':=by
 refine aY Tryz.func224 rfl Tryz.ntmps224 rfl hw ?_
 dsimp only[nV,dy,jk]
 refine aj ?_
 refine dP [0,3,6,9,12,15,20,23,24,27] [] rfl [am g1 [.pointer (some ⟨C.gx,0,none⟩)] 221,am g5 [.pointer (some ⟨gs,0,none⟩)] 271,am gs [.slice As l.length cs,.bool false] 273]<|aj ?_
 refine pE rfl (fI rfl rfl rfl jV (fun w hw=>wB As cs l w (SF.at_ (SF.own rfl fc) hw) (by omega))) (fun⟨A4,c4⟩ _=>?_)
 try dsimp only
 refine Gf (fun w h=>AN (v:= .slice A4 l.length c4) (xs:=l) (L:=L) (Hr (h.msub (.s fc (.s fc .r))))) ?_
 refine vN rfl rfl Tryz.call169 (fun w hw=>BQ C s hd ((.slice A4 l.length c4,l)::L) At ct k hk hn l A4 c4 .new (hR.cons _) hF.ml (by have:=hF.tl;omega) (fun i=>by have:=hF.st i;omega) w (hw.msub ms)) (fun⟨hd2,L2,A5,c5⟩ hR2=>?_)
 refine aJ ?_
 intro w hw
 exact⟨(hd2,L2,A5,c5),hR2,rfl,hw.msub ms⟩
structure pS (fs:List au) (f:au):Prop where
 op:∀i,i<f.C.length->Kz fs f (bt f.C i)
 to_:∀i,i<f.C.length->∀q∈dm (bt f.C i) i,0<=q/\q<=f.C.length
 n40:f.C.length<=40
theorem ui {n:Nat} :∀{s s':ew} {L:List Int} {k:Nat} {l:List Int},k<L.length->dB n s (L.take k) l=some s'->dB n s (L.take (k+1)) l=if (dq n s' (L.getD k 0).toNat l).1=true then some (dq n s' (L.getD k 0).toNat l).2 else none
 | s,s',[],k,l,hk,_=>by simp at hk
 | s,s',a::L,0,l,_,h=>by
  simp only[List.take_zero,dB,aU] at h
  subst h
  simp[dB]
 | s,s',a::L,k+1,l,hk,h=>by
  simp only[fD,dB] at h⊢
  split at h
  ·rename_i h1
   rw[if_pos h1,ui (by simpa using hk) h]
   simp
  cases h
theorem uj {n:Nat} :∀{s:ew} {L:List Int} {k:Nat} {l:List Int},dB n s (L.take k) l=none->dB n s L l=none
 | s,[],k,l,h=>by simpa using h
 | s,a::L,0,l,h=>by simp[dB] at h
 | s,a::L,k+1,l,h=>by
  simp only[fD,dB] at h⊢
  split at h
  ·rename_i h1;rw[if_pos h1];exact uj h
  rename_i h1;rw[if_neg h1]
theorem yt {n:Nat} :∀{s s':ew} {L:List Int} {l:List Int},ia n s->(∀q∈L,0<=q/\q<=n)->l.length<=8->s.todo.length+L.length<5000->dB n s L l=some s'->ia n s'/\s'.todo.length<=s.todo.length+L.length
 | s,s',[],l,h,_,_,_,e=>by
  simp only[dB,aU] at e
  subst e
  exact⟨h,aA _⟩
 | s,s',a::L,l,h,hq,hl,ht,e=>by
  simp only[dB] at e
  split at e
  ·have ha:=hq a (by simp)
   rw[aR] at ht
   obtain⟨h1,h2⟩:=na h (k:=a.toNat) (by omega) hl (by omega)
   obtain⟨h3,h4⟩:=yt h1 (fun q hq'=>hq q (by simp[hq'])) hl (by omega) e
   exact⟨h3,by rw[aR];omega⟩
  cases e
theorem zA {fs:List au} {f:au} {o:bd} {s l':nR} (e:mj fs f o s=l') (h:l'.2=false):l'.1.length<=8:=by
 subst e
 unfold mj at h⊢
 simp only[Bool.or_eq_false_iff,decide_eq_false_iff_not] at h
 show (gW fs f o s).1.length<=8
 omega
theorem rI (o:bd) (pc:Int):(dm o pc).length<=2:=by
 unfold dm
 repeat (first | split | simp)
theorem IW (C:FC) (s:ew) (hd:List jB) (L:List (Value×List Int)) (At:Option Addr) (ct:Nat) (r:Option ew) (e:ls C.fs C.f s=r) (hok:pS C.fs C.f) (hp:bE w0 B (.slice C.Ap C.fs.length C.cp) C.fs) (hlo:bE w0 B (.slice C.A1 C.f.L.length C.c1) C.f.L) (hco:bE w0 B (.slice C.A2 C.f.C.length C.c2) C.f.C)
  (hR:kh C.f.C.length hd L s.at_) (hF:ia C.f.C.length s) (ht:0<s.todo.length) (ht2:s.todo.length<=4000) (w:World) (hw:Cw B w0 (iO C s hd L At ct++H) w) :
  Calls Tryz.prog 170 #[.pointer (some ⟨C.gx,0,none⟩)] w fun e w'=> ∃g:List jB×List (Value×List Int)×Option Addr×Nat,(match r with | some s'=>kh C.f.C.length g.1 g.2.1 s'.at_ | none=>True)/\
   e= .returned (.bool r.isSome)/\Cw B w0 ((match r with | some s'=>iO C s' g.1 g.2.1 g.2.2.1 g.2.2.2 | none=> [])++H) w':=by
 obtain⟨gx,fs,f,Ap,cp,A1,c1,A2,c2,Aa,ca,Am,cm⟩:=C
 obtain⟨at_,met,todo⟩:=s
 dsimp only[iO,dy,jk] at *
 obtain⟨n,hn⟩:∃n,todo.length=n+1:=⟨todo.length - 1,by omega⟩
 have hmem:todo.getD n 0∈todo:=by rw[ak,ap (by omega)];exact cR _
 have htd:=hF.td _ hmem
 obtain⟨k,hk⟩:∃k:Nat,todo.getD n 0=(k:Int):=⟨(todo.getD n 0).toNat,by have:=htd.1;omega⟩
 have hkl:k<f.C.length:=by have:=htd.2;omega
 obtain⟨T,b,eT⟩:∃T b,mj fs f (bt f.C k) (at_.getD k [],false)=(T,b):=⟨_,_,rfl⟩
 have e:(if b=true then none else dB f.C.length ⟨at_,met,todo.take n⟩ (dm (bt f.C k) k) T)=r:=by
  unfold ls at e
  dsimp only at e
  rw[show todo.length - 1=n from by omega,hk,bj,eT] at e
  exact e
 have htl:(todo.take n).length=n:=by rw[ax];omega
 have i1:=AV hco hkl
 refine aY Tryz.func170 rfl Tryz.ntmps170 rfl hw<|aj ?_
 intro g1 _
 refine aD ?_
 refine bK<|cu<|bG<|dW (fp fc Tryz.isAgg221 rfl rfl (by rfl)) rfl rfl ?_
 refine aD ?_
 refine aD ?_
 refine dW (fp fc vj rfl rfl (by rfl)) rfl rfl ?_
 refine dW (kt aV rfl rfl) rfl rfl<|dW (AF rfl rfl rfl (by omega)) rfl rfl<|aD ?_
 refine bK<|cT (t:=3) (v':= .int .i64 (n:Int)) rfl (by congr 1;omega)<|aj ?_
 refine dA (_) rfl ((SF.own rfl fc)) ?_
 refine oN rfl ((SF.own rfl fc)) ?_
 refine aD ?_
 refine bK<|gI (fun w h=>mS h (xs:=todo) fc) fun hcap=>?_
 refine cT (t:=4) (v':= .int .i64 (k:Int)) rfl (by rw[hk])<|aj ?_
 refine bU [0,3,6,9,12,15,18,21,24,29] [9] rfl<|aj ?_
 refine tE rfl (pz (k:=n) aV cJ (by omega) rfl rfl rfl) ?_
 refine aD ?_
 refine aD ?_
 refine ef rfl (eB _ fc lb rfl rfl rfl rfl rfl (by rfl) rfl (by rfl)) rfl rfl (.inl rfl) (fun _ _=>?_) gi
 refine Gg<|dJ (fun w h=>tq (k:=n) (xs:=todo) (A:=At) (m:=todo.length) (c:=ct) (by omega) (h.msub (.s fc .r))) ?_
 have hin:=hR.el k hkl
 have h8:(at_.getD k []).length<=8:=hF.st k
 refine aj ?_
 refine dA (_) rfl ((SF.own hR.hl fc)) ?_
 refine eM rfl (SF.hdr (SF.own hR.hl fc) hkl) ?_
 refine qa (fun w h=>hin.form h fc) ?_
 rintro⟨A3,c3,hv⟩
 rw[hv] at hin
 refine bW (t:=34) (v':= .slice A3 (at_.getD k []).length c3) rfl (hv) ?_
 refine oE (fI rfl rfl rfl jV (fun w hw=>wB A3 c3 (at_.getD k []) w (hin.sl hw fc) (by omega))) (fun⟨A4,c4⟩ _=>?_)
 refine aJ ?_
 refine fun g2 _=>aj ?_
 intro g3 _
 refine eV (eB _ fc Tryz.sizeOf271 rfl rfl rfl rfl rfl (by rfl) rfl (by rfl)) rfl rfl (fun _ _=>?_)
 refine bK<|aj ?_
 refine dP [0,3,6,9,12,15,18,21,24,27,30,33,36,39,42,45,48,53] [] rfl [am g1 [.pointer (some ⟨gx,0,none⟩)] 221,am gx [.slice Ap fs.length cp,.int .i64 f.params,.slice A1 f.L.length c1,.int .i64 f.result,.slice A2 f.C.length c2,.slice Aa f.C.length ca,.slice Am f.C.length cm,.slice At n ct] 224,am g3 [.pointer (some ⟨g2,0,none⟩)] 271]<|aj ?_
 refine tE rfl (bZ eQ jU (.ro hco) (by omega) rfl rfl rfl) ?_
 refine tE rfl (eW (cs:= [_,_]) (SF.op (.ro hco) (by omega)) rfl rfl Q4 jU) ?_
 refine vN rfl rfl Tryz.call222 (fun w hw=>K6 g2 fs f (bt f.C k) eT A4 Ap A1 A2 c4 cp c1 c2 (hok.op k hkl) hp hlo (by omega) w (hw.msub (.s fc (.s fc .r)))) (fun⟨A6,c6⟩ _=>?_)
 refine aJ ?_
 refine cB rfl (fun hb=>?_) (fun hb=>?_)
 ·rw[if_pos hb] at e
  subst e
  refine aj ?_
  intro w hw
  exact⟨(hd,L,At,ct),trivial,rfl,hw.msub ms⟩
 have hb:b=false:=hb
 subst hb
 have hT8:=zA eT rfl
 have hT8:T.length<=8:=hT8
 rw[if_neg (by decide)] at e
 obtain⟨LL,hLL⟩:∃LL,dm (bt f.C k) k=LL:=⟨_,rfl⟩
 have hto:=hok.to_ k hkl
 have hl2:=rI (bt f.C k) k
 rw[hLL] at hto hl2 e
 have haft:∀w1,Sl w1 (.slice A2 f.C.length c2) f.C->Calls Tryz.prog 223 #[.slice A2 f.C.length c2,.int .i64 (k:Int)] w1 fun e w'=> ∃g:Option Addr×Nat,True/\e= .returned (.slice g.1 LL.length g.2)/\Cw w1.heap.size w1 [an (.slice g.1 LL.length g.2) LL] w':=fun w1 h=>by
  have:=Id A2 c2 f.C k w1 h hkl
  rw[hLL] at this
  exact this
 refine aj ?_
 refine eL rfl Tryz.call223 (fun w hw=>haft w (hw.ro hco)) (fun⟨A7,c7⟩ _=>?_)
 refine aJ ?_
 obtain⟨C,hC⟩:∃C:FC,C=⟨gx,fs,f,Ap,cp,A1,c1,A2,c2,Aa,ca,Am,cm⟩:=⟨_,rfl⟩
 have hF0:ia f.C.length ⟨at_,met,todo.take n⟩:=⟨hF.al,hF.ml,by show (todo.take n).length<=_;omega,hF.st,fun x hx=>hF.td x (kU hx)⟩
 have hstep:∀(j:Nat) (g:ew×List jB×List (Value×List Int)×Option Addr×Nat),j<LL.length->((dB f.C.length ⟨at_,met,todo.take n⟩ (LL.take j) T=some g.1/\ia f.C.length g.1/\g.1.todo.length<=n+j)/\kh f.C.length g.2.1 g.2.2.1 g.1.at_)->∀w,Cw B w0 ((fun g:ew×List jB×List (Value×List Int)×Option Addr×Nat=>nV g1 g3 g2 gx A6 c6 T++(iO C g.1 g.2.1 g.2.2.1 g.2.2.2.1 g.2.2.2.2++(an (.slice A7 LL.length c7) LL::H))) g) w->
   Calls Tryz.prog 224 ([Value.int .i64 (LL.getD j 0)]++(#[.pointer (some ⟨g1,0,none⟩),.pointer (some ⟨g3,0,none⟩)]:Array Value).toList).toArray w fun e w'=> ∃p:Bool×ew×List jB×List (Value×List Int)×Option Addr×Nat,
    (if p.1 then dB f.C.length ⟨at_,met,todo.take n⟩ LL T=none else (dB f.C.length ⟨at_,met,todo.take n⟩ (LL.take (j+1)) T=some p.2.1/\ia f.C.length p.2.1/\p.2.1.todo.length<=n+(j+1))/\kh f.C.length p.2.2.1 p.2.2.2.1 p.2.1.at_)/\e= .returned (.bool p.1)/\Cw B w0 ((fun g:ew×List jB×List (Value×List Int)×Option Addr×Nat=>nV g1 g3 g2 gx A6 c6 T++(iO C g.1 g.2.1 g.2.2.1 g.2.2.2.1 g.2.2.2.2++(an (.slice A7 LL.length c7) LL::H))) p.2) w':=by
  rintro j ⟨s',hd',L',A',c'⟩ hj ⟨⟨g1',g2',g3'⟩,g4'⟩ w1 hw1
  have hmem:LL.getD j 0∈LL:=by rw[ak,ap hj];exact cR _
  obtain⟨q,hq⟩:∃q:Nat,LL.getD j 0=(q:Int):=⟨(LL.getD j 0).toNat,by have:=hto _ hmem;omega⟩
  have hqn:q<=f.C.length:=by have:=hto _ hmem;omega
  have hsn:=ui hj g1'
  rw[hq,bj] at hsn
  have hco2:=na g2' hqn hT8 (by have:=hF.tl;dsimp only at *;omega)
  dsimp only at *
  rw[hq]
  refine(FU (H:=an (.slice A7 LL.length c7) LL::H) C s' hd' L' A' c' g1 g3 g2 A6 c6 q (by rw[hC];exact hqn) (by rw[hC];exact hok.n40) T hT8 (by rw[hC];exact g4') (by rw[hC];exact g2') w1 (by rw[hC] at hw1⊢;exact hw1)).mono ?_
  rintro e1 w' ⟨⟨hd2,L2,A5,c5⟩,k1,k2,k3⟩
  rw[hC] at k1 k2
  dsimp only at k1 k2
  refine⟨(!(dq f.C.length s' q T).1,(dq f.C.length s' q T).2,hd2,L2,A5,c5),?_,k2,by rw[hC] at k3⊢;exact k3⟩
  dsimp only
  cases hb1:(dq f.C.length s' q T).1
  ·rw[hb1] at hsn
   rw[if_neg (by decide)] at hsn
   simp only[Bool.not_false,if_true]
   exact uj hsn
  rw[hb1] at hsn
  rw[if_pos rfl] at hsn
  simp only[Bool.not_true,mG,if_false]
  exact⟨⟨hsn,hco2.1,by omega⟩,k1⟩
 refine cz rfl Nz (fun w hw=>BM (B:=B) (w0:=w0) (fun j g=>(dB f.C.length ⟨at_,met,todo.take n⟩ (LL.take j) T=some g.1/\ia f.C.length g.1/\g.1.todo.length<=n+j)/\kh f.C.length g.2.1 g.2.2.1 g.1.at_) (fun _=>dB f.C.length ⟨at_,met,todo.take n⟩ LL T=none) (fun g:ew×List jB×List (Value×List Int)×Option Addr×Nat=>nV g1 g3 g2 gx A6 c6 T++(iO C g.1 g.2.1 g.2.2.1 g.2.2.2.1 g.2.2.2.2++(an (.slice A7 LL.length c7) LL::H))) A7 c7 LL 224 _ Tryz.call224 (fun g=> .own rfl fc) (by omega) hstep (⟨at_,met,todo.take n⟩,hd,L,At,ct) ⟨⟨rfl,hF0,by show (todo.take n).length<=_;omega⟩,hR⟩ w (by dsimp only[iO,nV,dy,jk];rw[hC];dsimp only;rw[htl];exact hw.msub ms)) (fun⟨bb,s',hd',L',A',c'⟩ hg=>?_)
 refine aJ ?_
 intro w hw
 cases bb
 ·have hg:(dB f.C.length ⟨at_,met,todo.take n⟩ (LL.take LL.length) T=some s'/\ia f.C.length s'/\s'.todo.length<=n+LL.length)/\kh f.C.length hd' L' s'.at_:=hg
  rw[aQ,e] at hg
  obtain⟨⟨k1,_,_⟩,k2⟩:=hg
  subst k1
  refine⟨(hd',L',A',c'),k2,rfl,?_⟩
  dsimp only[iO,nV,dy,jk] at hw⊢
  rw[hC] at hw
  exact hw.msub ms
 have hg:dB f.C.length ⟨at_,met,todo.take n⟩ LL T=none:=hg
 rw[e] at hg
 subst hg
 refine⟨(hd,L,At,ct),trivial,rfl,?_⟩
 dsimp only[iO,nV,dy,jk] at hw⊢
 exact hw.msub ms
end
end
section
def nY (l:List Int):Nat:=l.countP fun t=>decide (t=3)
def lw (s:ew) (i:Nat):Nat:=if s.met.getD i false=true then nY (s.at_.getD i []) else 9
def KD (n:Nat) (s:ew):Nat:=((List.range n).map (lw s)).sum
def mu (n:Nat) (s:ew):Nat:=KD n s+s.todo.length
theorem Lg {n k:Nat} {f g:Nat->Nat} (hk:k<n) (h:∀i,i≠k->f i=g i):((List.range n).map g).sum+f k=((List.range n).map f).sum+g k:=by
 induction n with
 | zero=>omega
 | succ n ih=>
  simp only[lK,dr,List.sum_append,ee,il,List.sum_cons,List.sum_nil]
  by_cases e:k=n
  ·subst e
   have:(List.range k).map f=(List.range k).map g:=List.map_congr_left fun i hi=>h i (by have:=la.1 hi;omega)
   rw[this]
   omega
  have:=ih (by omega)
  have:=h n (fun e'=>e e'.symm)
  omega
theorem CZ {a b:Int} (h:dh a b≠0):dh a b=a\/(a=3/\dh a b=2):=by
 unfold dh cn at *
 by_cases h1:a=b
 ·left;simp[h1]
 by_cases h2:a=3/\b=2
 ·right;obtain⟨rfl,rfl⟩:=h2;simp
 by_cases h3:b=3/\a=2
 ·left;obtain⟨rfl,rfl⟩:=h3;simp
 exfalso
 apply h
 have e1:¬(a=3/\b=2):=h2
 have e2:¬(b=3/\a=2):=h3
 have e3:¬b=a:=fun e=>h1 e.symm
 simp[h1,e3,e1,e2]
theorem ue:∀{a l j:List Int},bu a l=some j->nY j<=nY a/\(j≠a->nY j<nY a)
 | [],[],j,h=>by simp[bu] at h;subst h;simp
 | [],_::_,j,h=>by simp[bu] at h
 | _::_,[],j,h=>by simp[bu] at h
 | a::l,b::m,j,h=>by
  simp only[bu] at h
  split at h
  ·cases h
  rename_i h0
  cases e:bu l m with
  | none=>rw[e] at h;cases h
  | some k=>
   rw[e] at h
   simp only[Option.map_some,aU] at h
   subst h
   obtain⟨h1,h2⟩:=ue e
   unfold nY at *
   simp only[List.countP_cons]
   rcases CZ h0 with hb | ⟨rfl,hb⟩
   ·rw[hb]
    refine⟨by omega,fun hne=>?_⟩
    have:k≠l:=fun e=>hne (by rw[e])
    have:=h2 this
    omega
   rw[hb]
   simp only[decide_true,if_true]
   have:(if decide ((2:Int)=3)=true then 1 else 0)=0:=by decide
   rw[this]
   exact⟨by omega,fun _=>by omega⟩
theorem JD (l:List Int):nY l<=l.length:=List.countP_le_length
theorem yv {n:Nat} {s:ew} (h:ia n s) {k:Nat} (hk:k<=n) {l:List Int} (hl:l.length<=8):mu n (dq n s k l).2<=mu n s:=by
 have key:k<n->∀j:List Int,nY j<lw s k->mu n ⟨s.at_.set k j,s.met.set k true,s.todo++ [(k:Int)]⟩<=mu n s:=fun hkn j hj=>by
  have e:=Lg (f:=lw s) (g:=lw ⟨s.at_.set k j,s.met.set k true,s.todo++ [(k:Int)]⟩) hkn fun i hi=>by
   unfold lw
   rw[ig (by rw[h.ml];exact hkn),ig (by rw[h.al];exact hkn),if_neg hi,if_neg hi]
  have e2:lw ⟨s.at_.set k j,s.met.set k true,s.todo++ [(k:Int)]⟩ k=nY j:=by
   unfold lw
   rw[ig (by rw[h.ml];exact hkn),ig (by rw[h.al];exact hkn),if_pos rfl,if_pos rfl,if_pos rfl]
  rw[e2] at e
  unfold mu KD
  simp only[aq,aL]
  omega
 unfold dq
 split
 ·exact aA _
 rename_i hne
 split
 ·rename_i hm
  split
  ·exact aA _
  rename_i j hj
  split
  ·exact aA _
  rename_i hja
  exact key (by omega) j (by unfold lw;rw[if_pos hm];exact(ue hj).2 hja)
 rename_i hm
 exact key (by omega) l (by unfold lw;rw[if_neg hm];have:=JD l;omega)
theorem yu {n:Nat} :∀{s s':ew} {L:List Int} {l:List Int},ia n s->(∀q∈L,0<=q/\q<=n)->l.length<=8->s.todo.length+L.length<5000->dB n s L l=some s'->mu n s'<=mu n s
 | s,s',[],l,h,_,_,_,e=>by
  simp only[dB,aU] at e
  subst e
  exact aA _
 | s,s',a::L,l,h,hq,hl,ht,e=>by
  simp only[dB] at e
  split at e
  ·have ha:=hq a (by simp)
   rw[aR] at ht
   obtain⟨h1,h2⟩:=na h (k:=a.toNat) (by omega) hl (by omega)
   exact dc (yu h1 (fun q hq'=>hq q (by simp[hq'])) hl (by omega) e) (yv h (by omega) hl)
  cases e
theorem uC {fs:List au} {f:au} (hok:pS fs f) {s s':ew} (h:ia f.C.length s) (ht:0<s.todo.length) (ht2:s.todo.length<=4000) (e:ls fs f s=some s'):ia f.C.length s'/\mu f.C.length s'<mu f.C.length s:=by
 obtain⟨n,hn⟩:∃n,s.todo.length=n+1:=⟨s.todo.length - 1,by omega⟩
 have hmem:s.todo.getD n 0∈s.todo:=by rw[ak,ap (by omega)];exact cR _
 have htd:=h.td _ hmem
 obtain⟨k,hk⟩:∃k:Nat,s.todo.getD n 0=(k:Int):=⟨(s.todo.getD n 0).toNat,by omega⟩
 have hkl:k<f.C.length:=by omega
 unfold ls at e
 dsimp only at e
 rw[show s.todo.length - 1=n from by omega,hk,bj] at e
 split at e
 ·cases e
 rename_i hb
 have hb:(mj fs f (bt f.C k) (s.at_.getD k [],false)).2=false:=by simpa using hb
 have hT8:=zA rfl hb
 have hF0:ia f.C.length ⟨s.at_,s.met,s.todo.take n⟩:=⟨h.al,h.ml,by show (s.todo.take n).length<=_;rw[ax];omega,h.st,fun x hx=>h.td x (kU hx)⟩
 have hl2:=rI (bt f.C k) k
 have hlt:(s.todo.take n).length+(dm (bt f.C k) k).length<5000:=by rw[ax];omega
 have h1:=yt hF0 (hok.to_ k hkl) hT8 hlt e
 have h2:=yu hF0 (hok.to_ k hkl) hT8 hlt e
 refine⟨h1.1,?_⟩
 have:mu f.C.length ⟨s.at_,s.met,s.todo.take n⟩+1=mu f.C.length s:=by
  unfold mu
  show KD f.C.length s+(s.todo.take n).length+1=_
  rw[ax]
  omega
 omega
def kN (fs:List au) (f:au):Nat->ew->Option ew
 | 0,_=>none
 | k+1,s=>if s.todo.length=0 then some s else match ls fs f s with
  | none=>none
  | some s'=>kN fs f k s'
theorem vX {fs:List au} {f:au} (hok:pS fs f):∀(k m:Nat) (s:ew),ia f.C.length s->mu f.C.length s<=4000->mu f.C.length s<k->mu f.C.length s<m->kN fs f k s=kN fs f m s
 | 0,_,_,_,_,h,_=>absurd h (by omega)
 | _+1,0,_,_,_,_,h=>absurd h (by omega)
 | k+1,m+1,s,hF,h4,h1,h2=>by
  simp only[kN]
  split
  ·rfl
  rename_i ht
  cases e:ls fs f s with
  | none=>rfl
  | some s'=>
   have htl:s.todo.length<=4000:=by unfold mu at h4;omega
   obtain⟨h3,h4'⟩:=uC hok hF (by omega) htl e
   exact vX hok k m s' h3 (by omega) (by omega) (by omega)
def fS (n:Nat):ew:=⟨List.replicate n [],List.replicate n false,[]⟩
def gN (n:Nat):ew:=(dq n (fS n) 0 []).2
def pP (fs:List au) (f:au):Option ew:=kN fs f (mu f.C.length (gN f.C.length)+1) (gN f.C.length)
structure jN where
 pc:Int
 K:List Int
 deriving DecidableEq
def oR (s:ew) (i:Nat):List jN:=(List.range i).filterMap fun k=>if s.met.getD k false=true then some ⟨k,s.at_.getD k []⟩ else none
def di (fs:List au) (f:au):List jN×Bool:=match pP fs f with
 | none=>([],false)
 | some s=>(oR s f.C.length,true)
theorem sg (n:Nat):ia n (fS n):=by
 refine⟨by simp[fS],by simp[fS],by simp[fS],fun i=>?_,by simp[fS]⟩
 show ((List.replicate n ([]:List Int)).getD i []).length<=8
 rw[ak,pj]
 split <;> simp
theorem IX (n:Nat):mu n (fS n)<=9*n:=by
 unfold mu KD
 have:∀m,((List.range m).map (lw (fS n))).sum<=9*m:=fun m=>by
  induction m with
  | zero=>simp
  | succ m ih=>
   simp only[lK,dr,List.sum_append,ee,il,List.sum_cons,List.sum_nil]
   have:lw (fS n) m<=9:=by
    unfold lw
    split
    ·rename_i h
     have:(fS n).met.getD m false=false:=by
      show (List.replicate n false).getD m false=false
      rw[ak,pj]
      split <;> rfl
     rw[this] at h;cases h
    exact aA _
   omega
 have:=this n
 show _+([]:List Int).length<=_
 simpa using this
theorem xI {n:Nat} (_:0<n):ia n (gN n)/\mu n (gN n)<=9*n:=by
 have h1:=na (sg n) (k:=0) (bi _) (l:= []) (by simp) (by simp[fS])
 have h2:=yv (sg n) (k:=0) (bi _) (l:= []) (by simp)
 exact⟨h1.1,dc h2 (IX n)⟩
end
section
instance:ay jN where
 k:=2
 rep w B cs x:= ∃v,cs= [.int .i64 x.pc,v]/\aF x.pc/\bE w B v x.K
 len h:=by obtain⟨v,h,_⟩:=h;rw[h];rfl
 keep h hc:=by obtain⟨v,h,hi,hs⟩:=h;exact⟨v,h,hi,hs.keep hc⟩
 more h hb:=by obtain⟨v,h,hi,hs⟩:=h;exact⟨v,h,hi,hs.more hb⟩
 one h:=by obtain⟨v,h,hi,hs⟩:=h;obtain⟨A,c,rfl,_⟩:=hs.form;rw[h];simp[Value.oneCell']
structure jj where
 pc:Int
 v:Value
instance:ay jj where
 k:=2
 rep _ _ cs h:=cs= [.int .i64 h.pc,h.v]/\aF h.pc/\h.v.oneCell'=true
 len h:=by rw[h.1];rfl
 keep h _:=h
 more h _:=h
 one h:=by rw[h.1];simpa [Value.oneCell'] using h.2.2
instance:Ow jj where
 ty:=105
 own _ F cs h:=(cs= [.int .i64 h.pc,h.v]/\aF h.pc/\h.v.oneCell'=true)/\∀b,¬F b
 rd_ h:=h.1
 lt h hb:=(h.2 _ hb).elim
 frame h _:=h
 cong h hf:=⟨h.1,fun b hb=>h.2 b ((hf b).2 hb)⟩
instance:bS jj where
 enc h:= [.int .i64 h.pc,h.v]
 wf h:=aF h.pc/\h.v.oneCell'=true
 rep_iff:=iD
 own_iff:=iD
structure pb (es:List jj) (L:List (Value×List Int)) (xs:List jN):Prop where
 len:es.length=xs.length
 el:∀i (h:i<es.length) (h2:i<xs.length),es[i].pc=xs[i].pc/\kY L es[i].v xs[i].K
theorem pb.nil_ {L:List (Value×List Int)} :pb [] L []:=⟨rfl,fun i h=>by simp at h⟩
theorem pb.snoc {es:List jj} {L:List (Value×List Int)} {xs:List jN} (h:pb es L xs) {e:jj} {x:jN} (h1:e.pc=x.pc) (h2:kY L e.v x.K):pb (es++ [e]) L (xs++ [x]):=
 ⟨by simp[h.len],fun i hi hi2=>by
  by_cases hlt:i<es.length
  ·rw[List.getElem_append_left hlt,List.getElem_append_left (by have:=h.len;omega)]
   exact h.el i hlt (by have:=h.len;omega)
  rw[aq,aL] at hi
  have hl:=h.len
  have:i=es.length:=by omega
  subst this
  rw[List.getElem_append_right (aA _),List.getElem_append_right (by omega)]
  simp[h1,h2,hl]⟩
theorem LP {w:World} {F:Nat->Prop} {L:List (Value×List Int)} {v:Value} {xs:List Int} (h:kY L v xs) (hF:Hs w (L.map fun p=>kX p.1 p.2) F):Sl w v xs:=by
 rcases h with ⟨rfl,rfl⟩ | h
 ·exact Sl.nil_
 obtain⟨F',h5,_⟩:=Hs.mem (ph (f:=fun p:Value×List Int=>kX p.1 p.2) h) hF
 exact h5.2 w fun _ _=>rfl
theorem xP {es:List jj} {L:List (Value×List Int)} {xs:List jN} (hr:pb es L xs) {v:Value} :∀w F,Hs w [an v es,iI L] F->Sl w v xs:=by
 rintro w F ⟨F1,F2,h1,⟨F3,F4,h3,h4,_,_⟩,_,_⟩
 have h1:bX w F1 v es:=h1
 have h3:Hs w (L.map fun p=>kX p.1 p.2) F3:=h3
 obtain⟨A,c,hv,k1,k2,k3,k4⟩:=h1.sl
 refine⟨A,c,by rw[hv,hr.len],by rw[<-hr.len];exact k1,k2,by rw[<-hr.len];exact k3,fun h0=>?_⟩
 obtain⟨b,off,hA,hb,hi⟩:=k4 (by rw[hr.len];exact h0)
 refine⟨b,off,hA,hb,fun i x hx=>?_⟩
 have hix:=(aN.1 hx)
 obtain⟨hil,hix⟩:=hix
 have hie:i<es.length:=by rw[hr.len];exact hil
 obtain⟨cs,⟨hcs,hi1,hi2⟩,hc⟩:=hi i es[i] (ap hie)
 obtain⟨e1,e2⟩:=hr.el i hie hil
 rw[hix] at e1 e2
 subst hcs
 refine⟨[.int .i64 x.pc,es[i].v],⟨es[i].v,rfl,by rw[<-e1];exact hi1,LP e2 h3⟩,fun j u hu=>?_⟩
 rw[<-e1] at hu
 exact hc j u hu
theorem yp (s:ew) (i:Nat):oR s (i+1)=if s.met.getD i false=true then oR s i++ [⟨i,s.at_.getD i []⟩] else oR s i:=by
 unfold oR
 rw[lK,List.filterMap_append]
 split
 ·rename_i h
  simp only[List.filterMap_cons,List.filterMap_nil]
  rw[if_pos h]
 rename_i h
 simp only[List.filterMap_cons,List.filterMap_nil]
 rw[if_neg h]
 simp
theorem Kb (s:ew) (i:Nat):(oR s i).length<=i:=by
 have:=List.length_filterMap_le (fun k=>if s.met.getD k false=true then some (⟨k,s.at_.getD k []⟩:jN) else none) (List.range i)
 rw[nM] at this
 exact this
theorem uq:(Tryz.prog.info? 35).map (fun i=>(i.zero,i.size,i.bytes))=some (some (.slice none 0 0),1,24):=by kernel_rfl
theorem Fp:(Tryz.prog.info? 105).map (fun i=>(i.zero,i.size,i.bytes))=some (some (.agg #[.int .i64 0,.slice none 0 0]),2,32):=by kernel_rfl
theorem oF {α:Type} (n i:Nat) (x:α):(List.replicate n x).getD i x=x:=by
 rw[ak,pj]
 split <;> rfl
theorem pO (A:Option Addr) (c:Nat) (fs:List au) (k:Nat) (w:World) (hs:Sl w (.slice A fs.length c) fs) (hk:k<fs.length) (hok:pS fs (av fs k)) (hn0:0<(av fs k).C.length) :
  Calls Tryz.prog 117 #[.agg #[.slice A fs.length c],.int .i64 (k:Int)] w fun e w'=> ∃g:(Option Addr×Nat)×List jj×List (Value×List Int),pb g.2.1 g.2.2 (di fs (av fs k)).1/\e= .returned (.tuple #[.slice g.1.1 g.2.1.length g.1.2,.bool (di fs (av fs k)).2])/\
   Cw w.heap.size w [an (.slice g.1.1 g.2.1.length g.1.2) g.2.1,iI g.2.2] w':=by
 obtain⟨A1,c1,A2,c2,hl,hc,hi,hcell⟩:=hs.fn hk
 generalize av fs k=f at hl hc hi hcell hok hn0⊢
 have hn40:=hok.n40
 refine enter Tryz.func117 rfl Tryz.ntmps117 rfl<|aj ?_
 refine fun g1 _=>aj ?_
 refine dA (_) rfl ((.ro hs))<|aj ?_
 refine eM rfl (fun w hw=>hcell _ w hw 3 _ rfl) ?_
 refine aD ?_
 refine bK<|dx (fun _:Nat×Nat×Nat=>True) (fun g=> [(6,.slice A2 f.C.length c2),(7,.pointer (some ⟨g.2.2,0,none⟩))]) (fun g=> [am g.2.2 [.slice A fs.length c,.int .i64 f.params,.slice A1 f.L.length c1,.int .i64 f.result,.slice A2 f.C.length c2,.slice (some ⟨g.1,0,none⟩) f.C.length f.C.length,.slice (some ⟨g.2.1,0,none⟩) f.C.length f.C.length,.slice none 0 0] 224,an (.slice (some ⟨g.1,0,none⟩) f.C.length f.C.length) (List.replicate f.C.length nG),an (.slice (some ⟨g.2.1,0,none⟩) f.C.length f.C.length) (List.replicate f.C.length false)]) ?_ ?_
 ·refine gZ (.still 0 (.still 1 (.still 2 (.still 3 (.still 4 (.still 5 (.still 6 (.still 7 (.still 9 (.still 10 (.pick 8 (.pick 11 (.still 12 (.pick 13 (.still 14 .done) .stop)) .stop) (.pick 11 (.pick 8 (.still 12 (.pick 13 (.still 14 .done) .stop)) .stop) .stop)))))))))))) [] rfl (by kernel_rfl) (by kernel_rfl) ?_
  refine aj ?_
  refine tE rfl (bZ fE gv (.ro hs) (by omega) rfl rfl rfl) ?_
  refine tE rfl (eW (hcell _) rfl rfl Nw gv)<|aj ?_
  refine ef rfl (qq (α:=jB) nG ix uq rfl (fun w=>⟨⟨rfl,rfl⟩,fun _ h=>h⟩) rfl (by omega) rfl rfl rfl) rfl rfl (.inr fun _=>ha) (fun ga _=>?_) ?_
  ·refine pE rfl (qq (α:=Bool) false Is Ca rfl (fun w=>⟨rfl,fun _ h=>h⟩) rfl (by omega) rfl rfl rfl) (fun gm _=>aj ?_)
   refine fun gx _=>aj ?_
   refine cg<|dg (ga,gm,gx) (trivial)
  refine pE rfl (qq (α:=Bool) false Is Ca rfl (fun w=>⟨rfl,fun _ h=>h⟩) rfl (by omega) rfl rfl rfl) (fun gm _=>?_)
  refine pE rfl (qq (α:=jB) nG ix uq rfl (fun w=>⟨⟨rfl,rfl⟩,fun _ h=>h⟩) rfl (by omega) rfl rfl rfl) (fun ga _=>aj ?_)
  refine fun gx _=>aj ?_
  refine cg<|dg (ga,gm,gx) (trivial)
 rintro⟨ga,gm,gx⟩ _
 try dsimp only
 have hR0:kh f.C.length (List.replicate f.C.length nG) [] (fS f.C.length).at_:=⟨by simp,by simp[fS],fun i _=>by
  show kY [] ((List.replicate f.C.length nG).getD i nG).v ((List.replicate f.C.length ([]:List Int)).getD i [])
  rw[oF,oF]
  exact .nil_⟩
 have hso:=xI hn0
 have hcome:∀w1,Cw w.heap.size w (iO (⟨gx,fs,f,A,c,A1,c1,A2,c2,some ⟨ga,0,none⟩,f.C.length,some ⟨gm,0,none⟩,f.C.length⟩:FC) (fS f.C.length) (List.replicate f.C.length nG) [] none 0++ []) w1->Calls Tryz.prog 169 #[.pointer (some ⟨gx,0,none⟩),.int .i64 0,.slice none 0 0] w1 fun e w'=> ∃g:List jB×List (Value×List Int)×Option Addr×Nat,kh f.C.length g.1 g.2.1 (gN f.C.length).at_/\
   e= .returned (.bool (dq f.C.length (fS f.C.length) 0 []).1)/\Cw w.heap.size w (iO (⟨gx,fs,f,A,c,A1,c1,A2,c2,some ⟨ga,0,none⟩,f.C.length,some ⟨gm,0,none⟩,f.C.length⟩:FC) (gN f.C.length) g.1 g.2.1 g.2.2.1 g.2.2.2++ []) w':=fun w1 h=>
  BQ (⟨gx,fs,f,A,c,A1,c1,A2,c2,some ⟨ga,0,none⟩,f.C.length,some ⟨gm,0,none⟩,f.C.length⟩:FC) (fS f.C.length) (List.replicate f.C.length nG) [] none 0 0 (bi _) hn40 [] none 0 .nil_ hR0 (by simp[fS]) (by simp[fS]) (fun i=>by have:=(sg f.C.length).st i;omega) w1 h
 refine dJ (fun w h=>oJ (Cw.nilO Int h))<|aj ?_
 refine cz rfl Tryz.call169 (fun w hw=>hcome w (hw.msub ms)) (fun⟨hd,L,At,ct⟩ hR=>?_)
 refine aJ ?_
 rw[dS]
 refine qA (fun g:ew×List jB×List (Value×List Int)×Option Addr×Nat=>(pP fs f=some g.1/\ia f.C.length g.1)/\kh f.C.length g.2.1 g.2.2.1 g.1.at_) (fun g=> [(6,.slice A2 f.C.length c2),(7,.pointer (some ⟨gx,0,none⟩))]) (fun g=>iO (⟨gx,fs,f,A,c,A1,c1,A2,c2,some ⟨ga,0,none⟩,f.C.length,some ⟨gm,0,none⟩,f.C.length⟩:FC) g.1 g.2.1 g.2.2.1 g.2.2.2.1 g.2.2.2.2) ?_ ?_
 ·refine dG (fun g:ew×List jB×List (Value×List Int)×Option Addr×Nat=>((kN fs f (mu f.C.length g.1+1) g.1=pP fs f/\ia f.C.length g.1)/\kh f.C.length g.2.1 g.2.2.1 g.1.at_)/\mu f.C.length g.1<=400) (fun g=>mu f.C.length g.1) (fun g=> [(6,.slice A2 f.C.length c2),(7,.pointer (some ⟨gx,0,none⟩))]) (fun g=>iO (⟨gx,fs,f,A,c,A1,c1,A2,c2,some ⟨ga,0,none⟩,f.C.length,some ⟨gm,0,none⟩,f.C.length⟩:FC) g.1 g.2.1 g.2.2.1 g.2.2.2.1 g.2.2.2.2) (gN f.C.length,hd,L,At,ct) (⟨⟨⟨rfl,hso.1⟩,hR⟩,by show mu f.C.length (gN f.C.length)<=_;have:=hso.2;omega⟩) ?_
  rintro⟨s,hd,L,At,ct⟩ hj
  try dsimp only
  obtain⟨⟨⟨hj1,hF⟩,hR⟩,hmu⟩:((kN fs f (mu f.C.length s+1) s=pP fs f/\ia f.C.length s)/\kh f.C.length hd L s.at_)/\mu f.C.length s<=400:=hj
  have htl:s.todo.length<=400:=by unfold mu at hmu;omega
  dsimp only[iO]
  refine az (fun ht=>?_) (fun ht=>?_)
  ·have ht0:0<s.todo.length:=by omega
   obtain⟨r,hr⟩:∃r,ls fs f s=r:=⟨_,rfl⟩
   have hj2:=hj1
   rw[kN,if_neg (by omega),hr] at hj2
   refine aj ?_
   refine cz rfl Tryz.call170 (fun w hw=>IW (H:= []) (⟨gx,fs,f,A,c,A1,c1,A2,c2,some ⟨ga,0,none⟩,f.C.length,some ⟨gm,0,none⟩,f.C.length⟩:FC) s hd L At ct r hr hok hs hl hc hR hF ht0 (by omega) w (hw.msub ms)) (fun⟨hd2,L2,A2',c2'⟩ hR2=>?_)
   refine aJ ?_
   refine cB rfl (fun hq=>?_) (fun hq=>?_)
   ·obtain rfl:r=none:=by cases r with | none=>rfl | some s'=>cases hq
    have hent:di fs f=([],false):=by unfold di;rw[<-hj2]
    rw[hent]
    refine aj ?_
    intro w hw
    exact⟨((none,0),[],[]),.nil_,rfl,Cw.nilO jj (oJ (hw.msub (T:= []) ms))⟩
   obtain⟨s',rfl⟩:∃s',r=some s':=by cases r with | none=>cases hq | some s'=>exact⟨s',rfl⟩
   have hso2:=uC hok hF ht0 (by omega) hr
   have hj3:kN fs f (mu f.C.length s'+1) s'=pP fs f:=by
    rw[<-hj2]
    exact vX hok _ _ s' hso2.1 (by omega) (by omega) hso2.2
   dsimp only[dS]
   rw[dS]
   refine aj ?_
   refine NH (s',hd2,L2,A2',c2') (⟨⟨⟨hj3,hso2.1⟩,hR2⟩,by show mu f.C.length s'<=_;omega⟩) (hso2.2)
  have ht0:s.todo.length=0:=by omega
  have hj2:=hj1
  rw[kN,if_pos ht0] at hj2
  refine aj ?_
  refine dg (s,hd,L,At,ct) (⟨⟨hj2.symm,hF⟩,hR⟩)
 rintro⟨s,hd,L,At,ct⟩ hj
 obtain⟨⟨hj,hF⟩,hR⟩:(pP fs f=some s/\ia f.C.length s)/\kh f.C.length hd L s.at_:=hj
 have hent:di fs f=(oR s f.C.length,true):=by unfold di;rw[hj]
 rw[hent]
 dsimp only[iO]
 refine dJ (fun w h=>Cw.nilO jj h)<|aj ?_
 refine dG (fun g:Nat×List jj×Option Addr×Nat=>g.1<=f.C.length/\pb g.2.1 L (oR s g.1)) (fun g=>f.C.length - g.1) (fun g=> [(7,.pointer (some ⟨gx,0,none⟩)),(8,.slice g.2.2.1 g.2.1.length g.2.2.2),(42,.int .i64 (f.C.length:Int)),(43,.int .i64 (g.1:Int))]) (fun g=>an (.slice g.2.2.1 g.2.1.length g.2.2.2) g.2.1::iO (⟨gx,fs,f,A,c,A1,c1,A2,c2,some ⟨ga,0,none⟩,f.C.length,some ⟨gm,0,none⟩,f.C.length⟩:FC) s hd L At ct) (0,[],none,0) (⟨bi _,.nil_⟩) ?_
 rintro⟨i,es,Ae,ce⟩ hi'
 try dsimp only
 obtain⟨hi1,hre⟩:i<=f.C.length/\pb es L (oR s i):=hi'
 have hel:=hre.len
 have hul:=Kb s i
 dsimp only[iO]
 refine az (fun hlt=>?_) (fun hlt=>?_)
 ·have hil:i<f.C.length:=by omega
  have hsu:=yp s i
  refine aj ?_
  refine dA (_) rfl ((SF.own hF.ml fc)) ?_
  refine eM rfl (SF.bool (SF.own hF.ml fc) (by omega))<|aj ?_
  refine cB rfl (fun hm=>?_) (fun hm=>?_)
  ·rw[if_pos hm] at hsu
   have hin:=hR.el i hil
   refine aj ?_
   refine dA (_) rfl ((SF.own hR.hl fc)) ?_
   refine qa (fun w h=>hin.form h fc) ?_
   rintro⟨A3,c3,hv⟩
   rw[hv] at hin
   refine sE (dT (v:= .slice A3 (s.at_.getD i []).length c3) (by rw[<-hv];exact SF.hdr (SF.own hR.hl fc) hil) rfl rfl vj)<|aj ?_
   intro g2 _
   refine oE (cV (α:=jj) (bytes:=32) ⟨i,.slice A3 (s.at_.getD i []).length c3⟩ [] rfl Tryz.underlying99 (bM Fp) rfl (fT fc fc) (eJ ⟨⟨by show (-9223372036854775808:Int)<=(i:Int);omega,by show (i:Int)<=9223372036854775807;omega⟩,rfl⟩) (by omega) (by omega) rfl rfl rfl) (fun⟨A5,c5⟩ _=>?_)
   refine aJ ?_
   refine dv (i+1,es++ [⟨i,.slice A3 (s.at_.getD i []).length c3⟩],A5,c5) (⟨hil,by rw[hsu];exact hre.snoc rfl hin⟩) (by show _ - _<_ - _;omega)
  rw[if_neg (by rw[hm];decide)] at hsu
  refine aj ?_
  refine dv (i+1,es,Ae,ce) (⟨hil,by rw[hsu];exact hre⟩) (by show _ - _<_ - _;omega)
 obtain rfl:i=f.C.length:=by omega
 refine aj ?_
 intro w hw
 exact⟨((Ae,ce),es,L),hre,rfl,hw.msub ms⟩
theorem CL (A:Option Addr) (c:Nat) (fs:List au) (k:Nat) (w:World) (hs:Sl w (.slice A fs.length c) fs) (hk:k<fs.length) (hok:pS fs (av fs k)) (hn0:0<(av fs k).C.length) :
  Calls Tryz.prog 117 #[.agg #[.slice A fs.length c],.int .i64 (k:Int)] w fun e w'=> ∃g:Option Addr×Nat,True/\e= .returned (.tuple #[.slice g.1 (di fs (av fs k)).1.length g.2,.bool (di fs (av fs k)).2])/\
   Cw w.heap.size w [kX (.slice g.1 (di fs (av fs k)).1.length g.2) (di fs (av fs k)).1] w':=
 (pO A c fs k w hs hk hok hn0).mono fun e w' ⟨g,h1,h2,h3⟩=>⟨g.1,trivial,by rw[<-h1.len];exact h2,by rw[<-h1.len];exact yk (Hel:= [an (.slice g.1.1 g.2.1.length g.1.2) g.2.1,iI g.2.2]) (H:= []) (xP h1) h3⟩
end
section
theorem jg {fs:List au} {k:Nat} (hk:k<fs.length):av fs k∈fs:=by
 unfold av
 rw[ak,ap hk]
 exact cR hk
theorem jp {fs:List au} (h:dC fs=0) {k:Nat} (hk:k<fs.length):pS fs (av fs k)/\0<(av fs k).C.length:=by
 obtain⟨_,_,hall⟩:=iu h
 obtain⟨_,_,h3,h4,h5,h6,h7⟩:=kw (hall _ (jg hk))
 obtain⟨h40,_⟩:=pQ h6
 refine⟨⟨fun i hi=>?_,fun i hi q hq=>?_,h40⟩,by omega⟩
 ·have hf:=h7 _ (uL hi)
  refine⟨fun hc=>?_,fun hc=>?_,fun j hj=>?_,⟨by omega,by omega⟩⟩
  ·unfold kg at hf
   rw[if_pos hc] at hf
   have:=kJ.1 hf
   omega
  ·unfold kg at hf
   rw[if_neg (by omega),if_neg (by omega),if_pos hc] at hf
   have:=kJ.1 hf
   omega
  obtain⟨g1,g2,_⟩:=kw (hall _ (jg hj))
  exact⟨g2,g1⟩
 have hf:=h7 _ (uL hi)
 have hg:=(yB (bt (av fs k).C i) i q).1 hq
 have hjz:((bt (av fs k).C i).c=10\/(bt (av fs k).C i).c=11)->0<=(bt (av fs k).C i).a/\(bt (av fs k).C i).a<(av fs k).C.length:=fun hc=>by
  unfold kg at hf
  rw[if_neg (by omega),if_pos hc] at hf
  have:=kJ.1 hf
  omega
 unfold fV at hg
 split at hg
 ·simp at hg
 split at hg
 ·rename_i hc
  have:=hjz (.inl hc)
  simp at hg
  omega
 split at hg
 ·rename_i hc
  have:=hjz (.inr hc)
  simp at hg
  omega
 simp at hg
 omega
def np (fs:List au) (z:Int):List jN×Int:=
 if dC fs≠0 then ([],dC fs) else if z<0\/(fs.length:Int)<=z then ([],3) else if (di fs (av fs z.toNat)).2=true then ((di fs (av fs z.toNat)).1,0) else ([],4)
def ec (fs:List au):Int:=if dC fs≠0 then dC fs else if fs.all (fun f=>(di fs f).2)=true then 0 else 4
theorem yZ {α:Type} {p:α->Bool} {l:List α} {k:Nat} (d:α) (hk:k<l.length):(l.take (k+1)).all p=((l.take k).all p && p (l.getD k d)):=by
 rw[List.take_add_one,ap hk,ak,ap hk,List.all_append]
 simp
theorem FD (A:Option Addr) (c:Nat) (fs:List au) (z:Int) (w:World) (hs:Sl w (.slice A fs.length c) fs) :
  Calls Tryz.prog 58 #[.agg #[.slice A fs.length c],.int .i64 z] w fun e w'=> ∃g:(Option Addr×Nat)×List jj×List (Value×List Int),pb g.2.1 g.2.2 (np fs z).1/\e= .returned (.tuple #[.slice g.1.1 g.2.1.length g.1.2,.int .i64 (np fs z).2])/\
   Cw w.heap.size w [an (.slice g.1.1 g.2.1.length g.1.2) g.2.1,iI g.2.2] w':=by
 have b1:=bx hs
 refine enter Tryz.func58 rfl Tryz.ntmps58 rfl<|aj ?_
 refine fun g1 _=>aj ?_
 obtain⟨E,hE⟩:∃E:Int,(if dC fs≠0 then dC fs else if z<0\/(fs.length:Int)<=z then 3 else 0)=E:=⟨_,rfl⟩
 refine cA rfl Fw (fun w hw=>mq A c fs w (hw.ro hs)) ?_
 refine aD ?_
 refine bK<|dx (fun _:Unit=>True) (fun _=> [(1,.int .i64 z),(2,.pointer (some ⟨g1,0,none⟩)),(6,.int .i64 E)]) (fun _=> [am g1 [.slice A fs.length c] 24]) ?_ ?_
 ·refine df 13 (fun h1=>?_) (fun h1=>?_)
  ·have h1:=of_decide_eq_true h1
   rw[if_neg (by simpa using h1)] at hE
   refine df 16 (fun h2=>?_) (fun h2=>?_)
   ·have h2:=of_decide_eq_true h2
    rw[if_pos (.inl h2)] at hE
    subst hE
    refine aj ?_
    refine bo rfl<|aj ?_
    refine nv () (trivial)
   have h2:=of_decide_eq_false h2
   refine az (fun h3=>?_) (fun h3=>?_)
   ·rw[if_pos (.inr (by omega))] at hE
    subst hE
    refine aj ?_
    refine nv () (trivial)
   rw[if_neg (by omega)] at hE
   subst hE
   rw[h1]
   refine aj ?_
   refine dg () (trivial)
  have h1:=of_decide_eq_false h1
  rw[if_pos h1] at hE
  subst hE
  refine aj ?_
  refine bR rfl<|aj ?_
  refine dg () (trivial)
 rintro _ _
 refine bV (fun h0=>?_) (fun h0=>?_)
 ·have hf:np fs z=([],E):=by
   unfold np
   by_cases h1:dC fs=0
   ·rw[if_neg (by simpa using h1)] at hE⊢
    by_cases h2:z<0\/(fs.length:Int)<=z
    ·rw[if_pos h2] at hE⊢;rw[hE]
    rw[if_neg h2] at hE;exact absurd hE.symm h0
   rw[if_pos h1] at hE⊢;rw[hE]
  rw[hf]
  refine aj ?_
  intro w hw
  exact⟨((none,0),[],[]),.nil_,rfl,Cw.nilO jj (oJ (hw.msub (T:= []) ms))⟩
 subst h0
 have h1:dC fs=0:=by
  by_cases h1:dC fs=0
  ·exact h1
  rw[if_pos h1] at hE;exact absurd hE h1
 rw[if_neg (by simpa using h1)] at hE
 have h2:¬(z<0\/(fs.length:Int)<=z):=fun h=>by rw[if_pos h] at hE;cases hE
 obtain⟨k,rfl⟩:∃k:Nat,z=(k:Int):=⟨z.toNat,by omega⟩
 have hk:k<fs.length:=by omega
 obtain⟨hok,hn0⟩:=jp h1 hk
 have hf:np fs (k:Int)=if (di fs (av fs k)).2=true then ((di fs (av fs k)).1,0) else ([],4):=by
  unfold np
  rw[if_neg (by simpa using h1),if_neg h2,bj]
 refine aj ?_
 refine eL rfl Re (fun w hw=>pO A c fs k w (hw.ro hs) hk hok hn0) (fun⟨⟨A1,c1⟩,es,L⟩ hre=>?_)
 refine aJ ?_
 refine cB rfl (fun h3=>?_) (fun h3=>?_)
 ·rw[hf,if_neg (by simpa using h3)]
  refine aj ?_
  intro w hw
  exact⟨((none,0),[],[]),.nil_,rfl,Cw.nilO jj (oJ (hw.msub (T:= []) ms))⟩
 rw[hf,if_pos (by simpa using h3)]
 refine aj ?_
 intro w hw
 exact⟨((A1,c1),es,L),hre,rfl,hw.msub ms⟩
theorem P9 (A:Option Addr) (c:Nat) (fs:List au) (z:Int) (w:World) (hs:Sl w (.slice A fs.length c) fs) :
  Calls Tryz.prog 58 #[.agg #[.slice A fs.length c],.int .i64 z] w fun e w'=> ∃g:Option Addr×Nat,True/\e= .returned (.tuple #[.slice g.1 (np fs z).1.length g.2,.int .i64 (np fs z).2])/\
   Cw w.heap.size w [kX (.slice g.1 (np fs z).1.length g.2) (np fs z).1] w':=
 (FD A c fs z w hs).mono fun e w' ⟨g,h1,h2,h3⟩=>⟨g.1,trivial,by rw[<-h1.len];exact h2,by rw[<-h1.len];exact yk (Hel:= [an (.slice g.1.1 g.2.1.length g.1.2) g.2.1,iI g.2.2]) (H:= []) (xP h1) h3⟩
theorem nt (A:Option Addr) (c:Nat) (fs:List au) (w:World) (hs:Sl w (.slice A fs.length c) fs) :
  Calls Tryz.prog 72 #[.agg #[.slice A fs.length c]] w fun e w'=>e= .returned (.int .i64 (ec fs))/\Below w.heap.size w w':=by
 have b1:=bx hs
 refine enter Tryz.func72 rfl Tryz.ntmps72 rfl<|aj ?_
 refine fun g1 _=>aj ?_
 refine cA rfl Fw (fun w hw=>mq A c fs w (hw.ro hs))<|bV (fun h0=>?_) (fun h0=>?_)
 ·refine aj ?_
  intro w hw
  exact⟨gH (by unfold ec;rw[if_pos h0]),hw.below⟩
 have hp:ec fs=if fs.all (fun f=>(di fs f).2)=true then 0 else 4:=by unfold ec;rw[if_neg (by simpa using h0)]
 refine aj ?_
 refine dG (fun k:Nat=>k<=fs.length/\(fs.take k).all (fun f=>(di fs f).2)=true) (fun k=>fs.length - k) (fun k=> [(1,.pointer (some ⟨g1,0,none⟩)),(14,.int .i64 (fs.length:Int)),(15,.int .i64 (k:Int))]) (fun _=> [am g1 [.slice A fs.length c] 24]) 0 (⟨bi _,rfl⟩) ?_
 rintro k hk'
 obtain⟨hk,hall⟩:k<=fs.length/\(fs.take k).all (fun f=>(di fs f).2)=true:=hk'
 refine az (fun hlt=>?_) (fun hlt=>?_)
 ·have hkl:k<fs.length:=by omega
  obtain⟨hok,hn0⟩:=jp h0 hkl
  have hsn:=yZ (p:=fun f=>(di fs f).2) (default:au) hkl
  refine aj ?_
  refine eL rfl Re (fun w hw=>CL A c fs k w (hw.ro hs) hkl hok hn0) (fun⟨A1,c1⟩ _=>?_)
  refine aJ ?_
  refine cB rfl (fun h3=>?_) (fun h3=>?_)
  ·have h3:(di fs (av fs k)).2=false:=by simpa using h3
   refine aj ?_
   intro w hw
   refine⟨gH ?_,hw.below⟩
   rw[hp,if_neg]
   intro h
   rw[List.all_eq_true] at h
   have:=h _ (jg hkl)
   rw[h3] at this
   cases this
  have h3:(di fs (av fs k)).2=true:=by simpa using h3
  refine aj ?_
  refine dv (k+1) (⟨hkl,by rw[hsn,hall];exact h3⟩) (by show _ - _<_ - _;omega)
 obtain rfl:k=fs.length:=by omega
 rw[aQ] at hall
 refine aj ?_
 intro w hw
 exact⟨gH (by rw[hp,if_pos hall]),hw.below⟩
end
section
instance:hZ au pd where
 parts h f:= [an h.v1 f.L,an h.v2 f.C]
 ok h f:=h.p=f.params/\h.r=f.result
 kk:=rfl
 tt:=rfl
 opn {w F cs f} h:=by
  obtain⟨v1,v2,F1,F2,hcs,hi,h1,h2,hd,hF⟩:=h
  obtain⟨A1,c1,e1,_⟩:=h1.sl.form
  obtain⟨A2,c2,e2,_⟩:=h2.sl.form
  refine⟨⟨f.params,v1,f.result,v2⟩,⟨hcs,hi,by rw[e1];rfl,by rw[e2];rfl⟩,⟨rfl,rfl⟩,F1,F2,h1,⟨F2,fun _=>False,h2,fun _ h=>h,fun _ _ h=>h,fun b=>by simp⟩,hd,hF⟩
 cls {w F h f} hwf hok hH:=by
  obtain⟨F1,F2,h1,⟨F3,F4,h3,h4,h5,h6⟩,hd,hF⟩:=hH
  have e:∀b,F2 b↔F3 b:=fun b=>by rw[h6 b];simp[show¬F4 b from h4 b]
  refine⟨h.v1,h.v2,F1,F3,?_,?_,h1,h3,fun b hb hb'=>hd b hb ((e b).2 hb'),fun b=>by rw[hF b,e b]⟩
  ·show [.int .i64 h.p,h.v1,.int .i64 h.r,h.v2]=_
   rw[hok.1,hok.2]
  rw[<-hok.1,<-hok.2];exact hwf.1
def Qw (fs:List au):Prop:=fs.length*64<=140737488355328/\∀f∈fs,f.L.length*8<=140737488355328/\f.C.length*16<=140737488355328
theorem Lb {fs:List au} {k:Nat} (hk:k<fs.length):fs.take (k+1)=fs.take k++ [av fs k]:=by
 rw[List.take_add_one,ap hk]
 unfold av
 rw[ak,ap hk]
 rfl
theorem rK:(Tryz.prog.info? 86).map (fun i=>(i.zero,i.size,i.bytes))=some (some (.agg #[.int .i64 0,.int .i64 0]),2,16):=by kernel_rfl
theorem P2 (A:Option Addr) (c:Nat) (fs:List au) (w:World) (hs:Sl w (.slice A fs.length c) fs) (hfit:Qw fs) :
  Calls Tryz.prog 35 #[.agg #[.slice A fs.length c]] w fun e w'=> ∃g:Option Addr×Nat,True/\e= .returned (.agg #[.slice g.1 fs.length g.2])/\Cw w.heap.size w [an (.slice g.1 fs.length g.2) fs] w':=by
 have b1:=bx hs
 have hf64:=hfit.1
 refine enter Tryz.func35 rfl Tryz.ntmps35 rfl<|aj ?_
 refine fun g1 _=>aj ?_
 refine fun g2 _=>aj ?_
 refine fun g3 _=>aj ?_
 refine dJ (fun w h=>Cw.nilO au h) ?_
 refine dG (fun g:Nat×Option Addr×Nat=>g.1<=fs.length) (fun g=>fs.length - g.1) (fun g=> [(1,.pointer (some ⟨g1,0,none⟩)),(2,.pointer (some ⟨g2,0,none⟩)),(3,.pointer (some ⟨g3,0,none⟩)),(4,.int .i64 (g.1:Int))]) (fun g=> [an (.slice g.2.1 (fs.take g.1).length g.2.2) (fs.take g.1),am g1 [.slice A fs.length c] 24,am g2 [.slice none 0 0] 24,am g3 [.slice g.2.1 (fs.take g.1).length g.2.2] 24]) (0,none,0) (bi _) ?_
 rintro⟨k,A',c'⟩ hk
 try dsimp only
 have hk:k<=fs.length:=hk
 have htl:(fs.take k).length=k:=by rw[ax];omega
 refine az (fun hlt=>?_) (fun hlt=>?_)
 ·have hkl:k<fs.length:=by omega
  obtain⟨A1,c1,A2,c2,hl,hc,hi,hcell⟩:=hs.fn hkl
  obtain⟨hb1,hb2⟩:=hfit.2 (av fs k) (jg hkl)
  have htk:=Lb hkl
  refine aj ?_
  refine dA (_) rfl ((.ro hs)) ?_
  refine iX rfl (hcell _)<|aj ?_
  intro g4 _
  refine eV (eB _ fc gv rfl rfl rfl rfl rfl (by rfl) rfl (by rfl)) rfl rfl (fun _ _=>?_)
  refine bK<|dx (fun _:(Option Addr×Nat)×(Option Addr×Nat)=>True) (fun g=> [(1,.pointer (some ⟨g1,0,none⟩)),(2,.pointer (some ⟨g2,0,none⟩)),(3,.pointer (some ⟨g3,0,none⟩)),(4,.int .i64 (k:Int)),(5,.pointer (some ⟨g4,0,none⟩))]) (fun g=> [an (.slice A' (fs.take k).length c') (fs.take k),am g1 [.slice A fs.length c] 24,am g2 [.slice none 0 0] 24,am g3 [.slice A' (fs.take k).length c'] 24,am g4 [.int .i64 (av fs k).params,.slice g.1.1 (av fs k).L.length g.1.2,.int .i64 (av fs k).result,.slice g.2.1 (av fs k).C.length g.2.2] 84,an (.slice g.1.1 (av fs k).L.length g.1.2) (av fs k).L,an (.slice g.2.1 (av fs k).C.length g.2.2) (av fs k).C]) ?_ ?_
  ·refine gZ (.still 1 (.still 2 (.still 5 (.still 6 (.pick 0 (.pick 3 (.calm 8 (.pick 4 (.pick 7 (.pick 9 (.calm 10 (.pick 11 .done .stop)) .stop) .stop) .stop)) (.pick 4 (.pick 3 (.calm 8 (.pick 7 (.pick 9 (.calm 10 (.pick 11 .done .stop)) .stop) .stop)) .stop) .stop)) (.pick 4 (.pick 0 (.pick 3 (.calm 8 (.pick 7 (.pick 9 (.calm 10 (.pick 11 .done .stop)) .stop) .stop)) .stop) .stop) .stop)))))) [7,8,9,10,11] rfl (by kernel_rfl) (by kernel_rfl) ?_
   refine aD ?_
   refine ey rfl (fp fc vj rfl rfl (by rfl)) rfl rfl ha ?_
   refine aD ?_
   refine ey rfl (fp fc Cm rfl rfl (by rfl)) rfl rfl ha ?_
   refine ef rfl ((lg (cs:= []) aV cJ Pw rfl rfl rfl rfl rfl).mem (H'':=fun g=>an (.slice (some ⟨g,0,none⟩) 0 0) ([]:List Int)::_) fun g w h=>bI (α:=Int) (m:=0) [] rfl (by simp) rfl (by decide) h) rfl rfl (.inr fun _=>ha) (fun ga _=>?_) ?_
   ·refine ef rfl (ju (α:=Int) (bytes:=8) (xs:= []) (ys:=(av fs k).L) (xs':=(av fs k).L) rfl aV (bM ge) rfl fc (.ro hl) (by simp only[aZ];omega) (by simp only[aZ];omega) rfl rfl rfl) rfl rfl (.inr fun _=>ha) (fun⟨A3,c3⟩ _=>?_) ?_
    ·try dsimp only
     refine aD ?_
     refine pE rfl ((lg (cs:= []) eQ jU NE rfl rfl rfl rfl rfl).mem (H'':=fun g=>an (.slice (some ⟨g,0,none⟩) 0 0) ([]:List bd)::_) fun g w h=>bI (α:=bd) (m:=0) [] rfl (by simp) rfl (by decide) h) (fun go _=>?_)
     refine pE rfl (ju (α:=bd) (bytes:=16) (xs:= []) (ys:=(av fs k).C) (xs':=(av fs k).C) rfl eQ (bM rK) rfl fc (.ro hc) (by simp only[aZ];omega) (by simp only[aZ];omega) rfl rfl rfl) (fun⟨A4,c4⟩ _=>?_)
     refine aJ ?_
     refine cg<|dg ((A3,c3),(A4,c4)) (trivial) (hh:=(fun _ h=>h.msub ms))
    refine pE rfl ((lg (cs:= []) eQ jU NE rfl rfl rfl rfl rfl).mem (H'':=fun g=>an (.slice (some ⟨g,0,none⟩) 0 0) ([]:List bd)::_) fun g w h=>bI (α:=bd) (m:=0) [] rfl (by simp) rfl (by decide) h) (fun go _=>?_)
    refine pE rfl (ju (α:=Int) (bytes:=8) (xs:= []) (ys:=(av fs k).L) (xs':=(av fs k).L) rfl aV (bM ge) rfl fc (.ro hl) (by simp only[aZ];omega) (by simp only[aZ];omega) rfl rfl rfl) (fun⟨A3,c3⟩ _=>?_)
    refine aJ ?_
    refine pE rfl (ju (α:=bd) (bytes:=16) (xs:= []) (ys:=(av fs k).C) (xs':=(av fs k).C) rfl eQ (bM rK) rfl fc (.ro hc) (by simp only[aZ];omega) (by simp only[aZ];omega) rfl rfl rfl) (fun⟨A4,c4⟩ _=>?_)
    refine aJ ?_
    refine cg<|dg ((A3,c3),(A4,c4)) (trivial) (hh:=(fun _ h=>h.msub ms))
   refine pE rfl ((lg (cs:= []) eQ jU NE rfl rfl rfl rfl rfl).mem (H'':=fun g=>an (.slice (some ⟨g,0,none⟩) 0 0) ([]:List bd)::_) fun g w h=>bI (α:=bd) (m:=0) [] rfl (by simp) rfl (by decide) h) (fun go _=>?_)
   refine pE rfl ((lg (cs:= []) aV cJ Pw rfl rfl rfl rfl rfl).mem (H'':=fun g=>an (.slice (some ⟨g,0,none⟩) 0 0) ([]:List Int)::_) fun g w h=>bI (α:=Int) (m:=0) [] rfl (by simp) rfl (by decide) h) (fun ga _=>?_)
   refine pE rfl (ju (α:=Int) (bytes:=8) (xs:= []) (ys:=(av fs k).L) (xs':=(av fs k).L) rfl aV (bM ge) rfl fc (.ro hl) (by simp only[aZ];omega) (by simp only[aZ];omega) rfl rfl rfl) (fun⟨A3,c3⟩ _=>?_)
   refine aJ ?_
   refine pE rfl (ju (α:=bd) (bytes:=16) (xs:= []) (ys:=(av fs k).C) (xs':=(av fs k).C) rfl eQ (bM rK) rfl fc (.ro hc) (by simp only[aZ];omega) (by simp only[aZ];omega) rfl rfl rfl) (fun⟨A4,c4⟩ _=>?_)
   refine aJ ?_
   refine cg<|dg ((A3,c3),(A4,c4)) (trivial) (hh:=(fun _ h=>h.msub ms))
  rintro⟨⟨A3,c3⟩,⟨A4,c4⟩⟩ _
  refine aJ ?_
  intro g5 _
  refine oE (cV (α:=au) (bytes:=64) (av fs k) [an (.slice A3 (av fs k).L.length c3) (av fs k).L,an (.slice A4 (av fs k).C.length c4) (av fs k).C] htk fE (bM ur) rfl (zf fc fc fc fc) (sQ hi) (by omega) (by omega) rfl rfl rfl) (fun⟨A5,c5⟩ _=>?_)
  refine aJ ?_
  refine dv (k+1,A5,c5) (by show k+1<=_;omega) (by show _ - _<_ - _;omega)
 obtain rfl:k=fs.length:=by omega
 rw[aQ]
 refine aj ?_
 intro w hw
 exact⟨(A',c'),trivial,rfl,hw.msub ms⟩
theorem Cw.oform {α:Type} [Ow α] {B:Nat} {w0 w:World} {H H':List aC} {v:Value} {xs:List α} (hw:Cw B w0 H w) (hp:bA H (an v xs) H'):∃A c,v= .slice A xs.length c:=by
 obtain⟨F,h,_⟩:=hw.rd hp
 obtain⟨A,c,e,_⟩:=bX.sl (show bX w F v xs from h) |>.form
 exact⟨A,c,e⟩
end
section
def oU:List au:= [⟨0,[],0,PQ⟩]
def Rh:List au:= [⟨0,[],0,[⟨2,0⟩,⟨13,0⟩]⟩]
end
section
theorem Fe (a b:Int):dh a b=dh b a:=by
 unfold dh cn
 by_cases h1:a=b
 ·simp[h1]
 have h1':¬b=a:=fun e=>h1 e.symm
 by_cases h2:a=3/\b=2
 ·obtain⟨rfl,rfl⟩:=h2;simp
 by_cases h3:b=3/\a=2
 ·obtain⟨rfl,rfl⟩:=h3;simp
 simp[h1,h1',h2,h3]
theorem EK:∀(a b:List Int),bu a b=bu b a
 | [],[]=>rfl
 | [],_::_=>rfl
 | _::_,[]=>rfl
 | a::l,b::m=>by simp only[bu];rw[Fe a b,EK l m]
theorem t3 {t:Int} (h:1<=t/\t<=3):t=1\/t=2\/t=3:=by omega
theorem Ku {a b:Int} (ha:1<=a/\a<=3) (hb:1<=b/\b<=3) (h:dh a b≠0):1<=dh a b/\dh a b<=3:=by
 rcases t3 ha with rfl | rfl | rfl <;> rcases t3 hb with rfl | rfl | rfl <;> revert h <;> decide
theorem C0 {a b c:Int} (ha:1<=a/\a<=3) (hb:1<=b/\b<=3) (hc:1<=c/\c<=3) (h1:dh a b≠0) (h2:dh b c≠0):dh (dh a b) c=dh a (dh b c):=by
 rcases t3 ha with rfl | rfl | rfl <;> rcases t3 hb with rfl | rfl | rfl <;> rcases t3 hc with rfl | rfl | rfl <;> revert h1 h2 <;> decide
theorem HY {a b c:Int} (ha:1<=a/\a<=3) (hb:1<=b/\b<=3) (hc:1<=c/\c<=3) (h1:dh a b≠0) (h2:dh b c=0):dh (dh a b) c=0:=by
 rcases t3 ha with rfl | rfl | rfl <;> rcases t3 hb with rfl | rfl | rfl <;> rcases t3 hc with rfl | rfl | rfl <;> revert h1 h2 <;> decide
theorem BX {a b:Int} (h:dh a b≠0):cn a (dh a b)=true/\cn b (dh a b)=true:=by
 have r:∀x:Int,cn x x=true:=fun x=>by unfold cn;simp
 unfold dh at h⊢
 by_cases h1:cn a b=true
 ·rw[if_pos h1];exact⟨h1,r b⟩
 rw[if_neg h1] at h⊢
 by_cases h2:cn b a=true
 ·rw[if_pos h2];exact⟨r a,h2⟩
 rw[if_neg h2] at h;exact absurd rfl h
theorem kP {a b:Int} {l m j:List Int} (h:bu (a::l) (b::m)=some j):dh a b≠0/\∃k,bu l m=some k/\j=dh a b::k:=by
 simp only[bu] at h
 split at h
 ·cases h
 rename_i h0
 cases e:bu l m with
 | none=>rw[e] at h;cases h
 | some k=>
  rw[e] at h
  simp only[Option.map_some,aU] at h
  exact⟨h0,k,rfl,h.symm⟩
theorem Bl:∀{a b j:List Int},bu a b=some j->(∀t∈a,1<=t/\t<=3)->(∀t∈b,1<=t/\t<=3)->∀t∈j,1<=t/\t<=3
 | [],[],j,h,_,_=>by simp[bu] at h;subst h;simp
 | [],_::_,j,h,_,_=>by simp[bu] at h
 | _::_,[],j,h,_,_=>by simp[bu] at h
 | a::l,b::m,j,h,ha,hb=>by
  obtain⟨h0,k,hk,rfl⟩:=kP h
  intro t ht
  rcases dd.1 ht with rfl | ht
  ·exact Ku (ha a (by simp)) (hb b (by simp)) h0
  exact Bl hk (fun t h=>ha t (by simp[h])) (fun t h=>hb t (by simp[h])) t ht
theorem EJ:∀{a:List Int},(∀t∈a,1<=t/\t<=3)->bu a a=some a
 | [],_=>rfl
 | a::l,h=>by
  have ha:=h a (by simp)
  have e:dh a a=a:=by unfold dh cn;simp
  simp only[bu]
  rw[if_neg (by rw[e];omega),EJ (fun t ht=>h t (by simp[ht])),e]
  rfl
theorem pL:∀{a b j:List Int} {i:Nat},bu a b=some j->i<j.length->cn (a.getD i 0) (j.getD i 0)=true/\cn (b.getD i 0) (j.getD i 0)=true
 | [],[],j,i,h,hi=>by simp[bu] at h;subst h;simp at hi
 | [],_::_,j,_,h,_=>by simp[bu] at h
 | _::_,[],j,_,h,_=>by simp[bu] at h
 | a::l,b::m,j,i,h,hi=>by
  obtain⟨h0,k,hk,rfl⟩:=kP h
  cases i with
  | zero=>exact BX h0
  | succ i=>
   have:=pL (i:=i) hk (by simpa using hi)
   simpa using this
theorem CD:∀{a b c x r:List Int},(∀t∈a,1<=t/\t<=3)->(∀t∈b,1<=t/\t<=3)->(∀t∈c,1<=t/\t<=3)->bu a b=some x->bu b c=some r->bu x c=bu a r
 | [],[],[],x,r,_,_,_,h1,h2=>by simp[bu] at h1 h2;subst h1 h2;rfl
 | [],[],_::_,_,_,_,_,_,_,h=>by simp[bu] at h
 | [],_::_,_,_,_,_,_,_,h,_=>by simp[bu] at h
 | _::_,[],_,_,_,_,_,_,h,_=>by simp[bu] at h
 | _::_,_::_,[],_,_,_,_,_,_,h=>by simp[bu] at h
 | a::l,b::m,c::n,x,r,ha,hb,hc,h1,h2=>by
  obtain⟨h3,k,hk,rfl⟩:=kP h1
  obtain⟨h4,q,hq,rfl⟩:=kP h2
  simp only[bu]
  rw[C0 (ha a (by simp)) (hb b (by simp)) (hc c (by simp)) h3 h4,CD (fun t h=>ha t (by simp[h])) (fun t h=>hb t (by simp[h])) (fun t h=>hc t (by simp[h])) hk hq]
theorem G5:∀{a b c x:List Int},(∀t∈a,1<=t/\t<=3)->(∀t∈b,1<=t/\t<=3)->(∀t∈c,1<=t/\t<=3)->bu a b=some x->bu b c=none->bu x c=none
 | [],[],[],x,_,_,_,h1,h2=>by simp[bu] at h2
 | [],[],_::_,x,_,_,_,h1,_=>by simp[bu] at h1;subst h1;rfl
 | [],_::_,_,_,_,_,_,h,_=>by simp[bu] at h
 | _::_,[],_,_,_,_,_,h,_=>by simp[bu] at h
 | a::l,b::m,[],x,_,_,_,h,_=>by
  obtain⟨_,k,_,rfl⟩:=kP h
  rfl
 | a::l,b::m,c::n,x,ha,hb,hc,h1,h2=>by
  obtain⟨h3,k,hk,rfl⟩:=kP h1
  simp only[bu] at h2⊢
  by_cases h4:dh b c=0
  ·rw[if_pos (HY (ha a (by simp)) (hb b (by simp)) (hc c (by simp)) h3 h4)]
  rw[if_neg h4] at h2
  have h5:bu m n=none:=by
   cases e:bu m n with
   | none=>rfl
   | some q=>rw[e] at h2;cases h2
  rw[G5 (fun t h=>ha t (by simp[h])) (fun t h=>hb t (by simp[h])) (fun t h=>hc t (by simp[h])) hk h5]
  split <;> rfl
end
section
def Le (a b:List Int):Prop:=a.length=b.length/\∀i,i<a.length->cn (a.getD i 0) (b.getD i 0)=true
theorem Lk (t:Int):cn t t=true:=by unfold cn;simp
theorem zL {a b:Int} :cn a b=true↔a=b\/(a=3/\b=2):=by unfold cn;simp
theorem IY {a b c:Int} (h1:cn a b=true) (h2:cn b c=true):cn a c=true:=by
 rw[zL] at *;omega
theorem Le.refl (a:List Int):Le a a:=⟨rfl,fun _ _=>Lk _⟩
theorem Le.trans {a b c:List Int} (h1:Le a b) (h2:Le b c):Le a c:=⟨h1.1.trans h2.1,fun i hi=>IY (h1.2 i hi) (h2.2 i (by rw[<-h1.1];exact hi))⟩
theorem gR {l:List Int} {k i:Nat} (h:i<k):(l.take k).getD i 0=l.getD i 0:=by
 rw[ak,de,if_pos h,<-ak]
theorem jC {l:List Int} {k i:Nat} :(l.drop k).getD i 0=l.getD (k+i) 0:=by
 rw[ak,cH,<-ak]
theorem yh {l m:List Int} {i:Nat} (h:i<l.length):(l++m).getD i 0=l.getD i 0:=by
 rw[ak,dE h,<-ak]
theorem yg {l m:List Int} {i:Nat} (h:l.length<=i):(l++m).getD i 0=m.getD (i - l.length) 0:=by
 rw[ak,cy h,<-ak]
theorem Le.take {a b:List Int} (h:Le a b) (k:Nat):Le (a.take k) (b.take k):=⟨by rw[ax,ax,h.1],fun i hi=>by
 rw[ax] at hi
 rw[gR (by omega),gR (by omega)]
 exact h.2 i (by omega)⟩
theorem Le.drop {a b:List Int} (h:Le a b) (k:Nat):Le (a.drop k) (b.drop k):=⟨by rw[aE,aE,h.1],fun i hi=>by
 rw[aE] at hi
 rw[jC,jC]
 exact h.2 _ (by omega)⟩
theorem Le.app {a b c d:List Int} (h1:Le a b) (h2:Le c d):Le (a++c) (b++d):=⟨by rw[aq,aq,h1.1,h2.1],fun i hi=>by
 rw[aq] at hi
 by_cases h:i<a.length
 ·rw[yh h,yh (by rw[<-h1.1];exact h)];exact h1.2 i h
 rw[yg (by omega),yg (by rw[<-h1.1];omega),<-h1.1];exact h2.2 _ (by omega)⟩
theorem mQ {l:List Int} {w:Bool} (h:0<l.length):fM (l,w)=(l.getD (l.length - 1) 0,l.take (l.length - 1),w):=by unfold fM;rw[if_neg (by show¬l.length=0;omega)]
theorem AK {w:Bool} :fM ([],w)=(0,[],true):=rfl
theorem qN (xs:List Int):∀(k:Nat) (l:List Int),(dM xs k (l,true)).2=true
 | 0,_=>rfl
 | k+1,l=>by
  unfold dM
  rcases fy l.length with h | h
  ·have:l= []:=aS h
   subst this
   rw[AK]
   exact qN xs k _
  rw[mQ h]
  exact qN xs k _
theorem pI (xs:List Int):∀(k:Nat) (l:List Int) (w:Bool),l.length<k->(dM xs k (l,w)).2=true
 | 0,_,_,h=>absurd h (lJ _)
 | k+1,l,w,h=>by
  unfold dM
  rcases fy l.length with h0 | h0
  ·have:l= []:=aS h0
   subst this
   rw[AK]
   exact qN xs k _
  rw[mQ h0]
  exact pI xs k _ _ (by rw[ax];omega)
theorem mL (xs:List Int):∀(k:Nat) (l:List Int) (w:Bool),k<=l.length->k<=xs.length->
  (dM xs k (l,w)).1=l.take (l.length - k)/\((dM xs k (l,w)).2=false↔w=false/\Le (l.drop (l.length - k)) (xs.take k))
 | 0,l,w,_,_=>by
  refine⟨by simp[dM],?_⟩
  simp only[dM]
  constructor
  ·intro h;exact⟨h,by rw[vl,List.drop_length,List.take_zero];exact .refl _⟩
  exact fun h=>h.1
 | k+1,l,w,h,hx=>by
  unfold dM
  rw[mQ (by omega)]
  obtain⟨i1,i2⟩:=mL xs k (l.take (l.length - 1)) (w || !cn (l.getD (l.length - 1) 0) (xs.getD k 0)) (by rw[ax];omega) (by omega)
  have hl:(l.take (l.length - 1)).length=l.length - 1:=by rw[ax];omega
  rw[hl] at i1 i2
  refine⟨?_,?_⟩
  ·rw[i1,List.take_take]
   congr 1
   omega
  show (dM xs k (l.take (l.length - 1),w || !cn (l.getD (l.length - 1) 0) (xs.getD k 0))).2=false↔_
  rw[i2]
  have hq:l.length - 1 - k=l.length - (k+1):=by omega
  rw[hq]
  constructor
  ·rintro⟨h1,h2⟩
   simp only[Bool.or_eq_false_iff,Bool.not_eq_false'] at h1
   refine⟨h1.1,by rw[aE,ax];omega,fun i hi=>?_⟩
   rw[aE] at hi
   by_cases e:i=k
   ·subst e
    rw[jC,gR (by omega),show l.length - (i+1)+i=l.length - 1 from by omega]
    exact h1.2
   have:=h2.2 i (by rw[aE,hl];omega)
   rw[jC,gR (by omega),gR (by omega)] at this
   rw[jC,gR (by omega)]
   exact this
  rintro⟨h1,h2⟩
  simp only[Bool.or_eq_false_iff,Bool.not_eq_false']
  have hk:=h2.2 k (by rw[aE];omega)
  rw[jC,gR (by omega),show l.length - (k+1)+k=l.length - 1 from by omega] at hk
  refine⟨⟨h1,hk⟩,by rw[aE,hl,ax];omega,fun i hi=>?_⟩
  rw[aE,hl] at hi
  have:=h2.2 i (by rw[aE];omega)
  rw[jC,gR (by omega)] at this
  rw[jC,gR (by omega),gR (by omega)]
  exact this
def tl (fs:List au) (f:au) (o:bd) (s:List Int):Option (List Int×List Int):=
 if o.c=2 then (if s.length<1 then none else some (s.drop (s.length - 1),[])) else
 if o.c=3 then (if s.length<1 then none else some (s.drop (s.length - 1),[s.getD (s.length - 1) 0,s.getD (s.length - 1) 0])) else
 if o.c=4 then (if s.length<2 then none else some (s.drop (s.length - 2),[s.getD (s.length - 1) 0,s.getD (s.length - 2) 0])) else
 if o.c=8 then some ([],[f.L.getD o.a.toNat 0]) else if o.c=9 then some ([f.L.getD o.a.toNat 0],[]) else
 if o.c=12 then some (hU (av fs o.a.toNat),bP (av fs o.a.toNat)) else
 if o.c=13 then (if s.length≠(bP f).length then none else some (bP f,[])) else some ((bL o.c).1,(bL o.c).2)
def jE (fs:List au) (f:au) (o:bd) (s:List Int):Option (List Int):=if (mj fs f o (s,false)).2=true then none else some (mj fs f o (s,false)).1
theorem lO {fs:List au} {f:au} {o:bd} {s T V:List Int} (h0:gW fs f o (s,false)=rf (dM T T.length (s,false)) V) :
  jE fs f o s=if T.length<=s.length/\(s.take (s.length - T.length)++V).length<=8/\(dM T T.length (s,false)).2=false then some (s.take (s.length - T.length)++V) else none:=by
 obtain⟨l',w',e⟩:∃l' w',dM T T.length (s,false)=(l',w'):=⟨_,_,rfl⟩
 have h1:jE fs f o s=if (w' || decide (8<(l'++V).length))=true then none else some (l'++V):=by
  unfold jE mj
  rw[h0,e]
  rfl
 rw[h1,e]
 by_cases hl:T.length<=s.length
 ·obtain⟨e1,e2⟩:=mL T T.length s false hl (aA _)
  rw[e] at e1
  have e1:l'=s.take (s.length - T.length):=e1
  subst e1
  by_cases h8:(s.take (s.length - T.length)++V).length<=8
  ·cases w'
   ·rw[decide_eq_false (by omega)]
    exact(if_pos ⟨hl,h8,rfl⟩).symm
   rw[Bool.true_or]
   exact(if_neg (fun h=>by cases h.2.2)).symm
  rw[decide_eq_true (by omega),Bool.or_true]
  exact(if_neg (fun h=>h8 h.2.1)).symm
 have:=pI T T.length s false (by omega)
 rw[e] at this
 have this:w'=true:=this
 subst this
 rw[Bool.true_or]
 exact(if_neg (fun h=>hl h.1)).symm
theorem uA {s:List Int} {k:Nat} (h:k+1<=s.length):dM (s.drop (s.length - (k+1))) (k+1) (s,false)=(s.take (s.length - (k+1)),false):=by
 obtain⟨e1,e2⟩:=mL (s.drop (s.length - (k+1))) (k+1) s false h (by rw[aE];omega)
 have:(dM (s.drop (s.length - (k+1))) (k+1) (s,false)).2=false:=e2.2 ⟨rfl,by rw[bg (by rw[aE];omega)];exact .refl _⟩
 exact Prod.ext e1 this
theorem K8 (fs:List au) (f:au) (o:bd) (s:List Int):jE fs f o s=match tl fs f o s with
  | none=>none
  | some (T,V)=>if T.length<=s.length/\(s.take (s.length - T.length)++V).length<=8/\(dM T T.length (s,false)).2=false then some (s.take (s.length - T.length)++V) else none:=by
 unfold tl
 by_cases h2:o.c=2
 ·rw[if_pos h2]
  by_cases hl:s.length<1
  ·rw[if_pos hl]
   have:s= []:=aS (by omega)
   subst this
   unfold jE mj gW
   rw[if_pos h2]
   rfl
  rw[if_neg hl]
  have e:=uA (s:=s) (k:=0) (by omega)
  have hd:(s.drop (s.length - 1)).length=1:=by rw[aE];omega
  refine lO ?_
  rw[hd,e]
  unfold gW
  rw[if_pos h2,mQ (by omega)]
  simp[rf]
 rw[if_neg h2]
 by_cases h3:o.c=3
 ·rw[if_pos h3]
  by_cases hl:s.length<1
  ·rw[if_pos hl]
   have:s= []:=aS (by omega)
   subst this
   unfold jE mj gW
   rw[if_neg h2,if_pos h3]
   rfl
  rw[if_neg hl]
  have e:=uA (s:=s) (k:=0) (by omega)
  have hd:(s.drop (s.length - 1)).length=1:=by rw[aE];omega
  refine lO ?_
  rw[hd,e]
  unfold gW
  rw[if_neg h2,if_pos h3,mQ (by omega)]
 rw[if_neg h3]
 by_cases h4:o.c=4
 ·rw[if_pos h4]
  by_cases hl:s.length<2
  ·rw[if_pos hl]
   unfold jE mj gW
   rw[if_neg h2,if_neg h3,if_pos h4]
   rcases fy s.length with h0 | h0
   ·have:s= []:=aS h0
    subst this
    rfl
   obtain⟨t,rfl⟩:∃t,s= [t]:=by
    match s,h0,hl with
    | [t],_,_=>exact⟨t,rfl⟩
   rfl
  rw[if_neg hl]
  have e:=uA (s:=s) (k:=1) (by omega)
  have hd:(s.drop (s.length - 2)).length=2:=by rw[aE];omega
  refine lO ?_
  rw[hd,e]
  unfold gW
  have hl1:(s.take (s.length - 1)).length=s.length - 1:=by rw[ax];omega
  have p1:fM (s,false)=(s.getD (s.length - 1) 0,s.take (s.length - 1),false):=mQ (by omega)
  have p2:fM (s.take (s.length - 1),false)=(s.getD (s.length - 2) 0,s.take (s.length - 2),false):=by
   rw[mQ (by rw[hl1];omega),hl1,List.take_take,gR (by omega),show min (s.length - 1 - 1) (s.length - 1)=s.length - 2 from by omega,show s.length - 1 - 1=s.length - 2 from by omega]
  rw[if_neg h2,if_neg h3,if_pos h4]
  simp only[p1,p2]
 rw[if_neg h4]
 by_cases h8:o.c=8
 ·rw[if_pos h8]
  refine lO ?_
  unfold gW
  rw[if_neg h2,if_neg h3,if_neg h4,if_pos h8]
  rfl
 rw[if_neg h8]
 by_cases h9:o.c=9
 ·rw[if_pos h9]
  refine lO ?_
  unfold gW
  rw[if_neg h2,if_neg h3,if_neg h4,if_neg h8,if_pos h9]
  simp[rf]
 rw[if_neg h9]
 by_cases h12:o.c=12
 ·rw[if_pos h12]
  refine lO ?_
  unfold gW
  rw[if_neg h2,if_neg h3,if_neg h4,if_neg h8,if_neg h9,if_pos h12]
 rw[if_neg h12]
 by_cases h13:o.c=13
 ·rw[if_pos h13]
  have hS0:gW fs f o (s,false)=((dM (bP f) (bP f).length (s,false)).1,(dM (bP f) (bP f).length (s,false)).2 || decide (0<(dM (bP f) (bP f).length (s,false)).1.length)):=by
   unfold gW
   rw[if_neg h2,if_neg h3,if_neg h4,if_neg h8,if_neg h9,if_neg h12,if_pos h13]
  by_cases hl:s.length≠(bP f).length
  ·rw[if_pos hl]
   have:(gW fs f o (s,false)).2=true:=by
    rw[hS0]
    by_cases hs:s.length<(bP f).length
    ·rw[pI _ _ _ _ hs];rfl
    rw[(mL (bP f) _ s false (by omega) (aA _)).1,ax,decide_eq_true (by omega),Bool.or_true]
   unfold jE mj
   rw[this]
   rfl
  rw[if_neg hl]
  have hl:s.length=(bP f).length:=by simpa using hl
  refine lO ?_
  have e1:=(mL (bP f) _ s false (by omega) (aA _)).1
  rw[hl,rN,List.take_zero] at e1
  rw[hS0]
  obtain⟨l',w',e⟩:∃l' w',dM (bP f) (bP f).length (s,false)=(l',w'):=⟨_,_,rfl⟩
  rw[e] at e1⊢
  have e1:l'= []:=e1
  subst e1
  simp[rf]
 rw[if_neg h13]
 refine lO ?_
 unfold gW
 rw[if_neg h2,if_neg h3,if_neg h4,if_neg h8,if_neg h9,if_neg h12,if_neg h13]
end
section
theorem ko {fs:List au} {f:au} {o:bd} {s v:List Int} :jE fs f o s=some v↔
  ∃T V,tl fs f o s=some (T,V)/\T.length<=s.length/\(s.take (s.length - T.length)++V).length<=8/\Le (s.drop (s.length - T.length)) T/\v=s.take (s.length - T.length)++V:=by
 have hf:∀T:List Int,T.length<=s.length->((dM T T.length (s,false)).2=false↔Le (s.drop (s.length - T.length)) T):=fun T hT=>by
  rw[(mL T T.length s false hT (aA _)).2,aQ]
  simp
 rw[K8]
 constructor
 ·intro h
  cases e:tl fs f o s with
  | none=>rw[e] at h;cases h
  | some p=>
   obtain⟨T,V⟩:=p
   rw[e] at h
   simp only[] at h
   split at h
   ·rename_i hc
    simp only[aU] at h
    exact⟨T,V,rfl,hc.1,hc.2.1,(hf T hc.1).1 hc.2.2,h.symm⟩
   cases h
 rintro⟨T,V,e,h1,h2,h3,rfl⟩
 rw[e]
 simp only[]
 rw[if_pos ⟨h1,h2,(hf T h1).2 h3⟩]
theorem K9 {fs:List au} {f:au} {o:bd} {a b T V:List Int} (h:Le a b) (e:tl fs f o b=some (T,V)) (hT:Le (b.drop (b.length - T.length)) T) (hl:T.length<=b.length) :
  ∃T' V',tl fs f o a=some (T',V')/\T'.length=T.length/\Le (a.drop (a.length - T.length)) T'/\Le V' V:=by
 have hlen:=h.1
 have fix:∀T V:List Int,Le (b.drop (b.length - T.length)) T->Le (a.drop (a.length - T.length)) T:=fun T V hT=>by rw[hlen];exact(h.drop _).trans hT
 have one:∀i,i<a.length->Le [a.getD i 0] [b.getD i 0]:=fun i hi=>⟨rfl,fun j hj=>by
  have:j=0:=by simpa using hj
  subst this
  exact h.2 i hi⟩
 unfold tl at e⊢
 by_cases h2:o.c=2
 ·rw[if_pos h2] at e⊢
  split at e
  ·cases e
  rename_i hb
  simp only[aU,bF] at e
  obtain⟨rfl,rfl⟩:=e
  rw[if_neg (by omega)]
  refine⟨_,_,rfl,by rw[aE,aE,hlen],?_,.refl _⟩
  rw[aE,show b.length - (b.length - 1)=1 from by omega]
  exact .refl _
 rw[if_neg h2] at e⊢
 by_cases h3:o.c=3
 ·rw[if_pos h3] at e⊢
  split at e
  ·cases e
  rename_i hb
  simp only[aU,bF] at e
  obtain⟨rfl,rfl⟩:=e
  rw[if_neg (by omega)]
  refine⟨_,_,rfl,by rw[aE,aE,hlen],?_,?_⟩
  ·rw[aE,show b.length - (b.length - 1)=1 from by omega]
   exact .refl _
  rw[<-hlen]
  exact(one _ (by omega)).app (one _ (by omega))
 rw[if_neg h3] at e⊢
 by_cases h4:o.c=4
 ·rw[if_pos h4] at e⊢
  split at e
  ·cases e
  rename_i hb
  simp only[aU,bF] at e
  obtain⟨rfl,rfl⟩:=e
  rw[if_neg (by omega)]
  refine⟨_,_,rfl,by rw[aE,aE,hlen],?_,?_⟩
  ·rw[aE,show b.length - (b.length - 2)=2 from by omega]
   exact .refl _
  rw[<-hlen]
  exact(one _ (by omega)).app (one _ (by omega))
 rw[if_neg h4] at e⊢
 by_cases h8:o.c=8
 ·rw[if_pos h8] at e⊢
  simp only[aU,bF] at e
  obtain⟨rfl,rfl⟩:=e
  exact⟨_,_,rfl,rfl,fix _ [] hT,.refl _⟩
 rw[if_neg h8] at e⊢
 by_cases h9:o.c=9
 ·rw[if_pos h9] at e⊢
  simp only[aU,bF] at e
  obtain⟨rfl,rfl⟩:=e
  exact⟨_,_,rfl,rfl,fix _ [] hT,.refl _⟩
 rw[if_neg h9] at e⊢
 by_cases h12:o.c=12
 ·rw[if_pos h12] at e⊢
  simp only[aU,bF] at e
  obtain⟨rfl,rfl⟩:=e
  exact⟨_,_,rfl,rfl,fix _ [] hT,.refl _⟩
 rw[if_neg h12] at e⊢
 by_cases h13:o.c=13
 ·rw[if_pos h13] at e⊢
  split at e
  ·cases e
  rename_i hb
  simp only[aU,bF] at e
  obtain⟨rfl,rfl⟩:=e
  rw[if_neg (by omega)]
  exact⟨_,_,rfl,rfl,fix _ [] hT,.refl _⟩
 rw[if_neg h13] at e⊢
 simp only[aU,bF] at e
 obtain⟨rfl,rfl⟩:=e
 exact⟨_,_,rfl,rfl,fix _ [] hT,.refl _⟩
theorem xF {fs:List au} {f:au} {o:bd} {a b v:List Int} (h:Le a b) (e:jE fs f o b=some v):∃u,jE fs f o a=some u/\Le u v:=by
 obtain⟨T,V,e1,e2,e3,e4,rfl⟩:=ko.1 e
 obtain⟨T',V',k1,k2,k3,k4⟩:=K9 h e1 e4 e2
 have hlen:=h.1
 have hle:Le (a.take (a.length - T'.length)++V') (b.take (b.length - T.length)++V):=by
  rw[k2,hlen]
  exact(h.take _).app k4
 exact⟨_,ko.2 ⟨T',V',k1,by rw[k2,hlen];exact e2,by rw[hle.1];exact e3,by rw[k2];exact k3,rfl⟩,hle⟩
def Ty (l:List Int):Prop:= ∀t∈l,1<=t/\t<=3
structure Cj (fs:List au) (f:au):Prop where
 loc:Ty f.L
 res:∀k,k<fs.length->(0<=(av fs k).result/\(av fs k).result<=2)
theorem Ty.app {a b:List Int} (h1:Ty a) (h2:Ty b):Ty (a++b):=fun t ht=>by
 rcases cG.1 ht with h | h
 ·exact h1 t h
 exact h2 t h
theorem Ty.at_ {a:List Int} (h:Ty a) {i:Nat} (hi:i<a.length):1<=a.getD i 0/\a.getD i 0<=3:=by
 rw[ak,ap hi]
 exact h _ (cR hi)
theorem Ty.one {t:Int} (h:1<=t/\t<=3):Ty [t]:=fun x hx=>by rw[bN.1 hx];exact h
theorem Ty.two {t u:Int} (h:1<=t/\t<=3) (h2:1<=u/\u<=3):Ty [t,u]:=fun x hx=>by
 rcases dd.1 hx with rfl | hx
 ·exact h
 rw[bN.1 hx];exact h2
theorem K7 {fs:List au} {f:au} {o:bd} {s v:List Int} (ht:Cj fs f) (hok:Kz fs f o) (hs:Ty s) (e:jE fs f o s=some v):Ty v:=by
 obtain⟨T,V,e1,e2,e3,e4,rfl⟩:=ko.1 e
 refine Ty.app (fun t h=>hs t (kU h)) ?_
 have nil:Ty []:=fun _ h=>by cases h
 have res:∀k,k<fs.length->Ty (bP (av fs k)):=fun k hk=>by
  unfold bP
  split
  ·exact nil
  rename_i hr
  have:=ht.res k hk
  exact .one (by omega)
 unfold tl at e1
 split at e1
 ·split at e1
  ·cases e1
  simp only[aU,bF] at e1
  obtain⟨rfl,rfl⟩:=e1
  exact nil
 split at e1
 ·split at e1
  ·cases e1
  simp only[aU,bF] at e1
  obtain⟨rfl,rfl⟩:=e1
  exact .two (hs.at_ (by omega)) (hs.at_ (by omega))
 split at e1
 ·split at e1
  ·cases e1
  simp only[aU,bF] at e1
  obtain⟨rfl,rfl⟩:=e1
  exact .two (hs.at_ (by omega)) (hs.at_ (by omega))
 split at e1
 ·rename_i h8
  simp only[aU,bF] at e1
  obtain⟨rfl,rfl⟩:=e1
  have:=hok.loc (.inl h8)
  exact .one (ht.loc.at_ (by omega))
 split at e1
 ·simp only[aU,bF] at e1
  obtain⟨rfl,rfl⟩:=e1
  exact nil
 split at e1
 ·rename_i h12
  simp only[aU,bF] at e1
  obtain⟨rfl,rfl⟩:=e1
  have:=hok.call h12
  exact res _ (by omega)
 split at e1
 ·split at e1
  ·cases e1
  simp only[aU,bF] at e1
  obtain⟨rfl,rfl⟩:=e1
  exact nil
 simp only[aU,bF] at e1
 obtain⟨rfl,rfl⟩:=e1
 unfold bL
 repeat (first | split | exact nil | exact .one (by decide) | exact .two (by decide) (by decide))
theorem Kt {a b c:Int} (hc:1<=c/\c<=3) (h1:cn a c=true) (h2:cn b c=true):dh a b≠0/\cn (dh a b) c=true:=by
 rw[zL] at h1 h2
 rcases t3 hc with rfl | rfl | rfl
 ·have e1:a=1:=by omega
  have e2:b=1:=by omega
  subst e1 e2;decide
 ·rcases h1 with rfl | ⟨rfl,_⟩ <;> rcases h2 with rfl | ⟨rfl,_⟩ <;> decide
 have e1:a=3:=by omega
 have e2:b=3:=by omega
 subst e1 e2;decide
theorem Le.cons_iff {a b:Int} {l m:List Int} :Le (a::l) (b::m)↔cn a b=true/\Le l m:=by
 constructor
 ·intro h
  refine⟨h.2 0 (by simp),by simpa using h.1,fun i hi=>?_⟩
  have:=h.2 (i+1) (by simpa using hi)
  simpa using this
 rintro⟨h1,h2⟩
 refine⟨by simp[h2.1],fun i hi=>?_⟩
 cases i with
 | zero=>simpa using h1
 | succ i=>simpa using h2.2 i (by simpa using hi)
theorem xi:∀{a b c:List Int},Ty c->Le a c->Le b c->∃j,bu a b=some j/\Le j c
 | [],[],c,_,h,_=>⟨[],rfl,h⟩
 | [],_::_,c,_,h,h'=>by have:=h.1.trans h'.1.symm;simp at this
 | _::_,[],c,_,h,h'=>by have:=h.1.trans h'.1.symm;simp at this
 | a::l,b::m,[],_,h,_=>by have:=h.1;simp at this
 | a::l,b::m,c::n,ht,h,h'=>by
  obtain⟨h1,h2⟩:=Le.cons_iff.1 h
  obtain⟨h3,h4⟩:=Le.cons_iff.1 h'
  obtain⟨k1,k2⟩:=Kt (ht c (by simp)) h1 h3
  obtain⟨j,k3,k4⟩:=xi (fun t h=>ht t (by simp[h])) h2 h4
  refine⟨dh a b::j,?_,Le.cons_iff.2 ⟨k2,k4⟩⟩
  simp only[bu]
  rw[if_neg k1,k3]
  rfl
theorem Me {a b j:List Int} (h:bu a b=some j):Le a j/\Le b j:=by
 have hl:=lU h
 exact⟨⟨by omega,fun i hi=>(pL h (by omega)).1⟩,⟨by omega,fun i hi=>(pL h (by omega)).2⟩⟩
structure tg (fs:List au) (f:au) (M:Nat->Option (List Int)):Prop where
 m0:M 0=some []
 ok:∀k s,M k=some s->k<f.C.length/\Ty s/\∃v,jE fs f (bt f.C k) s=some v/\∀q∈dm (bt f.C k) k,∃s',M q.toNat=some s'/\Le v s'
structure tj (fs:List au) (f:au) (s:ew):Prop where
 m0:s.met.getD 0 false=true
 a0:s.at_.getD 0 []= []
 ty:∀i,s.met.getD i false=true->Ty (s.at_.getD i [])
 le:∀M,tg fs f M->∀i,s.met.getD i false=true->∃t,M i=some t/\Le (s.at_.getD i []) t
structure Up (s s':ew):Prop where
 up:∀i,s.met.getD i false=true->s'.met.getD i false=true/\Le (s.at_.getD i []) (s'.at_.getD i [])
 old:∀i,s'.met.getD i false=true->(s.met.getD i false=true/\s'.at_.getD i []=s.at_.getD i [])\/(i:Int)∈s'.todo
 td:∀x∈s.todo,x∈s'.todo
theorem Up.refl (s:ew):Up s s:=⟨fun _ h=>⟨h,.refl _⟩,fun _ h=> .inl ⟨h,rfl⟩,fun _ h=>h⟩
theorem Up.trans {a b c:ew} (h1:Up a b) (h2:Up b c):Up a c:=
 ⟨fun i h=>by
  obtain⟨k1,k2⟩:=h1.up i h
  obtain⟨k3,k4⟩:=h2.up i k1
  exact⟨k3,k2.trans k4⟩,fun i h=>by
  rcases h2.old i h with ⟨k1,k2⟩ | k
  ·rcases h1.old i k1 with ⟨k3,k4⟩ | k3
   ·exact .inl ⟨k3,k2.trans k4⟩
   exact .inr (h2.td _ k3)
  exact .inr k,fun x h=>h2.td x (h1.td x h)⟩
theorem GR {n:Nat} {s:ew} (h:ia n s) {i:Nat} (hm:s.met.getD i false=true):i<n:=by
 rcases jq i n with h' | h'
 ·exact h'
 rw[ak,aT (by rw[h.ml];exact h')] at hm
 cases hm
theorem Kn {fs:List au} {f:au} {s:ew} (hF:ia f.C.length s) (hI:tj fs f s) {k:Nat} (hk:k<=f.C.length) {l:List Int} (hl:Ty l) (hle:∀M,tg fs f M->∃t,M k=some t/\Le l t) :
  ((dq f.C.length s k l).1=true->tj fs f (dq f.C.length s k l).2/\Up s (dq f.C.length s k l).2/\(dq f.C.length s k l).2.met.getD k false=true/\Le l ((dq f.C.length s k l).2.at_.getD k []))/\
  ((dq f.C.length s k l).1=false->∀M,¬tg fs f M):=by
 have set_:k<f.C.length->∀j:List Int,Ty j->(k=0->j= [])->(s.met.getD k false=true->Le (s.at_.getD k []) j)->Le l j->(∀M,tg fs f M->∃t,M k=some t/\Le j t)->
   tj fs f ⟨s.at_.set k j,s.met.set k true,s.todo++ [(k:Int)]⟩/\Up s ⟨s.at_.set k j,s.met.set k true,s.todo++ [(k:Int)]⟩/\(s.met.set k true).getD k false=true/\Le l ((s.at_.set k j).getD k []):=by
  intro hkn j hj h0 hup hlj hlm
  have hA:∀i,(s.at_.set k j).getD i []=if i=k then j else s.at_.getD i []:=fun i=>ig (by rw[hF.al];exact hkn)
  have hM:∀i,(s.met.set k true).getD i false=if i=k then true else s.met.getD i false:=fun i=>ig (by rw[hF.ml];exact hkn)
  refine⟨⟨?_,?_,fun i hi=>?_,fun M hMs i hi=>?_⟩,⟨fun i hi=>?_,fun i hi=>?_,fun x hx=>fQ _ hx⟩,?_,?_⟩
  ·show (s.met.set k true).getD 0 false=true
   rw[hM]
   split
   ·rfl
   exact hI.m0
  ·show (s.at_.set k j).getD 0 []= []
   rw[hA]
   split
   ·rename_i e;exact h0 e.symm
   exact hI.a0
  ·show Ty ((s.at_.set k j).getD i [])
   have hi:(s.met.set k true).getD i false=true:=hi
   rw[hA]
   rw[hM] at hi
   split
   ·exact hj
   rename_i e;rw[if_neg e] at hi;exact hI.ty i hi
  ·show∃t,M i=some t/\Le ((s.at_.set k j).getD i []) t
   have hi:(s.met.set k true).getD i false=true:=hi
   rw[hA]
   rw[hM] at hi
   split
   ·rename_i e;subst e;exact hlm M hMs
   rename_i e;rw[if_neg e] at hi;exact hI.le M hMs i hi
  ·show (s.met.set k true).getD i false=true/\Le (s.at_.getD i []) ((s.at_.set k j).getD i [])
   rw[hA,hM]
   split
   ·rename_i e;subst e;exact⟨rfl,hup hi⟩
   exact⟨hi,.refl _⟩
  ·have hi:(s.met.set k true).getD i false=true:=hi
   rw[hM] at hi
   by_cases e:i=k
   ·subst e;right;exact gK _ (by simp)
   rw[if_neg e] at hi
   left
   refine⟨hi,?_⟩
   show (s.at_.set k j).getD i []=_
   rw[hA,if_neg e]
  ·rw[hM,if_pos rfl]
  rw[hA,if_pos rfl];exact hlj
 unfold dq
 split
 ·rename_i hkn
  refine⟨fun h=>(by cases h),fun _ M hMs=>?_⟩
  obtain⟨t,h1,_⟩:=hle M hMs
  have:=(hMs.ok k t h1).1
  omega
 rename_i hkn
 split
 ·rename_i hm
  split
  ·rename_i hj
   refine⟨fun h=>(by cases h),fun _ M hMs=>?_⟩
   obtain⟨t,h1,h2⟩:=hle M hMs
   obtain⟨t',h3,h4⟩:=hI.le M hMs k hm
   rw[h1] at h3
   cases h3
   obtain⟨j,h5,_⟩:=xi (hMs.ok k t h1).2.1 h4 h2
   rw[hj] at h5
   cases h5
  rename_i j hj
  have hu:=Me hj
  split
  ·rename_i he
   refine⟨fun _=>⟨hI,.refl _,hm,by rw[<-he];exact hu.2⟩,fun h=>(by cases h)⟩
  rename_i he
  refine⟨fun _=>set_ (by omega) j (Bl hj (hI.ty k hm) hl) (fun e=>?_) (fun _=>hu.1) hu.2 (fun M hMs=>?_),fun h=>(by cases h)⟩
  ·subst e
   rw[hI.a0] at hj
   have:=(lU hj).2
   exact aS this
  obtain⟨t,h1,h2⟩:=hle M hMs
  obtain⟨t',h3,h4⟩:=hI.le M hMs k hm
  rw[h1] at h3
  cases h3
  obtain⟨j',h5,h6⟩:=xi (hMs.ok k t h1).2.1 h4 h2
  rw[hj] at h5
  cases h5
  exact⟨t,h1,h6⟩
 rename_i hm
 refine⟨fun _=>set_ (by omega) l hl (fun e=>?_) (fun h=>absurd h hm) (.refl _) hle,fun h=>(by cases h)⟩
 subst e
 exact absurd hI.m0 hm
theorem yr {fs:List au} {f:au} :∀{L:List Int} {s:ew} {l:List Int},ia f.C.length s->tj fs f s->(∀q∈L,0<=q/\q<=f.C.length)->l.length<=8->s.todo.length+L.length<5000->Ty l->(∀M,tg fs f M->∀q∈L,∃t,M q.toNat=some t/\Le l t)->
  (∀s',dB f.C.length s L l=some s'->tj fs f s'/\Up s s'/\∀q∈L,s'.met.getD q.toNat false=true/\Le l (s'.at_.getD q.toNat []))/\(dB f.C.length s L l=none->∀M,¬tg fs f M)
 | [],s,l,hF,hI,_,_,_,_,_=>by
  refine⟨fun s' e=>?_,fun e=>by simp[dB] at e⟩
  simp only[dB,aU] at e
  subst e
  exact⟨hI,.refl _,fun q h=>by cases h⟩
 | a::L,s,l,hF,hI,hq,h8,ht,hl,hle=>by
  have ha:=hq a (by simp)
  rw[aR] at ht
  obtain⟨k1,k2⟩:=Kn hF hI (k:=a.toNat) (by omega) hl (fun M hM=>hle M hM a (by simp))
  obtain⟨f1,f2⟩:=na hF (k:=a.toNat) (by omega) h8 (by omega)
  simp only[dB]
  cases hb:(dq f.C.length s a.toNat l).1
  ·simp only[mG,if_false]
   exact⟨fun s' e=>(by cases e),fun _=>k2 hb⟩
  simp only[if_true]
  obtain⟨i1,i2,i3,i4⟩:=k1 hb
  obtain⟨j1,j2⟩:=yr (L:=L) (l:=l) f1 i1 (fun q h=>hq q (by simp[h])) h8 (by omega) hl (fun M hM q h=>hle M hM q (by simp[h]))
  refine⟨fun s' e=>?_,j2⟩
  obtain⟨m1,m2,m3⟩:=j1 s' e
  refine⟨m1,i2.trans m2,fun q h=>?_⟩
  rcases dd.1 h with rfl | h
  ·obtain⟨n1,n2⟩:=m2.up _ i3
   exact⟨n1,i4.trans n2⟩
  exact m3 q h
def Dn (fs:List au) (f:au) (s:ew) (i:Nat):Prop:= ∃v,jE fs f (bt f.C i) (s.at_.getD i [])=some v/\∀q∈dm (bt f.C i) i,s.met.getD q.toNat false=true/\Le v (s.at_.getD q.toNat [])
def Wk (fs:List au) (f:au) (s:ew):Prop:= ∀i:Nat,s.met.getD i false=true->(i:Int)∈s.todo\/Dn fs f s i
theorem Dn.up {fs:List au} {f:au} {s s':ew} {i:Nat} (h:Dn fs f s i) (hu:Up s s') (e:s'.at_.getD i []=s.at_.getD i []):Dn fs f s' i:=by
 obtain⟨v,h1,h2⟩:=h
 refine⟨v,by rw[e];exact h1,fun q hq=>?_⟩
 obtain⟨k1,k2⟩:=h2 q hq
 obtain⟨k3,k4⟩:=hu.up _ k1
 exact⟨k3,k2.trans k4⟩
theorem zB {fs:List au} {f:au} {o:bd} {s v:List Int} (h:jE fs f o s=some v):v.length<=8:=by
 obtain⟨T,V,_,_,h3,_,rfl⟩:=ko.1 h
 exact h3
def Tm (s:ew):Prop:= ∀x∈s.todo,s.met.getD x.toNat false=true
theorem No {n:Nat} {s:ew} (hF:ia n s) (h:Tm s) {k:Nat} (hk:k<=n) (l:List Int):Tm (dq n s k l).2:=by
 have set_:k≠n->∀j:List Int,Tm ⟨s.at_.set k j,s.met.set k true,s.todo++ [(k:Int)]⟩:=fun hne j x hx=>by
  show (s.met.set k true).getD x.toNat false=true
  rw[ig (by rw[hF.ml];omega)]
  split
  ·rfl
  rename_i e
  rcases cG.1 hx with hx | hx
  ·exact h x hx
  rw[bN.1 hx] at e;exact absurd (bj k) e
 unfold dq
 split
 ·exact h
 rename_i hne
 split
 ·split
  ·exact h
  split
  ·exact h
  exact set_ hne _
 exact set_ hne _
theorem BP {n:Nat} :∀{L:List Int} {s s':ew} {l:List Int},ia n s->Tm s->(∀q∈L,0<=q/\q<=n)->l.length<=8->s.todo.length+L.length<5000->dB n s L l=some s'->Tm s'
 | [],s,s',l,_,h,_,_,_,e=>by
  simp only[dB,aU] at e
  subst e
  exact h
 | a::L,s,s',l,hF,h,hq,h8,ht,e=>by
  simp only[dB] at e
  split at e
  ·have ha:=hq a (by simp)
   rw[aR] at ht
   obtain⟨f1,f2⟩:=na hF (k:=a.toNat) (by omega) h8 (by omega)
   exact BP f1 (No hF h (by omega) l) (fun q h=>hq q (by simp[h])) h8 (by omega) e
  cases e
theorem IV {fs:List au} {f:au} (hok:pS fs f) (hty:Cj fs f) {s:ew} (hF:ia f.C.length s) (hI:tj fs f s) (hW:Wk fs f s) (htm:Tm s) (ht:0<s.todo.length) (ht2:s.todo.length<=4000) :
  (∀s',ls fs f s=some s'->tj fs f s'/\Wk fs f s'/\Tm s')/\(ls fs f s=none->∀M,¬tg fs f M):=by
 obtain⟨n,hn⟩:∃n,s.todo.length=n+1:=⟨s.todo.length - 1,by omega⟩
 have hget:s.todo[n]? =some (s.todo.getD n 0):=by rw[ak,ap (by omega)];rfl
 have hmem:s.todo.getD n 0∈s.todo:=eP hget
 have htd:=hF.td _ hmem
 have hmk:=htm _ hmem
 obtain⟨k,hk⟩:∃k:Nat,s.todo.getD n 0=(k:Int):=⟨(s.todo.getD n 0).toNat,by omega⟩
 rw[hk,bj] at hmk
 have hkl:k<f.C.length:=by omega
 have e:ls fs f s=match jE fs f (bt f.C k) (s.at_.getD k []) with
   | none=>none
   | some v=>dB f.C.length ⟨s.at_,s.met,s.todo.take n⟩ (dm (bt f.C k) k) v:=by
  unfold ls jE
  dsimp only
  rw[show s.todo.length - 1=n from by omega,hk,bj]
  split <;> rfl
 have hF0:ia f.C.length ⟨s.at_,s.met,s.todo.take n⟩:=⟨hF.al,hF.ml,by show (s.todo.take n).length<=_;rw[ax];omega,hF.st,fun x hx=>hF.td x (kU hx)⟩
 have hI0:tj fs f ⟨s.at_,s.met,s.todo.take n⟩:=⟨hI.m0,hI.a0,hI.ty,hI.le⟩
 have hT0:Tm ⟨s.at_,s.met,s.todo.take n⟩:=fun x hx=>htm x (kU hx)
 have hl2:=rI (bt f.C k) k
 have hlt:(s.todo.take n).length+(dm (bt f.C k) k).length<5000:=by rw[ax];omega
 rw[e]
 cases hv:jE fs f (bt f.C k) (s.at_.getD k []) with
 | none=>
  refine⟨fun s' h=>(by cases h),fun _ M hM=>?_⟩
  obtain⟨t,h1,h2⟩:=hI.le M hM k hmk
  obtain⟨_,_,v,h3,_⟩:=hM.ok k t h1
  obtain⟨u,h4,_⟩:=xF h2 h3
  rw[hv] at h4
  cases h4
 | some v=>
  obtain⟨c1,c2⟩:=yr hF0 hI0 (hok.to_ k hkl) (zB hv) hlt (K7 hty (hok.op k hkl) (hI.ty k hmk) hv) (fun M hM q hq=>by
   obtain⟨t,h1,h2⟩:=hI.le M hM k hmk
   obtain⟨_,_,v',h3,h4⟩:=hM.ok k t h1
   obtain⟨u,h5,h6⟩:=xF h2 h3
   rw[hv] at h5
   cases h5
   obtain⟨s',h7,h8⟩:=h4 q hq
   exact⟨s',h7,h6.trans h8⟩)
  refine⟨fun s' h=>?_,c2⟩
  obtain⟨i1,i2,i3⟩:=c1 s' h
  refine⟨i1,fun i hi=>?_,BP hF0 hT0 (hok.to_ k hkl) (zB hv) hlt h⟩
  rcases i2.old i hi with ⟨h1,h2⟩ | h1
  ·rcases hW i h1 with h3 | h3
   ·by_cases hx:(i:Int)∈s.todo.take n
    ·exact .inl (i2.td _ hx)
    have:(i:Int)=k:=by
     rw[<-mE n s.todo] at h3
     rcases cG.1 h3 with h3 | h3
     ·exact absurd h3 hx
     have:s.todo.drop n= [s.todo.getD n 0]:=by
      rw[nk (by omega),List.drop_of_length_le (by omega)]
      rw[ak,ap (by omega)]
      rfl
     rw[this,bN,hk] at h3
     exact h3
    have:i=k:=by omega
    subst this
    right
    have h2:s'.at_.getD i []=s.at_.getD i []:=h2
    exact⟨v,by rw[h2];exact hv,i3⟩
   exact .inr (Dn.up (s:=⟨s.at_,s.met,s.todo.take n⟩) h3 i2 h2)
  exact .inl h1
theorem Bg {fs:List au} {f:au} (hok:pS fs f) (hty:Cj fs f):∀(k:Nat) {s:ew},ia f.C.length s->tj fs f s->Wk fs f s->Tm s->mu f.C.length s<=4000->mu f.C.length s<k->
  (∀s',kN fs f k s=some s'->ia f.C.length s'/\tj fs f s'/\(∀i:Nat,s'.met.getD i false=true->Dn fs f s' i))/\(kN fs f k s=none->∀M,¬tg fs f M)
 | 0,_,_,_,_,_,_,h=>absurd h (lJ _)
 | k+1,s,hF,hI,hW,hT,h4,hk=>by
  simp only[kN]
  by_cases h0:s.todo.length=0
  ·simp only[h0,if_true]
   refine⟨fun s' e=>?_,fun e=>(by cases e)⟩
   simp only[aU] at e
   subst e
   refine⟨hF,hI,fun i hi=>?_⟩
   rcases hW i hi with h | h
   ·rw[aS h0] at h;cases h
   exact h
  simp only[h0,if_false]
  have htl:s.todo.length<=4000:=by unfold mu at h4;omega
  obtain⟨c1,c2⟩:=IV hok hty hF hI hW hT (by omega) htl
  cases e:ls fs f s with
  | none=>exact⟨fun s' h=>(by cases h),fun _=>c2 e⟩
  | some s1=>
   obtain⟨i1,i2,i3⟩:=c1 s1 e
   obtain⟨j1,j2⟩:=uC hok hF (by omega) htl e
   exact Bg hok hty k j1 i1 i2 i3 (by omega) (by omega)
def MO (s:ew) (i:Nat):Option (List Int):=if s.met.getD i false=true then some (s.at_.getD i []) else none
theorem nh {s:ew} {i:Nat} {t:List Int} :MO s i=some t↔s.met.getD i false=true/\s.at_.getD i []=t:=by
 unfold MO
 split
 ·rename_i h
  exact⟨fun e=>⟨h,eh e⟩,fun e=>by rw[e.2]⟩
 rename_i h
 exact⟨fun e=>(by cases e),fun e=>absurd e.1 h⟩
theorem EY {fs:List au} {f:au} (hok:pS fs f) (hty:Cj fs f) (hn:0<f.C.length) :
  (∀s,pP fs f=some s->ia f.C.length s/\tg fs f (MO s)/\∀M,tg fs f M->∀i t,MO s i=some t->∃u,M i=some u/\Le t u)/\(pP fs f=none->∀M,¬tg fs f M):=by
 have hst:gN f.C.length=⟨(List.replicate f.C.length ([]:List Int)).set 0 [],(List.replicate f.C.length false).set 0 true,[0]⟩:=by
  unfold gN dq fS
  rw[if_neg (by omega),if_neg (by rw[oF];decide)]
  rfl
 have hA:∀i,(gN f.C.length).at_.getD i []= []:=fun i=>by
  rw[hst]
  show ((List.replicate f.C.length ([]:List Int)).set 0 []).getD i []= []
  rw[ig (by simpa using hn)]
  split
  ·rfl
  exact oF _ _ _
 have hM:∀i,(gN f.C.length).met.getD i false=if i=0 then true else false:=fun i=>by
  rw[hst]
  show ((List.replicate f.C.length false).set 0 true).getD i false=_
  rw[ig (by simpa using hn)]
  split
  ·rfl
  exact oF _ _ _
 have z:∀i,(gN f.C.length).met.getD i false=true->i=0:=fun i h=>by
  rw[hM] at h
  by_cases e:i=0
  ·exact e
  rw[if_neg e] at h;cases h
 have hI:tj fs f (gN f.C.length):=⟨by rw[hM];rfl,hA 0,fun i _=>by rw[hA];exact fun _ h=>(by cases h),fun M h i hi=>by
  have:=z i hi
  subst this
  exact⟨[],h.m0,by rw[hA];exact .refl _⟩⟩
 have hW:Wk fs f (gN f.C.length):=fun i hi=>by
  have:=z i hi
  subst this
  left
  rw[hst]
  simp
 have hT:Tm (gN f.C.length):=fun x hx=>by
  rw[hst] at hx
  have:x=0:=by simpa using hx
  subst this
  rw[hM];rfl
 obtain⟨o1,o2⟩:=xI hn
 have h40:=hok.n40
 obtain⟨c1,c2⟩:=Bg hok hty (mu f.C.length (gN f.C.length)+1) o1 hI hW hT (by omega) (by omega)
 refine⟨fun s e=>?_,c2⟩
 obtain⟨k1,k2,k3⟩:=c1 s e
 refine⟨k1,⟨nh.2 ⟨k2.m0,k2.a0⟩,fun i t h=>?_⟩,fun M hMs i t h=>?_⟩
 ·obtain⟨h1,h2⟩:=nh.1 h
  subst h2
  refine⟨GR k1 h1,k2.ty i h1,?_⟩
  obtain⟨v,h3,h4⟩:=k3 i h1
  refine⟨v,h3,fun q hq=>?_⟩
  obtain⟨h5,h6⟩:=h4 q hq
  exact⟨_,nh.2 ⟨h5,rfl⟩,h6⟩
 obtain⟨h1,h2⟩:=nh.1 h
 subst h2
 exact k2.le M hMs i h1
theorem PW {fs:List au} (h:dC fs=0) {k:Nat} (hk:k<fs.length):Cj fs (av fs k):=by
 obtain⟨_,_,hall⟩:=iu h
 obtain⟨_,_,_,h4,_⟩:=kw (hall _ (jg hk))
 refine⟨fun t ht=>?_,fun j hj=>?_⟩
 ·have:=h4 t ht;omega
 obtain⟨_,_,g3,_⟩:=kw (hall _ (jg hj))
 exact g3
end
