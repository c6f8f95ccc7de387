/- Lemmas of one proof. -/
import Derived.Test.YthfkmcbblnbfaaaGreatDoorM0R
import Derived.Test.YthfkmcbblnbfaaaGreatDoorM51R
import Derived.Test.YthfkmcbblnbfaaaGreatDoorM45R

namespace Go.Proofs.YthfkmcbblnbfaaaGreatDoor
set_option maxRecDepth 100000
set_option maxHeartbeats 16000000
open Go.RowKit
section
section
variable {B:Nat} {w0:World} {H:List aJ}
def GH (B:Nat) (w0:World) (H:List aJ) (gb:Nat) (bs:List UInt8) (e:Ending) (w':World):Prop:= ∃g:Option Addr×Nat,True/\e= .returned (.tuple #[])/\Cw B w0 (am gb [.slice g.1 bs.length g.2] 228::ak (.slice g.1 bs.length g.2) bs::H) w'
theorem mH (gb:Nat) (xs:List Int) (A:Option Addr) (c:Nat) (hs:SF B w0 H A xs.length c xs) (bs:List UInt8) (Ab:Option Addr) (cb:Nat) (hbd:bs.length+xs.length<=1000000) (w:World) (hw:Cw B w0 (am gb [.slice Ab bs.length cb] 228::ak (.slice Ab bs.length cb) bs::H) w) :
  Calls Tryz.prog 171 #[.pointer (some ⟨gb,0,none⟩),.slice A xs.length c] w (GH B w0 H gb (bs++xs.map aR)):=by
 refine bG Tryz.func171 rfl Tryz.ntmps171 rfl hw<|aj ?_
 refine dA (fun g:Nat×Option Addr×Nat=>g.1<=xs.length) (fun g=>xs.length - g.1) (fun g=> [(0,.pointer (some ⟨gb,0,none⟩)),(6,.slice A xs.length c),(7,.int .i64 (xs.length:Int)),(8,.int .i64 (g.1:Int))]) (fun g=> [am gb [.slice g.2.1 (bs++(xs.take g.1).map aR).length g.2.2] 228,ak (.slice g.2.1 (bs++(xs.take g.1).map aR).length g.2.2) (bs++(xs.take g.1).map aR)]++H) (0,Ab,cb) (aX _) ?_ (hh:=(fun _ h=>by simpa using h))
 rintro⟨j,Aj,cj⟩ hj'
 try dsimp only
 have hj:j<=xs.length:=hj'
 have hlj:(bs++(xs.take j).map aR).length<=bs.length+xs.length:=by rw[ar,aQ,aA];omega
 refine av (fun hlt=>?_) (fun hlt=>?_)
 ·have hjl:j<xs.length:=by omega
  refine aj ?_
  refine cS (_) rfl ((.s (.s hs))) ?_
  refine ma rfl ((.s (.s hs)))<|aj ?_
  refine sE (HQ tC pf rfl rfl)<|aj ?_
  intro g1 _
  refine oE (cH (α:=UInt8) (bytes:=1) (aR (xs.getD j 0)) [] (Cr hjl) lc (aV oS) rfl (eD fc fc) (dm trivial) (by omega) (by omega) rfl rfl rfl) (fun⟨A4,c4⟩ _=>?_)
  refine aO ?_
  refine cU (j+1,A4,c4) (by show j+1<=_;omega) (by show _ - _<_ - _;omega) (hh:=(fun _ h=>h.msub ms))
 obtain rfl:j=xs.length:=by omega
 refine aj ?_
 intro w hw
 refine⟨(Aj,cj),trivial,rfl,?_⟩
 rw[aT] at hw
 exact hw.msub ms
theorem pw {α:Type} {f:α->List UInt8} {l:List α} {k:Nat} (hk:k<l.length) (d:α) (b:List UInt8):b++(l.take (k+1)).flatMap f=(b++(l.take k).flatMap f)++f (l.getD k d):=by
 rw[dh hk,mQ,bD,an,ap hk]
 simp
theorem sO {α:Type} {f:α->List UInt8} {m:Nat} (l:List α) (h:∀x∈l,(f x).length<=m) (k:Nat):((l.take k).flatMap f).length<=m*l.length:=by
 induction l generalizing k with
 | nil=>simp
 | cons x l ih=>
  cases k with
  | zero=>simp
  | succ k=>
   have h1:=h x (by simp)
   have h2:=ih (fun y hy=>h y (by simp[hy])) k
   rw[gE,eV,ar,bd,Nat.mul_add]
   omega
theorem ul {α:Type} {f:α->List UInt8} {m:Nat} (l:List α) (h:∀x∈l,(f x).length<=m):(l.flatMap f).length<=m*l.length:=by
 have:=sO l h l.length
 rwa [aT] at this
theorem H9 (l:List Int):(it l).length=1+(l.flatMap eA).length:=by simp[it];omega
theorem E6 (l:List Int) (k:Nat):((l.take k).flatMap eA).length<=4*l.length:=sO l (fun _ _=>aK 4) k
theorem uL (l:List aC) (k:Nat):((l.take k).flatMap iA).length<=5*l.length:=sO l (fun _ _=>aK 5) k
theorem tF (gb:Nat) (xs:List Int) (A:Option Addr) (c:Nat) (hs:bJ w0 B (.slice A xs.length c) xs) (bs:List UInt8) (Ab:Option Addr) (cb:Nat) (hbd:bs.length+4*xs.length+1<=1000000) (w:World) (hw:Cw B w0 (am gb [.slice Ab bs.length cb] 228::ak (.slice Ab bs.length cb) bs::H) w) :
  Calls Tryz.prog 172 #[.pointer (some ⟨gb,0,none⟩),.slice A xs.length c] w (GH B w0 H gb (bs++it xs)):=by
 have hl1:(bs++ [aR (xs.length:Int)]).length=bs.length+1:=by simp
 refine bG Tryz.func172 rfl Tryz.ntmps172 rfl hw<|aj ?_
 intro g1 _
 refine ee (fun w h=>bt (α:=Int) (m:=1) [(xs.length:Int)] rfl (fT (by unfold aH;omega)) rfl (by decide) h) ?_
 refine cT rfl rS (fun w hw=>mH gb [(xs.length:Int)] _ _ (.own rfl .a) bs Ab cb (by show _+1<=_;omega) w (hw.msub (.s fc (.s fc .r)))) (fun⟨A1,c1⟩ _=>?_)
 refine aO ?_
 refine dA (fun g:Nat×Option Addr×Nat=>g.1<=xs.length) (fun g=>xs.length - g.1) (fun g=> [(0,.pointer (some ⟨gb,0,none⟩)),(11,.slice A xs.length c),(12,.int .i64 (xs.length:Int)),(13,.int .i64 (g.1:Int))]) (fun g=> [am gb [.slice g.2.1 ((bs++ [aR xs.length])++(xs.take g.1).flatMap eA).length g.2.2] 228,ak (.slice g.2.1 ((bs++ [aR xs.length])++(xs.take g.1).flatMap eA).length g.2.2) ((bs++ [aR xs.length])++(xs.take g.1).flatMap eA)]++H) (0,A1,c1) (aX _) ?_ (hh:=(fun w h=>by have h:=h.msub (T:=am gb _ _::ak _ (bs++ [aR (xs.length:Int)])::H) ms;simpa using h))
 rintro⟨j,Aj,cj⟩ hj'
 try dsimp only
 have hj:j<=xs.length:=hj'
 have h4:=E6 xs j
 have hlj:((bs++ [aR (xs.length:Int)])++(xs.take j).flatMap eA).length<=bs.length+1+4*xs.length:=by rw[ar,hl1];omega
 refine av (fun hlt=>?_) (fun hlt=>?_)
 ·have hjl:j<xs.length:=by omega
  refine aj ?_
  refine cS (_) rfl ((.ro hs)) ?_
  refine ma rfl ((.ro hs))<|aj ?_
  refine fx [0,3,6,9,12,15,20,23,24,27,32] [10] rfl [am gb [.slice Aj ((bs++ [aR (xs.length:Int)])++(xs.take j).flatMap eA).length cj] 228]<|aj ?_
  refine km rfl rfl Tryz.call176 (fun w hw=>wE (xs.getD j 0) w) ?_
  refine pE rfl (yW (bytes:=1) (pw hjl 0 _) lc iW (aV oS) rfl fc (by show _+4<=_;omega) (by show (_+4)*1<=_;omega) rfl rfl rfl) (fun⟨A4,c4⟩ _=>?_)
  refine aO ?_
  refine cU (j+1,A4,c4) (by show j+1<=_;omega) (by show _ - _<_ - _;omega) (hh:=(fun _ h=>h.msub ms))
 obtain rfl:j=xs.length:=by omega
 refine aj ?_
 intro w hw
 refine⟨(Aj,cj),trivial,rfl,?_⟩
 rw[aT,show (bs++ [aR (xs.length:Int)])++xs.flatMap eA=bs++it xs from by simp[it]] at hw
 exact hw.msub ms
theorem zn (gb:Nat) (xs:List aC) (A:Option Addr) (c:Nat) (hs:bJ w0 B (.slice A xs.length c) xs) (bs:List UInt8) (Ab:Option Addr) (cb:Nat) (hbd:bs.length+5*xs.length+3<=1000000) (w:World) (hw:Cw B w0 (am gb [.slice Ab bs.length cb] 228::ak (.slice Ab bs.length cb) bs::H) w) :
  Calls Tryz.prog 173 #[.pointer (some ⟨gb,0,none⟩),.slice A xs.length c] w (GH B w0 H gb (bs++lK xs)):=by
 have hl1:(bs++ [aR (xs.length:Int)]).length=bs.length+1:=by simp
 refine bG Tryz.func173 rfl Tryz.ntmps173 rfl hw<|aj ?_
 intro g1 _
 refine ee (fun w h=>bt (α:=Int) (m:=1) [(xs.length:Int)] rfl (fT (by unfold aH;omega)) rfl (by decide) h) ?_
 refine cT rfl rS (fun w hw=>mH gb [(xs.length:Int)] _ _ (.own rfl .a) bs Ab cb (by show _+1<=_;omega) w (hw.msub (.s fc (.s fc .r)))) (fun⟨A1,c1⟩ _=>?_)
 refine aO ?_
 refine dA (fun g:Nat×Option Addr×Nat=>g.1<=xs.length) (fun g=>xs.length - g.1) (fun g=> [(0,.pointer (some ⟨gb,0,none⟩)),(12,.slice A xs.length c),(13,.int .i64 (xs.length:Int)),(14,.int .i64 (g.1:Int))]) (fun g=> [am gb [.slice g.2.1 ((bs++ [aR xs.length])++(xs.take g.1).flatMap iA).length g.2.2] 228,ak (.slice g.2.1 ((bs++ [aR xs.length])++(xs.take g.1).flatMap iA).length g.2.2) ((bs++ [aR xs.length])++(xs.take g.1).flatMap iA)]++H) (0,A1,c1) (aX _) ?_ (hh:=(fun w h=>by have h:=h.msub (T:=am gb _ _::ak _ (bs++ [aR (xs.length:Int)])::H) ms;simpa using h))
 rintro⟨j,Aj,cj⟩ hj'
 try dsimp only
 have hj:j<=xs.length:=hj'
 have h4:=uL xs j
 have hlj:((bs++ [aR (xs.length:Int)])++(xs.take j).flatMap iA).length<=bs.length+1+5*xs.length:=by rw[ar,hl1];omega
 refine av (fun hlt=>?_) (fun hlt=>?_)
 ·have hjl:j<xs.length:=by omega
  obtain⟨V,hV⟩:∃V,xs.getD j default=V:=⟨_,rfl⟩
  have hstep:=pw (f:=iA) hjl default (bs++ [aR (xs.length:Int)])
  rw[hV] at hstep
  refine aj ?_
  refine cS (_) rfl ((.ro hs)) ?_
  refine iY rfl (SF.val (.ro hs) hjl default)<|aj ?_
  refine fun g2 _=>aj ?_
  rw[hV]
  refine iQ (fun _:Unit=>True) (fun _=> [(0,.pointer (some ⟨gb,0,none⟩)),(5,.pointer (some ⟨g2,0,none⟩)),(6,.int .i64 (if V.ref=true then 1 else 0)),(12,.slice A xs.length c),(13,.int .i64 (xs.length:Int)),(14,.int .i64 (j:Int))]) (fun _=> [am g2 [.bool V.ref,.int .i64 V.n] 159,am gb [.slice Aj ((bs++ [aR (xs.length:Int)])++(xs.take j).flatMap iA).length cj] 228,ak (.slice Aj ((bs++ [aR (xs.length:Int)])++(xs.take j).flatMap iA).length cj) ((bs++ [aR (xs.length:Int)])++(xs.take j).flatMap iA)]++H) ?_ ?_
  ·refine bT rfl (fun hr=>?_) (fun hr=>?_)
   ·rw[if_pos hr]
    refine aj ?_
    refine tp () (trivial) (hh:=(fun _ h=>h.msub ms))
   rw[if_neg (by rw[hr];decide)]
   refine aj ?_
   refine bS () (trivial) (hh:=(fun _ h=>h.msub ms))
  rintro _ _
  refine aO ?_
  intro g3 _
  refine ee (fun w h=>bt (α:=Int) (m:=1) [(if V.ref=true then 1 else 0:Int)] rfl (fT (by unfold aH;split <;> omega)) rfl (by decide) h) ?_
  refine cT rfl rS (fun w hw=>mH gb [(if V.ref=true then 1 else 0:Int)] _ _ (.own rfl .a) ((bs++ [aR (xs.length:Int)])++(xs.take j).flatMap iA) Aj cj (by show _+1<=_;omega) w (hw.msub (.s fc (.s fc .r)))) (fun⟨A2,c2⟩ _=>?_)
  try dsimp only
  refine bH ?_
  have hl2:(((bs++ [aR (xs.length:Int)])++(xs.take j).flatMap iA)++ [(if V.ref=true then 1 else 0:Int)].map aR).length<=bs.length+2+5*xs.length:=by rw[ar];show _+1<=_;omega
  refine fx [0,3,6,9,12,15,18,23,26,27,30,35] [11] rfl [am gb [.slice A2 (((bs++ [aR (xs.length:Int)])++(xs.take j).flatMap iA)++ [(if V.ref=true then 1 else 0:Int)].map aR).length c2] 228,am g2 [.bool V.ref,.int .i64 V.n] 159]<|aj ?_
  refine km rfl rfl Tryz.call176 (fun w hw=>wE V.n w) ?_
  refine pE rfl (yW (bytes:=1) (xs:=((bs++ [aR (xs.length:Int)])++(xs.take j).flatMap iA)++ [(if V.ref=true then 1 else 0:Int)].map aR) (xs':=(bs++ [aR (xs.length:Int)])++(xs.take (j+1)).flatMap iA) (by rw[hstep];simp[iA]) lc iW (aV oS) rfl fc (by show _+4<=_;omega) (by show (_+4)*1<=_;omega) rfl rfl rfl) (fun⟨A4,c4⟩ _=>?_)
  refine aO ?_
  refine cU (j+1,A4,c4) (by show j+1<=_;omega) (by show _ - _<_ - _;omega) (hh:=(fun _ h=>h.msub ms))
 obtain rfl:j=xs.length:=by omega
 refine aj ?_
 intro w hw
 refine⟨(Aj,cj),trivial,rfl,?_⟩
 rw[aT,show (bs++ [aR (xs.length:Int)])++xs.flatMap iA=bs++lK xs from by simp[lK]] at hw
 exact hw.msub ms
end
end
section
abbrev QH (s:List UInt8):Value:= .string ⟨s.toArray⟩
def pT:List PanicEntry:=OX (.iface 231 (.agg #[]))
section
variable {B:Nat} {w0:World} {H:List aJ}
def ln {α γ:Type} (B:Nat) (w0:World) (gr:Nat) (r:Option (α×List UInt8)) (val:α->γ->Value) (H':α->γ->List aJ) (H:List aJ) (e:Ending) (w':World):Prop:=
 (∃g:(α×List UInt8)×γ,r=some g.1/\e= .returned (val g.1.1 g.2)/\Cw B w0 (am gr [.string ⟨g.1.2.toArray⟩] 235::H' g.1.1 g.2) w')\/∃ch,e= .panicked ch/\(r=none/\ch=pT)/\Cw B w0 H w'
theorem NR {s:List UInt8} {k:Nat} (h:k<=s.length):fH s (k:Int)=(s.take k,s.drop k,true):=by
 unfold fH
 rw[if_neg (by omega),bw]
theorem NS {s:List UInt8} {k:Nat} (h:s.length<k):fH s (k:Int)=([],[],false):=by
 unfold fH
 rw[if_pos (by omega)]
def jG (k:Nat):lF (List UInt8):=fun s=>if s.length<k then none else some (s.take k,s.drop k)
theorem tT (gr k:Nat) (s:List UInt8) (hl:s.length<=140737488355328) (w:World) (hw:Cw B w0 (am gr [.string ⟨s.toArray⟩] 235::H) w) :
  Calls Tryz.prog 280 #[.pointer (some ⟨gr,0,none⟩),.int .i64 (k:Int)] w (ln B w0 gr (jG k s) (fun a (_:Unit)=>QH a) (fun _ _=>H) H):=by
 refine bG Tryz.func280 rfl Tryz.ntmps280 rfl hw<|aj ?_
 refine bX rfl Tryz.call212 (fun w hw=>zj s (k:Int) w (by omega) hl)<|aj ?_
 by_cases h:s.length<k
 ·rw[NS h]
  have hn:jG k s=none:=by unfold jG;rw[if_pos h]
  refine cK (t:=19) (v':= .bool true) rfl (rfl) ?_
  refine aU rfl<|aj ?_
  refine sE (qN Jr rfl rfl) ?_
  refine kC rfl rfl rfl ?_
  intro a w hf hw
  exact⟨hf.2.1,.inr ⟨_,rfl,⟨hn,rfl⟩,hw.msub ms⟩⟩
 rw[NR (by omega)]
 have hn:jG k s=some (s.take k,s.drop k):=by unfold jG;rw[if_neg h]
 refine cK (t:=19) (v':= .bool false) rfl (rfl) ?_
 refine cu rfl<|aj ?_
 intro w hw
 exact .inl ⟨((s.take k,s.drop k),()),hn,rfl,hw⟩
theorem PR {s a r:List UInt8} (h:jG 1 s=some (a,r)):∃b,s=b::r/\a= [b]:=by
 unfold jG at h
 split at h
 ·cases h
 cases s with
 | nil=>simp at *
 | cons b l=>
  simp at h
  exact⟨b,by rw[h.2],h.1.symm⟩
theorem JM {s:List UInt8} (h:jG 1 s=none):mi s=none:=by
 unfold jG at h
 split at h
 ·rename_i h1
  have:s= []:=aY (by omega)
  rw[this];rfl
 cases h
theorem uN (s:List UInt8):nC s=(jG 4 s).map fun p=>(dJ p.1,p.2):=by
 unfold nC jG
 split <;> rfl
theorem vV {k:Nat} {s a r:List UInt8} (h:jG k s=some (a,r)):a.length<=s.length/\r.length<=s.length:=by
 unfold jG at h
 split at h
 ·cases h
 simp at h
 obtain⟨rfl,rfl⟩:=h
 rw[aA,aL]
 omega
theorem mT (gr:Nat) (s:List UInt8) (hl:s.length<=140737488355328) (w:World) (hw:Cw B w0 (am gr [.string ⟨s.toArray⟩] 235::H) w) :
  Calls Tryz.prog 225 #[.pointer (some ⟨gr,0,none⟩)] w (ln B w0 gr (mi s) (fun a (_:Unit)=> .int .i64 a) (fun _ _=>H) H):=by
 refine bG Tryz.func225 rfl Tryz.ntmps225 rfl hw<|aj ?_
 refine ff (dO rfl rfl rfl Rv (fun w hw=>tT gr 1 s hl w hw)) rfl rfl (fun _ _ _ hf hp=>⟨hf.2.1,.inr ⟨_,rfl,⟨JM hp.1.1,hp.1.2⟩,hp.2⟩⟩) (fun⟨⟨a,r⟩,_⟩ hr=>?_)
 try dsimp only
 obtain⟨b,rfl,rfl⟩:=PR hr
 refine sE (yR (k:=0) iW (by simp) rfl rfl rfl) ?_
 refine sE (HV pf tC rfl rfl)<|aj ?_
 intro w hw
 exact .inl ⟨(((b.toNat:Int),r),()),rfl,rfl,hw⟩
theorem jk {s r:List UInt8} {z:Int} (h:mi s=some (z,r)):r.length<=s.length/\(0<=z/\z<=255):=by
 have hb:=MK h
 cases s with
 | nil=>cases h
 | cons b l=>
  obtain⟨_,rfl⟩:(b.toNat:Int)=z/\l=r:=by simpa [mi] using h
  exact⟨by simp,hb⟩
def qY {α:Type} (p:lF α):Prop:= ∀s x r,p s=some (x,r)->r.length<=s.length
theorem xF {α:Type} {p:lF α} (h:qY p):∀k,qY (gy p k)
 | 0=>fun s x r e=>by
  obtain⟨rfl,rfl⟩: []=x/\s=r:=by simpa [gy] using e
  exact aK _
 | k+1=>fun s x r e=>by
  unfold gy at e
  split at e
  ·cases e
  rename_i y t e1
  split at e
  ·cases e
  rename_i l u e2
  obtain⟨rfl,rfl⟩:y::l=x/\u=r:=by simpa using e
  exact eE (xF h k _ _ _ e2) (h _ _ _ e1)
theorem rY {α:Type} {p:lF α} (h:qY p):qY (jH p):=fun s x r e=>by
 unfold jH at e
 split at e
 ·cases e
 rename_i n t e1
 exact eE (xF h _ _ _ _ e) (jk e1).1
theorem sN:qY nC:=fun s x r e=>by
 rw[uN] at e
 cases h:jG 4 s with
 | none=>rw[h] at e;cases e
 | some p=>
  rw[h] at e
  obtain⟨_,rfl⟩:dJ p.1=x/\p.2=r:=by simpa using e
  exact(vV h).2
theorem tM {α:Type} {p:lF α} {s r:List UInt8} {x:List α} (e:jH p s=some (x,r)):x.length<=255:=by
 unfold jH at e
 split at e
 ·cases e
 rename_i n t e1
 rw[zP _ _ _ _ e]
 have:=(jk e1).2
 omega
theorem F0 {α:Type} {p:lF α} {acc:List α} {x:α} {u:List UInt8} {n:Nat} :Option.map (fun q:List α×List UInt8=>(acc++q.1,q.2)) (match gy p n u with
  | none=>none
  | some (l,t)=>some (x::l,t))=(gy p n u).map (fun q=>((acc++ [x])++q.1,q.2)):=by cases gy p n u <;> simp
theorem IY {P:Program} {f:FuncId} {cap:List Value} {w:World} {R:Ending->World->Prop} (h:Calls P f cap.toArray w R):Calls P f (([]:List Value)++cap.toArray.toList).toArray w R:=by simpa using h
def Qt {α γ:Type} (B:Nat) (w0:World) (gr:Nat) (r:Option (List α×List UInt8)) (K:List α->γ->List aJ) (H:List aJ):Ending->World->Prop:=ln B w0 gr r (fun _ (_:γ)=> .tuple #[]) (fun a g=>K a g++H) H
theorem qB {α γ:Type} (gr:Nat) (f:FuncId) (cap:List Value) (p:lF α) (hpl:qY p) (K:List α->γ->List aJ) (hcall:∀a w,(callFunc f a).run Tryz.prog w= .ok (.enter f a) w)
  (hdo:∀(s:List UInt8) (acc:List α) (g:γ) (w:World),s.length<=140737488355320->acc.length<=254->Cw B w0 (am gr [.string ⟨s.toArray⟩] 235::(K acc g++H)) w->
   Calls Tryz.prog f cap.toArray w (ln B w0 gr (p s) (fun _ (_:γ)=> .tuple #[]) (fun x g'=>K (acc++ [x]) g'++H) H))
  (s:List UInt8) (g0:γ) (hl:s.length<=140737488355320) (w:World) (hw:Cw B w0 (am gr [.string ⟨s.toArray⟩] 235::(K [] g0++H)) w) :
  Calls Tryz.prog 227 #[.pointer (some ⟨gr,0,none⟩),.func (.func f) #[] cap.toArray] w (Qt B w0 gr (jH p s) K H):=by
 refine bG Tryz.func227 rfl Tryz.ntmps227 rfl hw<|aj ?_
 refine ff (dO rfl rfl rfl wO (fun w hw=>mT gr s (by omega) w hw)) rfl rfl (fun _ _ _ hf hp=>⟨hf.2.1,.inr ⟨_,rfl,⟨by unfold jH;rw[hp.1.1],hp.1.2⟩,Cw.msub hp.2 (by exact⟨_,List.perm_append_comm⟩)⟩⟩) (fun⟨⟨n,r⟩,_⟩ hr=>?_)
 refine aO ?_
 have hn:=jk hr
 have h8:jH p s=gy p n.toNat r:=by unfold jH;rw[hr]
 refine dA (fun g:(Int×List α×List UInt8)×γ=>(jH p s=(gy p g.1.1.toNat g.1.2.2).map (fun q=>(g.1.2.1++q.1,q.2))/\(g.1.1<=255/\g.1.2.1.length+g.1.1.toNat<=255))/\g.1.2.2.length<=140737488355320) (fun g=>g.1.1.toNat) (fun g=> [(1,.func (.func f) #[] cap.toArray),(4,.int .i64 g.1.1)]) (fun g=>am gr [.string ⟨g.1.2.2.toArray⟩] 235::(K g.1.2.1 g.2++H)) ((n,[],r),g0) (⟨⟨by rw[h8];cases gy p n.toNat r <;> simp,⟨hn.2.2,by show 0+n.toNat<=255;omega⟩⟩,by show r.length<=_;omega⟩) ?_
 rintro⟨⟨k,acc,t⟩,g⟩ hj
 try dsimp only
 obtain⟨⟨hj1,hj2,hj3⟩,hj4⟩:(jH p s=(gy p k.toNat t).map (fun q=>(acc++q.1,q.2))/\(k<=255/\acc.length+k.toNat<=255))/\t.length<=140737488355320:=hj
 refine av (fun hk=>?_) (fun hk=>?_)
 ·have hk1:k.toNat=(k - 1).toNat+1:=by omega
  rw[hk1,gy] at hj1
  refine aj ?_
  refine ff (zM rfl rfl rfl hcall (fun w hw=>IY (hdo t acc g w hj4 (by omega) hw))) rfl rfl (fun _ _ _ hf hp=>⟨hf.2.1,.inr ⟨_,rfl,⟨by rw[hj1,hp.1.1];rfl,hp.1.2⟩,hp.2⟩⟩) (fun⟨⟨x,u⟩,g'⟩ hx=>?_)
  refine aO ?_
  have hx:p t=some (x,u):=hx
  have hu:=hpl _ _ _ hx
  rw[hx] at hj1
  refine cU ((k - 1,acc++ [x],u),g') (⟨⟨hj1.trans F0,⟨by show k - 1<=_;omega,by show (acc++ [x]).length+(k - 1).toNat<=_;rw[ar,aP];omega⟩⟩,by show u.length<=_;omega⟩) (by show (k - 1).toNat<k.toNat;omega)
 have hk1:k.toNat=0:=by omega
 rw[hk1] at hj1
 refine aj ?_
 intro w hw
 exact .inl ⟨((acc,t),g),by rw[hj1];simp[gy],rfl,hw⟩
end
end
section
section
variable {B:Nat} {w0:World} {H:List aJ}
theorem ln.map {α β γ δ:Type} {gr:Nat} {r:Option (α×List UInt8)} {r':Option (β×List UInt8)} {val:α->γ->Value} {val':β->δ->Value} {K:α->γ->List aJ} {K':β->δ->List aJ} {H H':List aJ} {e:Ending} {w:World} (h:ln B w0 gr r val K H e w) (f:α->γ->β) (d:α->γ->δ)
  (h1:∀x t g,r=some (x,t)->r'=some (f x g,t)/\val x g=val' (f x g) (d x g)/\∀w,Cw B w0 (am gr [.string ⟨t.toArray⟩] 235::K x g) w->Cw B w0 (am gr [.string ⟨t.toArray⟩] 235::K' (f x g) (d x g)) w) (h2:r=none->r'=none) (h3:∀w,Cw B w0 H w->Cw B w0 H' w):ln B w0 gr r' val' K' H' e w:=by
 rcases h with ⟨⟨⟨x,t⟩,g⟩,e1,e2,e3⟩ | ⟨ch,e1,⟨e2,e3⟩,e4⟩
 ·obtain⟨k1,k2,k3⟩:=h1 x t g e1
  exact .inl ⟨((f x g,t),d x g),k1,e2.trans (congrArg _ k2),k3 _ e3⟩
 exact .inr ⟨ch,e1,⟨h2 e2,e3⟩,h3 _ e4⟩
theorem xA (l:List UInt8):aH (dJ l):=by
 have:=rE l
 unfold cd at this
 simp only[db,decide_eq_true_eq] at this
 unfold aH
 omega
theorem FI (gr go gp:Nat) (s:List UInt8) (acc:List Int) (A:Option Addr) (c:Nat) (hl:s.length<=140737488355320) (hac:acc.length<=254) (w:World)
  (hw:Cw B w0 (am gr [.string ⟨s.toArray⟩] 235::am go [.slice A acc.length c] 35::ak (.slice A acc.length c) acc::am gp [.pointer (some ⟨gr,0,none⟩)] 233::H) w) :
  Calls Tryz.prog 281 #[.pointer (some ⟨go,0,none⟩),.pointer (some ⟨gp,0,none⟩)] w (ln B w0 gr (nC s) (fun _ (_:Option Addr×Nat)=> .tuple #[])
   (fun x g=>am go [.slice g.1 (acc++ [x]).length g.2] 35::ak (.slice g.1 (acc++ [x]).length g.2) (acc++ [x])::am gp [.pointer (some ⟨gr,0,none⟩)] 233::H) (am gp [.pointer (some ⟨gr,0,none⟩)] 233::H)):=by
 refine bG Tryz.func281 rfl Tryz.ntmps281 rfl hw ?_
 refine ur (.still 0 (.still 1 (.pick 2 (.pick 3 (.pick 4 (.pick 5 (.pick 6 .done .stop) .stop) .stop) .stop) .stop))) [5,6] rfl (by kernel_rfl) (by kernel_rfl) [am go [.slice A acc.length c] 35,am gp [.pointer (some ⟨gr,0,none⟩)] 233] (fun ch w=>(nC s=none/\ch=pT)/\Cw B w0 (am gp [.pointer (some ⟨gr,0,none⟩)] 233::H) w) (fun _ _ _ hf hp=>⟨hf,.inr ⟨_,rfl,hp⟩⟩) ?_
 refine aj ?_
 refine BY rfl (dO rfl rfl rfl Rv (fun w hw=>tT (H:=am go [.slice A acc.length c] 35::ak (.slice A acc.length c) acc::am gp [.pointer (some ⟨gr,0,none⟩)] 233::H) gr 4 s (by omega) w (hw.msub ms))) rfl rfl (.inr fun _=>ha) (fun _ _ hp=>⟨⟨by rw[uN,hp.1.1];rfl,hp.1.2⟩,hp.2.msub ms⟩) (fun⟨⟨a,r⟩,_⟩ hr=>?_) gh
 try dsimp only
 have hr:jG 4 s=some (a,r):=hr
 have hle:=vV hr
 have h4:nC s=some (dJ a,r):=by rw[uN,hr];rfl
 refine km rfl rfl Tryz.call213 (fun w hw=>su a w (by omega))<|aj ?_
 intro g1 _
 refine pE rfl (cH (α:=Int) (bytes:=8) (dJ a) [] rfl aw (aV cO) rfl (eD fc fc) (dm (xA a)) (by omega) (by omega) rfl rfl rfl) (fun⟨A5,c5⟩ _=>?_)
 refine aO ?_
 refine wb<|rf Tryz.results281 ?_
 intro w hw
 exact .inl ⟨((dJ a,r),(A5,c5)),h4,rfl,hw.msub ms⟩
theorem tW (gr:Nat) (s:List UInt8) (hl:s.length<=140737488355320) (w:World) (hw:Cw B w0 (am gr [.string ⟨s.toArray⟩] 235::H) w) :
  Calls Tryz.prog 226 #[.pointer (some ⟨gr,0,none⟩)] w (ln B w0 gr (mC s) (fun x (g:Option Addr×Nat)=> .slice g.1 x.length g.2) (fun x g=>ak (.slice g.1 x.length g.2) x::H) H):=by
 refine bG Tryz.func226 rfl Tryz.ntmps226 rfl hw<|aj ?_
 refine fun g1 _=>aj ?_
 refine fun g2 _=>aj ?_
 refine ee (fun w h=>Cw.nilO Int h) ?_
 refine ff (dO rfl rfl rfl N2 (fun w hw=>qB (H:=am g1 [.pointer (some ⟨gr,0,none⟩)] 233::H) gr 281 [.pointer (some ⟨g2,0,none⟩),.pointer (some ⟨g1,0,none⟩)] nC sN (fun acc (g:Option Addr×Nat)=> [am g2 [.slice g.1 acc.length g.2] 35,ak (.slice g.1 acc.length g.2) acc]) Tryz.call281 (fun s acc g w h1 h2 hw=>FI gr g2 g1 s acc g.1 g.2 h1 h2 w hw) s (none,0) hl w (hw.msub ms))) rfl rfl (fun _ _ _ hf hp=>⟨hf.2.1,.inr ⟨_,rfl,hp.1,hp.2.msub ms⟩⟩) (fun⟨⟨x,r⟩,⟨A,c⟩⟩ hr=>?_)
 refine aO ?_
 intro w hw
 exact .inl ⟨((x,r),(A,c)),hr,rfl,hw.msub ms⟩
theorem vr:qY jE:=fun s x r e=>by
 unfold jE at e
 split at e
 ·cases e
 rename_i n t e1
 split at e
 ·cases e
 split at e
 ·cases e
 rename_i z u e2
 obtain⟨_,rfl⟩:(⟨decide (n=1),z⟩:aC)=x/\u=r:=by simpa using e
 exact eE (sN _ _ _ e2) (jk e1).1
theorem Ft {s r:List UInt8} {x:aC} (e:jE s=some (x,r)):aH x.n:=by
 unfold jE at e
 split at e
 ·cases e
 rename_i n t e1
 split at e
 ·cases e
 split at e
 ·cases e
 rename_i z u e2
 ·obtain⟨rfl,_⟩:(⟨decide (n=1),z⟩:aC)=x/\u=r:=by simpa using e
  rw[uN] at e2
  cases h:jG 4 t with
  | none=>rw[h] at e2;cases e2
  | some p=>
   rw[h] at e2
   obtain⟨rfl,_⟩:dJ p.1=z/\p.2=u:=by simpa using e2
   exact xA _
theorem FB (gr:Nat) (s:List UInt8) (hl:s.length<=140737488355320) (w:World) (hw:Cw B w0 (am gr [.string ⟨s.toArray⟩] 235::H) w) :
  Calls Tryz.prog 283 #[.pointer (some ⟨gr,0,none⟩)] w (ln B w0 gr (jE s) (fun x (_:Unit)=> .agg #[.bool x.ref,.int .i64 x.n]) (fun _ _=>H) H):=by
 refine bG Tryz.func283 rfl Tryz.ntmps283 rfl hw<|aj ?_
 refine fun g1 _=>aj ?_
 refine ff (dO rfl rfl rfl wO (fun w hw=>mT gr s (by omega) w (hw.msub (.s fc .r)))) rfl rfl (fun _ _ _ hf hp=>⟨hf.2.1,.inr ⟨_,rfl,⟨by unfold jE;rw[hp.1.1],hp.1.2⟩,hp.2.msub ms⟩⟩) (fun⟨⟨n,r⟩,_⟩ hr=>?_)
 refine aO ?_
 have hn:=jk hr
 refine eo rfl (fun h1=>?_) (fun h1=>?_)
 ·refine aj ?_
  refine sE (qN Jr rfl rfl) ?_
  refine kC rfl rfl rfl ?_
  intro a w hf hw
  exact⟨hf.2.1,.inr ⟨_,rfl,⟨by unfold jE;rw[hr];simp only;rw[if_pos h1],rfl⟩,hw.msub ms⟩⟩
 have hv:jE s=(nC r).map fun q=>((⟨decide (n=1),q.1⟩:aC),q.2):=by
  unfold jE
  rw[hr]
  simp only
  rw[if_neg h1]
  cases nC r <;> rfl
 refine aj ?_
 refine ff (dO rfl rfl rfl Rv (fun w hw=>tT gr 4 r (by omega) w (hw.msub (.s fc .r)))) rfl rfl (fun _ _ _ hf hp=>⟨hf.2.1,.inr ⟨_,rfl,⟨by rw[hv,uN,hp.1.1];rfl,hp.1.2⟩,hp.2.msub ms⟩⟩) (fun⟨⟨a,t⟩,_⟩ ht=>?_)
 try dsimp only
 have ht:jG 4 r=some (a,t):=ht
 have hle:=vV ht
 refine bX rfl Tryz.call213 (fun w hw=>su a w (by omega))<|aj ?_
 intro w hw
 exact .inl ⟨((⟨decide (n=1),dJ a⟩,t),()),by rw[hv,uN,ht];rfl,rfl,hw.msub ms⟩
theorem FD (gr go gp:Nat) (s:List UInt8) (acc:List aC) (A:Option Addr) (c:Nat) (hl:s.length<=140737488355320) (hac:acc.length<=254) (w:World)
  (hw:Cw B w0 (am gr [.string ⟨s.toArray⟩] 235::am go [.slice A acc.length c] 116::ak (.slice A acc.length c) acc::am gp [.pointer (some ⟨gr,0,none⟩)] 233::H) w) :
  Calls Tryz.prog 282 #[.pointer (some ⟨go,0,none⟩),.pointer (some ⟨gp,0,none⟩)] w (ln B w0 gr (jE s) (fun _ (_:Option Addr×Nat)=> .tuple #[])
   (fun x g=>am go [.slice g.1 (acc++ [x]).length g.2] 116::ak (.slice g.1 (acc++ [x]).length g.2) (acc++ [x])::am gp [.pointer (some ⟨gr,0,none⟩)] 233::H) (am gp [.pointer (some ⟨gr,0,none⟩)] 233::H)):=by
 refine bG Tryz.func282 rfl Tryz.ntmps282 rfl hw ?_
 refine ur (.still 0 (.still 1 (.pick 2 (.pick 3 (.pick 4 (.pick 5 .done .stop) .stop) .stop) .stop))) [4,5] rfl (by kernel_rfl) (by kernel_rfl) [am go [.slice A acc.length c] 116,am gp [.pointer (some ⟨gr,0,none⟩)] 233] (fun ch w=>(jE s=none/\ch=pT)/\Cw B w0 (am gp [.pointer (some ⟨gr,0,none⟩)] 233::H) w) (fun _ _ _ hf hp=>⟨hf,.inr ⟨_,rfl,hp⟩⟩) ?_
 refine aj ?_
 refine BY rfl (dO rfl rfl rfl Tryz.call283 (fun w hw=>FB (H:=am go [.slice A acc.length c] 116::ak (.slice A acc.length c) acc::am gp [.pointer (some ⟨gr,0,none⟩)] 233::H) gr s hl w (hw.msub ms))) rfl rfl (.inr fun _=>ha) (fun _ _ hp=>⟨hp.1,hp.2.msub ms⟩) (fun⟨⟨v,r⟩,_⟩ hr=>?_) gh
 refine aO ?_
 intro g1 _
 have hr:jE s=some (v,r):=hr
 refine pE rfl (cH (α:=aC) (bytes:=16) v [] rfl ax (aV du) rfl (eD fc fc) (dm (show aH v.n from Ft hr)) (by omega) (by omega) rfl rfl rfl) (fun⟨A5,c5⟩ _=>?_)
 refine aO ?_
 refine wb<|rf Tryz.results282 ?_
 intro w hw
 exact .inl ⟨((v,r),(A5,c5)),hr,rfl,hw.msub ms⟩
theorem zz (gr:Nat) (s:List UInt8) (hl:s.length<=140737488355320) (w:World) (hw:Cw B w0 (am gr [.string ⟨s.toArray⟩] 235::H) w) :
  Calls Tryz.prog 230 #[.pointer (some ⟨gr,0,none⟩)] w (ln B w0 gr (pF s) (fun x (g:Option Addr×Nat)=> .slice g.1 x.length g.2) (fun x g=>ak (.slice g.1 x.length g.2) x::H) H):=by
 refine bG Tryz.func230 rfl Tryz.ntmps230 rfl hw<|aj ?_
 refine fun g1 _=>aj ?_
 refine fun g2 _=>aj ?_
 refine ee (fun w h=>Cw.nilO aC h) ?_
 refine ff (dO rfl rfl rfl N2 (fun w hw=>qB (H:=am g1 [.pointer (some ⟨gr,0,none⟩)] 233::H) gr 282 [.pointer (some ⟨g2,0,none⟩),.pointer (some ⟨g1,0,none⟩)] jE vr (fun acc (g:Option Addr×Nat)=> [am g2 [.slice g.1 acc.length g.2] 116,ak (.slice g.1 acc.length g.2) acc]) Tryz.call282 (fun s acc g w h1 h2 hw=>FD gr g2 g1 s acc g.1 g.2 h1 h2 w hw) s (none,0) hl w (hw.msub ms))) rfl rfl (fun _ _ _ hf hp=>⟨hf.2.1,.inr ⟨_,rfl,hp.1,hp.2.msub ms⟩⟩) (fun⟨⟨x,r⟩,⟨A,c⟩⟩ hr=>?_)
 refine aO ?_
 intro w hw
 exact .inl ⟨((x,r),(A,c)),hr,rfl,hw.msub ms⟩
end
end
section
section
variable {B:Nat} {w0:World} {H:List aJ}
theorem Je:(Tryz.prog.info? 35).map (fun i=>(i.zero,i.size,i.bytes))=some (some (.slice none 0 0),1,24):=by kernel_rfl
theorem FL (gr gm gp:Nat) (vf vi vo vs vt:Value) (s:List UInt8) (acc:List (List Int)) (A:Option Addr) (c:Nat) (hl:s.length<=140737488355320) (hac:acc.length<=254) (w:World)
  (hw:Cw B w0 (am gr [.string ⟨s.toArray⟩] 235::am gm [vf,.slice A acc.length c,vi,vo,vs,vt] 43::ak (.slice A acc.length c) acc::am gp [.pointer (some ⟨gr,0,none⟩)] 233::H) w) :
  Calls Tryz.prog 228 #[.pointer (some ⟨gm,0,none⟩),.pointer (some ⟨gp,0,none⟩)] w (ln B w0 gr (mC s) (fun _ (_:Option Addr×Nat)=> .tuple #[])
   (fun x g=>am gm [vf,.slice g.1 (acc++ [x]).length g.2,vi,vo,vs,vt] 43::ak (.slice g.1 (acc++ [x]).length g.2) (acc++ [x])::am gp [.pointer (some ⟨gr,0,none⟩)] 233::H) (am gp [.pointer (some ⟨gr,0,none⟩)] 233::H)):=by
 refine bG Tryz.func228 rfl Tryz.ntmps228 rfl hw ?_
 refine ur (.still 0 (.still 1 (.still 2 (.pick 3 (.pick 4 (.pick 5 (.calm 6 (.pick 7 .done .stop)) .stop) .stop) .stop)))) [5,6,7] rfl (by kernel_rfl) (by kernel_rfl) [am gm [vf,.slice A acc.length c,vi,vo,vs,vt] 43,am gp [.pointer (some ⟨gr,0,none⟩)] 233] (fun ch w=>(mC s=none/\ch=pT)/\Cw B w0 (am gp [.pointer (some ⟨gr,0,none⟩)] 233::H) w) (fun _ _ _ hf hp=>⟨hf,.inr ⟨_,rfl,hp⟩⟩) ?_
 refine aj ?_
 refine BY rfl (dO rfl rfl rfl Rz (fun w hw=>tW (H:=am gm [vf,.slice A acc.length c,vi,vo,vs,vt] 43::ak (.slice A acc.length c) acc::am gp [.pointer (some ⟨gr,0,none⟩)] 233::H) gr s hl w (hw.msub ms))) rfl rfl (.inr fun _=>ha) (fun _ _ hp=>⟨hp.1,hp.2.msub ms⟩) (fun⟨⟨x,r⟩,⟨Ax,cx⟩⟩ hr=>?_) gh
 refine aO ?_
 intro g1 _
 have hr:mC s=some (x,r):=hr
 refine pE rfl (cH (α:=List Int) (bytes:=24) x [ak (.slice Ax x.length cx) x] rfl dX (aV Je) rfl (FW fc fc fc) xR (by omega) (by omega) rfl rfl rfl) (fun⟨A5,c5⟩ _=>?_)
 refine aO ?_
 refine wb<|rf Tryz.results228 ?_
 intro w hw
 exact .inl ⟨((x,r),(A5,c5)),hr,rfl,hw.msub ms⟩
theorem pQ:qY pF:=rY vr
theorem pp:qY mC:=rY sN
theorem DR:qY jL:=fun s x r e=>by
 unfold jL at e
 split at e
 ·cases e
 rename_i f s1 e1
 split at e
 ·cases e
 rename_i p s2 e2
 split at e
 ·cases e
 rename_i l s3 e3
 split at e
 ·cases e
 rename_i t s4 e4
 obtain⟨_,rfl⟩:(⟨f,p,l,t⟩:aG)=x/\s4=r:=by simpa using e
 have:=(jk e1).1
 have:=(jk e2).1
 have:=pQ _ _ _ e3
 have:=pQ _ _ _ e4
 omega
theorem FK (gr gm gp:Nat) (vb vi vo vs vt:Value) (s:List UInt8) (acc:List aG) (A:Option Addr) (c:Nat) (hl:s.length<=140737488355320) (hac:acc.length<=254) (w:World)
  (hw:Cw B w0 (am gr [.string ⟨s.toArray⟩] 235::am gm [.slice A acc.length c,vb,vi,vo,vs,vt] 43::ak (.slice A acc.length c) acc::am gp [.pointer (some ⟨gr,0,none⟩)] 233::H) w) :
  Calls Tryz.prog 229 #[.pointer (some ⟨gp,0,none⟩),.pointer (some ⟨gm,0,none⟩)] w (ln B w0 gr (jL s) (fun _ (_:Option Addr×Nat)=> .tuple #[])
   (fun x g=>am gm [.slice g.1 (acc++ [x]).length g.2,vb,vi,vo,vs,vt] 43::ak (.slice g.1 (acc++ [x]).length g.2) (acc++ [x])::am gp [.pointer (some ⟨gr,0,none⟩)] 233::H) (am gp [.pointer (some ⟨gr,0,none⟩)] 233::H)):=by
 refine bG Tryz.func229 rfl Tryz.ntmps229 rfl hw<|aj ?_
 refine ff (dO rfl rfl rfl wO (fun w hw=>mT (H:=am gm [.slice A acc.length c,vb,vi,vo,vs,vt] 43::ak (.slice A acc.length c) acc::am gp [.pointer (some ⟨gr,0,none⟩)] 233::H) gr s (by omega) w (hw.msub ms))) rfl rfl (fun _ _ _ hf hp=>⟨hf.2.1,.inr ⟨_,rfl,⟨by unfold jL;rw[hp.1.1],hp.1.2⟩,hp.2.msub ms⟩⟩) (fun⟨⟨f,s1⟩,_⟩ e1=>?_)
 refine aO ?_
 refine fun g1 _=>aj ?_
 have e1:mi s=some (f,s1):=e1
 have k1:=jk e1
 refine ff (dO rfl rfl rfl wO (fun w hw=>mT (H:=am g1 [.int .i64 f,.int .i64 0,.slice none 0 0,.slice none 0 0] 118::am gm [.slice A acc.length c,vb,vi,vo,vs,vt] 43::ak (.slice A acc.length c) acc::am gp [.pointer (some ⟨gr,0,none⟩)] 233::H) gr s1 (by omega) w (hw.msub ms))) rfl rfl (fun _ _ _ hf hp=>⟨hf.2.1,.inr ⟨_,rfl,⟨by unfold jL;rw[e1];simp only;rw[hp.1.1],hp.1.2⟩,hp.2.msub ms⟩⟩) (fun⟨⟨p,s2⟩,_⟩ e2=>?_)
 refine aO ?_
 have e2:mi s1=some (p,s2):=e2
 have k2:=jk e2
 refine ff (dO rfl rfl rfl Tryz.call230 (fun w hw=>zz (H:=am g1 [.int .i64 f,.int .i64 p,.slice none 0 0,.slice none 0 0] 118::am gm [.slice A acc.length c,vb,vi,vo,vs,vt] 43::ak (.slice A acc.length c) acc::am gp [.pointer (some ⟨gr,0,none⟩)] 233::H) gr s2 (by omega) w (hw.msub ms))) rfl rfl (fun _ _ _ hf hp=>⟨hf.2.1,.inr ⟨_,rfl,⟨by unfold jL;rw[e1];simp only;rw[e2];simp only;rw[hp.1.1],hp.1.2⟩,hp.2.msub ms⟩⟩) (fun⟨⟨l,s3⟩,⟨Al,cl⟩⟩ e3=>?_)
 refine aO ?_
 have e3:pF s2=some (l,s3):=e3
 have k3:=pQ _ _ _ e3
 refine ff (dO rfl rfl rfl Tryz.call230 (fun w hw=>zz (H:=am g1 [.int .i64 f,.int .i64 p,.slice Al l.length cl,.slice none 0 0] 118::ak (.slice Al l.length cl) l::am gm [.slice A acc.length c,vb,vi,vo,vs,vt] 43::ak (.slice A acc.length c) acc::am gp [.pointer (some ⟨gr,0,none⟩)] 233::H) gr s3 (by omega) w (hw.msub ms))) rfl rfl (fun _ _ _ hf hp=>⟨hf.2.1,.inr ⟨_,rfl,⟨by unfold jL;rw[e1];simp only;rw[e2];simp only;rw[e3];simp only;rw[hp.1.1],hp.1.2⟩,hp.2.msub ms⟩⟩) (fun⟨⟨t,s4⟩,⟨At,ct⟩⟩ e4=>?_)
 refine aO ?_
 intro g2 _
 have e4:pF s3=some (t,s4):=e4
 have hx:jL s=some (⟨f,p,l,t⟩,s4):=by unfold jL;rw[e1];simp only;rw[e2];simp only;rw[e3];simp only;rw[e4]
 refine oE (cH (α:=aG) (bytes:=64) ⟨f,p,l,t⟩ [ak (.slice Al l.length cl) l,ak (.slice At t.length ct) t] rfl cD (aV lE) rfl (xv fc fc fc fc) (xS (x:=⟨f,p,l,t⟩) ⟨⟨by show _<=f;omega,by show f<=_;omega⟩,⟨by show _<=p;omega,by show p<=_;omega⟩⟩) (by omega) (by omega) rfl rfl rfl) (fun⟨A5,c5⟩ _=>?_)
 refine aO ?_
 intro w hw
 exact .inl ⟨((⟨f,p,l,t⟩,s4),(A5,c5)),hx,rfl,hw.msub ms⟩
end
end
section
section
variable {B:Nat} {w0:World} {H:List aJ}
theorem lP {s:List UInt8} (h:mD s=none):ke s=none:=by unfold ke;rw[h]
theorem FJ (gr:Nat) (s:List UInt8) (hl:s.length<=140737488355320) (w:World) (hw:Cw B w0 (am gr [.string ⟨s.toArray⟩] 235::H) w) :
  Calls Tryz.prog 175 #[.pointer (some ⟨gr,0,none⟩)] w fun e w'=>(∃g:az×MA,ke s=some g.1/\e= .returned (.agg #[.slice g.2.Af g.1.F.length g.2.cf,.slice g.2.Ab g.1.B.length g.2.cb,.slice g.2.Ai g.1.I.length g.2.ci,.slice g.2.Ao g.1.out.length g.2.co,.int .i64 g.1.S,.int .i64 g.1.T])/\Cw B w0 (ak (.slice g.2.Af g.1.F.length g.2.cf) g.1.F::ak (.slice g.2.Ab g.1.B.length g.2.cb) g.1.B::ak (.slice g.2.Ai g.1.I.length g.2.ci) g.1.I::ak (.slice g.2.Ao g.1.out.length g.2.co) g.1.out::H) w')\/∃ch,e= .panicked ch/\(ke s=none/\ch=pT)/\Cw B w0 H w':=by
 refine bG Tryz.func175 rfl Tryz.ntmps175 rfl hw<|aj ?_
 refine fun g1 _=>aj ?_
 refine fun g2 _=>aj ?_
 refine ff (dO rfl rfl rfl wO (fun w hw=>mT (H:=am g1 [.pointer (some ⟨gr,0,none⟩)] 233::am g2 [.slice none 0 0,.slice none 0 0,.slice none 0 0,.slice none 0 0,.int .i64 0,.int .i64 0] 43::H) gr s (by omega) w (hw.msub ms))) rfl rfl (fun _ _ _ hf hp=>⟨hf.2.1,.inr ⟨_,rfl,⟨lP (by unfold mD;rw[hp.1.1]),hp.1.2⟩,hp.2.msub ms⟩⟩) (fun⟨⟨st,s1⟩,_⟩ e1=>?_)
 refine aO ?_
 refine fun g3 _=>aj ?_
 have e1:mi s=some (st,s1):=e1
 have k1:=jk e1
 refine ff (dO rfl rfl rfl wO (fun w hw=>mT (H:=am g3 [.slice none 0 0,.slice none 0 0,.slice none 0 0,.slice none 0 0,.int .i64 st,.int .i64 0] 43::am g1 [.pointer (some ⟨gr,0,none⟩)] 233::am g2 [.slice none 0 0,.slice none 0 0,.slice none 0 0,.slice none 0 0,.int .i64 0,.int .i64 0] 43::H) gr s1 (by omega) w (hw.msub ms))) rfl rfl (fun _ _ _ hf hp=>⟨hf.2.1,.inr ⟨_,rfl,⟨lP (by unfold mD;rw[e1];simp only;rw[hp.1.1]),hp.1.2⟩,hp.2.msub ms⟩⟩) (fun⟨⟨tr,s2⟩,_⟩ e2=>?_)
 refine aO ?_
 have e2:mi s1=some (tr,s2):=e2
 have k2:=jk e2
 refine ff (dO rfl rfl rfl Rz (fun w hw=>tW (H:=am g3 [.slice none 0 0,.slice none 0 0,.slice none 0 0,.slice none 0 0,.int .i64 st,.int .i64 tr] 43::am g1 [.pointer (some ⟨gr,0,none⟩)] 233::am g2 [.slice none 0 0,.slice none 0 0,.slice none 0 0,.slice none 0 0,.int .i64 0,.int .i64 0] 43::H) gr s2 (by omega) w (hw.msub ms))) rfl rfl (fun _ _ _ hf hp=>⟨hf.2.1,.inr ⟨_,rfl,⟨lP (by unfold mD;rw[e1];simp only;rw[e2];simp only;rw[hp.1.1]),hp.1.2⟩,hp.2.msub ms⟩⟩) (fun⟨⟨i,s3⟩,⟨Ai,ci⟩⟩ e3=>?_)
 refine aO ?_
 have e3:mC s2=some (i,s3):=e3
 have k3:=pp _ _ _ e3
 refine ff (dO rfl rfl rfl Rz (fun w hw=>tW (H:=am g3 [.slice none 0 0,.slice none 0 0,.slice Ai i.length ci,.slice none 0 0,.int .i64 st,.int .i64 tr] 43::ak (.slice Ai i.length ci) i::am g1 [.pointer (some ⟨gr,0,none⟩)] 233::am g2 [.slice none 0 0,.slice none 0 0,.slice none 0 0,.slice none 0 0,.int .i64 0,.int .i64 0] 43::H) gr s3 (by omega) w (hw.msub ms))) rfl rfl (fun _ _ _ hf hp=>⟨hf.2.1,.inr ⟨_,rfl,⟨lP (by unfold mD;rw[e1];simp only;rw[e2];simp only;rw[e3];simp only;rw[hp.1.1]),hp.1.2⟩,hp.2.msub ms⟩⟩) (fun⟨⟨o,s4⟩,⟨Ao,co⟩⟩ e4=>?_)
 refine aO ?_
 have e4:mC s3=some (o,s4):=e4
 have k4:=pp _ _ _ e4
 refine ee (fun w h=>Cw.nilO (List Int) h) ?_
 refine ff (dO rfl rfl rfl N2 (fun w hw=>qB (H:=am g1 [.pointer (some ⟨gr,0,none⟩)] 233::ak (.slice Ai i.length ci) i::ak (.slice Ao o.length co) o::am g2 [.slice none 0 0,.slice none 0 0,.slice none 0 0,.slice none 0 0,.int .i64 0,.int .i64 0] 43::H) gr 228 [.pointer (some ⟨g3,0,none⟩),.pointer (some ⟨g1,0,none⟩)] mC pp (fun acc (g:Option Addr×Nat)=> [am g3 [.slice none 0 0,.slice g.1 acc.length g.2,.slice Ai i.length ci,.slice Ao o.length co,.int .i64 st,.int .i64 tr] 43,ak (.slice g.1 acc.length g.2) acc]) Tryz.call228 (fun s acc g w h1 h2 hw=>FL gr g3 g1 _ _ _ _ _ s acc g.1 g.2 h1 h2 w hw) s4 (none,0) (by omega) w (hw.msub ms))) rfl rfl (fun _ _ _ hf hp=>⟨hf.2.1,.inr ⟨_,rfl,⟨lP (by unfold mD;rw[e1];simp only;rw[e2];simp only;rw[e3];simp only;rw[e4];simp only;rw[hp.1.1]),hp.1.2⟩,hp.2.msub ms⟩⟩) (fun⟨⟨b,s5⟩,⟨Ab,cb⟩⟩ e5=>?_)
 refine aO ?_
 have e5:jH mC s4=some (b,s5):=e5
 have k5:=rY pp _ _ _ e5
 refine ee (fun w h=>Cw.nilO aG h) ?_
 refine ff (dO rfl rfl rfl N2 (fun w hw=>qB (H:=am g1 [.pointer (some ⟨gr,0,none⟩)] 233::ak (.slice Ab b.length cb) b::ak (.slice Ai i.length ci) i::ak (.slice Ao o.length co) o::am g2 [.slice none 0 0,.slice none 0 0,.slice none 0 0,.slice none 0 0,.int .i64 0,.int .i64 0] 43::H) gr 229 [.pointer (some ⟨g1,0,none⟩),.pointer (some ⟨g3,0,none⟩)] jL DR (fun acc (g:Option Addr×Nat)=> [am g3 [.slice g.1 acc.length g.2,.slice Ab b.length cb,.slice Ai i.length ci,.slice Ao o.length co,.int .i64 st,.int .i64 tr] 43,ak (.slice g.1 acc.length g.2) acc]) Tryz.call229 (fun s acc g w h1 h2 hw=>FK gr g3 g1 _ _ _ _ _ s acc g.1 g.2 h1 h2 w hw) s5 (none,0) (by omega) w (hw.msub ms))) rfl rfl (fun _ _ _ hf hp=>⟨hf.2.1,.inr ⟨_,rfl,⟨lP (by unfold mD;rw[e1];simp only;rw[e2];simp only;rw[e3];simp only;rw[e4];simp only;rw[e5];simp only;rw[hp.1.1]),hp.1.2⟩,hp.2.msub ms⟩⟩) (fun⟨⟨f,s6⟩,⟨Af,cf⟩⟩ e6=>?_)
 refine aO ?_
 have e6:jH jL s5=some (f,s6):=e6
 have hm:mD s=some (⟨f,b,i,o,st,tr⟩,s6):=by unfold mD;rw[e1];simp only;rw[e2];simp only;rw[e3];simp only;rw[e4];simp only;rw[e5];simp only;rw[e6]
 refine sE (Ca rfl rfl rfl)<|cQ (fun h7=>?_) (fun h7=>?_)
 ·have ht:ke s=none:=by unfold ke;rw[hm];simp only;rw[if_neg h7]
  refine aj ?_
  refine sE (qN Jr rfl rfl) ?_
  refine kC rfl rfl rfl ?_
  intro a w hf hw
  exact⟨hf.2.1,.inr ⟨_,rfl,⟨ht,rfl⟩,hw.msub ms⟩⟩
 have ht:ke s=some ⟨f,b,i,o,st,tr⟩:=by unfold ke;rw[hm];simp only;rw[if_pos h7]
 refine aj ?_
 intro w hw
 exact .inl ⟨(⟨f,b,i,o,st,tr⟩,⟨Af,cf,Ab,cb,Ai,ci,Ao,co⟩),ht,rfl,hw.msub ms⟩
theorem Dg (w:World):(binOp .neq 20 (.iface 231 (.agg #[])) .nilIface).run Tryz.prog w= .ok (.bool true) w:=by kernel_rfl
theorem wL (w:World):(Instr.typeAssert (.iface 231 (.agg #[])) 20 231 true).run Tryz.prog w= .ok (.tuple #[.agg #[],.bool true]) w:=by kernel_rfl
theorem Fw (ga gb : Nat) (v1 v2 v3 v4 v5 v6 vb : Value) (w : World) (hw : Cw B w0 (am ga [v1, v2, v3, v4, v5, v6] 43 :: am gb [vb] 4 :: H) w) :
    CallsD Tryz.prog 174 #[.pointer (some ⟨ga, 0, none⟩), .pointer (some ⟨gb, 0, none⟩)] (.panicking pT) w fun e u' w' => (∃ v, e = .returned v) /\ settle u' = .returning /\ Cw B w0 (am ga [.slice none 0 0, .slice none 0 0, .slice none 0 0, .slice none 0 0, .int .i64 0, .int .i64 0] 43 :: am gb [.bool false] 4 :: H) w' := by
  refine callsD_of_wpS Tryz.func174 rfl fun c₀ cs hu => ?_
  apply wpS_seq
  apply wpS_region
  simp [wpOpsS, go_sem, recoverD, hu, Tryz.ntmps174, Exit.thenS, pT]
  refine wpS_of_wp ?_
  refine (show CW Tryz.prog ⟨17, []⟩ B w0 _ _ [(0, .pointer (some ⟨ga, 0, none⟩)), (1, .pointer (some ⟨gb, 0, none⟩)), (2, .iface 231 (.agg #[]))] (am ga [v1, v2, v3, v4, v5, v6] 43 :: am gb [vb] 4 :: H) from ?_) _ w ?_ hw
  · refine aj ?_
    refine sE (mL rfl rfl rfl Dg (fun _ => rfl)) <| aj ?_
    refine cK (t := 7) (v' := .bool true) rfl (rfl) ?_
    refine aU rfl <| aj ?_
    refine sE (xr wL rfl rfl) <| aj ?_
    refine fun g1 _ => aj ?_
    refine cK (t := 14) (v' := .bool false) rfl (rfl) ?_
    refine cu rfl <| aj ?_
    intro a w hf hw
    refine ⟨hf.2.1, _, rfl, .tuple #[], ?_, ⟨_, rfl⟩, rfl, hw.msub ms⟩
    simp [results, Tryz.results174]
  · refine ⟨by simp, rfl, fun t v e => ?_⟩
    simp only [lk] at e
    split at e
    · rename_i h
      have h := bW h
      subst h
      injection e with e
      subst e
      exact ⟨by show _ < 17; decide, by simp⟩
    · split at e
      · rename_i h
        have h := bW h
        subst h
        injection e with e
        subst e
        exact ⟨by show _ < 17; decide, by simp⟩
      · split at e
        · rename_i h
          have h := bW h
          subst h
          injection e with e
          subst e
          exact ⟨by show _ < 17; decide, by simp⟩
        · cases e
theorem DA (ga gb : Nat) (v1 v2 v3 v4 v5 v6 vb : Value) (w : World) (hw : Cw B w0 (am ga [v1, v2, v3, v4, v5, v6] 43 :: am gb [vb] 4 :: H) w) :
    CallsD Tryz.prog 174 #[.pointer (some ⟨ga, 0, none⟩), .pointer (some ⟨gb, 0, none⟩)] .returning w fun e u' w' => (∃ v, e = .returned v) /\ u' = .returning /\ Cw B w0 (am ga [v1, v2, v3, v4, v5, v6] 43 :: am gb [vb] 4 :: H) w' := by
  refine callsD_of_wpS Tryz.func174 rfl fun c₀ cs hu => ?_
  apply wpS_seq
  apply wpS_region
  simp [wpOpsS, go_sem, recoverD, hu, Tryz.ntmps174, Exit.thenS]
  refine wpS_of_wp ?_
  refine (show CW Tryz.prog ⟨17, []⟩ B w0 _ _ [(0, .pointer (some ⟨ga, 0, none⟩)), (1, .pointer (some ⟨gb, 0, none⟩)), (2, .nilIface)] (am ga [v1, v2, v3, v4, v5, v6] 43 :: am gb [vb] 4 :: H) from ?_) _ w ?_ hw
  · refine aj ?_
    refine sE (mL rfl rfl rfl yu (fun _ => rfl)) <| aj ?_
    refine cK (t := 7) (v' := .bool false) rfl (rfl) ?_
    refine cu rfl <| aj ?_
    intro a w hf hw
    refine ⟨hf.2.1, .returning, ?_, .tuple #[], ?_, ⟨_, rfl⟩, rfl, hw.msub ms⟩
    · rw [← hu]
    · simp [results, Tryz.results174]
  · refine ⟨by simp, rfl, fun t v e => ?_⟩
    simp only [lk] at e
    split at e
    · rename_i h
      have h := bW h
      subst h
      injection e with e
      subst e
      exact ⟨by show _ < 17; decide, by simp⟩
    · split at e
      · rename_i h
        have h := bW h
        subst h
        injection e with e
        subst e
        exact ⟨by show _ < 17; decide, by simp⟩
      · split at e
        · rename_i h
          have h := bW h
          subst h
          injection e with e
          subst e
          exact ⟨by show _ < 17; decide, by simp⟩
        · cases e
end
def rV (s:List UInt8):az×Bool:=match ke s with
 | some m=>(m,true)
 | none=>(default,false)
theorem JK (s : List UInt8) (r : az × Bool) (hr : rV s = r) (hl : s.length <= 140737488355320) (w : World) :
    Calls Tryz.prog 119 #[.string ⟨s.toArray⟩] w fun e w' => ∃ g : MA, True /\ e = .returned (.tuple #[.agg #[.slice g.Af r.1.F.length g.cf, .slice g.Ab r.1.B.length g.cb, .slice g.Ai r.1.I.length g.ci, .slice g.Ao r.1.out.length g.co, .int .i64 r.1.S, .int .i64 r.1.T], .bool r.2]) /\
      Cw w.heap.size w [ak (.slice g.Af r.1.F.length g.cf) r.1.F, ak (.slice g.Ab r.1.B.length g.cb) r.1.B, ak (.slice g.Ai r.1.I.length g.ci) r.1.I, ak (.slice g.Ao r.1.out.length g.co) r.1.out] w' := by
  have hw := Cw.nil_ w
  refine yb Tryz.func119 rfl Tryz.ntmps119 rfl hw ?_
  refine aj ?_
  refine fun g1 _ => aj ?_
  refine fun g2 _ => aj ?_
  refine BP rfl rfl rfl rfl ?_
  refine aj ?_
  refine fun g3 _ => aj ?_
  refine ff (dO rfl rfl rfl Tryz.call175 (fun w hw => FJ (H := am g1 [.slice none 0 0, .slice none 0 0, .slice none 0 0, .slice none 0 0, .int .i64 0, .int .i64 0] 43 :: am g2 [.bool false] 4 :: []) g3 s hl w (hw.msub ms))) rfl rfl (fun ch a w hf hp => by obtain ⟨⟨h1, rfl⟩, h2⟩ := hp; exact AT hf (fun _ => by simp [go_sem]) (Fw g1 g2 _ _ _ _ _ _ _ w (h2.msub ms)) Tryz.results119 (BQ (cs := [_, _, _, _, _, _]) .a rP cX rfl) (pH .b AL rfl) (fun w hw => by subst hr; unfold rV; rw [h1]; exact ⟨⟨none, 0, none, 0, none, 0, none, 0⟩, trivial, rfl, (jS hw).msub ms⟩)) (fun ⟨m, u⟩ e1 => ?_)
  try dsimp only
  refine dr (cV _ fc cX rfl rfl rfl rfl rfl (by rfl) rfl (by rfl)) rfl rfl (fun _ _ => ?_)
  refine dr (cV _ fc rO rfl rfl rfl rfl rfl (by rfl) rfl (by rfl)) rfl rfl (fun _ _ => ?_)
  refine bH ?_
  have e1 : ke s = some m := e1
  refine ik ?_
  refine Ju (fun _ => by simp [go_sem]) (fun w hw => DA g1 g2 _ _ _ _ _ _ _ w (hw.msub (.s fc (.s fc .r)))) Tryz.results119 (BQ (cs := [_, _, _, _, _, _]) .a rP cX rfl) (pH .b AL rfl) (fun w hw => ?_)
  subst hr
  unfold rV
  rw [e1]
  exact ⟨u, trivial, rfl, hw.msub ms⟩
end
section
theorem xT {x:aG} (h:PK x):(jK x).length<=2554:=by
 have h1:=uL x.L x.L.length
 have h2:=uL x.K x.K.length
 rw[aT] at h1 h2
 have:=h.l.1
 have:=h.s.1
 simp only[jK,lK,bd,ar]
 omega
theorem oh {l:List Int} (h:l.length<=255):(it l).length<=1021:=by
 have h1:=E6 l l.length
 rw[aT] at h1
 rw[H9]
 omega
theorem Ga (a:MA) (m:az) (w:World) (hm:dS w.heap.size w a m) (hmi:MI m) :
  Calls Tryz.prog 118 #[.agg #[.slice a.Af m.F.length a.cf,.slice a.Ab m.B.length a.cb,.slice a.Ai m.I.length a.ci,.slice a.Ao m.out.length a.co,.int .i64 m.S,.int .i64 m.T]] w fun e w'=>e= .returned (.string ⟨(qc m).toArray⟩)/\Below w.heap.size w w':=by
 obtain⟨hs1,ht1,⟨hi1,hi2⟩,⟨ho1,ho2⟩,⟨hb1,hb2⟩,hf1,hf2⟩:=hmi
 have qi:=oh hi1
 have qo:=oh ho1
 have qb:=fun k=>sO (f:=it) m.B (fun l hl=>oh (hb2 l hl).1) k
 refine enter Tryz.func118 rfl Tryz.ntmps118 rfl<|aj ?_
 refine fun g1 _=>aj ?_
 refine fun g2 _=>aj ?_
 intro g3 _
 refine ee (fun w h=>Cw.nilO UInt8 (bt (α:=Int) (m:=2) [m.S,m.T] rfl (io hm.s hm.t) rfl (by decide) h)) ?_
 refine cT rfl rS (fun w hw=>mH g2 [m.S,m.T] _ _ (.own rfl .a) [] none 0 (by simp) w (hw.msub (.s fc (.s fc .r)))) (fun⟨A1,c1⟩ _=>?_)
 refine aO ?_
 obtain⟨b1,e1⟩:∃b,[]++ [m.S,m.T].map aR=b:=⟨_,rfl⟩
 have l1:b1.length=2:=by rw[<-e1];rfl
 rw[e1]
 refine cT rfl RA (fun w hw=>tF g2 m.I _ _ hm.i b1 A1 c1 (by omega) w (hw.msub (.s fc (.s fc .r)))) (fun⟨A2,c2⟩ _=>?_)
 refine aO ?_
 obtain⟨b2,e2⟩:∃b,b1++it m.I=b:=⟨_,rfl⟩
 have l2:b2.length<=1023:=by rw[<-e2,ar];omega
 rw[e2]
 refine cT rfl RA (fun w hw=>tF g2 m.out _ _ hm.o b2 A2 c2 (by omega) w (hw.msub (.s fc (.s fc .r)))) (fun⟨A3,c3⟩ _=>?_)
 refine aO ?_
 intro g4 _
 obtain⟨b3,e3⟩:∃b,b2++it m.out=b:=⟨_,rfl⟩
 have l3:b3.length<=2044:=by rw[<-e3,ar];omega
 rw[e3]
 refine ee (fun w h=>bt (α:=Int) (m:=1) [(m.B.length:Int)] rfl (fT (by unfold aH;omega)) rfl (by decide) h) ?_
 refine cT rfl rS (fun w hw=>mH g2 [(m.B.length:Int)] _ _ (.own rfl .a) b3 A3 c3 (by show _+1<=_;omega) w (hw.msub (.s fc (.s fc .r)))) (fun⟨A4,c4⟩ _=>?_)
 refine aO ?_
 obtain⟨b4,e4⟩:∃b,b3++ [(m.B.length:Int)].map aR=b:=⟨_,rfl⟩
 have l4:b4.length<=2045:=by rw[<-e4,ar];show _+1<=_;omega
 rw[e4]
 refine dA (fun g:Nat×Option Addr×Nat=>g.1<=m.B.length) (fun g=>m.B.length - g.1) (fun g=> [(1,.pointer (some ⟨g1,0,none⟩)),(3,.pointer (some ⟨g2,0,none⟩)),(32,.slice a.Ab m.B.length a.cb),(33,.int .i64 (m.B.length:Int)),(34,.int .i64 (g.1:Int))]) (fun g=> [am g2 [.slice g.2.1 (b4++(m.B.take g.1).flatMap it).length g.2.2] 228,ak (.slice g.2.1 (b4++(m.B.take g.1).flatMap it).length g.2.2) (b4++(m.B.take g.1).flatMap it),am g1 [.slice a.Af m.F.length a.cf,.slice a.Ab m.B.length a.cb,.slice a.Ai m.I.length a.ci,.slice a.Ao m.out.length a.co,.int .i64 m.S,.int .i64 m.T] 43]) (0,A4,c4) (aX _) ?_ (hh:=(fun w h=>by have h:=h.msub (T:= [am g2 _ _,ak _ b4,am g1 [.slice a.Af m.F.length a.cf,.slice a.Ab m.B.length a.cb,.slice a.Ai m.I.length a.ci,.slice a.Ao m.out.length a.co,.int .i64 m.S,.int .i64 m.T] 43]) ms;simpa using h))
 rintro⟨j,Aj,cj⟩ hj'
 try dsimp only
 have hj:j<=m.B.length:=hj'
 have hlj:(b4++(m.B.take j).flatMap it).length<=2045+1021*m.B.length:=by rw[ar];have:=qb j;omega
 refine av (fun hlt=>?_) (fun hlt=>?_)
 ·have hjl:j<m.B.length:=by omega
  obtain⟨Ax,cx,hx,hcell⟩:=hm.b.sub hjl
  have hxl:(m.B.getD j []).length<=255:=(hb2 _ (cI hjl)).1
  refine aj ?_
  refine cS (_) rfl ((.ro hm.b)) ?_
  refine eH rfl (hcell _)<|aj ?_
  refine cT rfl RA (fun w hw=>tF g2 (m.B.getD j []) _ _ hx (b4++(m.B.take j).flatMap it) Aj cj (by omega) w (hw.msub (.s fc (.s fc .r)))) (fun⟨A5,c5⟩ _=>?_)
  refine aO ?_
  rw[<-pw hjl [] b4]
  refine cU (j+1,A5,c5) (by show j+1<=_;omega) (by show _ - _<_ - _;omega)
 obtain rfl:j=m.B.length:=by omega
 have e5:b4++(m.B.take m.B.length).flatMap it=b4++m.B.flatMap it:=by rw[aT]
 rw[e5] at hlj
 rw[e5]
 obtain⟨b5,e6⟩:∃b,b4++m.B.flatMap it=b:=⟨_,rfl⟩
 rw[e6] at hlj
 rw[e6]
 refine aj ?_
 intro g5 _
 refine ee (fun w h=>bt (α:=Int) (m:=1) [(m.F.length:Int)] rfl (fT (by unfold aH;omega)) rfl (by decide) h) ?_
 refine cT rfl rS (fun w hw=>mH g2 [(m.F.length:Int)] _ _ (.own rfl .a) b5 Aj cj (by show _+1<=_;omega) w (hw.msub (.s fc (.s fc .r)))) (fun⟨A6,c6⟩ _=>?_)
 refine aO ?_
 obtain⟨b6,e7⟩:∃b,b5++ [(m.F.length:Int)].map aR=b:=⟨_,rfl⟩
 have l6:b6.length<=2046+1021*m.B.length:=by rw[<-e7,ar];show _+1<=_;omega
 rw[e7]
 refine dA (fun g:Nat×Option Addr×Nat=>g.1<=m.F.length) (fun g=>m.F.length - g.1) (fun g=> [(3,.pointer (some ⟨g2,0,none⟩)),(49,.slice a.Af m.F.length a.cf),(50,.int .i64 (m.F.length:Int)),(51,.int .i64 (g.1:Int))]) (fun g=> [am g2 [.slice g.2.1 (b6++(m.F.take g.1).flatMap jK).length g.2.2] 228,ak (.slice g.2.1 (b6++(m.F.take g.1).flatMap jK).length g.2.2) (b6++(m.F.take g.1).flatMap jK)]) (0,A6,c6) (aX _) ?_ (hh:=(fun w h=>by have h:=h.msub (T:= [am g2 _ _,ak _ b6]) ms;simpa using h))
 rintro⟨k,Ak,ck⟩ hk'
 try dsimp only
 have hk:k<=m.F.length:=hk'
 have hlk:(b6++(m.F.take k).flatMap jK).length<=2046+1021*m.B.length+2554*k:=by
  rw[ar]
  have h1:=ul (m.F.take k) (m:=2554) (f:=jK) (fun x hx=>xT (hf2 x (iV hx)))
  rw[aA,Nat.min_eq_left hk] at h1
  omega
 refine av (fun hlt2=>?_) (fun hlt2=>?_)
 ·have hkl:k<m.F.length:=by omega
  obtain⟨Al,cl,As,cs,hl,hst,hi64,hcell⟩:=hm.f.fr hkl
  have hfr:=hf2 _ (fE hkl)
  have hfl:=hfr.l.1
  have hfs:=hfr.s.1
  have hfb:=pw (f:=jK) hkl default b6
  obtain⟨X,hX⟩:∃X,aN m.F k=X:=⟨_,rfl⟩
  rw[show m.F.getD k default=X from hX] at hfb
  rw[hX] at hfl hfs hfr hi64 hl hst hcell
  obtain⟨b7,e8⟩:∃b,b6++(m.F.take k).flatMap jK=b:=⟨_,rfl⟩
  rw[e8] at hlk hfb
  rw[e8]
  refine aj ?_
  refine cS (_) rfl ((.ro hm.f)) ?_
  refine iY rfl (hcell _)<|aj ?_
  refine fun g6 _=>aj ?_
  intro g7 _
  refine ee (fun w h=>bt (α:=Int) (m:=2) [X.func,X.pc] rfl (io hi64.1 hi64.2) rfl (by decide) h) ?_
  refine cT rfl rS (fun w hw=>mH g2 [X.func,X.pc] _ _ (.own rfl .a) b7 Ak ck (by show _+2<=_;omega) w (hw.msub (.s fc (.s fc .r)))) (fun⟨A7,c7⟩ _=>?_)
  refine aO ?_
  obtain⟨b8,e9⟩:∃b,b7++ [X.func,X.pc].map aR=b:=⟨_,rfl⟩
  have l8:b8.length=b7.length+2:=by rw[<-e9,ar];rfl
  rw[e9]
  refine cT rfl Tryz.call173 (fun w hw=>zn g2 X.L _ _ hl b8 A7 c7 (by omega) w (hw.msub (.s fc (.s fc .r)))) (fun⟨A8,c8⟩ _=>?_)
  refine aO ?_
  obtain⟨b9,e10⟩:∃b,b8++lK X.L=b:=⟨_,rfl⟩
  have l9:b9.length<=b7.length+1278:=by
   have h1:=uL X.L X.L.length
   rw[aT] at h1
   rw[<-e10,ar]
   simp only[lK,bd]
   omega
  rw[e10]
  refine cT rfl Tryz.call173 (fun w hw=>zn g2 X.K _ _ hst b9 A8 c8 (by omega) w (hw.msub (.s fc (.s fc .r)))) (fun⟨A9,c9⟩ _=>?_)
  refine aO ?_
  rw[show b9++lK X.K=b6++(m.F.take (k+1)).flatMap jK from by rw[hfb,<-e10,<-e9];simp[jK]]
  refine cU (k+1,A9,c9) (by show k+1<=_;omega) (by show _ - _<_ - _;omega)
 obtain rfl:k=m.F.length:=by omega
 have hall:b6++(m.F.take m.F.length).flatMap jK=qc m:=by
  rw[aT,<-e7,<-e6,<-e4,<-e3,<-e2,<-e1]
  simp[qc]
 rw[hall]
 refine aj ?_
 refine sE (HU lc iW pf (SF.own rfl fc) rfl rfl)<|aj ?_
 intro w hw
 exact⟨rfl,hw.below⟩
def sa (fs:List au) (m:az):List UInt8:=if dF fs m=0 then qc m else []
theorem zT (Ap:Option Addr) (cp:Nat) (fs:List au) (a:MA) (m:az) (r:List UInt8) (hr:sa fs m=r) (w:World) (hs:Sl w (.slice Ap fs.length cp) fs) (hm:dS w.heap.size w a m) (hfit:jX m.F) :
  Calls Tryz.prog 59 #[.agg #[.slice Ap fs.length cp],.agg #[.slice a.Af m.F.length a.cf,.slice a.Ab m.B.length a.cb,.slice a.Ai m.I.length a.ci,.slice a.Ao m.out.length a.co,.int .i64 m.S,.int .i64 m.T]] w fun e w'=>e= .returned (.tuple #[.string ⟨r.toArray⟩,.int .i64 (dF fs m)])/\Below w.heap.size w w':=by
 unfold sa at hr
 refine enter Tryz.func59 rfl Tryz.ntmps59 rfl<|aj ?_
 refine fun g1 _=>aj ?_
 refine fun g2 _=>aj ?_
 refine bX rfl vm (fun w hw=>kL Ap cp fs a m w (hw.ro hs) (dS.ro hw hm) hfit)<|cQ (fun h=>?_) (fun h=>?_)
 ·rw[if_neg h] at hr
  subst hr
  refine aj ?_
  intro w hw
  exact⟨rfl,hw.below⟩
 have h:dF fs m=0:=by simpa using h
 rw[if_pos h] at hr
 subst hr
 obtain⟨hF,hR⟩:=mX h
 refine aj ?_
 refine bX rfl Tryz.call118 (fun w hw=>Ga a m w (dS.ro hw hm) (B0 hF hR))<|aj ?_
 intro w hw
 rw[h]
 exact⟨rfl,hw.below⟩
def oB (fs:List au) (s:List UInt8):Int:=if fl fs≠0 then fl fs else match ke s with
 | none=>1
 | some m=>ls fs m
def xk (fs:List au) (s:List UInt8):az:=if oB fs s=0 then (rV s).1 else default
theorem BC {s:List UInt8} {m:az} (h:ke s=some m):aH m.S/\aH m.T:=by
 unfold ke at h
 split at h
 ·cases h
 rename_i x r e
 split at h
 ·obtain rfl:=eq h
  unfold mD at e
  split at e
  ·cases e
  rename_i st s1 e1
  split at e
  ·cases e
  rename_i tr s2 e2
  split at e
  ·cases e
  split at e
  ·cases e
  split at e
  ·cases e
  split at e
  ·cases e
  injection e with e
  injection e with e _
  subst e
  have h1:=(jk e1).2
  have h2:=(jk e2).2
  exact⟨⟨by show _<=st;omega,by show st<=_;omega⟩,⟨by show _<=tr;omega,by show tr<=_;omega⟩⟩
 cases h
theorem JJ {s:List UInt8} {m:az} (h:ke s=some m):jX m.F:=by
 unfold ke at h
 split at h
 ·cases h
 rename_i x r e
 split at h
 ·obtain rfl:=eq h
  unfold mD at e
  split at e
  ·cases e
  split at e
  ·cases e
  split at e
  ·cases e
  split at e
  ·cases e
  split at e
  ·cases e
  split at e
  ·cases e
  rename_i fr s6 e6
  injection e with e
  injection e with e _
  subst e
  have hl:=tM e6
  refine⟨by show fr.length*64<=_;omega,fun x hx=>?_⟩
  have hx:x∈fr:=hx
  have key:∀(k:Nat) (s r:List UInt8) (l:List aG),gy jL k s=some (l,r)->∀x∈l,x.L.length<=255/\x.K.length<=255:=by
   intro k
   induction k with
   | zero=>
    intro s r l e x hx
    obtain⟨rfl,_⟩: []=l/\s=r:=by simpa [gy] using e
    cases hx
   | succ k ih=>
    intro s r l e x hx
    unfold gy at e
    split at e
    ·cases e
    rename_i y t e1
    split at e
    ·cases e
    rename_i l2 u e2
    obtain⟨rfl,_⟩:y::l2=l/\u=r:=by simpa using e
    rcases dC.1 hx with rfl | hx
    ·unfold jL at e1
     split at e1
     ·cases e1
     split at e1
     ·cases e1
     split at e1
     ·cases e1
     rename_i q3 s3 e3
     split at e1
     ·cases e1
     rename_i q4 s4 e4
     injection e1 with e1
     injection e1 with e1 _
     subst e1
     exact⟨tM e3,tM e4⟩
    exact ih _ _ _ e2 x hx
  unfold jH at e6
  split at e6
  ·cases e6
  have:=key _ _ _ _ e6 x hx
  omega
 cases h
theorem uj (Ap:Option Addr) (cp:Nat) (fs:List au) (s:List UInt8) (m:az) (hr:xk fs s=m) (hl:s.length<=140737488355320) (w:World) (hs:Sl w (.slice Ap fs.length cp) fs) :
  Calls Tryz.prog 60 #[.agg #[.slice Ap fs.length cp],.string ⟨s.toArray⟩] w fun e w'=> ∃g:MA,True/\
   e= .returned (.tuple #[.agg #[.slice g.Af m.F.length g.cf,.slice g.Ab m.B.length g.cb,.slice g.Ai m.I.length g.ci,.slice g.Ao m.out.length g.co,.int .i64 m.S,.int .i64 m.T],.int .i64 (oB fs s)])/\Cw w.heap.size w [ak (.slice g.Af m.F.length g.cf) m.F,ak (.slice g.Ab m.B.length g.cb) m.B,ak (.slice g.Ai m.I.length g.ci) m.I,ak (.slice g.Ao m.out.length g.co) m.out] w':=by
 unfold xk at hr
 refine enter Tryz.func60 rfl Tryz.ntmps60 rfl<|aj ?_
 refine fun g1 _=>aj ?_
 refine fun g2 _=>aj ?_
 refine bX rfl GR (fun w hw=>oI Ap cp fs w (hw.ro hs))<|cQ (fun h=>?_) (fun h=>?_)
 ·have hE:oB fs s=fl fs:=by unfold oB;rw[if_pos h]
  rw[hE,if_neg h] at hr
  subst hr
  rw[hE]
  refine aj ?_
  intro w hw
  exact⟨⟨none,0,none,0,none,0,none,0⟩,trivial,rfl,(jS hw).msub ms⟩
 have h:fl fs=0:=by simpa using h
 have hF:=sP h
 obtain⟨q,hq⟩:∃q,rV s=q:=⟨_,rfl⟩
 refine aj ?_
 refine eb rfl Tryz.call119 (fun w hw=>JK s q hq hl w) (fun g0 _=>aj ?_)
 refine fun g3 _=>aj ?_
 obtain⟨q,b⟩:=q
 cases ht:ke s with
 | none=>
  have hE:oB fs s=1:=by unfold oB;rw[if_neg (fun e=>e h),ht]
  rw[hE,if_neg (by decide)] at hr
  subst hr
  have hb:b=false:=by
   unfold rV at hq
   rw[ht] at hq
   exact(Prod.mk.inj hq).2.symm
  subst hb
  rw[hE]
  refine cK (t:=22) (v':= .bool true) rfl (rfl) ?_
  refine aU rfl<|aj ?_
  intro w hw
  exact⟨⟨none,0,none,0,none,0,none,0⟩,trivial,rfl,(jS hw).msub ms⟩
 | some m0=>
  have hE:oB fs s=ls fs m0:=by unfold oB;rw[if_neg (fun e=>e h),ht]
  have hq2:m0=q/\true=b:=by
   unfold rV at hq
   rw[ht] at hq
   exact Prod.mk.inj hq
  obtain⟨rfl,rfl⟩:=hq2
  rw[hq] at hr
  have hfit:=JJ ht
  refine cK (t:=22) (v':= .bool false) rfl (rfl) ?_
  refine cu rfl<|aj ?_
  refine bX rfl Tryz.call74 (fun w hw=>xC Ap cp fs g0 m0 w (hw.ro hs) (dx hw fc fc fc fc rfl rfl rfl rfl (BC ht).1 (BC ht).2) hF hfit)<|aj ?_
  rw[hE]
  refine jq rfl (fun h2=>?_) (fun h2=>?_)
  ·rw[hE,if_neg h2] at hr
   subst hr
   refine aj ?_
   intro w hw
   exact⟨⟨none,0,none,0,none,0,none,0⟩,trivial,rfl,(jS hw).msub ms⟩
  have h2:ls fs m0=0:=by simpa using h2
  rw[hE,if_pos h2] at hr
  subst hr
  rw[h2]
  refine aj ?_
  intro w hw
  exact⟨g0,trivial,rfl,hw.msub ms⟩
end
section
def uk:List UInt8:=qc fW
theorem iw:dF ed fW=0/\uk.length=15/\oB ed uk=0/\xk ed uk=fW/\oB ed (uk++ [122])=1:=by
 refine⟨?_,?_,?_,?_,?_⟩ <;> kernel_rfl
theorem Ir (A:Option Addr) (c:Nat) (a:MA) (w:World) (hs:Sl w (.slice A 1 c) ed) (hm:dS w.heap.size w a fW) :
  Calls Tryz.prog 59 #[.agg #[.slice A 1 c],.agg #[.slice a.Af 1 a.cf,.slice a.Ab 0 a.cb,.slice a.Ai 0 a.ci,.slice a.Ao 0 a.co,.int .i64 0,.int .i64 0]] w fun e w'=>e= .returned (.tuple #[.string ⟨uk.toArray⟩,.int .i64 0])/\Below w.heap.size w w':=by
 have:=zT A c ed a fW uk (by unfold sa;rw[if_pos iw.1];rfl) w hs hm ze
 rw[iw.1] at this
 exact this
theorem Is (A:Option Addr) (c:Nat) (w:World) (hs:Sl w (.slice A 1 c) ed) :
  Calls Tryz.prog 60 #[.agg #[.slice A 1 c],.string ⟨uk.toArray⟩] w fun e w'=> ∃g:MA,True/\
   e= .returned (.tuple #[.agg #[.slice g.Af 1 g.cf,.slice g.Ab 0 g.cb,.slice g.Ai 0 g.ci,.slice g.Ao 0 g.co,.int .i64 0,.int .i64 0],.int .i64 0])/\Cw w.heap.size w [ak (.slice g.Af 1 g.cf) fW.F,ak (.slice g.Ab 0 g.cb) fW.B,ak (.slice g.Ai 0 g.ci) fW.I,ak (.slice g.Ao 0 g.co) fW.out] w':=by
 have:=uj A c ed uk fW iw.2.2.2.1 (by rw[iw.2.1];decide) w hs
 rw[iw.2.2.1] at this
 exact this
theorem KH (A:Option Addr) (c:Nat) (w:World) (hs:Sl w (.slice A 1 c) ed) :
  Calls Tryz.prog 60 #[.agg #[.slice A 1 c],.string ⟨(uk++ [122]).toArray⟩] w fun e w'=> ∃g:MA,True/\
   e= .returned (.tuple #[.agg #[.slice g.Af 0 g.cf,.slice g.Ab 0 g.cb,.slice g.Ai 0 g.ci,.slice g.Ao 0 g.co,.int .i64 0,.int .i64 0],.int .i64 1])/\Cw w.heap.size w [ak (.slice g.Af 0 g.cf) (default:az).F,ak (.slice g.Ab 0 g.cb) (default:az).B,ak (.slice g.Ai 0 g.ci) (default:az).I,ak (.slice g.Ao 0 g.co) (default:az).out] w':=by
 have:=uj A c ed (uk++ [122]) default (by unfold xk;rw[iw.2.2.2.2];rfl) (by rw[ar,iw.2.1];decide) w hs
 rw[iw.2.2.2.2] at this
 exact this
theorem zc (w:World):Calls Tryz.prog 49 #[] w fun e w'=>e= .returned (.bool true)/\Below w.heap.size w w':=by
 have hl:=iw.2.1
 refine enter Tryz.func49 rfl Tryz.ntmps49 rfl<|aj ?_
 refine eb rfl kA (fun w hw=>fU w) (fun gp _=>?_)
 refine eb rfl vk (fun w hw=>sJ _ _ w (SF.at_ (SF.own rfl fc) hw)) (fun a1 _=>aj ?_)
 intro g1 _
 refine dr (cV _ fc cX rfl rfl rfl rfl rfl (by rfl) rfl (by rfl)) rfl rfl (fun _ _=>?_)
 refine ay ?_
 refine bH<|eh (fun _:Unit=>True) (fun _=> [(1,.pointer (some ⟨g1,0,none⟩)),(3,.string ⟨uk.toArray⟩),(4,.int .i64 0)]) (fun _=> [am g1 [.slice a1.Af 1 a1.cf,.slice a1.Ab 0 a1.cb,.slice a1.Ai 0 a1.ci,.slice a1.Ao 0 a1.co,.int .i64 0,.int .i64 0] 43,ak (.slice a1.Af 1 a1.cf) fW.F,ak (.slice a1.Ab 0 a1.cb) fW.B,ak (.slice a1.Ai 0 a1.ci) fW.I,ak (.slice a1.Ao 0 a1.co) fW.out]) ?_ ?_
 ·refine bz [3,2,8,10,13,16,19,22] [2,3,4,5,6,7] rfl<|aj ?_
  refine ia rfl rfl kA (fun w hw=>fU w) (fun gq _=>?_)
  refine km rfl rfl Tryz.call59 (fun w hw=>Ir _ _ a1 w (SF.at_ (SF.own rfl fc) hw) (dx (m:=fW) hw fc fc fc fc rfl rfl rfl rfl (by decide) (by decide)))<|aj ?_
  refine bu<|bS () (trivial) (hh:=(fun _ h=>h.msub ms))
 rintro _ _
 refine aO ?_
 refine eb rfl kA (fun w hw=>fU w) (fun gq _=>aj ?_)
 refine eb rfl RR (fun w hw=>Is _ _ w (SF.at_ (SF.own rfl fc) hw)) (fun a2 _=>aj ?_)
 refine fun g2 _=>aj ?_
 refine eb rfl kA (fun w hw=>fU w) (fun gr _=>?_)
 refine ay ?_
 refine sE (EM (by rw[hl];decide) rfl rfl rfl) ?_
 refine eb rfl RR (fun w hw=>KH _ _ w (SF.at_ (SF.own rfl fc) hw)) (fun a3 _=>aj ?_)
 intro g3 _
 refine dr (cV _ fc cX rfl rfl rfl rfl rfl (by rfl) rfl (by rfl)) rfl rfl (fun _ _=>?_)
 refine ay ?_
 refine bH<|cc<|bO<|ay ?_
 refine ay ?_
 refine ay ?_
 refine bh (t:=35) (v':= .bool true) rfl (rfl) ?_
 refine ay ?_
 refine ay ?_
 refine ay ?_
 refine ay ?_
 refine bh (t:=39) (v':= .bool true) rfl (rfl) ?_
 refine ay ?_
 refine ay ?_
 refine ay ?_
 refine ay ?_
 refine bh (t:=43) (v':= .bool true) rfl (rfl) ?_
 refine ay ?_
 refine dT (uP iW rfl rfl) rfl rfl<|ay ?_
 refine ay ?_
 refine ay ?_
 rw[hl]
 refine bh (t:=48) (v':= .bool true) rfl (rfl)<|aj ?_
 refine bX rfl PN (fun w hw=>pU a1 a2 fW fW w (dx (m:=fW) hw fc fc fc fc rfl rfl rfl rfl (by decide) (by decide)) (dx (m:=fW) hw fc fc fc fc rfl rfl rfl rfl (by decide) (by decide)))<|aj ?_
 intro w hw
 exact⟨by rw[decide_eq_true rfl],hw.below⟩
end
