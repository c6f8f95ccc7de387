/- Lemmas of one proof. -/
import Derived.Test.YthfkmcbblnbfaaaGreatDoorM0R
import Derived.Test.YthfkmcbblnbfaaaGreatDoorM51R

namespace Go.Proofs.YthfkmcbblnbfaaaGreatDoor
set_option maxRecDepth 100000
set_option maxHeartbeats 16000000
open Go.RowKit
section
def dv (l:List aC):List Int:=(l.filter fun v=>v.ref && decide (0<v.n)).map fun v=>v.n
def qD (m:az):List Int:=m.F.flatMap fun x=>dv x.L++dv x.K
theorem KL (a b:List aC):dv (a++b)=dv a++dv b:=by unfold dv;rw[List.filter_append,fd]
theorem KK (v:aC):dv [v]=if v.ref=true/\0<v.n then [v.n] else []:=by
 unfold dv
 by_cases h:v.ref=true/\0<v.n
 ·rw[if_pos h,List.filter_cons_of_pos (by simp[h.1,h.2])];rfl
 rw[if_neg h,List.filter_cons_of_neg (by simpa using h)];rfl
theorem zX {l:List aC} {k:Nat} (hk:k<l.length):dv (l.take (k+1))=dv (l.take k)++dv [l.getD k default]:=by rw[fe l k default hk,KL]
theorem ot (l:List aC):(dv l).length<=l.length:=by
 unfold dv
 rw[aQ]
 exact List.length_filter_le _ _
section
variable {B:Nat} {w0:World} {H:List aJ}
theorem Ek {A:Option Addr} {m c k:Nat} {xs:List aC} (h:bJ w0 B (.slice A m c) xs) (hk:k<m):aH (xs.getD k default).n:=by
 obtain⟨cs,⟨_,hi⟩,_⟩:=h.elr hk default
 exact hi
theorem CS (go b o:Nat) (v:aC) (hi:aH v.n) (hv:∀(H:List aJ) (w:World),Cw B w0 H w->∀j u,([.bool v.ref,.int .i64 v.n]:List Value)[j]? =some u->w.cell? ⟨b,o+j,none⟩=some u) (acc:List Int) (A:Option Addr) (c:Nat) (hb:acc.length<=1000000) (w:World)
  (hw:Cw B w0 (am go [.slice A acc.length c] 35::ak (.slice A acc.length c) acc::H) w) :
  Calls Tryz.prog 166 #[.pointer (some ⟨b,o,none⟩),.pointer (some ⟨go,0,none⟩)] w fun e w'=> ∃g:Option Addr×Nat,True/\e= .returned (.tuple #[])/\Cw B w0 (am go [.slice g.1 (acc++dv [v]).length g.2] 35::ak (.slice g.1 (acc++dv [v]).length g.2) (acc++dv [v])::H) w':=by
 obtain⟨r,n⟩:=v
 have hg:=KK ⟨r,n⟩
 refine bG Tryz.func166 rfl Tryz.ntmps166 rfl hw<|aj ?_
 refine eH rfl (fun w hw=>hv _ w hw 0 _ rfl) ?_
 refine ay ?_
 cases r
 ·rw[if_neg (by simp)] at hg
  rw[hg,eu]
  refine bh (t:=7) (v':= .bool false) rfl (rfl)<|aj ?_
  refine cu rfl<|aj ?_
  intro w hw
  exact⟨(A,c),trivial,rfl,hw.msub ms⟩
 refine bh (t:=7) (v':= .bool true) rfl (rfl)<|aj ?_
 refine eH rfl (fun w hw=>hv _ w hw 1 _ rfl)<|av (fun hn=>?_) (fun hn=>?_)
 ·have hn:0<n:=hn
  rw[if_pos ⟨rfl,hn⟩] at hg
  rw[hg]
  refine fx [0,3,6,9,12,17,20,23] [7] rfl [am go [.slice A acc.length c] 35]<|aj ?_
  refine tE rfl (bQ (fun w hw=>hv _ w hw 1 _ rfl) rfl rfl be)<|aj ?_
  intro g1 _
  refine pE rfl (cH (α:=Int) (bytes:=8) n [] rfl aw (aV cO) rfl (eD fc fc) (uV hi) (by omega) (by omega) rfl rfl rfl) (fun⟨A3,c3⟩ _=>?_)
  refine aO ?_
  intro w hw
  exact⟨(A3,c3),trivial,rfl,hw.msub ms⟩
 have hn:¬0<n:=hn
 rw[if_neg (fun h=>hn h.2)] at hg
 rw[hg,eu]
 refine aj ?_
 intro w hw
 exact⟨(A,c),trivial,rfl,hw.msub ms⟩
theorem zt {m:az} {i:Nat} (hi:i<m.F.length):((m.F.take (i+1)).flatMap fun x=>dv x.L++dv x.K)=((m.F.take i).flatMap fun x=>dv x.L++dv x.K)++(dv (aN m.F i).L++dv (aN m.F i).K):=by
 rw[yG hi,mQ]
 simp
theorem Gh {m:az} (_:m.F.length<=6) (hf:∀x∈m.F,x.L.length<=1000/\x.K.length<=8) (i:Nat):((m.F.take i).flatMap fun x=>dv x.L++dv x.K).length<=1008*i:=by
 induction i with
 | zero=>simp
 | succ i ih=>
  by_cases h:i<m.F.length
  ·rw[zt h,ar,ar]
   have h1:=hf _ (fE h)
   have h2:=ot (aN m.F i).L
   have h3:=ot (aN m.F i).K
   omega
  rw[bA (by omega)]
  rw[bA (by omega)] at ih
  omega
theorem IJ (g go:Nat) (a:MA) (m:az) (hm:dS B w0 a m) (hn6:m.F.length<=6) (hfs:∀x∈m.F,x.L.length<=1000/\x.K.length<=8) (A:Option Addr) (c:Nat) (w:World)
  (hw:Cw B w0 (am g [.slice a.Af m.F.length a.cf,.slice a.Ab m.B.length a.cb,.slice a.Ai m.I.length a.ci,.slice a.Ao m.out.length a.co,.int .i64 m.S,.int .i64 m.T] 43::am go [.slice A 0 c] 35::ak (.slice A 0 c) ([]:List Int)::H) w) :
  Calls Tryz.prog 163 #[.pointer (some ⟨g,0,none⟩),.func (.func 166) #[] #[.pointer (some ⟨go,0,none⟩)]] w fun e w'=> ∃q:Option Addr×Nat,True/\e= .returned (.tuple #[])/\Cw B w0 (am g [.slice a.Af m.F.length a.cf,.slice a.Ab m.B.length a.cb,.slice a.Ai m.I.length a.ci,.slice a.Ao m.out.length a.co,.int .i64 m.S,.int .i64 m.T] 43::am go [.slice q.1 (qD m).length q.2] 35::ak (.slice q.1 (qD m).length q.2) (qD m)::H) w':=by
 have bf:=bE hm.f
 refine bG Tryz.func163 rfl Tryz.ntmps163 rfl hw<|aj ?_
 refine dA (fun g2:Nat×(Option Addr×Nat)=>g2.1<=m.F.length) (fun g2=>m.F.length - g2.1) (fun g2=> [(0,.pointer (some ⟨g,0,none⟩)),(1,.func (.func 166) #[] #[.pointer (some ⟨go,0,none⟩)]),(12,.int .i64 (m.F.length:Int)),(13,.int .i64 (g2.1:Int))]) (fun g2=>am g [.slice a.Af m.F.length a.cf,.slice a.Ab m.B.length a.cb,.slice a.Ai m.I.length a.ci,.slice a.Ao m.out.length a.co,.int .i64 m.S,.int .i64 m.T] 43::am go [.slice g2.2.1 ((m.F.take g2.1).flatMap fun x=>dv x.L++dv x.K).length g2.2.2] 35::ak (.slice g2.2.1 ((m.F.take g2.1).flatMap fun x=>dv x.L++dv x.K).length g2.2.2) ((m.F.take g2.1).flatMap fun x=>dv x.L++dv x.K)::H) (0,(A,c)) (aX _) ?_ (hh:=(fun w h=>h.msub ms))
 rintro⟨i,⟨A1,c1⟩⟩ hi'
 try dsimp only
 have hi:i<=m.F.length:=hi'
 have hsm:=Gh hn6 hfs i
 refine av (fun hlt=>?_) (fun hlt=>?_)
 ·have hil:i<m.F.length:=by omega
  obtain⟨F1,d1,F2,d2,hl,hst,hI,hcell⟩:=hm.f.fr hil
  have hxs:=hfs _ (fE hil)
  have hsn:=zt hil
  generalize hacc:((m.F.take i).flatMap fun x=>dv x.L++dv x.K)=acc at hsm hsn
  generalize hx:aN m.F i=x at hl hst hI hcell hxs hsn
  have hg1:=ot x.L
  have hg2:=ot x.K
  refine aj ?_
  refine bz [0,3,6,9,12,15,18,21,24,27,30,33,36,39,42,45,54,50,51] [] rfl<|aj ?_
  refine tE rfl (bg (k:=i) cD dI (.ro hm.f) (by omega) rfl rfl rfl)<|aj ?_
  refine tE rfl (bQ (fun w hw=>hcell _ w hw 2 _ rfl) rfl rfl dR)<|aj ?_
  refine tE rfl (bg (k:=i) cD dI (.ro hm.f) (by omega) rfl rfl rfl)<|aj ?_
  refine tE rfl (bQ (fun w hw=>hcell _ w hw 3 _ rfl) rfl rfl dR)<|aj ?_
  refine fun g1 _=>aj ?_
  refine dA (fun q:Nat×(Option Addr×Nat)=>q.1<=2) (fun q=>2 - q.1) (fun q=> [(0,.pointer (some ⟨g,0,none⟩)),(1,.func (.func 166) #[] #[.pointer (some ⟨go,0,none⟩)]),(12,.int .i64 (m.F.length:Int)),(13,.int .i64 (i:Int)),(32,.slice (some ⟨g1,0,none⟩) 2 2),(33,.int .i64 2),(34,.int .i64 (q.1:Int))]) (fun q=>am go [.slice q.2.1 (acc++(if q.1=0 then [] else if q.1=1 then dv x.L else dv x.L++dv x.K)).length q.2.2] 35::ak (.slice q.2.1 (acc++(if q.1=0 then [] else if q.1=1 then dv x.L else dv x.L++dv x.K)).length q.2.2) (acc++(if q.1=0 then [] else if q.1=1 then dv x.L else dv x.L++dv x.K))::am g1 [.slice F1 x.L.length d1,.slice F2 x.K.length d2] 116::am g [.slice a.Af m.F.length a.cf,.slice a.Ab m.B.length a.cb,.slice a.Ai m.I.length a.ci,.slice a.Ao m.out.length a.co,.int .i64 m.S,.int .i64 m.T] 43::H) (0,(A1,c1)) (aX _) ?_ (hh:=(fun w h=>(show Cw _ _ (am go [.slice A1 (acc++ []).length c1] 35::ak (.slice A1 (acc++ []).length c1) (acc++ [])::am g1 [.slice F1 x.L.length d1,.slice F2 x.K.length d2] 116::am g [.slice a.Af m.F.length a.cf,.slice a.Ab m.B.length a.cb,.slice a.Ai m.I.length a.ci,.slice a.Ao m.out.length a.co,.int .i64 m.S,.int .i64 m.T] 43::H) w from by rw[eu];exact h.msub ms)))
  rintro⟨j,⟨A2,c2⟩⟩ hj'
  try dsimp only
  have hj:j<=2:=hj'
  refine av (fun hlt2=>?_) (fun hlt2=>?_)
  ·rcases(show j=0\/j=1 by omega) with rfl | rfl
   ·try dsimp only
    rw[if_pos rfl,eu]
    refine aj ?_
    refine sE (jy (k:=0) nh ft rfl (by decide) rfl rfl rfl) ?_
    refine eH rfl (fun w hw=>fP (v:= .slice F1 x.L.length d1) fc rfl w hw)<|aj ?_
    refine dA (fun q:Nat×(Option Addr×Nat)=>q.1<=x.L.length) (fun q=>x.L.length - q.1) (fun q=> [(0,.pointer (some ⟨g,0,none⟩)),(1,.func (.func 166) #[] #[.pointer (some ⟨go,0,none⟩)]),(6,.slice F1 x.L.length d1),(12,.int .i64 (m.F.length:Int)),(13,.int .i64 (i:Int)),(32,.slice (some ⟨g1,0,none⟩) 2 2),(33,.int .i64 2),(34,.int .i64 0),(39,.int .i64 (x.L.length:Int)),(40,.int .i64 (q.1:Int))]) (fun q=>am go [.slice q.2.1 (acc++dv (x.L.take q.1)).length q.2.2] 35::ak (.slice q.2.1 (acc++dv (x.L.take q.1)).length q.2.2) (acc++dv (x.L.take q.1))::am g1 [.slice F1 x.L.length d1,.slice F2 x.K.length d2] 116::am g [.slice a.Af m.F.length a.cf,.slice a.Ab m.B.length a.cb,.slice a.Ai m.I.length a.ci,.slice a.Ao m.out.length a.co,.int .i64 m.S,.int .i64 m.T] 43::H) (0,(A2,c2)) (aX _) ?_ (hh:=(fun w h=>(show Cw _ _ (am go [.slice A2 (acc++dv (x.L.take 0)).length c2] 35::ak (.slice A2 (acc++dv (x.L.take 0)).length c2) (acc++dv (x.L.take 0))::am g1 [.slice F1 x.L.length d1,.slice F2 x.K.length d2] 116::am g [.slice a.Af m.F.length a.cf,.slice a.Ab m.B.length a.cb,.slice a.Ai m.I.length a.ci,.slice a.Ao m.out.length a.co,.int .i64 m.S,.int .i64 m.T] 43::H) w from by rw[List.take_zero,show dv []= [] from rfl,eu];exact h.msub ms)))
    rintro⟨k,⟨A3,c3⟩⟩ hk'
    try dsimp only
    have hk:k<=x.L.length:=hk'
    refine av (fun hlt3=>?_) (fun hlt3=>?_)
    ·have hkl:k<x.L.length:=by omega
     have hgk:=ot (x.L.take k)
     rw[aA] at hgk
     have hsk:=zX hkl
     refine aj ?_
     refine cS (k) rfl ((.ro hl)) ?_
     refine oE (fN rfl rfl rfl Tryz.call166 (fun w hw=>CS go (ab F1) (ao F1+k*2) (x.L.getD k default) (Ek hl hkl) (fun H w hw j u hu=>SF.val (SF.ro hl) hkl default w hw j u hu) (acc++dv (x.L.take k)) A3 c3 (by simp only[ar];omega) w (hw.msub (.s fc (.s fc .r))))) (fun⟨A4,c4⟩ _=>?_)
     refine aO ?_
     rw[bD,<-hsk]
     refine cU (k+1,(A4,c4)) (by show k+1<=_;omega) (by show _ - _<_ - _;omega) (hh:=(fun w h=>h.msub ms))
    obtain rfl:k=x.L.length:=by omega
    rw[aT]
    refine aj ?_
    refine cU (1,(A3,c3)) ((by decide:1<=2)) (by show 2 - 1<2 - 0;decide) (hh:=(fun w h=>h.msub ms))
   try dsimp only
   rw[if_neg (by decide),if_pos rfl]
   refine aj ?_
   refine sE (jy (k:=1) nh ft rfl (by decide) rfl rfl rfl) ?_
   refine eH rfl (fun w hw=>fP (v:= .slice F2 x.K.length d2) fc rfl w hw)<|aj ?_
   refine dA (fun q:Nat×(Option Addr×Nat)=>q.1<=x.K.length) (fun q=>x.K.length - q.1) (fun q=> [(0,.pointer (some ⟨g,0,none⟩)),(1,.func (.func 166) #[] #[.pointer (some ⟨go,0,none⟩)]),(6,.slice F2 x.K.length d2),(12,.int .i64 (m.F.length:Int)),(13,.int .i64 (i:Int)),(32,.slice (some ⟨g1,0,none⟩) 2 2),(33,.int .i64 2),(34,.int .i64 1),(39,.int .i64 (x.K.length:Int)),(40,.int .i64 (q.1:Int))]) (fun q=>am go [.slice q.2.1 ((acc++dv x.L)++dv (x.K.take q.1)).length q.2.2] 35::ak (.slice q.2.1 ((acc++dv x.L)++dv (x.K.take q.1)).length q.2.2) ((acc++dv x.L)++dv (x.K.take q.1))::am g1 [.slice F1 x.L.length d1,.slice F2 x.K.length d2] 116::am g [.slice a.Af m.F.length a.cf,.slice a.Ab m.B.length a.cb,.slice a.Ai m.I.length a.ci,.slice a.Ao m.out.length a.co,.int .i64 m.S,.int .i64 m.T] 43::H) (0,(A2,c2)) (aX _) ?_ (hh:=(fun w h=>(show Cw _ _ (am go [.slice A2 ((acc++dv x.L)++dv (x.K.take 0)).length c2] 35::ak (.slice A2 ((acc++dv x.L)++dv (x.K.take 0)).length c2) ((acc++dv x.L)++dv (x.K.take 0))::am g1 [.slice F1 x.L.length d1,.slice F2 x.K.length d2] 116::am g [.slice a.Af m.F.length a.cf,.slice a.Ab m.B.length a.cb,.slice a.Ai m.I.length a.ci,.slice a.Ao m.out.length a.co,.int .i64 m.S,.int .i64 m.T] 43::H) w from by rw[List.take_zero,show dv []= [] from rfl,eu];exact h.msub ms)))
   rintro⟨k,⟨A3,c3⟩⟩ hk'
   try dsimp only
   have hk:k<=x.K.length:=hk'
   refine av (fun hlt3=>?_) (fun hlt3=>?_)
   ·have hkl:k<x.K.length:=by omega
    have hgk:=ot (x.K.take k)
    rw[aA] at hgk
    have hsk:=zX hkl
    refine aj ?_
    refine cS (k) rfl ((.ro hst)) ?_
    refine oE (fN rfl rfl rfl Tryz.call166 (fun w hw=>CS go (ab F2) (ao F2+k*2) (x.K.getD k default) (Ek hst hkl) (fun H w hw j u hu=>SF.val (SF.ro hst) hkl default w hw j u hu) ((acc++dv x.L)++dv (x.K.take k)) A3 c3 (by simp only[ar];omega) w (hw.msub (.s fc (.s fc .r))))) (fun⟨A4,c4⟩ _=>?_)
    refine aO ?_
    rw[bD,<-hsk]
    refine cU (k+1,(A4,c4)) (by show k+1<=_;omega) (by show _ - _<_ - _;omega) (hh:=(fun w h=>h.msub ms))
   obtain rfl:k=x.K.length:=by omega
   rw[aT]
   refine aj ?_
   rw[bD]
   refine cU (2,(A3,c3)) ((by decide:2<=2)) (by show 2 - 2<2 - 1;decide) (hh:=(fun w h=>h.msub ms))
  obtain rfl:j=2:=by omega
  try dsimp only
  rw[if_neg (by decide),if_neg (by decide),<-hsn]
  refine aj ?_
  refine cU (i+1,(A2,c2)) (by show i+1<=_;omega) (by show _ - _<_ - _;omega) (hh:=(fun w h=>h.msub ms))
 obtain rfl:i=m.F.length:=by omega
 rw[aT]
 refine aj ?_
 intro w hw
 exact⟨(A1,c1),trivial,rfl,hw.msub ms⟩
end
end
section
theorem sK {l:List aC} {n:Int} :n∈dv l↔0<n/\∃v∈l,v.ref=true/\v.n=n:=by
 unfold dv
 rw[lm]
 constructor
 ·rintro⟨v,hv,rfl⟩
  obtain⟨h1,h2⟩:=List.mem_filter.1 hv
  simp only[db,decide_eq_true_eq] at h2
  exact⟨h2.2,v,h1,h2.1,rfl⟩
 rintro⟨h0,v,hv,hr,rfl⟩
 exact⟨v,List.mem_filter.2 ⟨hv,by simp[hr,h0]⟩,rfl⟩
theorem HG {m:az} {n:Int} :n∈qD m↔0<n/\CC m n=true:=by
 unfold qD
 rw[List.mem_flatMap,wC]
 constructor
 ·rintro⟨x,hx,h⟩
  rcases dD.1 h with h | h
  ·obtain⟨h0,v,hv,hr,e⟩:=sK.1 h
   exact⟨h0,x,hx,v,gT _ hv,hr,e⟩
  obtain⟨h0,v,hv,hr,e⟩:=sK.1 h
  exact⟨h0,x,hx,v,gB _ hv,hr,e⟩
 rintro⟨h0,x,hx,v,hv,hr,e⟩
 refine⟨x,hx,?_⟩
 rcases dD.1 hv with h | h
 ·exact gT _ (sK.2 ⟨h0,v,h,hr,e⟩)
 exact gB _ (sK.2 ⟨h0,v,h,hr,e⟩)
theorem Mp {fs:List au} {m:az} (hR:dL fs m):Lib.compact (mo (qD m))=fA m:=by
 obtain⟨h1,h2⟩:=yg (zx (qD m))
 refine qC h1 (DE m) fun n=>?_
 rw[h2,pW]
 unfold mo
 rw[List.mem_mergeSort,HG]
 constructor
 ·rintro⟨h0,h⟩
  obtain⟨x,hx,v,hv,hr,rfl⟩:=wC.1 h
  have:=yD hR hx hv hr
  exact⟨by omega,h⟩
 rintro⟨h0,h⟩
 exact⟨by omega,h⟩
theorem HI {m:az} :(fA m).length<=m.B.length:=by
 unfold fA
 rw[aQ]
 exact eE (List.length_filter_le _ _) (by rw[mz];exact aK _)
theorem MX (w : World) : Calls Tryz.prog 274 #[.int .u64 0] w fun e w' => e = .returned (.int .i64 0) /\ w = w' := by
  go_enter Tryz.func274, Tryz.ntmps274
  go_wp2
  all_goals (go_ret; exact ⟨ew (by kernel_rfl), rfl⟩)
theorem Qj (w : World) : Calls Tryz.prog 220 #[.int .u64 0] w fun e w' => e = .returned (.int .i64 0) /\ w = w' := by
  go_enter Tryz.func220, Tryz.ntmps220
  go_wp2_with (first
    | (go_at_call 274; refine (MX _).mono ?_; rintro e w' ⟨rfl, rfl⟩))
  all_goals (go_ret; exact ⟨rfl, rfl⟩)
theorem KF (A:Option Addr) (c:Nat) (w:World):Calls Tryz.prog 264 #[.slice A 0 c,.int .i64 0,.int .i64 0] w fun e w'=>e= .returned (.tuple #[])/\Below w.heap.size w w':=by
 refine enter Tryz.func264 rfl Tryz.ntmps264 rfl<|aj ?_
 refine dA (fun _:Unit=>True) (fun _=>0) (fun _=> [(0,.slice A 0 c),(1,.int .i64 0),(2,.int .i64 0),(6,.int .i64 1)]) (fun _=> []) () (trivial) ?_
 rintro _ _
 refine av (fun h=>?_) (fun h=>?_)
 ·exact absurd h (by decide)
 refine aj ?_
 intro w hw
 exact⟨rfl,hw.below⟩
theorem Kh (A:Option Addr) (c:Nat) (l:Int) (w:World):Calls Tryz.prog 219 #[.slice A 0 c,.int .i64 0,.int .i64 0,.int .i64 l] w fun e w'=>e= .returned (.tuple #[])/\Below w.heap.size w w':=by
 refine enter Tryz.func219 rfl Tryz.ntmps219 rfl<|aj ?_
 refine dA (fun _:Unit=>True) (fun _=>0) (fun _=> [(0,.slice A 0 c),(1,.int .i64 0),(2,.int .i64 0),(3,.int .i64 l),(8,.bool true),(9,.bool true)]) (fun _=> []) () (trivial) ?_
 rintro _ _
 refine av (fun h=>?_) (fun h=>?_)
 ·refine aj ?_
  refine bX rfl Tryz.call264 (fun w hw=>KF A c w)<|aj ?_
  intro w hw
  exact⟨rfl,hw.below⟩
 exact absurd (show (0:Int)<=12 by decide) h
theorem Hh (A : Option Addr) (c : Nat) (w : World) : Calls Tryz.prog 167 #[.slice A 0 c] w fun e w' => e = .returned (.tuple #[]) /\ Below w.heap.size w w' := by
  go_enter Tryz.func167, Tryz.ntmps167
  go_wp2_with (first
    | (go_at_call 220; refine (Qj _).mono ?_; rintro e w' ⟨rfl, rfl⟩)
    | (go_at_call 219; refine (Kh _ _ _ _).mono ?_; rintro e w' ⟨rfl, hb⟩))
  all_goals (go_end0; exact ⟨rfl, (by repeat (first | exact Below.refl _ _ | assumption | refine Below.drew ?_ | refine Below.drewN_ ?_ _ | refine aM ?_ _ | refine bF (by assumption) ?_ | refine bP ?_ (by simp <;> omega) _))⟩)
theorem CX (A:Option Addr) (c:Nat) (w:World):Calls Tryz.prog 168 #[.slice A 0 c] w fun e w'=>e= .returned (.slice A 0 c)/\Below w.heap.size w w':=
 (Any.slices_Compact_int_empty ql A c w).mono fun _ _ ⟨h1,h2⟩=>⟨h1,by rw[h2];exact Below.refl _ _⟩
theorem B7 (fs:List au) (a:MA) (m:az) (w:World) (hm:dS w.heap.size w a m) (hF:gu fs) (hR:dL fs m) :
  Calls Tryz.prog 116 #[.agg #[.slice a.Af m.F.length a.cf,.slice a.Ab m.B.length a.cb,.slice a.Ai m.I.length a.ci,.slice a.Ao m.out.length a.co,.int .i64 m.S,.int .i64 m.T]] w fun e w'=> ∃q:Option Addr×Nat,True/\e= .returned (.slice q.1 (fA m).length q.2)/\Cw w.heap.size w [ak (.slice q.1 (fA m).length q.2) (fA m)] w':=by
 have hfs:∀x∈m.F,x.L.length<=1000/\x.K.length<=8:=fun x hx=>by
  obtain⟨i,hi,rfl⟩:=cg hx
  have h:=wD hF hR hi
  have e:aN m.F i=m.F[i]:=by
   unfold aN
   rw[an,ap hi]
   rfl
  rw[e] at h
  exact⟨h.2,h.1⟩
 have heq:=Mp hR
 refine enter Tryz.func116 rfl Tryz.ntmps116 rfl<|aj ?_
 refine fun g1 _=>aj ?_
 intro g2 _
 refine bH<|dK (fun w h=>Cw.nilO Int h)<|aj ?_
 refine cT rfl Tryz.call163 (fun w hw=>IJ g1 g2 a m hm hR.n6 hfs none 0 w (hw.msub (.s fc (.s fc (.s fc .r))))) (fun⟨A1,c1⟩ _=>?_)
 refine aO ?_
 generalize qD m=l at heq⊢
 generalize fA m=r at heq⊢
 subst heq
 rcases l with _ | ⟨x,l⟩
 ·rw[show mo ([]:List Int)= [] from by unfold mo;simp,show Lib.compact ([]:List Int)= [] from by decide]
  refine bX rfl RC (fun w hw=>Hh A1 c1 w)<|aj ?_
  refine bX rfl RB (fun w hw=>CX A1 c1 w)<|aj ?_
  intro w hw
  exact⟨(A1,c1),trivial,rfl,hw.msub ms⟩
 have hsl:(mo (x::l)).length=(x::l).length:=by unfold mo;exact List.length_mergeSort _
 refine cT rfl RC (fun w hw=>BK (hw.msub (.s fc .r)) (Nat.succ_pos _) (yU hw fc)) (fun _ _=>aj ?_)
 refine cT rfl RB (fun w hw=>vE (hw.msub (.s fc .r)) (Nat.succ_pos _) (yU hw fc)) (fun _ _=>aj ?_)
 intro w hw
 exact⟨(A1,c1),trivial,rfl,hw.msub ms⟩
end
section
theorem IC {l:List Int} {v:Int} (h:v∈l):∃k:Nat,py l v=k/\k<l.length/\l.getD k 0=v:=by
 unfold py
 cases e:l.findIdx? (· == v) with
 | none=>
  rw[List.findIdx?_eq_none_iff] at e
  have:=e v h
  simp at this
 | some k=>
  rw[nN] at e
  obtain⟨h1,h2,_⟩:=e
  refine⟨k,rfl,h1,?_⟩
  rw[an,ap h1]
  simpa using h2
def jF {α:Type} (l:List α) (f:α->α) (k:Nat):List α:=(l.take k).map f++l.drop k
section
variable {B:Nat} {w0:World} {H:List aJ}
theorem CT (g4 g6:Nat) (R:List Int) (r:Int->Int) (hri:∀n∈R,aH (r n)) (T1 R1:Option Addr) (t1 r1:Nat) (A:Option Addr) (m c k:Nat) (xs:List aC) (hk:k<m) (hok:xz (fun n=>n∈R) (xs.getD k default)) (hpos:(xs.getD k default).ref=true->0<=(xs.getD k default).n) (w:World)
  (hw:Cw B w0 (ak (.slice A m c) xs::am g6 [.slice T1 (R.map r).length t1] 35::ak (.slice T1 (R.map r).length t1) (R.map r)::am g4 [.slice R1 R.length r1] 35::ak (.slice R1 R.length r1) R::H) w) :
  Calls Tryz.prog 164 #[.pointer (some ⟨ab A,ao A+k*2,none⟩),.pointer (some ⟨g6,0,none⟩),.pointer (some ⟨g4,0,none⟩)] w fun e w'=> ∃_:Unit,True/\e= .returned (.tuple #[])/\Cw B w0 (ak (.slice A m c) (xs.set k (dZ r (xs.getD k default)))::am g6 [.slice T1 (R.map r).length t1] 35::ak (.slice T1 (R.map r).length t1) (R.map r)::am g4 [.slice R1 R.length r1] 35::ak (.slice R1 R.length r1) R::H) w':=by
 have hl:xs.length=m:=by
  obtain⟨F,h,_⟩:=hw.rd cN.a
  exact bJ.len_eq (cL.sl (show cL w F _ xs from h))
 have hself:xs.set k (xs.getD k default)=xs:=by
  apply fq
  intro i
  rw[List.getElem?_set]
  split
  ·rename_i e
   subst e
   rw[an,if_pos (by omega),ap (by omega)]
   rfl
  rfl
 generalize hv:xs.getD k default=v at hok hpos hself⊢
 refine bG Tryz.func164 rfl Tryz.ntmps164 rfl hw<|aj ?_
 refine eH rfl (fun w hw=>(SF.val (SF.own hl fc) hk default) w hw 0 _ rfl) ?_
 refine ay ?_
 rw[hv]
 rcases Bool.eq_false_or_eq_true v.ref with hr | hr
 ·rw[hr]
  refine bh (t:=8) (v':= .bool true) rfl (rfl)<|aj ?_
  refine eH rfl (fun w hw=>(SF.val (SF.own hl fc) hk default) w hw 1 _ rfl)<|aj ?_
  rw[hv]
  refine eo rfl (fun hn=>?_) (fun hn=>?_)
  ·have hn:0<v.n:=hn
   have hin:=hok hr (by omega)
   obtain⟨q,hq1,hq2,hq3⟩:=IC hin
   have hqm:q<(R.map r).length:=by rw[aQ];exact hq2
   have hren:dZ r v=⟨true,r v.n⟩:=by unfold dZ;rw[if_pos ⟨hr,by omega⟩]
   have hat:(R.map r).getD q 0=r v.n:=by
    rw[an,dc,ap hq2]
    rw[an,ap hq2] at hq3
    show r R[q]=_
    rw[show R[q]=v.n from hq3]
   refine bz [0,3,6,9,12,15,18,23,24,27,30,33,38] [12] rfl<|aj ?_
   refine tE rfl (bQ (fun w hw=>(SF.val (SF.own hl fc) hk default) w hw 1 _ rfl) rfl rfl be) ?_
   rw[hv]
   refine km rfl rfl Tryz.call165 ((fun w hw=>fX ((fun w hw=>zU _ R v.n w (SF.at_ (SF.own rfl fc) hw)) w hw))) ?_
   rw[hq1]
   refine tE rfl (bg (k:=q) aw bj (SF.own (xs:=R.map r) rfl fc) (by omega) rfl rfl rfl) ?_
   refine tE rfl (bQ (SF.int (SF.own (xs:=R.map r) rfl fc) (by omega)) rfl rfl be) ?_
   refine ay ?_
   refine ay ?_
   rw[hat]
   refine pE rfl (ry (α:=aC) (f:=1) (us:= [.int .i64 (r v.n)]) ⟨true,r v.n⟩ default (xs':=xs.set k (dZ r v)) (by rw[hren]) fc hk (hri _ hin) bj rfl rfl rfl rfl rfl rfl (by rw[hv];show [Value.bool v.ref,_]=_;rw[hr];rfl) rfl) (fun _ _=>aj ?_)
   intro w hw
   exact⟨(),trivial,rfl,hw.msub ms⟩
  have hn:¬0<v.n:=hn
  have hren:dZ r v=v:=by unfold dZ;rw[if_neg (fun h=>by have:=hpos hr;have:=h.2;omega)]
  rw[hren,hself]
  refine aj ?_
  intro w hw
  exact⟨(),trivial,rfl,hw.msub ms⟩
 rw[hr]
 have hren:dZ r v=v:=B6 hr
 rw[hren,hself]
 refine bh (t:=8) (v':= .bool false) rfl (rfl)<|aj ?_
 refine cu rfl<|aj ?_
 intro w hw
 exact⟨(),trivial,rfl,hw.msub ms⟩
theorem yE {α:Type} (l:List α) (f:α->α):jF l f 0=l:=by unfold jF;simp
theorem Bz {α:Type} (l:List α) (f:α->α):jF l f l.length=l.map f:=by unfold jF;simp
theorem By {α:Type} (l:List α) (f:α->α) (k:Nat):(jF l f k).length=l.length:=by unfold jF;simp;omega
theorem Fu {α:Type} [Inhabited α] {l:List α} {f:α->α} {k:Nat} (hk:k<l.length):(jF l f k).getD k default=l.getD k default:=by
 unfold jF
 rw[an,dd (by simp;omega),aQ,aA,Nat.min_eq_left (by omega),pO,dw,an]
 rfl
theorem Bx {α:Type} [Inhabited α] {l:List α} {f:α->α} {k:Nat} (hk:k<l.length):(jF l f k).set k (f (l.getD k default))=jF l f (k+1):=by
 unfold jF
 have h1:((l.take k).map f).length=k:=by rw[aQ,aA];omega
 rw[tj _ _ (by omega),h1,pO,fe l k default hk,fd,bD]
 congr 1
 rw[oA hk,List.set_cons_zero]
 rfl
def jb (r:Int->Int) (p:aB×aG):aB×aG:=(p.1,lu r p.2)
def er (l:List (aB×aG)) (r:Int->Int) (i:Nat):List (aB×aG):=(jF l (jb r) i).eraseIdx i
theorem J1 {l:List (aB×aG)} {i:Nat} (hi:i<l.length) {w:World} (h:Cw B w0 (cM l::H) w):∃A1 c1 A2 c2,l[i].1.lv= .slice A1 l[i].2.L.length c1/\l[i].1.sv= .slice A2 l[i].2.K.length c2:=by
 obtain⟨s1,s2⟩:=xe hi h
 obtain⟨A1,c1,e1,_⟩:=s1.form
 obtain⟨A2,c2,e2,_⟩:=s2.form
 exact⟨A1,c1,A2,c2,e1,e2⟩
theorem II (g3 g4 g6:Nat) (R:List Int) (r:Int->Int) (hri:∀n∈R,aH (r n)) (T1 R1 Af:Option Addr) (t1 r1 n cf:Nat) (rest:List Value) (l:List (aB×aG)) (hs:List aB) (hln:l.length=n) (hls:l.map Prod.fst=hs) (hn6:n<=6)
  (hok:∀p∈l,xy (fun n=>n∈R) p.2) (hpos:∀p∈l,∀v∈p.2.L++p.2.K,v.ref=true->0<=v.n) (w:World)
  (hw:Cw B w0 (am g3 (.slice Af n cf::rest) 43::ak (.slice Af n cf) hs::cM l::am g6 [.slice T1 (R.map r).length t1] 35::ak (.slice T1 (R.map r).length t1) (R.map r)::am g4 [.slice R1 R.length r1] 35::ak (.slice R1 R.length r1) R::H) w) :
  Calls Tryz.prog 163 #[.pointer (some ⟨g3,0,none⟩),.func (.func 164) #[] #[.pointer (some ⟨g6,0,none⟩),.pointer (some ⟨g4,0,none⟩)]] w fun e w'=> ∃_:Unit,True/\e= .returned (.tuple #[])/\Cw B w0 (am g3 (.slice Af n cf::rest) 43::ak (.slice Af n cf) hs::cM (l.map (jb r))::am g6 [.slice T1 (R.map r).length t1] 35::ak (.slice T1 (R.map r).length t1) (R.map r)::am g4 [.slice R1 R.length r1] 35::ak (.slice R1 R.length r1) R::H) w':=by
 have hhl:hs.length=n:=by rw[<-hls,aQ,hln]
 refine bG Tryz.func163 rfl Tryz.ntmps163 rfl hw<|aj ?_
 refine dA (fun i:Nat=>i<=n) (fun i=>n - i) (fun i=> [(0,.pointer (some ⟨g3,0,none⟩)),(1,.func (.func 164) #[] #[.pointer (some ⟨g6,0,none⟩),.pointer (some ⟨g4,0,none⟩)]),(12,.int .i64 (n:Int)),(13,.int .i64 (i:Int))]) (fun i=>cM (jF l (jb r) i)::am g3 (.slice Af n cf::rest) 43::ak (.slice Af n cf) hs::am g6 [.slice T1 (R.map r).length t1] 35::ak (.slice T1 (R.map r).length t1) (R.map r)::am g4 [.slice R1 R.length r1] 35::ak (.slice R1 R.length r1) R::H) 0 (aX _) ?_ (hh:=(fun w h=>(show Cw _ _ (cM (jF l (jb r) 0)::am g3 (.slice Af n cf::rest) 43::ak (.slice Af n cf) hs::am g6 [.slice T1 (R.map r).length t1] 35::ak (.slice T1 (R.map r).length t1) (R.map r)::am g4 [.slice R1 R.length r1] 35::ak (.slice R1 R.length r1) R::H) w from by rw[yE];exact h.msub ms)))
 rintro i hi'
 have hi:i<=n:=hi'
 refine av (fun hlt=>?_) (fun hlt=>?_)
 ·have hil:i<l.length:=by omega
  have hul:=By l (jb r) i
  have hatI:(jF l (jb r) i)[i]'(by omega)=l[i]:=by
   have:=Fu (f:=jb r) hil
   rw[an,ap (by omega),an,ap hil] at this
   exact this
  refine dY (p:= ∃A1 c1 A2 c2,l[i].1.lv= .slice A1 l[i].2.L.length c1/\l[i].1.sv= .slice A2 l[i].2.K.length c2) (fun w hw=>by
   have:=J1 (l:=jF l (jb r) i) (i:=i) (by omega) hw
   rw[hatI] at this
   exact this) fun⟨A1,c1,A2,c2,e1,e2⟩=>?_
  refine dK (fun w h=>BW (l:=jF l (jb r) i) (k:=i) (by omega) h) ?_
  rw[hatI]
  have hset:(jF l (jb r) i).set i (jb r l[i])=jF l (jb r) (i+1):=by
   have:=Bx (f:=jb r) hil
   rw[an,ap hil] at this
   exact this
  have hmemI:=da hil
  obtain⟨hok1,hok2⟩:=hok _ hmemI
  have hpos1:∀v∈l[i].2.L,v.ref=true->0<=v.n:=fun v hv=>hpos _ hmemI v (gT _ hv)
  have hpos2:∀v∈l[i].2.K,v.ref=true->0<=v.n:=fun v hv=>hpos _ hmemI v (gB _ hv)
  have hhd:hs.getD i default=⟨l[i].1.func,l[i].1.pc,.slice A1 l[i].2.L.length c1,.slice A2 l[i].2.K.length c2⟩:=by
   rw[<-hls,an,dc,ap hil,<-e1,<-e2]
   rfl
  have hback:∀w,Cw B w0 (ak l[i].1.lv (jb r l[i]).2.L::ak l[i].1.sv (jb r l[i]).2.K::cM (er l r i)::am g3 (.slice Af n cf::rest) 43::ak (.slice Af n cf) hs::am g6 [.slice T1 (R.map r).length t1] 35::ak (.slice T1 (R.map r).length t1) (R.map r)::am g4 [.slice R1 R.length r1] 35::ak (.slice R1 R.length r1) R::H) w->Cw B w0 (cM (jF l (jb r) (i+1))::am g3 (.slice Af n cf::rest) 43::ak (.slice Af n cf) hs::am g6 [.slice T1 (R.map r).length t1] 35::ak (.slice T1 (R.map r).length t1) (R.map r)::am g4 [.slice R1 R.length r1] 35::ak (.slice R1 R.length r1) R::H) w:=fun w h=>by
   have:=Ew (l:=jF l (jb r) i) (k:=i) (q:=jb r l[i]) (by omega) h
   rwa [hset] at this
  show CW _ _ _ _ _ _ _ (ak l[i].1.lv l[i].2.L::ak l[i].1.sv l[i].2.K::cM (er l r i)::am g3 (.slice Af n cf::rest) 43::ak (.slice Af n cf) hs::am g6 [.slice T1 (R.map r).length t1] 35::ak (.slice T1 (R.map r).length t1) (R.map r)::am g4 [.slice R1 R.length r1] 35::ak (.slice R1 R.length r1) R::H)
  rw[e1,e2] at hback⊢
  have hrl:(jb r l[i]).2.L=l[i].2.L.map (dZ r):=rfl
  have hrs:(jb r l[i]).2.K=l[i].2.K.map (dZ r):=rfl
  rw[hrl,hrs] at hback
  generalize l[i].1.func=hf0 at hhd
  generalize l[i].1.pc=hp0 at hhd
  generalize l[i].2.L=L1 at *
  generalize l[i].2.K=L2 at *
  refine dY (p:=L1.length<=140737488355328/\L2.length<=140737488355328) (fun w hw=>⟨bE (SF.at_ (SF.own (α:=aC) (xs:=L1) rfl fc) hw),bE (SF.at_ (SF.own (α:=aC) (xs:=L2) rfl fc) hw)⟩) fun⟨lb1,lb2⟩=>?_
  refine aj ?_
  refine bz [0,3,6,9,12,15,18,21,24,27,30,33,36,39,42,45,54,50,51] [] rfl<|aj ?_
  refine tE rfl (bg (k:=i) cD dI (SF.own (α:=aB) hhl fc) (by omega) rfl rfl rfl)<|aj ?_
  refine tE rfl (bQ (fun w hw=>(SF.hfr (SF.own (α:=aB) hhl fc) (k:=i) (by omega) hhd) w hw 2 _ rfl) rfl rfl dR)<|aj ?_
  refine tE rfl (bg (k:=i) cD dI (SF.own (α:=aB) hhl fc) (by omega) rfl rfl rfl)<|aj ?_
  refine tE rfl (bQ (fun w hw=>(SF.hfr (SF.own (α:=aB) hhl fc) (k:=i) (by omega) hhd) w hw 3 _ rfl) rfl rfl dR)<|aj ?_
  refine fun g1 _=>aj ?_
  refine dA (fun j:Nat=>j<=2) (fun j=>2 - j) (fun j=> [(0,.pointer (some ⟨g3,0,none⟩)),(1,.func (.func 164) #[] #[.pointer (some ⟨g6,0,none⟩),.pointer (some ⟨g4,0,none⟩)]),(12,.int .i64 (n:Int)),(13,.int .i64 (i:Int)),(32,.slice (some ⟨g1,0,none⟩) 2 2),(33,.int .i64 2),(34,.int .i64 (j:Int))]) (fun j=>ak (.slice A1 L1.length c1) (if j=0 then L1 else L1.map (dZ r))::ak (.slice A2 L2.length c2) (if j=2 then L2.map (dZ r) else L2)::cM (er l r i)::am g1 [.slice A1 L1.length c1,.slice A2 L2.length c2] 116::am g3 (.slice Af n cf::rest) 43::ak (.slice Af n cf) hs::am g6 [.slice T1 (R.map r).length t1] 35::ak (.slice T1 (R.map r).length t1) (R.map r)::am g4 [.slice R1 R.length r1] 35::ak (.slice R1 R.length r1) R::H) 0 (aX _) ?_ (hh:=(fun w h=>h.msub ms))
  rintro j hj'
  have hj:j<=2:=hj'
  refine av (fun hlt2=>?_) (fun hlt2=>?_)
  ·rcases(show j=0\/j=1 by omega) with rfl | rfl
   ·rw[if_pos rfl,if_neg (by decide)]
    refine aj ?_
    refine sE (jy (k:=0) nh ft rfl (by decide) rfl rfl rfl) ?_
    refine eH rfl (fun w hw=>fP (v:= .slice A1 L1.length c1) fc rfl w hw)<|aj ?_
    refine dA (fun k:Nat=>k<=L1.length) (fun k=>L1.length - k) (fun k=> [(0,.pointer (some ⟨g3,0,none⟩)),(1,.func (.func 164) #[] #[.pointer (some ⟨g6,0,none⟩),.pointer (some ⟨g4,0,none⟩)]),(6,.slice A1 L1.length c1),(12,.int .i64 (n:Int)),(13,.int .i64 (i:Int)),(32,.slice (some ⟨g1,0,none⟩) 2 2),(33,.int .i64 2),(34,.int .i64 0),(39,.int .i64 (L1.length:Int)),(40,.int .i64 (k:Int))]) (fun k=>ak (.slice A1 L1.length c1) (jF L1 (dZ r) k)::ak (.slice A2 L2.length c2) L2::cM (er l r i)::am g1 [.slice A1 L1.length c1,.slice A2 L2.length c2] 116::am g3 (.slice Af n cf::rest) 43::ak (.slice Af n cf) hs::am g6 [.slice T1 (R.map r).length t1] 35::ak (.slice T1 (R.map r).length t1) (R.map r)::am g4 [.slice R1 R.length r1] 35::ak (.slice R1 R.length r1) R::H) 0 (aX _) ?_ (hh:=(fun w h=>(show Cw _ _ (ak (.slice A1 L1.length c1) (jF L1 (dZ r) 0)::ak (.slice A2 L2.length c2) L2::cM (er l r i)::am g1 [.slice A1 L1.length c1,.slice A2 L2.length c2] 116::am g3 (.slice Af n cf::rest) 43::ak (.slice Af n cf) hs::am g6 [.slice T1 (R.map r).length t1] 35::ak (.slice T1 (R.map r).length t1) (R.map r)::am g4 [.slice R1 R.length r1] 35::ak (.slice R1 R.length r1) R::H) w from by rw[yE];exact h.msub ms)))
    rintro k hk'
    have hk:k<=L1.length:=hk'
    have hul:=By L1 (dZ r) k
    refine av (fun hlt3=>?_) (fun hlt3=>?_)
    ·have hkl:k<L1.length:=by omega
     have hat:=Fu (f:=dZ r) hkl
     have hmem:=cI (d:=(default:aC)) hkl
     refine aj ?_
     refine cS (k) rfl ((SF.own (xs:=jF L1 (dZ r) k) hul fc)) ?_
     refine oE (fN rfl rfl rfl Tryz.call164 (fun w hw=>CT g4 g6 R r hri T1 R1 t1 r1 A1 L1.length c1 k (jF L1 (dZ r) k) hkl (by rw[hat];exact hok1 _ hmem) (by rw[hat];exact hpos1 _ hmem) w (hw.msub (.s fc (.s fc (.s fc (.s fc (.s fc .r)))))))) (fun _ _=>aj ?_)
     rw[hat,Bx hkl]
     refine cU (k+1) (by show k+1<=_;omega) (by show _ - _<_ - _;omega) (hh:=(fun w h=>h.msub ms))
    obtain rfl:k=L1.length:=by omega
    rw[Bz]
    refine aj ?_
    refine cU 1 ((by decide:1<=2)) (by show 2 - 1<2 - 0;decide) (hh:=(fun w h=>h.msub ms))
   rw[if_neg (by decide),if_neg (by decide)]
   refine aj ?_
   refine sE (jy (k:=1) nh ft rfl (by decide) rfl rfl rfl) ?_
   refine eH rfl (fun w hw=>fP (v:= .slice A2 L2.length c2) fc rfl w hw)<|aj ?_
   refine dA (fun k:Nat=>k<=L2.length) (fun k=>L2.length - k) (fun k=> [(0,.pointer (some ⟨g3,0,none⟩)),(1,.func (.func 164) #[] #[.pointer (some ⟨g6,0,none⟩),.pointer (some ⟨g4,0,none⟩)]),(6,.slice A2 L2.length c2),(12,.int .i64 (n:Int)),(13,.int .i64 (i:Int)),(32,.slice (some ⟨g1,0,none⟩) 2 2),(33,.int .i64 2),(34,.int .i64 1),(39,.int .i64 (L2.length:Int)),(40,.int .i64 (k:Int))]) (fun k=>ak (.slice A2 L2.length c2) (jF L2 (dZ r) k)::ak (.slice A1 L1.length c1) (L1.map (dZ r))::cM (er l r i)::am g1 [.slice A1 L1.length c1,.slice A2 L2.length c2] 116::am g3 (.slice Af n cf::rest) 43::ak (.slice Af n cf) hs::am g6 [.slice T1 (R.map r).length t1] 35::ak (.slice T1 (R.map r).length t1) (R.map r)::am g4 [.slice R1 R.length r1] 35::ak (.slice R1 R.length r1) R::H) 0 (aX _) ?_ (hh:=(fun w h=>(show Cw _ _ (ak (.slice A2 L2.length c2) (jF L2 (dZ r) 0)::ak (.slice A1 L1.length c1) (L1.map (dZ r))::cM (er l r i)::am g1 [.slice A1 L1.length c1,.slice A2 L2.length c2] 116::am g3 (.slice Af n cf::rest) 43::ak (.slice Af n cf) hs::am g6 [.slice T1 (R.map r).length t1] 35::ak (.slice T1 (R.map r).length t1) (R.map r)::am g4 [.slice R1 R.length r1] 35::ak (.slice R1 R.length r1) R::H) w from by rw[yE];exact h.msub ms)))
   rintro k hk'
   have hk:k<=L2.length:=hk'
   have hul:=By L2 (dZ r) k
   refine av (fun hlt3=>?_) (fun hlt3=>?_)
   ·have hkl:k<L2.length:=by omega
    have hat:=Fu (f:=dZ r) hkl
    have hmem:=cI (d:=(default:aC)) hkl
    refine aj ?_
    refine cS (k) rfl ((SF.own (xs:=jF L2 (dZ r) k) hul fc)) ?_
    refine oE (fN rfl rfl rfl Tryz.call164 (fun w hw=>CT g4 g6 R r hri T1 R1 t1 r1 A2 L2.length c2 k (jF L2 (dZ r) k) hkl (by rw[hat];exact hok2 _ hmem) (by rw[hat];exact hpos2 _ hmem) w (hw.msub (.s fc (.s fc (.s fc (.s fc (.s fc .r)))))))) (fun _ _=>aj ?_)
    rw[hat,Bx hkl]
    refine cU (k+1) (by show k+1<=_;omega) (by show _ - _<_ - _;omega) (hh:=(fun w h=>h.msub ms))
   obtain rfl:k=L2.length:=by omega
   rw[Bz]
   refine aj ?_
   refine cU 2 ((by decide:2<=2)) (by show 2 - 2<2 - 1;decide) (hh:=(fun w h=>h.msub ms))
  obtain rfl:j=2:=by omega
  rw[if_neg (by decide),if_pos rfl]
  refine aj ?_
  refine cU (i+1) (by show i+1<=_;omega) (by show _ - _<_ - _;omega) (hh:=(fun w h=>hback w (h.msub ms)))
 obtain rfl:i=n:=by omega
 rw[<-hln,Bz]
 refine aj ?_
 intro w hw
 exact⟨(),trivial,rfl,hw.msub ms⟩
end
end
section
theorem Lg (m:az):(jr m).F.length=m.F.length:=by unfold jr;simp
theorem J4 (r:Int->Int) (l:List (aB×aG)):(l.map (jb r)).map Prod.fst=l.map Prod.fst:=by rw[List.map_map];rfl
theorem J3 (r:Int->Int) (l:List (aB×aG)):(l.map (jb r)).map Prod.snd=(l.map Prod.snd).map (lu r):=by rw[List.map_map,List.map_map];rfl
theorem Mo {r:Int->Int} {l:List (aB×aG)} (h:gZ l):gZ (l.map (jb r)):=fun p hp=>by
 obtain⟨q,hq,rfl⟩:=lm.1 hp
 exact h q hq
theorem Gv (fs:List au) (a:MA) (m:az) (w:World) (hm:dS w.heap.size w a m) (hF:gu fs) (hR:dL fs m) :
  Calls Tryz.prog 115 #[.agg #[.slice a.Af m.F.length a.cf,.slice a.Ab m.B.length a.cb,.slice a.Ai m.I.length a.ci,.slice a.Ao m.out.length a.co,.int .i64 m.S,.int .i64 m.T]] w fun e w'=> ∃g:MA,True/\
   e= .returned (.agg #[.slice g.Af (jr m).F.length g.cf,.slice g.Ab (jr m).B.length g.cb,.slice g.Ai (jr m).I.length g.ci,.slice g.Ao (jr m).out.length g.co,.int .i64 (jr m).S,.int .i64 (jr m).T])/\Cw w.heap.size w [ak (.slice g.Af (jr m).F.length g.cf) (jr m).F,ak (.slice g.Ab (jr m).B.length g.cb) (jr m).B,ak (.slice g.Ai (jr m).I.length g.ci) (jr m).I,ak (.slice g.Ao (jr m).out.length g.co) (jr m).out] w':=by
 have hb8:=(fZ hR.bl).1
 have hrl:=HI (m:=m)
 have hin:∀r∈fA m,0<=r/\r<=m.B.length:=fun r hr=>by have:=(pW.1 hr).1;omega
 have hri:∀n∈fA m,aH (eS m.B (fA m) n):=fun n hn=>by
  have h1:=hin n hn
  have h2:=lR m.B (fA m) n.toNat
  unfold eS
  split
  ·exact⟨by omega,by omega⟩
  exact⟨by omega,by omega⟩
 rw[Lg]
 refine enter Tryz.func115 rfl Tryz.ntmps115 rfl<|aj ?_
 refine fun g1 _=>aj ?_
 refine fun g2 _=>aj ?_
 refine eb rfl wP (fun w hw=>od a m w (dS.ro hw hm) (pM hF hR)) (fun g0 _=>aj ?_)
 refine fun g3 _=>aj ?_
 refine eb rfl Tryz.call116 (fun w hw=>B7 fs a m w (dS.ro hw hm) hF hR) (fun⟨R1,r1⟩ _=>?_)
 refine aO ?_
 refine fun g4 _=>aj ?_
 refine eb rfl Tryz.call162 (fun w hw=>Qk a.Ab R1 a.cb r1 m.B (fA m) w (hw.ro hm.b) (SF.at_ (SF.own rfl fc) hw) (vN.of_check hR.bl) hin (by omega)) (fun⟨⟨K1,k1⟩,⟨T1,t1⟩⟩ _=>?_)
 refine aO ?_
 intro g5 _
 refine ay ?_
 refine dr (cV _ fc iJ rfl rfl rfl rfl rfl (by rfl) rfl (by rfl)) rfl rfl (fun _ _=>?_)
 refine bH<|cc<|bO<|ay ?_
 refine ay ?_
 refine dr (cV _ fc Tryz.sizeOf41 rfl rfl rfl rfl rfl (by rfl) rfl (by rfl)) rfl rfl (fun _ _=>?_)
 refine bH<|IR (xs:=m.F) (v:= .slice g0.Af m.F.length g0.cf) fc fun l hl hok=>?_
 have hll:l.length=m.F.length:=by rw[<-hl,aQ]
 have hmem:∀p∈l,p.2∈m.F:=fun p hp=>by rw[<-hl];exact qt hp
 refine aj ?_
 refine cT rfl Tryz.call163 (fun w hw=>II g3 g4 g5 (fA m) (eS m.B (fA m)) hri T1 R1 g0.Af t1 r1 m.F.length g0.cf [.slice K1 (cR m.B (fA m) m.B.length).length k1,.slice g0.Ai m.I.length g0.ci,.slice g0.Ao m.out.length g0.co,.int .i64 m.S,.int .i64 m.T] l (l.map Prod.fst) hll rfl hR.n6 (fun p hp=>IV hR _ (hmem p hp)) (fun p hp v hv hr=>(yD hR (hmem p hp) hv hr).1) w (hw.msub (.s fc (.s fc (.s fc (.s fc (.s fc (.s fc (.s fc .r))))))))) (fun _ _=>aj ?_)
 intro w hw
 refine⟨⟨g0.Af,g0.cf,K1,k1,g0.Ai,g0.ci,g0.Ao,g0.co⟩,trivial,rfl,?_⟩
 have h1:=rJ (v:= .slice g0.Af m.F.length g0.cf) (l:=l.map (jb (eS m.B (fA m)))) (H:= [ak (.slice K1 (cR m.B (fA m) m.B.length).length k1) (cR m.B (fA m) m.B.length),ak (.slice g0.Ai m.I.length g0.ci) m.I,ak (.slice g0.Ao m.out.length g0.co) m.out]) (Mo hok) (by rw[J4];exact hw.msub ms)
 rw[J3,hl] at h1
 exact h1
def C0 (fs:List au) (m:az):az×Int:=if dF fs m=0 then (jr m,(m.B.length:Int) - (jr m).B.length) else (default,0)
theorem vF (Ap:Option Addr) (cp:Nat) (fs:List au) (a:MA) (m:az) (r:az×Int) (hr:C0 fs m=r) (w:World) (hs:Sl w (.slice Ap fs.length cp) fs) (hm:dS w.heap.size w a m) (hfit:jX m.F) :
  Calls Tryz.prog 56 #[.agg #[.slice Ap fs.length cp],.agg #[.slice a.Af m.F.length a.cf,.slice a.Ab m.B.length a.cb,.slice a.Ai m.I.length a.ci,.slice a.Ao m.out.length a.co,.int .i64 m.S,.int .i64 m.T]] w fun e w'=> ∃g:MA,True/\
   e= .returned (.tuple #[.agg #[.slice g.Af r.1.F.length g.cf,.slice g.Ab r.1.B.length g.cb,.slice g.Ai r.1.I.length g.ci,.slice g.Ao r.1.out.length g.co,.int .i64 r.1.S,.int .i64 r.1.T],.int .i64 r.2,.int .i64 (dF fs m)])/\Cw w.heap.size w [ak (.slice g.Af r.1.F.length g.cf) r.1.F,ak (.slice g.Ab r.1.B.length g.cb) r.1.B,ak (.slice g.Ai r.1.I.length g.ci) r.1.I,ak (.slice g.Ao r.1.out.length g.co) r.1.out] w':=by
 refine enter Tryz.func56 rfl Tryz.ntmps56 rfl<|aj ?_
 refine fun g1 _=>aj ?_
 refine fun g2 _=>aj ?_
 refine fun g3 _=>aj ?_
 refine bX rfl vm (fun w hw=>kL Ap cp fs a m w (hw.ro hs) (dS.ro hw hm) hfit)<|cQ (fun h=>?_) (fun h=>?_)
 ·have h:¬dF fs m=0:=h
  have e:r=(default,0):=by rw[<-hr];unfold C0;rw[if_neg h]
  subst e
  refine aj ?_
  intro w hw
  exact⟨⟨none,0,none,0,none,0,none,0⟩,trivial,rfl,(jS hw).msub ms⟩
 have h:dF fs m=0:=h
 obtain⟨hF,hR⟩:=mX h
 have e:r=(jr m,(m.B.length:Int) - (jr m).B.length):=by rw[<-hr];unfold C0;rw[if_pos h]
 subst e
 have hb8:=(fZ hR.bl).1
 have hc8:=(fZ (IU hR).bl).1
 refine aj ?_
 refine eb rfl Tryz.call115 (fun w hw=>Gv fs a m w (dS.ro hw hm) hF hR) (fun g _=>aj ?_)
 intro g4 _
 refine dr (cV _ fc cX rfl rfl rfl rfl rfl (by rfl) rfl (by rfl)) rfl rfl (fun _ _=>?_)
 refine bH ?_
 generalize jr m=c at hc8⊢
 refine aj ?_
 refine fx [0,3,6,9,12,15,18,21,26,27,30] [] rfl [am g4 [.slice g.Af c.F.length g.cf,.slice g.Ab c.B.length g.cb,.slice g.Ai c.I.length g.ci,.slice g.Ao c.out.length g.co,.int .i64 c.S,.int .i64 c.T] 43,am g2 [.slice a.Af m.F.length a.cf,.slice a.Ab m.B.length a.cb,.slice a.Ai m.I.length a.ci,.slice a.Ao m.out.length a.co,.int .i64 m.S,.int .i64 m.T] 43]<|aj ?_
 intro w hw
 exact⟨g,trivial,by rw[h],hw.msub ms⟩
end
section
def ed:List au:= [⟨0,[2],0,[⟨1,2⟩,⟨14,0⟩,⟨2,0⟩,⟨1,1⟩,⟨14,0⟩,⟨9,0⟩,⟨8,0⟩,⟨1,0⟩,⟨15,0⟩,⟨20,0⟩,⟨13,0⟩]⟩]
def fW:az:=⟨[⟨0,0,[⟨true,0⟩],[]⟩],[],[],[],0,0⟩
def mg:az:=⟨[⟨0,6,[⟨true,2⟩],[]⟩],[[0,0],[0]],[],[],0,0⟩
def CB:az:=⟨[⟨0,6,[⟨true,1⟩],[]⟩],[[0]],[],[],0,0⟩
theorem fU (w:World):Calls Tryz.prog 64 #[] w fun e w'=> ∃g:Nat,True/\e= .returned (.agg #[.slice (some ⟨g,0,none⟩) 1 1])/\Cw w.heap.size w [ak (.slice (some ⟨g,0,none⟩) 1 1) ed] w':=by
 refine enter Tryz.func64 rfl Tryz.ntmps64 rfl<|aj ?_
 refine fun g1 _=>aj ?_
 refine fun g2 _=>aj ?_
 refine fun g3 _=>aj ?_
 refine fun g4 _=>aj ?_
 intro w hw
 refine⟨_,trivial,rfl,?_⟩
 have h:=bt (α:=bC) (m:=11) [⟨1,2⟩,⟨14,0⟩,⟨2,0⟩,⟨1,1⟩,⟨14,0⟩,⟨9,0⟩,⟨8,0⟩,⟨1,0⟩,⟨15,0⟩,⟨20,0⟩,⟨13,0⟩] rfl (show∀o∈[(⟨1,2⟩:bC),⟨14,0⟩,⟨2,0⟩,⟨1,1⟩,⟨14,0⟩,⟨9,0⟩,⟨8,0⟩,⟨1,0⟩,⟨15,0⟩,⟨20,0⟩,⟨13,0⟩],aH o.c/\aH o.a from by decide) rfl (by decide) (hw.msub (T:= [am g3 _ _,am g2 _ _,am g4 _ _]) ms)
 have h:=bt (α:=Int) (m:=1) [2] rfl (fT (by decide)) rfl (by decide) (h.msub (T:= [am g2 _ _,ak (.slice (some ⟨g3,0,none⟩) 11 11) _,am g4 _ _]) ms)
 refine rn (H:= []) (xs:=ed) (oU.cons (Hel:= [ak (.slice (some ⟨g2,0,none⟩) 1 1) [(2:Int)],ak (.slice (some ⟨g3,0,none⟩) 11 11) [(⟨1,2⟩:bC),⟨14,0⟩,⟨2,0⟩,⟨1,1⟩,⟨14,0⟩,⟨9,0⟩,⟨8,0⟩,⟨1,0⟩,⟨15,0⟩,⟨20,0⟩,⟨13,0⟩]]) (cs:= [_,_,_,_]) (qd (f:=⟨0,[2],0,[⟨1,2⟩,⟨14,0⟩,⟨2,0⟩,⟨1,1⟩,⟨14,0⟩,⟨9,0⟩,⟨8,0⟩,⟨1,0⟩,⟨15,0⟩,⟨20,0⟩,⟨13,0⟩]⟩) (by decide)) oU.nil_) rfl (by decide) ?_
 exact h.msub (T:= [am g4 _ _,ak (.slice (some ⟨g2,0,none⟩) 1 1) _,ak (.slice (some ⟨g3,0,none⟩) 11 11) _]) ms
theorem gV:fl ed=0/\pS ed=fW/\oV ed fW 10=0/\yN ed fW 10=(mg,0)/\dF ed mg=0/\C0 ed mg=(CB,1)/\fA mg= [2]:=by
 refine⟨?_,?_,?_,?_,?_,?_,?_⟩ <;> kernel_rfl
theorem Q3 (w : World) (a c : Bool) (b d : Int) : (binOp .eql 159 (.agg #[.bool a, .int .i64 b]) (.agg #[.bool c, .int .i64 d])).run Tryz.prog w = .ok (.bool (a == c && b == d)) w := by
  have h := LA
  by_cases h1 : a = c <;> by_cases h2 : b = d <;> simp [go_sem, h, h1, h2]
theorem Qm (x y : Operand) (u v : Array Value) (w : World) : (eqGuard .eql 159 x y (.agg u) (.agg v)).run Tryz.prog w = .ok () w := by
  have h := CL
  simp [eqGuard, go_sem, h]
def tU (fs:List au) (m:az):List Int:=if dF fs m=0 then fA m else []
theorem zA (Ap:Option Addr) (cp:Nat) (fs:List au) (a:MA) (m:az) (r:List Int) (hr:tU fs m=r) (w:World) (hs:Sl w (.slice Ap fs.length cp) fs) (hm:dS w.heap.size w a m) (hfit:jX m.F) :
  Calls Tryz.prog 57 #[.agg #[.slice Ap fs.length cp],.agg #[.slice a.Af m.F.length a.cf,.slice a.Ab m.B.length a.cb,.slice a.Ai m.I.length a.ci,.slice a.Ao m.out.length a.co,.int .i64 m.S,.int .i64 m.T]] w fun e w'=> ∃q:Option Addr×Nat,True/\e= .returned (.tuple #[.slice q.1 r.length q.2,.int .i64 (dF fs m)])/\Cw w.heap.size w [ak (.slice q.1 r.length q.2) r] w':=by
 refine enter Tryz.func57 rfl Tryz.ntmps57 rfl<|aj ?_
 refine fun g1 _=>aj ?_
 refine fun g2 _=>aj ?_
 refine bX rfl vm (fun w hw=>kL Ap cp fs a m w (hw.ro hs) (dS.ro hw hm) hfit)<|cQ (fun h=>?_) (fun h=>?_)
 ·have h:¬dF fs m=0:=h
  have e:r= []:=by rw[<-hr];unfold tU;rw[if_neg h]
  subst e
  refine aj ?_
  intro w hw
  exact⟨(none,0),trivial,rfl,(Cw.nilO Int hw).msub ms⟩
 have h:dF fs m=0:=h
 obtain⟨hF,hR⟩:=mX h
 have e:r=fA m:=by rw[<-hr];unfold tU;rw[if_pos h]
 subst e
 refine aj ?_
 refine eb rfl Tryz.call116 (fun w hw=>B7 fs a m w (dS.ro hw hm) hF hR) (fun⟨R1,r1⟩ _=>?_)
 refine aO ?_
 intro w hw
 exact⟨(R1,r1),trivial,by rw[h],hw.msub ms⟩
theorem ze:jX fW.F:=by
 refine⟨by decide,fun x hx=>?_⟩
 have:x=⟨0,0,[⟨true,0⟩],[]⟩:=by simpa [fW] using hx
 subst this
 decide
theorem E7:jX mg.F:=by
 refine⟨by decide,fun x hx=>?_⟩
 have:x=⟨0,6,[⟨true,2⟩],[]⟩:=by simpa [mg] using hx
 subst this
 decide
theorem sJ (A:Option Addr) (c:Nat) (w:World) (hs:Sl w (.slice A 1 c) ed) :
  Calls Tryz.prog 54 #[.agg #[.slice A 1 c]] w fun e w'=> ∃g:MA,True/\
   e= .returned (.tuple #[.agg #[.slice g.Af 1 g.cf,.slice g.Ab 0 g.cb,.slice g.Ai 0 g.ci,.slice g.Ao 0 g.co,.int .i64 0,.int .i64 0],.int .i64 0])/\Cw w.heap.size w [ak (.slice g.Af 1 g.cf) fW.F,ak (.slice g.Ab 0 g.cb) fW.B,ak (.slice g.Ai 0 g.ci) fW.I,ak (.slice g.Ao 0 g.co) fW.out] w':=by
 have:=sw A c ed fW gV.2.1 w hs
 rw[gV.1] at this
 exact this
theorem wA (A:Option Addr) (c:Nat) (a:MA) (w:World) (hs:Sl w (.slice A 1 c) ed) (hm:dS w.heap.size w a fW) :
  Calls Tryz.prog 55 #[.agg #[.slice A 1 c],.agg #[.slice a.Af 1 a.cf,.slice a.Ab 0 a.cb,.slice a.Ai 0 a.ci,.slice a.Ao 0 a.co,.int .i64 0,.int .i64 0],.int .i64 10] w fun e w'=> ∃g:MA,True/\
   e= .returned (.tuple #[.agg #[.slice g.Af 1 g.cf,.slice g.Ab 2 g.cb,.slice g.Ai 0 g.ci,.slice g.Ao 0 g.co,.int .i64 0,.int .i64 0],.int .i64 0,.int .i64 0])/\Cw w.heap.size w [ak (.slice g.Af 1 g.cf) mg.F,ak (.slice g.Ab 2 g.cb) mg.B,ak (.slice g.Ai 0 g.ci) mg.I,ak (.slice g.Ao 0 g.co) mg.out] w':=by
 have:=sx A c ed a fW 10 _ gV.2.2.2.1 w hs hm ze
 rw[gV.2.2.1] at this
 exact this
theorem Gb (A:Option Addr) (c:Nat) (a:MA) (w:World) (hs:Sl w (.slice A 1 c) ed) (hm:dS w.heap.size w a mg) :
  Calls Tryz.prog 57 #[.agg #[.slice A 1 c],.agg #[.slice a.Af 1 a.cf,.slice a.Ab 2 a.cb,.slice a.Ai 0 a.ci,.slice a.Ao 0 a.co,.int .i64 0,.int .i64 0]] w fun e w'=> ∃q:Option Addr×Nat,True/\e= .returned (.tuple #[.slice q.1 1 q.2,.int .i64 0])/\Cw w.heap.size w [ak (.slice q.1 1 q.2) [(2:Int)]] w':=by
 have:=zA A c ed a mg [2] (by unfold tU;rw[if_pos gV.2.2.2.2.1];exact gV.2.2.2.2.2.2) w hs hm E7
 rw[gV.2.2.2.2.1] at this
 exact this
theorem wB (A:Option Addr) (c:Nat) (a:MA) (w:World) (hs:Sl w (.slice A 1 c) ed) (hm:dS w.heap.size w a mg) :
  Calls Tryz.prog 56 #[.agg #[.slice A 1 c],.agg #[.slice a.Af 1 a.cf,.slice a.Ab 2 a.cb,.slice a.Ai 0 a.ci,.slice a.Ao 0 a.co,.int .i64 0,.int .i64 0]] w fun e w'=> ∃g:MA,True/\
   e= .returned (.tuple #[.agg #[.slice g.Af 1 g.cf,.slice g.Ab 1 g.cb,.slice g.Ai 0 g.ci,.slice g.Ao 0 g.co,.int .i64 0,.int .i64 0],.int .i64 1,.int .i64 0])/\Cw w.heap.size w [ak (.slice g.Af 1 g.cf) CB.F,ak (.slice g.Ab 1 g.cb) CB.B,ak (.slice g.Ai 0 g.ci) CB.I,ak (.slice g.Ao 0 g.co) CB.out] w':=by
 have:=vF A c ed a mg _ gV.2.2.2.2.2.1 w hs hm E7
 rw[gV.2.2.2.2.1] at this
 exact this
theorem wJ (w:World):Calls Tryz.prog 47 #[] w fun e w'=>e= .returned (.bool true)/\Below w.heap.size w w':=by
 refine enter Tryz.func47 rfl Tryz.ntmps47 rfl<|aj ?_
 refine eb rfl kA (fun w hw=>fU w) (fun gp _=>?_)
 refine eb rfl vk (fun w hw=>sJ _ _ w (SF.at_ (SF.own rfl fc) hw)) (fun a1 _=>aj ?_)
 intro g1 _
 refine dr (cV _ fc cX rfl rfl rfl rfl rfl (by rfl) rfl (by rfl)) rfl rfl (fun _ _=>?_)
 refine ay ?_
 refine bH<|eh (fun _:Nat×MA=>True) (fun g=> [(3,.pointer (some ⟨g.1,0,none⟩)),(5,.int .i64 0)]) (fun g=> [am g.1 [.slice g.2.Af 1 g.2.cf,.slice g.2.Ab 2 g.2.cb,.slice g.2.Ai 0 g.2.ci,.slice g.2.Ao 0 g.2.co,.int .i64 0,.int .i64 0] 43,ak (.slice g.2.Af 1 g.2.cf) mg.F,ak (.slice g.2.Ab 2 g.2.cb) mg.B,ak (.slice g.2.Ai 0 g.2.ci) mg.I,ak (.slice g.2.Ao 0 g.2.co) mg.out]) ?_ ?_
 ·refine iq (.still 1 (.pick 0 (.pick 2 (.calm 3 (.calm 4 (.calm 5 (.calm 6 (.pick 7 (.pick 8 (.calm 9 (.calm 10 .done)) .stop) .stop))))) (.pick 7 (.pick 2 (.calm 3 (.calm 4 (.calm 5 (.calm 6 (.pick 8 (.calm 9 (.calm 10 .done)) .stop))))) .stop) .stop)) (.pick 7 (.pick 0 (.pick 2 (.calm 3 (.calm 4 (.calm 5 (.calm 6 (.pick 8 (.calm 9 (.calm 10 .done)) .stop))))) .stop) .stop) .stop))) [2,3,4,5,6,8,9,10] rfl (by kernel_rfl) (by kernel_rfl) ?_
  refine aj ?_
  refine cP rfl (jc rfl rfl rfl kA (fun w hw=>fU w)) rfl rfl (.inr fun _=>ha) (fun gq _=>?_) ?_
  ·refine cP rfl (jc rfl rfl rfl nK (fun w hw=>wA _ _ a1 w (SF.at_ (SF.own rfl fc) hw) (dx (m:=fW) hw fc fc fc fc rfl rfl rfl rfl (by decide) (by decide)))) rfl rfl (.inl rfl) (fun a2 _=>?_) ?_
   ·refine aj ?_
    intro q _
    refine aj ?_
    refine bu<|bS (q,a2) (trivial) (hh:=(fun _ h=>h.msub ms))
   refine aj ?_
   intro q _
   refine ia rfl rfl nK (fun w hw=>wA _ _ a1 w (SF.at_ (SF.own rfl fc) hw) (dx (m:=fW) hw fc fc fc fc rfl rfl rfl rfl (by decide) (by decide))) (fun a2 _=>aj ?_)
   refine bu<|bS (q,a2) (trivial) (hh:=(fun _ h=>h.msub ms))
  refine aj ?_
  intro q _
  refine ia rfl rfl kA (fun w hw=>fU w) (fun gq _=>?_)
  refine ia rfl rfl nK (fun w hw=>wA _ _ a1 w (SF.at_ (SF.own rfl fc) hw) (dx (m:=fW) hw fc fc fc fc rfl rfl rfl rfl (by decide) (by decide))) (fun a2 _=>aj ?_)
  refine bu<|bS (q,a2) (trivial) (hh:=(fun _ h=>h.msub ms))
 rintro⟨ga,a2⟩ _
 refine aO ?_
 refine bz [3,2,8,10,13,16,19,22] [2,3,4,5,6,7] rfl<|aj ?_
 refine ia rfl rfl kA (fun w hw=>fU w) (fun gq _=>?_)
 refine ia rfl rfl Tryz.call57 (fun w hw=>Gb _ _ a2 w (SF.at_ (SF.own rfl fc) hw) (dx (m:=mg) hw fc fc fc fc rfl rfl rfl rfl (by decide) (by decide))) (fun⟨Q1,q1⟩ _=>?_)
 try dsimp only
 refine ay ?_
 refine ay ?_
 refine ay ?_
 refine ay ?_
 refine ay ?_
 refine xi<|eh (fun _:Nat×MA=>True) (fun g=> [(3,.pointer (some ⟨ga,0,none⟩)),(5,.int .i64 0),(6,.slice Q1 1 q1),(7,.int .i64 0),(8,.pointer (some ⟨g.1,0,none⟩)),(9,.int .i64 1),(10,.int .i64 0)]) (fun g=> [am g.1 [.slice g.2.Af 1 g.2.cf,.slice g.2.Ab 1 g.2.cb,.slice g.2.Ai 0 g.2.ci,.slice g.2.Ao 0 g.2.co,.int .i64 0,.int .i64 0] 43,ak (.slice g.2.Af 1 g.2.cf) CB.F,am ga [.slice a2.Af 1 a2.cf,.slice a2.Ab 2 a2.cb,.slice a2.Ai 0 a2.ci,.slice a2.Ao 0 a2.co,.int .i64 0,.int .i64 0] 43,ak (.slice Q1 1 q1) [(2:Int)]]) ?_ ?_
 ·refine iq (.still 1 (.pick 0 (.pick 2 (.calm 3 (.calm 4 (.calm 5 (.calm 6 (.pick 7 (.pick 8 (.calm 9 (.calm 10 .done)) .stop) .stop))))) (.pick 7 (.pick 2 (.calm 3 (.calm 4 (.calm 5 (.calm 6 (.pick 8 (.calm 9 (.calm 10 .done)) .stop))))) .stop) .stop)) (.pick 7 (.pick 0 (.pick 2 (.calm 3 (.calm 4 (.calm 5 (.calm 6 (.pick 8 (.calm 9 (.calm 10 .done)) .stop))))) .stop) .stop) .stop))) [2,3,4,5,6,8,9,10] rfl (by kernel_rfl) (by kernel_rfl) ?_
  refine aj ?_
  refine cP rfl (jc rfl rfl rfl kA (fun w hw=>fU w)) rfl rfl (.inr fun _=>ha) (fun gr _=>?_) ?_
  ·refine cP rfl (jc rfl rfl rfl PM (fun w hw=>wB _ _ a2 w (SF.at_ (SF.own rfl fc) hw) (dx (m:=mg) hw fc fc fc fc rfl rfl rfl rfl (by decide) (by decide)))) rfl rfl (.inl rfl) (fun a3 _=>?_) ?_
   ·refine aj ?_
    intro q _
    refine aj ?_
    refine bu<|bS (q,a3) (trivial) (hh:=(fun _ h=>h.msub ms))
   refine aj ?_
   intro q _
   refine ia rfl rfl PM (fun w hw=>wB _ _ a2 w (SF.at_ (SF.own rfl fc) hw) (dx (m:=mg) hw fc fc fc fc rfl rfl rfl rfl (by decide) (by decide))) (fun a3 _=>aj ?_)
   refine bu<|bS (q,a3) (trivial) (hh:=(fun _ h=>h.msub ms))
  refine aj ?_
  intro q _
  refine ia rfl rfl kA (fun w hw=>fU w) (fun gr _=>?_)
  refine ia rfl rfl PM (fun w hw=>wB _ _ a2 w (SF.at_ (SF.own rfl fc) hw) (dx (m:=mg) hw fc fc fc fc rfl rfl rfl rfl (by decide) (by decide))) (fun a3 _=>aj ?_)
  refine bu<|bS (q,a3) (trivial) (hh:=(fun _ h=>h.msub ms))
 rintro⟨gb,a3⟩ _
 try dsimp only
 refine yd (k:=1) (c:=a3.cf) (A:=a3.Af) (fr:=CB.F) rfl fc fun X hsX hX=>?_
 obtain⟨B1,d1,B2,d2,e1,hX1⟩:=hX.el 0 (by decide)
 have hS:∀H H',cN H X H'->SF w.heap.size w H B1 1 d1 [(⟨true,1⟩:aC)]:=fun _ _ f=>(hX1 _ _ f).1
 refine cc<|bO<|ay ?_
 refine ay ?_
 refine ay ?_
 refine bh (t:=38) (v':= .bool true) rfl (rfl) ?_
 refine ay ?_
 refine ay ?_
 refine ay ?_
 refine ay ?_
 refine bh (t:=42) (v':= .bool true) rfl (rfl) ?_
 refine ay ?_
 refine ay ?_
 refine ay ?_
 refine ay ?_
 refine bh (t:=46) (v':= .bool true) rfl (rfl) ?_
 refine ay ?_
 refine dT (cE fc Tryz.isAgg41 rfl rfl (by rfl)) rfl rfl ?_
 refine dT (kT dX rfl rfl) rfl rfl<|ay ?_
 refine ay ?_
 refine ay ?_
 refine bh (t:=52) (v':= .bool true) rfl (rfl)<|aj ?_
 intro g2 _
 refine ee (fun w h=>bt (α:=Int) (m:=1) [2] rfl (fT (by decide)) rfl (by decide) (h.msub (T:= [am g2 _ _,ak (.slice a3.Af 1 a3.cf) hsX,X,am gb [.slice a3.Af 1 a3.cf,.slice a3.Ab 1 a3.cb,.slice a3.Ai 0 a3.ci,.slice a3.Ao 0 a3.co,.int .i64 0,.int .i64 0] 43,am ga [.slice a2.Af 1 a2.cf,.slice a2.Ab 2 a2.cb,.slice a2.Ai 0 a2.ci,.slice a2.Ao 0 a2.co,.int .i64 0,.int .i64 0] 43,ak (.slice Q1 1 q1) [(2:Int)]]) ms)) ?_
 refine bX rfl nJ (fun w hw=>is Q1 (some ⟨g2,0,none⟩) q1 1 [2] [2] w (SF.at_ (SF.own (A:=Q1) (m:=1) (c:=q1) (xs:= [(2:Int)]) rfl fc) hw) (SF.at_ (SF.own (A:=some ⟨g2,0,none⟩) (m:=1) (c:=1) (xs:= [(2:Int)]) rfl fc) hw)) ?_
 refine ay ?_
 refine ay ?_
 refine bh (t:=57) (v':= .bool true) rfl (congrArg Value.bool (decide_eq_true rfl)) ?_
 refine ay ?_
 refine ay ?_
 refine ay ?_
 refine ay ?_
 refine bh (t:=61) (v':= .bool true) rfl (rfl) ?_
 refine ay ?_
 refine dT (cE fc Tryz.isAgg41 rfl rfl (by rfl)) rfl rfl ?_
 refine dT (kT dX rfl rfl) rfl rfl<|ay ?_
 refine ay ?_
 refine ay ?_
 refine bh (t:=67) (v':= .bool true) rfl (rfl)<|aj ?_
 refine cS (0) rfl ((SF.own (α:=aB) hX.len fc))<|aj ?_
 refine eH rfl (fun w hw=>(SF.hfr (SF.own (α:=aB) hX.len fc) (k:=0) (by decide) e1) w hw 2 _ rfl) ?_
 refine cS (0) rfl ((hS _ _ fc)) ?_
 refine iY rfl (SF.val (k:=0) (hS _ _ fc) (by decide) default)<|aj ?_
 refine sE (mL rfl rfl rfl (fun w=>Q3 w _ _ _ _) (fun w=>Qm _ _ _ _ w))<|aj ?_
 intro w hw
 exact⟨rfl,hw.below⟩
end
