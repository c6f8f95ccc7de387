/- Texts of one proof, one behind the other: lemmas alone. -/
import Derived.Test.YtpacloheigifkaaGreatM0D
import Derived.Test.YtpacloheigifkaaGreatM39D
import Derived.Test.YtpacloheigifkaaGreatM38D
import Derived.Test.YtpacloheigifkaaGreatM34D
import Derived.Test.YtpacloheigifkaaGreatM28D

namespace Go.Proofs.YtpacloheigifkaaGreat
open Go.RowKit
section
theorem mz.right {fs:List aC} {l r:List aD} (h:mz fs l) (hr:r.length=l.length) (hR:∀m∈r,cI fs m):mz fs r:=⟨h.p,h.f,hR,by rw[hr];exact h.n0,by rw[hr];exact h.n4⟩
set_option maxRecDepth 100000 in
set_option maxHeartbeats 4000000 in
theorem rR (Aw:Option Addr) (cw n:Nat) (fs:List aC) (l:List aD) (hl:l.length=n) (hW:mz fs l) (r:List aD×Nat) (hr:iw l=r) (w:World) (hs:Sl w (.slice Aw n cw) l) :
  Calls Tryz.prog 45 #[.agg #[.slice Aw n cw]] w fun e w'=> ∃g:Option Addr×Nat,True∧e= .returned (.tuple #[.agg #[.slice g.1 n g.2],.int .i64 (r.2:Int)])∧Cw w.heap.size w [aj (.slice g.1 n g.2) r.1] w':=by
 have bl:=bO hs
 have hn4:n≤4:=by rw[←hl];exact hW.n4
 have hn1:1≤n:=by rw[←hl];exact hW.n0
 have hR:=hW.r
 have hsum:∀k,k≤n→(bJ l k).2≤40:=fun k hk=>by
  have hf:=(hU (fs:=fs) l k (by omega)).1
  have h1:=hf.cnt (fun j=>(aJ l j).out.length - (aJ (bJ l k).1 j).out.length) fun j hj=>by have:=hf.fewer j hj;omega
  have h2:∀m,m≤l.length→((List.range m).map fun j=>(aJ l j).out.length - (aJ (bJ l k).1 j).out.length).sum≤m*10:=by
   intro m
   induction m with
   | zero=>exact fun _=>Nat.le_refl _
   | succ m ih=>
    intro hm
    have h3:=ih (by omega)
    have h4:=(hR _ (fG (l:=l) (k:=m) (by omega))).ob
    rw[List.range_succ,List.map_append,List.sum_append]
    show _+(((aJ l m).out.length - (aJ (bJ l k).1 m).out.length)+0)≤_
    omega
  have h5:=h2 l.length (Nat.le_refl _)
  omega
 refine enter Tryz.func45 rfl Tryz.ntmps45 rfl ?_
 refine ac<|aa<|ag (bF rfl rfl rfl) rfl rfl (fun g1 _=>?_)
 refine ag (aZ bS rfl rfl) rfl rfl (fun g2 _=>?_)
 refine rn 1 [1,2] rfl<|ae<|ac<|aa<|af (aQ (vs:= [_]) fc bT aU rfl rfl (by rfl) rfl) rfl rfl ?_
 refine ag (cO rfl rfl rfl Tryz.call95 (fun w hw=>qr Aw cw n fs l hl hW w (hw.ro hs))) rfl rfl (fun⟨A0,c0⟩ _=>?_)
 try dsimp only
 refine ag (aZ bS rfl rfl) rfl rfl (fun g3 _=>?_)
 refine ag (aH _ fc aU rfl rfl rfl rfl rfl (by rfl) rfl (by rfl)) rfl rfl (fun _ _=>?_)
 refine ae<|ac<|aa<|rn 1 [2,4,5] rfl<|ae<|ac<|ac<|aa<|rn 1 [2,4,5,6] rfl<|ae<|aL (b8 (fun g:Nat×Option Addr×Nat=>g.1≤n) (fun g=>n - g.1) (fun g=> [(2,.pointer (some ⟨g2,0,none⟩)),(4,.pointer (some ⟨g3,0,none⟩)),(5,.int .i64 ((bJ l g.1).2:Int)),(6,.int .i64 (g.1:Int))]) (fun g=> [am g3 [.slice g.2.1 n g.2.2] 67,aj (.slice g.2.1 n g.2.2) (bJ l g.1).1,am g1 [.slice Aw n cw] 67,am g2 [.slice none 0 0] 67]) (0,A0,c0) (Nat.zero_le _) ⟨rfl,rfl,rfl,rfl,trivial⟩ me ?_)
 rintro⟨k,A,c⟩ hk'
 try dsimp only
 have hk:k≤n:=hk'
 have hf:=(hU (fs:=fs) l k (by omega)).1
 have hlen:=hf.len
 refine ac<|ac<|aa<|rn 2 [2,4,5,6,11,12] rfl<|af (ai fc cM rfl rfl (by rfl)) rfl rfl ?_
 refine af (aN bn rfl rfl) rfl rfl<|rn 1 [2,4,5,6,15] rfl<|ae<|aw rfl (fun hlt=>?_) (fun hlt=>?_)
 ·have hkn:k<n:=by omega
  have hto:fm k l.length<n:=by have:=mZ (i:=k) (n:=l.length) (by omega);omega
  obtain⟨to_,hto2⟩:∃t,fm k l.length=t:=⟨_,rfl⟩
  rw[hto2] at hto
  have hs1:(bJ l (k+1)).1=(dN (bJ l k).1 k to_).1:=by rw[←hto2];rfl
  have hs2:(bJ l (k+1)).2=(bJ l k).2+(dN (bJ l k).1 k to_).2:=by rw[←hto2];rfl
  have hsk:=hsum (k+1) (by omega)
  have hsk0:=hsum k (by omega)
  refine ax (ap ?_)
  refine ac<|aL<|aL (b8 (fun g:List aD×Nat×Option Addr×Nat=>((g.1.length=n∧∀m∈g.1,cI fs m)∧(dN g.1 k to_).1=(bJ l (k+1)).1)∧(bJ l k).2+g.2.1+(dN g.1 k to_).2=(bJ l (k+1)).2) (fun g=>(aJ g.1 k).out.length) (fun g=> [(2,.pointer (some ⟨g2,0,none⟩)),(4,.pointer (some ⟨g3,0,none⟩)),(5,.int .i64 (((bJ l k).2+g.2.1:Nat):Int)),(6,.int .i64 (k:Int))]) (fun g=> [am g3 [.slice g.2.2.1 n g.2.2.2] 67,aj (.slice g.2.2.1 n g.2.2.2) g.1,am g1 [.slice Aw n cw] 67,am g2 [.slice none 0 0] 67]) ((bJ l k).1,0,A,c) (⟨⟨⟨by show (bJ l k).1.length=n;omega,hf.right hR⟩,hs1.symm⟩,by show (bJ l k).2+0+(dN (bJ l k).1 k to_).2=_;rw[hs2];omega⟩) ⟨rfl,rfl,rfl,rfl,trivial⟩ me ?_)
  rintro⟨l',q,A',c'⟩ hq'
  try dsimp only
  obtain⟨⟨⟨hl',hR'⟩,hq1⟩,hq2⟩:((l'.length=n∧∀m∈l',cI fs m)∧(dN l' k to_).1=(bJ l (k+1)).1)∧(bJ l k).2+q+(dN l' k to_).2=(bJ l (k+1)).2:=hq'
  have hse:=pM (l:=l') (i:=k) (to_:=to_) (by omega) (by omega)
  have hRk:=hR' _ (fG (l:=l') (k:=k) (by omega))
  have hRt:=hR' _ (fG (l:=l') (k:=to_) (by omega))
  have hob:=hRk.ob
  have hib:=hRt.ib
  have hW':mz fs l':=hW.right (by omega) hR'
  refine oI (v:= .slice A' n c') (L:=l') (k:=k) (by omega) fc fun X hs a hA=>?_
  have hhl:hs.length=n:=hA.len.trans hl'
  have hhd:=hA.hd
  refine ac<|ac<|aa<|rn 1 [2,4,5,6,18] rfl<|af (ai fc cM rfl rfl (by rfl)) rfl rfl ?_
  refine rn 1 [2,4,5,6,19,20] rfl<|af (aO (k:=k) bn aF (SF.own (xs:=hs) hhl fc) (by omega) rfl rfl rfl) rfl rfl ?_
  refine rn 1 [2,4,5,6,22] rfl<|af (a8 (fun w hw=>(SF.hmc (SF.own (xs:=hs) hhl fc) hkn hhd) w hw 3 _ rfl) rfl rfl a5) rfl rfl ?_
  refine af (aN ah rfl rfl) rfl rfl<|rn 1 [2,4,5,6,25] rfl<|ae<|aw rfl (fun h0=>?_) (fun h0=>?_)
  ·have h0:0<(aJ l' k).out.length:=by have h0:(0:Int)<(aJ l' k).out.length:=h0;omega
   have hz:aX ((aJ l' k).out.getD 0 0):=kI (hRk.oi _ (cN h0))
   obtain⟨r',hr'⟩:∃r',nr l' to_ ((aJ l' k).out.getD 0 0)=r':=⟨_,rfl⟩
   have hsend:∀w1,Sl w1 (.slice A' n c') l'→Calls Tryz.prog 47 #[.agg #[.slice A' n c'],.int .i64 (((k+1) % n:Nat):Int),.int .i64 ((aJ l' k).out.getD 0 0)] w1 fun e w'=> ∃g:Option Addr×Nat,True∧e= .returned (.tuple #[.agg #[.slice g.1 r'.length g.2],.bool (!decide ((aJ l' to_).inn.length=10))])∧Cw w1.heap.size w1 [aj (.slice g.1 r'.length g.2) r'] w':=fun w1 h1=>by
    rw[show (k+1) % n=to_ from by rw[←hto2,←hl];rfl]
    exact rQ A' c' n fs l' hl' hW' to_ hto _ hz r' hr' w1 h1
   refine ax (ap ?_)
   refine aL<|dF (fun _:Nat×Option Addr×Nat=>True) (fun g=> [(2,.pointer (some ⟨g2,0,none⟩)),(4,.pointer (some ⟨g3,0,none⟩)),(5,.int .i64 (((bJ l k).2+q:Nat):Int)),(6,.int .i64 (k:Int)),(7,.pointer (some ⟨g.1,0,none⟩)),(8,.bool (!decide ((aJ l' to_).inn.length=10)))]) (fun g=> [am g.1 [.slice g.2.1 r'.length g.2.2] 67,aj (.slice g.2.1 r'.length g.2.2) r',aj (.slice A' n c') hs,aj (.slice a.Af (aJ l' k).frames.length a.cf) (aJ l' k).frames,aj (.slice a.Ab (aJ l' k).blocks.length a.cb) (aJ l' k).blocks,aj (.slice a.Ai (aJ l' k).inn.length a.ci) (aJ l' k).inn,aj (.slice a.Ao (aJ l' k).out.length a.co) (aJ l' k).out,X,am g3 [.slice A' n c'] 67,am g1 [.slice Aw n cw] 67,am g2 [.slice none 0 0] 67]) ?_ ?_
   ·refine bQ (.still 0 (.still 1 (.still 2 (.still 3 (.still 4 (.still 5 (.still 6 (.still 7 (.still 8 (.still 9 (.still 10 (.still 11 (.still 12 (.still 13 (.still 14 (.pick 15 (.still 16 (.still 17 (.still 18 (.pick 19 (.pick 20 (.still 21 .done) .stop) .stop)))) (.pick 19 (.pick 15 (.still 16 (.still 17 (.still 18 (.pick 20 (.still 21 .done) .stop)))) .stop) .stop))))))))))))))))) [] rfl (by kernel_rfl) (by kernel_rfl) ?_
    refine an rfl (aQ (vs:= [_]) fc bT aU rfl rfl (by rfl) rfl) rfl rfl ha ?_
    refine aV ha 1 [2,4,5,6,27,28] rfl<|an rfl (bH rfl rfl rfl (by omega)) rfl rfl ha ?_
    refine aV ha 1 [2,4,5,6,27,29,30] rfl<|an rfl (ai fc cM rfl rfl (by rfl)) rfl rfl ha ?_
    refine an rfl (aN bn rfl rfl) rfl rfl ha ?_
    refine an rfl (vF (a:=k+1) (b:=n) (by omega) (by omega) rfl rfl rfl) rfl rfl ha ?_
    refine aV ha 1 [2,4,5,6,27,33,34] rfl<|an rfl (ai fc cM rfl rfl (by rfl)) rfl rfl ha ?_
    refine aV ha 1 [2,4,5,6,27,33,35,36] rfl<|an rfl (aO (k:=k) bn aF (SF.own (xs:=hs) hhl fc) (by omega) rfl rfl rfl) rfl rfl ha ?_
    refine aV ha 1 [2,4,5,6,27,33,38] rfl<|an rfl (a8 (fun w hw=>(SF.hmc (SF.own (xs:=hs) hhl fc) hkn hhd) w hw 3 _ rfl) rfl rfl a5) rfl rfl ha ?_
    refine an rfl (aO (k:=0) ah aI (SF.own (xs:=(aJ l' k).out) (A:=a.Ao) (c:=a.co) rfl fc) (by omega) rfl rfl rfl) rfl rfl ha ?_
    refine an rfl (a8 (SF.int (SF.own (xs:=(aJ l' k).out) (A:=a.Ao) (c:=a.co) rfl fc) (by omega)) rfl rfl ar) rfl rfl ha ?_
    refine aB rfl (cO rfl rfl rfl Gh (fun w hw=>hsend w (SF.at_ (SF.own (xs:=l') hl' .a) (hA.same (v:= .slice A' n c') (by omega) (hw.msub (.s fc (.s fc (.s fc (.s fc (.s fc (.s fc .r))))))))))) rfl rfl (.inr fun _=>ha) (fun⟨B1,b1⟩ _=>?_) ?_
    ·try dsimp only
     refine aV ha 3 [2,4,5,6,43,44] rfl<|aB rfl (aZ bS rfl rfl) rfl rfl (.inr fun _=>ha) (fun q2 _=>?_) ay
     refine aB rfl (aH [_] fc aU rfl rfl rfl rfl rfl (by rfl) rfl (by rfl)) rfl rfl (.inr fun _=>ha) (fun _ _=>?_) ay
     refine aV ha 1 [2,4,5,6,7,8] rfl<|ck<|aY (q2,B1,b1) (trivial) ⟨rfl,rfl,rfl,rfl,rfl,rfl,trivial⟩ (fun _ h=>h.msub ms)
    refine aB rfl (aZ bS rfl rfl) rfl rfl (.inr fun _=>ha) (fun q2 _=>?_) ay
    refine aB rfl (cO rfl rfl rfl Gh (fun w hw=>hsend w (SF.at_ (SF.own (xs:=l') hl' .a) (hA.same (v:= .slice A' n c') (by omega) (hw.msub (.s fc (.s fc (.s fc (.s fc (.s fc (.s fc .r))))))))))) rfl rfl (.inr fun _=>ha) (fun⟨B1,b1⟩ _=>?_) ay
    try dsimp only
    refine aV ha 3 [2,4,5,6,7,43,44] rfl<|aB rfl (aH [_] fc aU rfl rfl rfl rfl rfl (by rfl) rfl (by rfl)) rfl rfl (.inr fun _=>ha) (fun _ _=>?_) ay
    refine aV ha 1 [2,4,5,6,7,8] rfl<|ck<|aY (q2,B1,b1) (trivial) ⟨rfl,rfl,rfl,rfl,rfl,rfl,trivial⟩ (fun _ h=>h.msub ms)
   rintro⟨gx,B1,b1⟩ _
   try dsimp only
   refine ac<|ac<|aa<|rn 2 [2,4,5,6,7,46] rfl<|ae<|cP (t:=46) (v':= .bool (decide ((aJ l' to_).inn.length=10))) rfl (by rw[Bool.not_not]) ?_
   refine aw rfl (fun h10=>?_) (fun h10=>?_)
   ·have h10:(aJ l' to_).inn.length=10:=h10
    have hg:¬jv l' k to_:=fun h=>h.2 h10
    rw[if_neg hg] at hse
    rw[hse] at hq1 hq2
    have hq2:(bJ l k).2+q+0=(bJ l (k+1)).2:=hq2
    have hq1:l'=(bJ l (k+1)).1:=hq1
    rw[show (bJ l k).2+q=(bJ l (k+1)).2 from by omega]
    refine bN (aM (q8 rfl (aM (cc (aK (ap ?_))))))
    refine aa<|rn 1 [2,4,5,16] rfl<|af (bH rfl rfl rfl (by omega)) rfl rfl<|rn 1 [2,4,5,6] rfl<|br (k+1,A',c') (by show k+1≤_;omega) (by show _ - _<_ - _;omega) ⟨rfl,rfl,rfl,rfl,trivial⟩ (fun w h=>by rw[←hq1];exact(hA.same (v:= .slice A' n c') (by omega) (h.msub (.s fc (.s fc (.s fc (.s fc (.s fc (.s fc .r)))))))).msub ms)
   have h10:¬(aJ l' to_).inn.length=10:=h10
   have hg:jv l' k to_:=⟨h0,h10⟩
   rw[if_pos hg] at hse
   have er:r'=cW l' k to_:=by rw[←hr'];unfold nr cW;rw[if_neg h10]
   subst er
   have hbl:(cW l' k to_).length=n:=by unfold cW;rw[List.length_set];exact hl'
   have hol:=iT l' k to_
   have hoa:=(kG (l:=l') (i:=k) (to_:=to_) (by omega) (by omega) k).1
   rw[if_pos rfl] at hoa
   have hbo:(aJ (cW l' k to_) k).out=(aJ l' k).out:=by
    rw[lB (by omega)]
    split
    ·subst_vars;rfl
    rfl
   have hb0:1≤(aJ (cW l' k to_) k).out.length:=by rw[hbo];exact h0
   rw[hbl]
   refine oI (v:= .slice B1 n b1) (L:=cW l' k to_) (k:=k) (by omega) fc fun Y hs2 a2 hA2=>?_
   have hhl2:hs2.length=n:=hA2.len.trans hbl
   have hhd2:=hA2.hd
   have hI2:=hA2.i64
   refine dD (fun w h=>eK h (xs:=(aJ (cW l' k to_) k).out) (A:=a2.Ao) (c:=a2.co) fc) fun hcap=>?_
   have hd1:((aJ (cW l' k to_) k).out.drop 1).length=(aJ (cW l' k to_) k).out.length - 1:=List.length_drop
   have hq3:(bJ l k).2+q+((dN (gg l' k to_) k to_).2+1)=(bJ l (k+1)).2:=by rw[hse] at hq2;exact hq2
   refine ax (ap ?_)
   refine ac<|bQ (.still 0 (.still 1 (.still 2 (.still 3 (.still 4 (.still 5 (.still 6 (.still 7 (.still 8 (.still 9 (.still 10 (.still 11 (.pick 12 .done .stop))))))))))))) [12] rfl (by kernel_rfl) (by kernel_rfl) ?_
   refine aV ha 1 [2,4,5,6,7,47] rfl<|an rfl (ai fc cM rfl rfl (by rfl)) rfl rfl ha ?_
   refine aV ha 2 [2,4,5,6,7,48,49,50] rfl<|an rfl (ai fc cM rfl rfl (by rfl)) rfl rfl ha ?_
   refine aV ha 1 [2,4,5,6,7,48,49,51,52] rfl<|an rfl (aO (k:=k) bn aF (SF.own (xs:=hs2) hhl2 fc) (by omega) rfl rfl rfl) rfl rfl ha ?_
   refine aV ha 1 [2,4,5,6,7,48,49,54] rfl<|an rfl (a8 (fun w hw=>(SF.hmc (SF.own (xs:=hs2) hhl2 fc) hkn hhd2) w hw 3 _ rfl) rfl rfl a5) rfl rfl ha ?_
   refine an rfl (mo (k:=((aJ (cW l' k to_) k).out.drop 1).length) ah aI ⟨by omega,by omega⟩ hd1.symm rfl rfl rfl rfl) rfl rfl ha ?_
   refine an rfl (aO (k:=k) bn aF (SF.own (xs:=hs2) hhl2 fc) (by omega) rfl rfl rfl) rfl rfl ha ?_
   refine aV ha 1 [2,4,5,6,7,56,58] rfl<|aB rfl (kZ (α:=ec) (A:=B1) (c:=b1) (m:=n) (f:=3) (us:= [.slice (fB a2.Ao 1 a2.co 1) ((aJ (cW l' k to_) k).out.drop 1).length (a2.co - 1)]) (hZ ⟨a2.Af,a2.cf,a2.Ab,a2.cb,a2.Ai,a2.ci,fB a2.Ao 1 a2.co 1,a2.co - 1⟩ (oA (aJ (cW l' k to_) k))) default rfl fc hkn (m9 hI2) bV rfl rfl rfl rfl rfl rfl (by rw[hhd2];rfl) rfl) rfl rfl (.inl rfl) (fun _ _=>?_) ay
   refine cJ<|ac<|aa<|af (aQ (vs:= [_]) fc bT aU rfl rfl (by rfl) rfl) rfl rfl ?_
   refine ag (aH _ fc aU rfl rfl rfl rfl rfl (by rfl) rfl (by rfl)) rfl rfl (fun _ _=>?_)
   refine ae<|aa<|rn 1 [2,4,6,60] rfl<|af (bH rfl rfl rfl (by omega)) rfl rfl<|rn 1 [2,4,5,6] rfl<|bE (aK ?_)
   refine iQ (gg l' k to_,q+1,B1,b1) (⟨⟨⟨hol.trans hl',nD (by omega) (by omega) hg hR'⟩,by rw[hse] at hq1;exact hq1⟩,by show (bJ l k).2+(q+1)+(dN (gg l' k to_) k to_).2=_;omega⟩) (by show (aJ (gg l' k to_) k).out.length<_;rw[hoa,List.length_drop];omega) ⟨rfl,rfl,rfl,rfl,trivial⟩ (fun w h=>(hA2.back (.slice B1 n b1) ⟨a2.Af,a2.cf,a2.Ab,a2.cb,a2.Ai,a2.ci,fB a2.Ao 1 a2.co 1,a2.co - 1⟩ (oA (aJ (cW l' k to_) k)) _ _ ((pR hb0 (h.msub (.s fc .r))).msub (.s fc (.s fc (.s fc (.s fc (.s fc (.s fc .r)))))))).msub ms)
  have h0:¬0<(aJ l' k).out.length:=by have h0:¬(0:Int)<(aJ l' k).out.length:=h0;omega
  have hg:¬jv l' k to_:=fun h=>h0 h.1
  rw[if_neg hg] at hse
  rw[hse] at hq1 hq2
  have hq2:(bJ l k).2+q+0=(bJ l (k+1)).2:=hq2
  have hq1:l'=(bJ l (k+1)).1:=hq1
  rw[show (bJ l k).2+q=(bJ l (k+1)).2 from by omega]
  refine bN (aM (aM (cc (aK (ap ?_)))))
  refine aa<|rn 1 [2,4,5,16] rfl<|af (bH rfl rfl rfl (by omega)) rfl rfl<|rn 1 [2,4,5,6] rfl<|br (k+1,A',c') (by show k+1≤_;omega) (by show _ - _<_ - _;omega) ⟨rfl,rfl,rfl,rfl,trivial⟩ (fun w h=>by rw[←hq1];exact(hA.same (v:= .slice A' n c') (by omega) (h.msub (.s fc (.s fc (.s fc (.s fc (.s fc (.s fc .r)))))))).msub ms)
 obtain rfl:k=n:=by omega
 have e:bJ l l.length=r:=hr
 rw[hl] at e
 rw[e]
 refine bN (aM (aM (cc (ap ?_))))
 refine ac<|aa<|af (aQ (vs:= [_]) fc bT aU rfl rfl (by rfl) rfl) rfl rfl ?_
 refine rn 1 [2,62,63] rfl<|ag (aH _ fc aU rfl rfl rfl rfl rfl (by rfl) rfl (by rfl)) rfl rfl (fun _ _=>?_)
 refine rn 1 [2,3] rfl<|ae<|au<|bD Tryz.results45 (dp (cs:= [_]) fc bT aU rfl) (aq rfl) ?_
 intro w hw
 exact⟨(A,c),trivial,rfl,hw.msub ms⟩
end
section
def wJ (l:List Int):List UInt8:=dG l.length::l.flatMap eB
def CU (v:aS):List UInt8:=dG (if v.ref=true then 1 else 0)::eB v.n
def vu (l:List aS):List UInt8:=dG l.length::l.flatMap CU
def Ds (x:aW):List UInt8:=dG x.func::dG x.pc::(vu x.locals++vu x.stack)
def Fv (m:aD):List UInt8:=
 dG m.status::dG m.trap::(wJ m.inn++(wJ m.out++(dG m.blocks.length::(m.blocks.flatMap wJ++(dG m.frames.length::m.frames.flatMap Ds)))))
abbrev ll (α:Type):=List UInt8→Option (α×List UInt8)
def rt:ll Int
 | []=>none
 | b::l=>some ((b.toNat:Int),l)
def Bw:ll Int:=fun s=>if s.length<4 then none else some (gh (s.take 4),s.drop 4)
def kM {α:Type} (p:ll α):Nat→ll (List α)
 | 0,s=>some ([],s)
 | k+1,s=>match p s with
  | none=>none
  | some (x,r)=>match kM p k r with
   | none=>none
   | some (l,t)=>some (x::l,t)
def sH {α:Type} (p:ll α):ll (List α):=fun s=>match rt s with
 | none=>none
 | some (n,r)=>kM p n.toNat r
def wK:ll (List Int):=sH Bw
def CV:ll aS:=fun s=>match rt s with
 | none=>none
 | some (n,r)=>if 1<n then none else match Bw r with
  | none=>none
  | some (z,t)=>some (⟨decide (n=1),z⟩,t)
def vv:ll (List aS):=sH CV
def Dt:ll aW:=fun s=>match rt s with
 | none=>none
 | some (f,s1)=>match rt s1 with
  | none=>none
  | some (p,s2)=>match vv s2 with
   | none=>none
   | some (l,s3)=>match vv s3 with
    | none=>none
    | some (t,s4)=>some (⟨f,p,l,t⟩,s4)
def Ep:ll aD:=fun s=>match rt s with
 | none=>none
 | some (st,s1)=>match rt s1 with
  | none=>none
  | some (tr,s2)=>match wK s2 with
   | none=>none
   | some (i,s3)=>match wK s3 with
    | none=>none
    | some (o,s4)=>match sH wK s4 with
     | none=>none
     | some (b,s5)=>match sH Dt s5 with
      | none=>none
      | some (f,s6)=>some (⟨f,b,i,o,st,tr⟩,s6)
def FG (s:List UInt8):Option aD:=match Ep s with
 | none=>none
 | some (m,r)=>if r= [] then some m else none
def Bz {α:Type} (p:ll α) (x:α) (b:List UInt8):Prop:= ∀r,p (b++r)=some (x,r)
theorem AF {α:Type} {p:ll α} {f:α→List UInt8} :∀(l:List α),(∀x∈l,Bz p x (f x))→Bz (kM p l.length) l (l.flatMap f)
 | [],_=>fun r=>rfl
 | x::l,h=>fun r=>by
  rw[List.length_cons,kM,List.flatMap_cons,List.append_assoc,h x (by simp),]
  simp only
  rw[AF l (fun y hy=>h y (by simp[hy]))]
structure EN (x:aW):Prop where
 f:0≤x.func∧x.func≤255
 p:0≤x.pc∧x.pc≤255
 l:x.locals.length≤255∧∀v∈x.locals,cu v.n=true
 s:x.stack.length≤255∧∀v∈x.stack,cu v.n=true
structure MI (m:aD):Prop where
 s:0≤m.status∧m.status≤255
 t:0≤m.trap∧m.trap≤255
 i:m.inn.length≤255∧∀n∈m.inn,cu n=true
 o:m.out.length≤255∧∀n∈m.out,cu n=true
 b:m.blocks.length≤255∧∀l∈m.blocks,l.length≤255∧∀n∈l,cu n=true
 f:m.frames.length≤255∧∀x∈m.frames,EN x
def By {α:Type} (p:ll α) (f:α→List UInt8):Prop:= ∀s x r,p s=some (x,r)→s=f x++r
theorem Fk:∀(s:List UInt8),¬s.length<4→∃a b c d l,s=a::b::c::d::l
 | [],h=>absurd (by simp) h
 | [_],h=>absurd (by simp) h
 | [_,_],h=>absurd (by simp) h
 | [_,_,_],h=>absurd (by simp) h
 | a::b::c::d::l,_=>⟨a,b,c,d,l,rfl⟩
theorem wP {α:Type} {p:ll α} {f:α→List UInt8} (h:By p f):∀k,By (kM p k) (fun l=>l.flatMap f)
 | 0=>fun s x r e=>by
  obtain⟨rfl,rfl⟩: []=x∧s=r:=by simpa [kM] using e
  rfl
 | k+1=>fun s x r e=>by
  unfold kM at e
  split at e
  ·cases e
  rename_i y t e1
  split at e
  ·cases e
  rename_i l u e2
  obtain⟨rfl,rfl⟩:y::l=x∧u=r:=by simpa using e
  rw[h _ _ _ e1,wP h k _ _ _ e2]
  show _=(y::l).flatMap f++u
  rw[List.flatMap_cons,List.append_assoc]
theorem yD {α:Type} {p:ll α} :∀k s x r,kM p k s=some (x,r)→x.length=k
 | 0,s,x,r,e=>by
  obtain⟨rfl,rfl⟩: []=x∧s=r:=by simpa [kM] using e
  rfl
 | k+1,s,x,r,e=>by
  unfold kM at e
  split at e
  ·cases e
  rename_i y t e1
  split at e
  ·cases e
  rename_i l u e2
  obtain⟨rfl,rfl⟩:y::l=x∧u=r:=by simpa using e
  rw[List.length_cons,yD k _ _ _ e2]
theorem sR {nb:Nat} {v:aS} (hn:nb≤8) (h:et nb v=true):cu v.n=true:=by
 unfold et at h
 split at h
 ·have:=dJ.1 h
  unfold cu
  simp only[Bool.and_eq_true,decide_eq_true_eq]
  omega
 exact h
theorem zE {fs:List aC} {l:List aW} {i:Nat} {t:List Int} (h:gu fs l i=some t):∃t',eu fs (gL fs l i) (bg l i).pc=some t':=by
 unfold gu at h
 split at h
 ·exact⟨t,h⟩
 split at h
 ·cases h
 split at h
 ·cases h
 cases h5:eu fs (gL fs l i) (bg l i).pc with
 | none=>rw[h5] at h;cases h
 | some t'=>exact⟨t',rfl⟩
theorem Ev {fs:List aC} (hF:eS fs) {m:aD} (h:cI fs m) {i:Nat} (hi:i<m.frames.length):EN (bg m.frames i):=by
 obtain⟨t,hw,hl,hs⟩:=h.fr i hi
 obtain⟨t',he⟩:=zE hw
 have hz:=h.fn _ (ft hi)
 have hk:(bg m.frames i).func.toNat<fs.length:=by omega
 have h5:fs.length≤5:=by
  have:=hF.p
  unfold dA at this
  split at this
  ·cases this
  split at this
  ·cases this
  omega
 obtain⟨p0,p1,_⟩:=(hF.e _ hk).at_ _ _ he
 have h40:=(gY hF.p hk).1.n40
 have h6:=(ir ((gA hF.p).2.2 _ (gV hk))).1
 have hb:=(gB h.bl).1
 have hsm:=(tP hF h hi).1
 have hll:=hl.len
 unfold gL at hll
 exact⟨by omega,by omega,⟨by omega,fun v hv=>sR hb (hl.val v hv)⟩,⟨by omega,fun v hv=>sR hb (hs.val v hv)⟩⟩
end
section
theorem CZ {B:Nat} {w0:World} {Ap:Option Addr} {cp:Nat} {fs:List aC} (hs:bX w0 B (.slice Ap fs.length cp) fs) {a:MA} {m:aD} (hm:gk B w0 a m) (hF:eS fs) (hR:cI fs m) (hst:¬(m.status=2∨m.status=3)) {li0:List aW} {x:aW} (hfr:m.frames=li0++ [x]) {li:List (aT×aW)} (hli:li.map Prod.snd=li0) (hok:fu li) {k:Nat} (hk:li0.length=k) :
  ∃kf:Nat,x.func=kf∧kf<fs.length∧(0≤x.pc∧x.pc≤1000)∧jm B w0 fs m a li k Ap cp x.func x.pc (x.pc+1) x.locals x.stack (be fs m) (av fs kf).result:=by
 obtain⟨li1,x1,kf,hS⟩:=rN hs hF hR hst
 have e1:li1=li0∧x1=x:=by
  have h:=hS.fr.symm.trans hfr
  obtain⟨h1,h2⟩:=List.append_inj' h rfl
  exact⟨h1,by simpa using h2⟩
 obtain⟨rfl,rfl⟩:=e1
 have hlk:li.length=k:=by rw[←hk,←hli,List.length_map]
 have htop:fE m=x1:=by unfold fE;rw[hfr];simp
 have hop:be fs m=bB (av fs kf).code x1.pc.toNat:=by unfold be;rw[htop,hS.fn];rfl
 obtain⟨_,_,_,_,_,_,⟨hi,hj⟩,_⟩:=hm.f.fr (k:=li1.length) (by rw[hfr];simp)
 have hfe:bg m.frames li1.length=x1:=by rw[hfr];exact jh
 rw[hfe] at hi hj
 have hI:=Ev hF hR (i:=li1.length) (by rw[hfr];simp)
 rw[hfe] at hI
 have hcl:=hS.cl
 refine⟨kf,hS.fn,hS.hkf,by have:=hS.pc;omega,⟨hlk,hok,hs,hm,kK hF hR,hop▸hS.nd,hS.bl,hS.sl,hS.ol,by have:=hS.n6;omega,fun q hq=>hS.st q.2 (by rw[←hli];exact List.mem_map_of_mem hq),hop▸hS.oa,⟨hi,hj,by have:=hS.pc;unfold aX;omega⟩,fun v hv=>kI (hI.s.2 v hv),fun v hv=>kI (hI.l.2 v hv),hm.s,⟨by rw[hS.fn];omega,by rw[hS.fn];exact_mod_cast hS.hkf,by rw[hS.fn];rfl,?_⟩,by rw[hfr,List.length_append,hk];rfl,?_,rfl,by rw[hli];exact hfr,by have:=hR.ib;omega,fun z hz=>kI (hR.ii z hz),fun v hv=>by have:=hI.s.2 v hv;unfold cu at this;simp only[Bool.and_eq_true,decide_eq_true_eq] at this;omega⟩⟩
 ·have:=(ir ((gA hF.p).2.2 _ (gV hS.hkf))).2.2.1
  omega
 intro hc
 have ht:=hR.top hfr
 obtain⟨_,_,t,he,hty⟩:=ht
 have hkz:x1.func.toNat<fs.length:=by rw[hS.fn];simpa using hS.hkf
 obtain⟨T,V,e,hT,hTy,_⟩:=lL hF hkz he hty
 have hop2:bB (av fs x1.func.toNat).code x1.pc.toNat=be fs m:=by rw[hop,hS.fn];rfl
 rw[hop2] at e
 simp[tl,hc] at e
 obtain⟨rfl,rfl⟩:=e
 have h1:1≤x1.stack.length:=hT
 have h2:=dR.top hTy h1
 exact(zl (h2.cell (k:=0) rfl rfl (by show 0<1;decide))).2
structure FA where
 s:List aS
 As:Option Addr
 cs:Nat
 l:List aS
 b:List (List Int)
 Ab:Option Addr
 cb:Nat
 i:List Int
 Ai:Option Addr
 ci:Nat
 o:List Int
 Ao:Option Addr
 co:Nat
 st:Int
 nx:Int
set_option maxRecDepth 100000 in
set_option maxHeartbeats 4000000 in
theorem uN (Ap:Option Addr) (cp:Nat) (fs:List aC) (a:MA) (m m2:aD) (hm2:dK fs m=m2) (w:World) (hs:Sl w (.slice Ap fs.length cp) fs) (hm:gk w.heap.size w a m) (hF:eS fs) (hR:cI fs m) :
  Calls Tryz.prog 25 #[.agg #[.slice Ap fs.length cp],.agg #[.slice a.Af m.frames.length a.cf,.slice a.Ab m.blocks.length a.cb,.slice a.Ai m.inn.length a.ci,.slice a.Ao m.out.length a.co,.int .i64 m.status,.int .i64 m.trap]] w fun e w'=> ∃g:MA,True∧
   e= .returned (.agg #[.slice g.Af m2.frames.length g.cf,.slice g.Ab m2.blocks.length g.cb,.slice g.Ai m2.inn.length g.ci,.slice g.Ao m2.out.length g.co,.int .i64 m2.status,.int .i64 m2.trap])∧
   Cw w.heap.size w [aj (.slice g.Af m2.frames.length g.cf) m2.frames,aj (.slice g.Ab m2.blocks.length g.cb) m2.blocks,aj (.slice g.Ai m2.inn.length g.ci) m2.inn,aj (.slice g.Ao m2.out.length g.co) m2.out] w':=by
 have hfit:=kK hF hR
 have hstt:=hR.st
 have bp:=bO hs
 refine enter Tryz.func25 rfl Tryz.ntmps25 rfl ?_
 refine ac<|aa<|ag (bF rfl rfl rfl) rfl rfl (fun g1 _=>?_)
 refine ag (bF rfl rfl rfl) rfl rfl (fun g2 _=>?_)
 refine ag (aZ bW rfl rfl) rfl rfl (fun g3 _=>?_)
 refine ae<|ac<|ac<|aa<|rn 1 [2,3,4,27] rfl<|af (ai fc ar rfl rfl (by rfl)) rfl rfl ?_
 refine rn 1 [2,3,4,29] rfl<|ae<|aw rfl (fun h2=>?_) (fun h2=>?_)
 ·have h2:1<m.status:=h2
  obtain rfl:m=m2:=by rw[←hm2];unfold dK;rw[if_pos (by omega)]
  refine ac<|aa<|af (aQ (vs:= [_,_,_,_,_,_]) fc bd aF rfl rfl (by rfl) rfl) rfl rfl ?_
  refine ag (cO rfl rfl rfl xG (fun w hw=>jX a m w (hm.ro hw) hfit)) rfl rfl (fun ga _=>?_)
  refine ag (aH _ fc aF rfl rfl rfl rfl rfl (by rfl) rfl (by rfl)) rfl rfl (fun _ _=>?_)
  refine ae<|au (ak ?_)
  refine aA gE (dp (cs:= [_,_,_,_,_,_]) fc bd aF rfl) ?_
  intro w hw
  exact⟨ga,trivial,rfl,hw.msub ms⟩
 have h2:¬1<m.status:=h2
 have hst:¬(m.status=2∨m.status=3):=by omega
 have hne:m.frames≠[]:=fun e=>by have:=hR.dn.1 e;omega
 obtain⟨li0,x,hfr⟩:∃li x,m.frames=li++ [x]:=by
  rcases List.eq_nil_or_concat m.frames with h1 | ⟨l,z,h1⟩
  ·exact absurd h1 hne
  exact⟨l,z,by rw[h1];simp⟩
 obtain⟨k,hk⟩:∃k,li0.length=k:=⟨_,rfl⟩
 have hkm:m.frames.length=k+1:=by rw[hfr,List.length_append,hk];rfl
 have hkx:(li0++ [x]).length=k+1:=by rw[List.length_append,hk];rfl
 refine ax (ap ?_)
 refine ac<|aa<|af (aQ (vs:= [_,_,_,_,_,_]) fc bd aF rfl rfl (by rfl) rfl) rfl rfl ?_
 refine ag (cO rfl rfl rfl xG (fun w hw=>jX a m w (hm.ro hw) hfit)) rfl rfl (fun⟨A,c,Ab,cb,Ai,ci,Ao,co⟩ _=>?_)
 try dsimp only
 refine ag (aZ bW rfl rfl) rfl rfl (fun g4 _=>?_)
 refine ag (aH _ fc aF rfl rfl rfl rfl rfl (by rfl) rfl (by rfl)) rfl rfl (fun _ _=>?_)
 refine ae<|dO (H':= [aj (.slice A (li0++ [x]).length c) (li0++ [x]),aj (.slice Ab m.blocks.length cb) m.blocks,aj (.slice Ai m.inn.length ci) m.inn,aj (.slice Ao m.out.length co) m.out,am g4 [.slice A (k+1) c,.slice Ab m.blocks.length cb,.slice Ai m.inn.length ci,.slice Ao m.out.length co,.int .i64 m.status,.int .i64 m.trap] 29,am g3 [.slice none 0 0,.slice none 0 0,.slice none 0 0,.slice none 0 0,.int .i64 0,.int .i64 0] 29,am g2 [.slice a.Af m.frames.length a.cf,.slice a.Ab m.blocks.length a.cb,.slice a.Ai m.inn.length a.ci,.slice a.Ao m.out.length a.co,.int .i64 m.status,.int .i64 m.trap] 29,am g1 [.slice Ap fs.length cp] 24]) (fun w h=>by rw[←hkm,←hfr];exact h.msub ms) ?_
 refine v7 fc fun li Al As cl cs hli hok=>?_
 rw[hkx]
 obtain⟨kf,hfn,hkf,hpc,R⟩:=CZ hs hm hF hR hst hfr hli hok hk
 have hlm:(li.map Prod.fst).length=k:=by rw[List.length_map];exact R.hk
 obtain⟨A1,d1,A2,d2,hl1,hl2,hi,hcell⟩:=hs.fn hkf
 have hk6:=R.k6
 refine ac<|aa<|rn 1 [2,3,4,5,34] rfl<|af (ai fc cd rfl rfl (by rfl)) rfl rfl ?_
 refine rn 1 [2,3,4,5,35,36] rfl<|af (ai fc cd rfl rfl (by rfl)) rfl rfl ?_
 refine af (aN a6 rfl rfl) rfl rfl<|af (bx rfl rfl rfl (by omega)) rfl rfl<|bA (t:=39) (v':= .int .i64 (k:Int)) rfl (by congr 1;omega) ?_
 refine af (aO (k:=k) a6 bG (SF.own (xs:=li.map Prod.fst++ [(⟨x.func,x.pc,.slice Al x.locals.length cl,.slice As x.stack.length cs⟩:aT)]) (by rw[List.length_append,hlm];rfl) fc) (by omega) rfl rfl rfl) rfl rfl ?_
 refine rn 1 [2,3,4,5,6] rfl<|ae<|ac<|aa<|af (aQ (vs:= [_]) fc cE cg rfl rfl (by rfl) rfl) rfl rfl ?_
 refine af (aQ (vs:= [_,_,_,_,_,_]) fc bd aF rfl rfl (by rfl) rfl) rfl rfl ?_
 refine ag (bK rfl rfl rfl Tryz.call76 (fun w hw=>tC Ap cp fs a m w (hw.ro hs) (hm.ro hw) hF hR hne)) rfl rfl (fun _ _=>?_)
 refine ag (aZ dP rfl rfl) rfl rfl (fun g5 _=>?_)
 refine ag (aH _ fc cG rfl rfl rfl rfl rfl (by rfl) rfl (by rfl)) rfl rfl (fun _ _=>?_)
 refine ae<|ac<|bQ (.still 0 (.still 1 (.still 2 (.still 3 (.still 4 (.still 5 (.still 6 (.still 7 (.pick 8 (.pick 9 .done .stop) .stop))))))))) [9] rfl (by kernel_rfl) (by kernel_rfl) ?_
 refine aV ha 1 [2,3,4,5,6,7,44] rfl<|an rfl (ai fc cQ rfl rfl (by rfl)) rfl rfl ha ?_
 refine aV ha 3 [2,3,4,5,6,7,45,48] rfl<|an rfl (a8 (eq (j:=0) hlm fc rfl) rfl rfl ar) rfl rfl ha ?_
 refine dh (t:=49) (v':= .int .i64 (kf:Int)) rfl (by rw[hfn]) ?_
 refine an rfl (aO (k:=kf) bI bq (.ro hs) (by omega) rfl rfl rfl) rfl rfl ha ?_
 refine an rfl (cr (hcell _) rfl rfl d8 bq) rfl rfl ha ?_
 refine aB rfl (aZ ey rfl rfl) rfl rfl (.inr fun _=>ha) (fun g6 _=>?_) ay
 refine aB rfl (aH _ fc bq rfl rfl rfl rfl rfl (by rfl) rfl (by rfl)) rfl rfl (.inl rfl) (fun _ _=>?_) ay
 refine cJ<|ac<|aa<|rn 3 [2,3,4,5,6,7,8,54] rfl<|af (a8 (eq (j:=3) hlm fc rfl) rfl rfl a9) rfl rfl ?_
 refine ag (aZ Tryz.zeroValue95 rfl rfl) rfl rfl (fun g7 _=>?_)
 refine ag (aH _ fc dd rfl rfl rfl rfl rfl (by rfl) rfl (by rfl)) rfl rfl (fun _ _=>?_)
 refine ae<|ac<|aa<|af (ai fc a9 rfl rfl (by rfl)) rfl rfl ?_
 refine af (aN az rfl rfl) rfl rfl<|ag (aZ a7 rfl rfl) rfl rfl (fun g8 _=>?_)
 refine ag (aH _ fc aI rfl rfl rfl rfl rfl (by rfl) rfl (by rfl)) rfl rfl (fun _ _=>?_)
 refine ae<|ac<|aa<|rn 1 [2,3,4,5,6,7,8,9,10,11] rfl<|ae<|ac<|aa<|rn 2 [2,3,4,5,6,7,8,9,10,11,12] rfl<|ae<|ac<|aa<|rn 3 [2,3,4,5,6,7,8,9,10,11,12,61] rfl<|af (a8 (eq (j:=1) hlm fc rfl) rfl rfl ar) rfl rfl ?_
 refine bA (t:=62) (v':= .int .i64 x.pc) rfl (rfl) ?_
 refine af (bH rfl rfl rfl (by omega)) rfl rfl<|rn 1 [2,3,4,5,6,7,8,9,10,11,12,13] rfl<|ae<|ac<|ac<|aa<|rn 1 [2,3,4,5,6,7,8,9,10,11,12,13,64] rfl<|af (ai fc ar rfl rfl (by rfl)) rfl rfl ?_
 refine ae ?_
 have hT:(be fs m).c≠21→iO fs m=bP fs m (li.map Prod.snd) ⟨x.func,x.pc+1,x.locals,x.stack⟩ (be fs m):=fun h=>by
  unfold iO
  have e1:fE m=x:=by unfold fE;rw[hfr];simp
  rw[if_neg h,e1,hfr,List.dropLast_concat,←hli]
 have hinl:(be fs m).c≠21→∀y:aD,(∃why,bP fs m (li.map Prod.snd) ⟨x.func,x.pc+1,x.locals,x.stack⟩ (be fs m)= .inl why∧y= {m with status:=3,trap:=why})→m2=y:=fun h y ⟨why,h3,h4⟩=>by
  rw[←hm2,rO (by omega) (by omega) ((hT h).trans h3),h4]
 have hinr:(be fs m).c≠21→∀y:aD,bP fs m (li.map Prod.snd) ⟨x.func,x.pc+1,x.locals,x.stack⟩ (be fs m)= .inr y→m2=y:=fun h y h3=>by
  rw[←hm2,mm (by omega) (by omega) ((hT h).trans h3)]
 have h21:(be fs m).c=21→m.inn≠[]→m2=⟨li.map Prod.snd++ [⟨x.func,x.pc+1,x.locals,x.stack++ [cF (m.inn.getD 0 0)]⟩],m.blocks,m.inn.drop 1,m.out,0,m.trap⟩:=fun h hi=>by
  have e1:fE m=x:=by unfold fE;rw[hfr];simp
  rw[←hm2]
  refine mm (by omega) (by omega) ?_
  unfold iO
  rw[if_pos h,if_neg hi,e1,hfr,List.dropLast_concat,←hli]
 have h21n:(be fs m).c=21→m.inn= []→m2= {m with status:=1} :=fun h hi=>by
  rw[←hm2]
  refine mm (by omega) (by omega) ?_
  unfold iO
  rw[if_pos h,if_pos hi]
 refine ji (fun g:FA=>(aX g.nx∧aX g.st)∧m2=⟨li.map Prod.snd++ [⟨x.func,g.nx,g.l,g.s⟩],g.b,g.i,g.o,g.st,m.trap⟩) (fun g=> [(4,.pointer (some ⟨g3,0,none⟩)),(5,.pointer (some ⟨g4,0,none⟩)),(6,.pointer (some ⟨ab A,ao A+k*4,none⟩)),(9,.pointer (some ⟨g7,0,none⟩)),(13,.int .i64 g.nx)]) (fun g=> [am g7 [.slice g.As g.s.length g.cs] 95,aj (.slice g.As g.s.length g.cs) g.s,am g3 [.slice none 0 0,.slice none 0 0,.slice none 0 0,.slice none 0 0,.int .i64 0,.int .i64 0] 29,am g4 [.slice A (k+1) c,.slice g.Ab g.b.length g.cb,.slice g.Ai g.i.length g.ci,.slice g.Ao g.o.length g.co,.int .i64 g.st,.int .i64 m.trap] 29,aj (.slice A (k+1) c) (li.map Prod.fst++ [(⟨x.func,x.pc,.slice Al g.l.length cl,.slice As x.stack.length cs⟩:aT)]),aj (.slice Al g.l.length cl) g.l,cR li,aj (.slice g.Ab g.b.length g.cb) g.b,aj (.slice g.Ai g.i.length g.ci) g.i,aj (.slice g.Ao g.o.length g.co) g.o]) ?_ ?_
 ·refine aL<|ac<|aa<|rn 2 [2,3,4,5,6,7,8,9,10,11,12,13,65,66] rfl<|ae<|aw rfl (fun c1=>?_) (fun c1=>?_)
  ·have c1:(be fs m).c=1:=c1
   refine fN (E9 g1 g2 g3 g4 g5 g6 g7 g8 k li A Al As Ap Ab Ai Ao c cl cs cp cb ci co a m x.func x.pc (x.pc+1) (av fs kf).result x.locals x.stack (be fs m) fs [.slice none 0 0,.slice none 0 0,.slice none 0 0,.slice none 0 0,.int .i64 0,.int .i64 0] (.int .i64 (av fs kf).params) (.slice A1 (av fs kf).locals.length d1) (.slice A2 (av fs kf).code.length d2) R c1 (fun s' As' cs' l' b' Ab' cb' i' Ai' ci' o' Ao' co' st' nx hI hd=>?_)) ⟨rfl,rfl,rfl,rfl,rfl,rfl,rfl,trivial⟩ me
   refine(aK ?_)
   refine aY ⟨s',As',cs',l',b',Ab',cb',i',Ai',ci',o',Ao',co',st',nx⟩ (⟨hI,hinr (by omega) _ hd⟩) ⟨rfl,rfl,rfl,rfl,rfl,trivial⟩ me
  have c1:¬(be fs m).c=1:=c1
  refine ac<|aa<|rn 2 [2,3,4,5,6,7,8,9,10,11,12,13,65,75] rfl<|ae<|aw rfl (fun c2=>?_) (fun c2=>?_)
  ·have c2:(be fs m).c=2:=c2
   refine fN (E8 g1 g2 g3 g4 g5 g6 g7 g8 k li A Al As Ap Ab Ai Ao c cl cs cp cb ci co a m x.func x.pc (x.pc+1) (av fs kf).result x.locals x.stack (be fs m) fs [.slice none 0 0,.slice none 0 0,.slice none 0 0,.slice none 0 0,.int .i64 0,.int .i64 0] (.int .i64 (av fs kf).params) (.slice A1 (av fs kf).locals.length d1) (.slice A2 (av fs kf).code.length d2) R c2 (fun s' As' cs' l' b' Ab' cb' i' Ai' ci' o' Ao' co' st' nx hI hd=>?_)) ⟨rfl,rfl,rfl,rfl,rfl,rfl,trivial⟩ me
   refine(aK ?_)
   refine aY ⟨s',As',cs',l',b',Ab',cb',i',Ai',ci',o',Ao',co',st',nx⟩ (⟨hI,hinr (by omega) _ hd⟩) ⟨rfl,rfl,rfl,rfl,rfl,trivial⟩ me
  have c2:¬(be fs m).c=2:=c2
  refine ac<|aa<|rn 2 [2,3,4,5,6,7,8,9,10,11,12,13,65,81] rfl<|ae<|aw rfl (fun c3=>?_) (fun c3=>?_)
  ·have c3:(be fs m).c=3:=c3
   refine fN (E7 g1 g2 g3 g4 g5 g6 g7 g8 k li A Al As Ap Ab Ai Ao c cl cs cp cb ci co a m x.func x.pc (x.pc+1) (av fs kf).result x.locals x.stack (be fs m) fs [.slice none 0 0,.slice none 0 0,.slice none 0 0,.slice none 0 0,.int .i64 0,.int .i64 0] (.int .i64 (av fs kf).params) (.slice A1 (av fs kf).locals.length d1) (.slice A2 (av fs kf).code.length d2) R c3 (fun s' As' cs' l' b' Ab' cb' i' Ai' ci' o' Ao' co' st' nx hI hd=>?_)) ⟨rfl,rfl,rfl,rfl,rfl,rfl,trivial⟩ me
   refine(aK ?_)
   refine aY ⟨s',As',cs',l',b',Ab',cb',i',Ai',ci',o',Ao',co',st',nx⟩ (⟨hI,hinr (by omega) _ hd⟩) ⟨rfl,rfl,rfl,rfl,rfl,trivial⟩ me
  have c3:¬(be fs m).c=3:=c3
  refine ac<|aa<|rn 2 [2,3,4,5,6,7,8,9,10,11,12,13,65,91] rfl<|ae<|aw rfl (fun c4=>?_) (fun c4=>?_)
  ·have c4:(be fs m).c=4:=c4
   refine fN (E6 g1 g2 g3 g4 g5 g6 g7 g8 k li A Al As Ap Ab Ai Ao c cl cs cp cb ci co a m x.func x.pc (x.pc+1) (av fs kf).result x.locals x.stack (be fs m) fs [.slice none 0 0,.slice none 0 0,.slice none 0 0,.slice none 0 0,.int .i64 0,.int .i64 0] (.int .i64 (av fs kf).params) (.slice A1 (av fs kf).locals.length d1) (.slice A2 (av fs kf).code.length d2) R c4 (fun s' As' cs' l' b' Ab' cb' i' Ai' ci' o' Ao' co' st' nx hI hd=>?_)) ⟨rfl,rfl,rfl,rfl,rfl,rfl,trivial⟩ me
   refine(aK ?_)
   refine aY ⟨s',As',cs',l',b',Ab',cb',i',Ai',ci',o',Ao',co',st',nx⟩ (⟨hI,hinr (by omega) _ hd⟩) ⟨rfl,rfl,rfl,rfl,rfl,trivial⟩ me
  have c4:¬(be fs m).c=4:=c4
  refine ac<|aa<|rn 2 [2,3,4,5,6,7,8,9,10,11,12,13,65,111] rfl<|ae<|aw rfl (fun c5=>?_) (fun c5=>?_)
  ·have c5:(be fs m).c=5:=c5
   refine fN (E5 g1 g2 g3 g4 g5 g6 g7 g8 k li A Al As Ap Ab Ai Ao c cl cs cp cb ci co a m x.func x.pc (x.pc+1) (av fs kf).result x.locals x.stack (be fs m) fs [.slice none 0 0,.slice none 0 0,.slice none 0 0,.slice none 0 0,.int .i64 0,.int .i64 0] (.int .i64 (av fs kf).params) (.slice A1 (av fs kf).locals.length d1) (.slice A2 (av fs kf).code.length d2) R c5 (fun s' As' cs' l' b' Ab' cb' i' Ai' ci' o' Ao' co' st' nx hI hd=>?_)) ⟨rfl,rfl,rfl,rfl,rfl,rfl,rfl,trivial⟩ me
   refine(aK ?_)
   refine aY ⟨s',As',cs',l',b',Ab',cb',i',Ai',ci',o',Ao',co',st',nx⟩ (⟨hI,hinr (by omega) _ hd⟩) ⟨rfl,rfl,rfl,rfl,rfl,trivial⟩ me
  have c5:¬(be fs m).c=5:=c5
  refine ac<|aa<|rn 2 [2,3,4,5,6,7,8,9,10,11,12,13,65,134] rfl<|ae<|aw rfl (fun c6=>?_) (fun c6=>?_)
  ·have c6:(be fs m).c=6:=c6
   refine fN (E4 g1 g2 g3 g4 g5 g6 g7 g8 k li A Al As Ap Ab Ai Ao c cl cs cp cb ci co a m x.func x.pc (x.pc+1) (av fs kf).result x.locals x.stack (be fs m) fs [.slice none 0 0,.slice none 0 0,.slice none 0 0,.slice none 0 0,.int .i64 0,.int .i64 0] (.int .i64 (av fs kf).params) (.slice A1 (av fs kf).locals.length d1) (.slice A2 (av fs kf).code.length d2) R c6 (fun s' As' cs' l' b' Ab' cb' i' Ai' ci' o' Ao' co' st' nx hI hd=>?_)) ⟨rfl,rfl,rfl,rfl,rfl,rfl,rfl,trivial⟩ me
   refine(aK ?_)
   refine aY ⟨s',As',cs',l',b',Ab',cb',i',Ai',ci',o',Ao',co',st',nx⟩ (⟨hI,hinr (by omega) _ hd⟩) ⟨rfl,rfl,rfl,rfl,rfl,trivial⟩ me
  have c6:¬(be fs m).c=6:=c6
  refine ac<|aa<|rn 2 [2,3,4,5,6,7,8,9,10,11,12,13,65,157] rfl<|ae<|aw rfl (fun c7=>?_) (fun c7=>?_)
  ·have c7:(be fs m).c=7:=c7
   refine fN (E3 g1 g2 g3 g4 g5 g6 g7 g8 k li A Al As Ap Ab Ai Ao c cl cs cp cb ci co a m x.func x.pc (x.pc+1) (av fs kf).result x.locals x.stack (be fs m) fs [.slice none 0 0,.slice none 0 0,.slice none 0 0,.slice none 0 0,.int .i64 0,.int .i64 0] (.int .i64 (av fs kf).params) (.slice A1 (av fs kf).locals.length d1) (.slice A2 (av fs kf).code.length d2) R c7 (fun s' As' cs' l' b' Ab' cb' i' Ai' ci' o' Ao' co' st' nx hI hd=>?_)) ⟨rfl,rfl,rfl,rfl,rfl,rfl,rfl,trivial⟩ me
   refine(aK ?_)
   refine aY ⟨s',As',cs',l',b',Ab',cb',i',Ai',ci',o',Ao',co',st',nx⟩ (⟨hI,hinr (by omega) _ hd⟩) ⟨rfl,rfl,rfl,rfl,rfl,trivial⟩ me
  have c7:¬(be fs m).c=7:=c7
  refine ac<|aa<|rn 2 [2,3,4,5,6,7,8,9,10,11,12,13,65,180] rfl<|ae<|aw rfl (fun c8=>?_) (fun c8=>?_)
  ·have c8:(be fs m).c=8:=c8
   refine fN (E2 g1 g2 g3 g4 g5 g6 g7 g8 k li A Al As Ap Ab Ai Ao c cl cs cp cb ci co a m x.func x.pc (x.pc+1) (av fs kf).result x.locals x.stack (be fs m) fs [.slice none 0 0,.slice none 0 0,.slice none 0 0,.slice none 0 0,.int .i64 0,.int .i64 0] (.int .i64 (av fs kf).params) (.slice A1 (av fs kf).locals.length d1) (.slice A2 (av fs kf).code.length d2) R c8 (fun s' As' cs' l' b' Ab' cb' i' Ai' ci' o' Ao' co' st' nx hI hd=>?_)) ⟨rfl,rfl,rfl,rfl,rfl,rfl,trivial⟩ me
   refine(aK ?_)
   refine aY ⟨s',As',cs',l',b',Ab',cb',i',Ai',ci',o',Ao',co',st',nx⟩ (⟨hI,hinr (by omega) _ hd⟩) ⟨rfl,rfl,rfl,rfl,rfl,trivial⟩ me
  have c8:¬(be fs m).c=8:=c8
  refine ac<|aa<|rn 2 [2,3,4,5,6,7,8,9,10,11,12,13,65,193] rfl<|ae<|aw rfl (fun c9=>?_) (fun c9=>?_)
  ·have c9:(be fs m).c=9:=c9
   refine fN (E1 g1 g2 g3 g4 g5 g6 g7 g8 k li A Al As Ap Ab Ai Ao c cl cs cp cb ci co a m x.func x.pc (x.pc+1) (av fs kf).result x.locals x.stack (be fs m) fs [.slice none 0 0,.slice none 0 0,.slice none 0 0,.slice none 0 0,.int .i64 0,.int .i64 0] (.int .i64 (av fs kf).params) (.slice A1 (av fs kf).locals.length d1) (.slice A2 (av fs kf).code.length d2) R c9 (fun s' As' cs' l' b' Ab' cb' i' Ai' ci' o' Ao' co' st' nx hI hd=>?_)) ⟨rfl,rfl,rfl,rfl,rfl,rfl,rfl,trivial⟩ me
   refine(aK ?_)
   refine aY ⟨s',As',cs',l',b',Ab',cb',i',Ai',ci',o',Ao',co',st',nx⟩ (⟨hI,hinr (by omega) _ hd⟩) ⟨rfl,rfl,rfl,rfl,rfl,trivial⟩ me
  have c9:¬(be fs m).c=9:=c9
  refine ac<|aa<|rn 2 [2,3,4,5,6,7,8,9,10,11,12,13,65,211] rfl<|ae<|aw rfl (fun c10=>?_) (fun c10=>?_)
  ·have c10:(be fs m).c=10:=c10
   refine fN (Eg g1 g2 g3 g4 g5 g6 g7 g8 k li A Al As Ap Ab Ai Ao c cl cs cp cb ci co a m x.func x.pc (x.pc+1) (av fs kf).result x.locals x.stack (be fs m) fs [.slice none 0 0,.slice none 0 0,.slice none 0 0,.slice none 0 0,.int .i64 0,.int .i64 0] (.int .i64 (av fs kf).params) (.slice A1 (av fs kf).locals.length d1) (.slice A2 (av fs kf).code.length d2) R c10 (fun s' As' cs' l' b' Ab' cb' i' Ai' ci' o' Ao' co' st' nx hI hd=>?_)) ⟨rfl,rfl,rfl,rfl,rfl,trivial⟩ me
   refine(aK ?_)
   refine aY ⟨s',As',cs',l',b',Ab',cb',i',Ai',ci',o',Ao',co',st',nx⟩ (⟨hI,hinr (by omega) _ hd⟩) ⟨rfl,rfl,rfl,rfl,rfl,trivial⟩ me
  have c10:¬(be fs m).c=10:=c10
  refine ac<|aa<|rn 2 [2,3,4,5,6,7,8,9,10,11,12,13,65,215] rfl<|ae<|aw rfl (fun c11=>?_) (fun c11=>?_)
  ·have c11:(be fs m).c=11:=c11
   refine fN (Ef g1 g2 g3 g4 g5 g6 g7 g8 k li A Al As Ap Ab Ai Ao c cl cs cp cb ci co a m x.func x.pc (x.pc+1) (av fs kf).result x.locals x.stack (be fs m) fs [.slice none 0 0,.slice none 0 0,.slice none 0 0,.slice none 0 0,.int .i64 0,.int .i64 0] (.int .i64 (av fs kf).params) (.slice A1 (av fs kf).locals.length d1) (.slice A2 (av fs kf).code.length d2) R c11 (fun s' As' cs' l' b' Ab' cb' i' Ai' ci' o' Ao' co' st' nx hI hd=>?_)) ⟨rfl,rfl,rfl,rfl,rfl,rfl,rfl,trivial⟩ me
   refine(aK ?_)
   refine aY ⟨s',As',cs',l',b',Ab',cb',i',Ai',ci',o',Ao',co',st',nx⟩ (⟨hI,hinr (by omega) _ hd⟩) ⟨rfl,rfl,rfl,rfl,rfl,trivial⟩ me
  have c11:¬(be fs m).c=11:=c11
  refine ac<|aa<|rn 2 [2,3,4,5,6,7,8,9,10,11,12,13,65,230] rfl<|ae<|aw rfl (fun c12=>?_) (fun c12=>?_)
  ·have c12:(be fs m).c=12:=c12
   refine fN (Ee g1 g2 g3 g4 g5 g6 g7 g8 k li A Al As Ap Ab Ai Ao c cl cs cp cb ci co a m x.func x.pc (x.pc+1) (av fs kf).result x.locals x.stack (be fs m) fs [.slice none 0 0,.slice none 0 0,.slice none 0 0,.slice none 0 0,.int .i64 0,.int .i64 0] (.int .i64 (av fs kf).params) (.slice A1 (av fs kf).locals.length d1) (.slice A2 (av fs kf).code.length d2) R c12 rfl (fun y g hy=>?_) (fun y g hy=>?_)) ⟨rfl,rfl,rfl,rfl,rfl,rfl,rfl,rfl,rfl,trivial⟩ me
   ·obtain rfl:m2=y:=hinl (by omega) y hy
    refine(aG (ak ?_))
    refine aA gE (dp (cs:= [_,_,_,_,_,_]) fc bd aF rfl) ?_
    intro w hw
    exact⟨g,trivial,rfl,hw.msub ms⟩
   obtain rfl:m2=y:=hinr (by omega) y hy
   refine(aG (ak ?_))
   refine aA gE (dp (cs:= [_,_,_,_,_,_]) fc bd aF rfl) ?_
   intro w hw
   exact⟨g,trivial,rfl,hw.msub ms⟩
  have c12:¬(be fs m).c=12:=c12
  refine ac<|aa<|rn 2 [3,4,5,6,8,9,10,11,12,13,65,287] rfl<|ae<|aw rfl (fun c13=>?_) (fun c13=>?_)
  ·have c13:(be fs m).c=13:=c13
   refine fN (Ed g1 g2 g3 g4 g5 g6 g7 g8 k li A Al As Ap Ab Ai Ao c cl cs cp cb ci co a m x.func x.pc (x.pc+1) (av fs kf).result x.locals x.stack (be fs m) fs [.slice none 0 0,.slice none 0 0,.slice none 0 0,.slice none 0 0,.int .i64 0,.int .i64 0] (.int .i64 (av fs kf).params) (.slice A1 (av fs kf).locals.length d1) (.slice A2 (av fs kf).code.length d2) R c13 rfl (fun y g hy=>?_)) ⟨rfl,rfl,rfl,rfl,rfl,trivial⟩ me
   ·obtain rfl:m2=y:=hinr (by omega) y hy
    refine(aG (ak ?_))
    refine aA gE (dp (cs:= [_,_,_,_,_,_]) fc bd aF rfl) ?_
    intro w hw
    exact⟨g,trivial,rfl,hw.msub ms⟩
  have c13:¬(be fs m).c=13:=c13
  refine ac<|aa<|rn 2 [3,4,5,6,9,10,11,12,13,65,328] rfl<|ae<|aw rfl (fun c14=>?_) (fun c14=>?_)
  ·have c14:(be fs m).c=14:=c14
   refine fN (Ec g1 g2 g3 g4 g5 g6 g7 g8 k li A Al As Ap Ab Ai Ao c cl cs cp cb ci co a m x.func x.pc (x.pc+1) (av fs kf).result x.locals x.stack (be fs m) fs [.slice none 0 0,.slice none 0 0,.slice none 0 0,.slice none 0 0,.int .i64 0,.int .i64 0] (.int .i64 (av fs kf).params) (.slice A1 (av fs kf).locals.length d1) (.slice A2 (av fs kf).code.length d2) R c14 rfl (fun s' As' cs' l' b' Ab' cb' i' Ai' ci' o' Ao' co' st' nx hI hd=>?_) (fun y g hy=>?_)) ⟨rfl,rfl,rfl,rfl,rfl,rfl,rfl,trivial⟩ me
   ·refine(aK ?_)
    refine aY ⟨s',As',cs',l',b',Ab',cb',i',Ai',ci',o',Ao',co',st',nx⟩ (⟨hI,hinr (by omega) _ hd⟩) ⟨rfl,rfl,rfl,rfl,rfl,trivial⟩ me
   obtain rfl:m2=y:=hinl (by omega) y hy
   refine(aG (ak ?_))
   refine aA gE (dp (cs:= [_,_,_,_,_,_]) fc bd aF rfl) ?_
   intro w hw
   exact⟨g,trivial,rfl,hw.msub ms⟩
  have c14:¬(be fs m).c=14:=c14
  refine ac<|aa<|rn 2 [3,4,5,6,9,10,11,12,13,65,369] rfl<|ae<|aw rfl (fun c15=>?_) (fun c15=>?_)
  ·have c15:(be fs m).c=15:=c15
   refine fN (Eb g1 g2 g3 g4 g5 g6 g7 g8 k li A Al As Ap Ab Ai Ao c cl cs cp cb ci co a m x.func x.pc (x.pc+1) (av fs kf).result x.locals x.stack (be fs m) fs [.slice none 0 0,.slice none 0 0,.slice none 0 0,.slice none 0 0,.int .i64 0,.int .i64 0] (.int .i64 (av fs kf).params) (.slice A1 (av fs kf).locals.length d1) (.slice A2 (av fs kf).code.length d2) R c15 rfl (fun s' As' cs' l' b' Ab' cb' i' Ai' ci' o' Ao' co' st' nx hI hd=>?_) (fun y g hy=>?_)) ⟨rfl,rfl,rfl,rfl,rfl,rfl,rfl,rfl,rfl,trivial⟩ me
   ·refine(aK ?_)
    refine aY ⟨s',As',cs',l',b',Ab',cb',i',Ai',ci',o',Ao',co',st',nx⟩ (⟨hI,hinr (by omega) _ hd⟩) ⟨rfl,rfl,rfl,rfl,rfl,trivial⟩ me
   obtain rfl:m2=y:=hinl (by omega) y hy
   refine(aG (ak ?_))
   refine aA gE (dp (cs:= [_,_,_,_,_,_]) fc bd aF rfl) ?_
   intro w hw
   exact⟨g,trivial,rfl,hw.msub ms⟩
  have c15:¬(be fs m).c=15:=c15
  refine ac<|aa<|rn 2 [3,4,5,6,9,10,11,12,13,65,410] rfl<|ae<|aw rfl (fun c16=>?_) (fun c16=>?_)
  ·have c16:(be fs m).c=16:=c16
   refine fN (Ea g1 g2 g3 g4 g5 g6 g7 g8 k li A Al As Ap Ab Ai Ao c cl cs cp cb ci co a m x.func x.pc (x.pc+1) (av fs kf).result x.locals x.stack (be fs m) fs [.slice none 0 0,.slice none 0 0,.slice none 0 0,.slice none 0 0,.int .i64 0,.int .i64 0] (.int .i64 (av fs kf).params) (.slice A1 (av fs kf).locals.length d1) (.slice A2 (av fs kf).code.length d2) R c16 rfl (fun s' As' cs' l' b' Ab' cb' i' Ai' ci' o' Ao' co' st' nx hI hd=>?_) (fun y g hy=>?_)) ⟨rfl,rfl,rfl,rfl,rfl,rfl,rfl,rfl,trivial⟩ me
   ·refine(aK ?_)
    refine aY ⟨s',As',cs',l',b',Ab',cb',i',Ai',ci',o',Ao',co',st',nx⟩ (⟨hI,hinr (by omega) _ hd⟩) ⟨rfl,rfl,rfl,rfl,rfl,trivial⟩ me
   obtain rfl:m2=y:=hinl (by omega) y hy
   refine(aG (ak ?_))
   refine aA gE (dp (cs:= [_,_,_,_,_,_]) fc bd aF rfl) ?_
   intro w hw
   exact⟨g,trivial,rfl,hw.msub ms⟩
  have c16:¬(be fs m).c=16:=c16
  refine ac<|aa<|rn 2 [3,4,5,6,9,10,11,12,13,65,452] rfl<|ae<|aw rfl (fun c17=>?_) (fun c17=>?_)
  ·have c17:(be fs m).c=17:=c17
   refine fN (D9 g1 g2 g3 g4 g5 g6 g7 g8 k li A Al As Ap Ab Ai Ao c cl cs cp cb ci co a m x.func x.pc (x.pc+1) (av fs kf).result x.locals x.stack (be fs m) fs [.slice none 0 0,.slice none 0 0,.slice none 0 0,.slice none 0 0,.int .i64 0,.int .i64 0] (.int .i64 (av fs kf).params) (.slice A1 (av fs kf).locals.length d1) (.slice A2 (av fs kf).code.length d2) R c17 rfl (fun s' As' cs' l' b' Ab' cb' i' Ai' ci' o' Ao' co' st' nx hI hd=>?_) (fun y g hy=>?_)) ⟨rfl,rfl,rfl,rfl,rfl,rfl,rfl,rfl,rfl,trivial⟩ me
   ·refine(aK ?_)
    refine aY ⟨s',As',cs',l',b',Ab',cb',i',Ai',ci',o',Ao',co',st',nx⟩ (⟨hI,hinr (by omega) _ hd⟩) ⟨rfl,rfl,rfl,rfl,rfl,trivial⟩ me
   obtain rfl:m2=y:=hinl (by omega) y hy
   refine(aG (ak ?_))
   refine aA gE (dp (cs:= [_,_,_,_,_,_]) fc bd aF rfl) ?_
   intro w hw
   exact⟨g,trivial,rfl,hw.msub ms⟩
  have c17:¬(be fs m).c=17:=c17
  refine ac<|aa<|rn 2 [3,4,5,6,9,10,11,12,13,65,471] rfl<|ae<|aw rfl (fun c18=>?_) (fun c18=>?_)
  ·have c18:(be fs m).c=18:=c18
   refine fN (D8 g1 g2 g3 g4 g5 g6 g7 g8 k li A Al As Ap Ab Ai Ao c cl cs cp cb ci co a m x.func x.pc (x.pc+1) (av fs kf).result x.locals x.stack (be fs m) fs [.slice none 0 0,.slice none 0 0,.slice none 0 0,.slice none 0 0,.int .i64 0,.int .i64 0] (.int .i64 (av fs kf).params) (.slice A1 (av fs kf).locals.length d1) (.slice A2 (av fs kf).code.length d2) R c18 (fun s' As' cs' l' b' Ab' cb' i' Ai' ci' o' Ao' co' st' nx hI hd=>?_)) ⟨rfl,rfl,rfl,rfl,rfl,trivial⟩ me
   refine(aK ?_)
   refine aY ⟨s',As',cs',l',b',Ab',cb',i',Ai',ci',o',Ao',co',st',nx⟩ (⟨hI,hinr (by omega) _ hd⟩) ⟨rfl,rfl,rfl,rfl,rfl,trivial⟩ me
  have c18:¬(be fs m).c=18:=c18
  refine ac<|aa<|rn 2 [3,4,5,6,9,10,11,12,13,65,477] rfl<|ae<|aw rfl (fun c19=>?_) (fun c19=>?_)
  ·have c19:(be fs m).c=19:=c19
   refine fN (D7 g1 g2 g3 g4 g5 g6 g7 g8 k li A Al As Ap Ab Ai Ao c cl cs cp cb ci co a m x.func x.pc (x.pc+1) (av fs kf).result x.locals x.stack (be fs m) fs [.slice none 0 0,.slice none 0 0,.slice none 0 0,.slice none 0 0,.int .i64 0,.int .i64 0] (.int .i64 (av fs kf).params) (.slice A1 (av fs kf).locals.length d1) (.slice A2 (av fs kf).code.length d2) R c19 (fun s' As' cs' l' b' Ab' cb' i' Ai' ci' o' Ao' co' st' nx hI hd=>?_)) ⟨rfl,rfl,rfl,rfl,rfl,rfl,rfl,rfl,trivial⟩ me
   refine(aK ?_)
   refine aY ⟨s',As',cs',l',b',Ab',cb',i',Ai',ci',o',Ao',co',st',nx⟩ (⟨hI,hinr (by omega) _ hd⟩) ⟨rfl,rfl,rfl,rfl,rfl,trivial⟩ me
  have c19:¬(be fs m).c=19:=c19
  refine ac<|aa<|rn 2 [3,4,5,6,9,10,11,13,65,497] rfl<|ae<|aw rfl (fun c20=>?_) (fun c20=>?_)
  ·have c20:(be fs m).c=20:=c20
   refine fN (D6 g1 g2 g3 g4 g5 g6 g7 g8 k li A Al As Ap Ab Ai Ao c cl cs cp cb ci co a m x.func x.pc (x.pc+1) (av fs kf).result x.locals x.stack (be fs m) fs [.slice none 0 0,.slice none 0 0,.slice none 0 0,.slice none 0 0,.int .i64 0,.int .i64 0] (.int .i64 (av fs kf).params) (.slice A1 (av fs kf).locals.length d1) (.slice A2 (av fs kf).code.length d2) R c20 rfl (fun s' As' cs' l' b' Ab' cb' i' Ai' ci' o' Ao' co' st' nx hI hd=>?_) (fun y g hy=>?_)) ⟨rfl,rfl,rfl,rfl,rfl,rfl,rfl,trivial⟩ me
   ·refine(aK ?_)
    refine aY ⟨s',As',cs',l',b',Ab',cb',i',Ai',ci',o',Ao',co',st',nx⟩ (⟨hI,hinr (by omega) _ hd⟩) ⟨rfl,rfl,rfl,rfl,rfl,trivial⟩ me
   obtain rfl:m2=y:=hinl (by omega) y hy
   refine(aG (ak ?_))
   refine aA gE (dp (cs:= [_,_,_,_,_,_]) fc bd aF rfl) ?_
   intro w hw
   exact⟨g,trivial,rfl,hw.msub ms⟩
  have c20:¬(be fs m).c=20:=c20
  refine ac<|aa<|rn 2 [4,5,6,9,11,13,520] rfl<|ae<|aw rfl (fun c21=>?_) (fun c21=>?_)
  ·have c21:(be fs m).c=21:=c21
   refine fN (D5 g1 g2 g3 g4 g5 g6 g7 g8 k li A Al As Ap Ab Ai Ao c cl cs cp cb ci co a m x.func x.pc (x.pc+1) (av fs kf).result x.locals x.stack (be fs m) fs [.slice none 0 0,.slice none 0 0,.slice none 0 0,.slice none 0 0,.int .i64 0,.int .i64 0] (.int .i64 (av fs kf).params) (.slice A1 (av fs kf).locals.length d1) (.slice A2 (av fs kf).code.length d2) R rfl (fun As' cs' Ai' ci' hi=>?_) (fun g hi=>?_)) ⟨rfl,rfl,rfl,rfl,rfl,rfl,trivial⟩ me
   ·refine(aK ?_)
    refine aY ⟨x.stack++ [cF (m.inn.getD 0 0)],As',cs',x.locals,m.blocks,Ab,cb,m.inn.drop 1,Ai',ci',m.out,Ao,co,0,x.pc+1⟩ (⟨⟨R.pi.2.2,by show aX 0;decide⟩,h21 c21 hi⟩) ⟨rfl,rfl,rfl,rfl,rfl,trivial⟩ me
   obtain rfl:m2= {m with status:=1} :=h21n c21 hi
   refine(aG (ak ?_))
   refine aA gE (dp (cs:= [_,_,_,_,_,_]) fc bd aF rfl) ?_
   intro w hw
   exact⟨g,trivial,rfl,hw.msub ms⟩
  have c21:¬(be fs m).c=21:=c21
  refine ax (aK ?_)
  refine aY ⟨x.stack,As,cs,x.locals,m.blocks,Ab,cb,m.inn,Ai,ci,m.out,Ao,co,m.status,x.pc+1⟩ (⟨⟨R.pi.2.2,R.hms⟩,hinr (by omega) _ (by dsimp only[bP];rw[if_neg (by omega)];rw[if_neg (by omega)];rw[if_neg (by omega)];rw[if_neg (by omega)];rw[if_neg (by omega)];rw[if_neg (by omega)];rw[if_neg (by omega)];rw[if_neg (by omega)];rw[if_neg (by omega)];rw[if_neg (by omega)];rw[if_neg (by omega)];rw[if_neg (by omega)];rw[if_neg (by omega)];rw[if_neg (by omega)];dsimp only[eU];rw[if_neg (by omega)];rw[if_neg (by omega)];rw[if_neg (by omega)];rw[if_neg (by omega)];rw[if_neg (by omega)];rw[if_neg (by omega)];skip)⟩) ⟨rfl,rfl,rfl,rfl,rfl,trivial⟩ me
 rintro⟨s',As',cs',l',b',Ab',cb',i',Ai',ci',o',Ao',co',st',nx⟩ ⟨⟨hnx,hst'⟩,he⟩
 dsimp only at *
 subst he
 refine ac<|aa<|rn 2 [4,5,9,13,542,543] rfl<|af (ai fc a9 rfl rfl (by rfl)) rfl rfl ?_
 refine rn 3 [4,5,543,544,545,547] rfl<|ag (iS (α:=aT) ⟨x.func,x.pc,.slice Al l'.length cl,.slice As x.stack.length cs⟩ ⟨x.func,x.pc,.slice Al l'.length cl,.slice As' s'.length cs'⟩ hlm fc ⟨⟨R.pi.1,R.pi.2.1⟩,rfl,rfl⟩ dd rfl rfl rfl rfl rfl rfl rfl rfl) rfl rfl (fun _ _=>?_)
 refine rn 2 [4,5,545,549] rfl<|ag (iS (α:=aT) ⟨x.func,x.pc,.slice Al l'.length cl,.slice As' s'.length cs'⟩ ⟨x.func,nx,.slice Al l'.length cl,.slice As' s'.length cs'⟩ hlm fc ⟨⟨R.pi.1,hnx⟩,rfl,rfl⟩ aI rfl rfl rfl rfl rfl rfl rfl rfl) rfl rfl (fun _ _=>?_)
 refine ae<|ac<|aa<|af (aQ (vs:= [_,_,_,_,_,_]) fc bd aF rfl rfl (by rfl) rfl) rfl rfl ?_
 refine ag (aH _ fc aF rfl rfl rfl rfl rfl (by rfl) rfl (by rfl)) rfl rfl (fun _ _=>?_)
 refine ae<|au<|aA gE (dp (cs:= [_,_,_,_,_,_]) fc bd aF rfl) ?_
 intro w hw
 have e3:(li.map Prod.snd++ [(⟨x.func,nx,l',s'⟩:aW)]).length=k+1:=by rw[List.length_append,List.length_map,R.hk];rfl
 refine⟨⟨A,c,Ab',cb',Ai',ci',Ao',co'⟩,trivial,?_,?_⟩
 ·dsimp only;rw[e3]
 dsimp only
 rw[e3]
 exact(jO (li:=li) (h:=⟨x.func,nx,.slice Al l'.length cl,.slice As' s'.length cs'⟩) (x:=⟨x.func,nx,l',s'⟩) hok ⟨rfl,rfl⟩ (hw.msub (T:=aj (.slice A (k+1) c) (li.map Prod.fst++ [(⟨x.func,nx,.slice Al l'.length cl,.slice As' s'.length cs'⟩:aT)])::aj (.slice Al l'.length cl) l'::aj (.slice As' s'.length cs') s'::cR li:: [aj (.slice Ab' b'.length cb') b',aj (.slice Ai' i'.length ci') i',aj (.slice Ao' o'.length co') o']) ms)).msub ms
end
section
set_option maxRecDepth 100000 in
theorem uQ (c:Int) (w:World):Calls Tryz.prog 32 #[.int .i64 c] w fun e w'=>e= .returned (.int .i64 (dH c))∧Below w.heap.size w w':=by
 refine enter Tryz.func32 rfl Tryz.ntmps32 rfl ?_
 refine ac<|aa<|rn 1 [0] rfl<|ae<|ac<|ac<|aa<|rn 2 [0,4] rfl<|ae<|aw rfl (fun h=>?_) (fun h=>?_)
 ·have h:c=14:=h
  refine ac<|aa<|rn 1 [2] rfl<|ae<|au (ak ?_)
  refine aA EX (aq rfl) ?_
  intro w hw
  exact⟨dV (by unfold dH;rw[if_pos h]),hw.below⟩
 have h:¬c=14:=h
 refine ax (ap ?_)
 refine ac<|ac<|aa<|rn 2 [6] rfl<|ae<|aw rfl (fun h2=>?_) (fun h2=>?_)
 ·have h2:c=12:=h2
  refine ac<|aa<|rn 1 [2] rfl<|ae<|au (ak ?_)
  refine aA EX (aq rfl) ?_
  intro w hw
  exact⟨dV (by unfold dH;rw[if_neg h,if_pos h2]),hw.below⟩
 have h2:¬c=12:=h2
 refine ax (ap ?_)
 refine ac<|aa<|rn 1 [2] rfl<|ae<|au<|aA EX (aq rfl) ?_
 intro w hw
 exact⟨dV (by unfold dH;rw[if_neg h,if_neg h2]),hw.below⟩
set_option maxRecDepth 100000 in
set_option maxHeartbeats 2000000 in
theorem qn (Ap:Option Addr) (cp:Nat) (fs:List aC) (a:MA) (m:aD) (k:Int) (r:aD×Int) (hr:eo fs m k=r) (w:World) (hs:Sl w (.slice Ap fs.length cp) fs) (hm:gk w.heap.size w a m) (hF:eS fs) (hR:cI fs m) (hk:0≤k∧k≤10000) :
  Calls Tryz.prog 31 #[.agg #[.slice Ap fs.length cp],.agg #[.slice a.Af m.frames.length a.cf,.slice a.Ab m.blocks.length a.cb,.slice a.Ai m.inn.length a.ci,.slice a.Ao m.out.length a.co,.int .i64 m.status,.int .i64 m.trap],.int .i64 k] w fun e w'=> ∃g:MA,True∧
   e= .returned (.tuple #[.agg #[.slice g.Af r.1.frames.length g.cf,.slice g.Ab r.1.blocks.length g.cb,.slice g.Ai r.1.inn.length g.ci,.slice g.Ao r.1.out.length g.co,.int .i64 r.1.status,.int .i64 r.1.trap],.int .i64 r.2])∧Cw w.heap.size w [aj (.slice g.Af r.1.frames.length g.cf) r.1.frames,aj (.slice g.Ab r.1.blocks.length g.cb) r.1.blocks,aj (.slice g.Ai r.1.inn.length g.ci) r.1.inn,aj (.slice g.Ao r.1.out.length g.co) r.1.out] w':=by
 have hfit:=kK hF hR
 refine enter Tryz.func31 rfl Tryz.ntmps31 rfl ?_
 refine ac<|aa<|ag (bF rfl rfl rfl) rfl rfl (fun g1 _=>?_)
 refine ag (bF rfl rfl rfl) rfl rfl (fun g2 _=>?_)
 refine ag (aZ bW rfl rfl) rfl rfl (fun g3 _=>?_)
 refine rn 1 [2,3,4,6] rfl<|ae<|ac<|aa<|af (aQ (vs:= [_,_,_,_,_,_]) fc bd aF rfl rfl (by rfl) rfl) rfl rfl ?_
 refine ag (cO rfl rfl rfl xG (fun w hw=>jX a m w (hm.ro hw) hfit)) rfl rfl (fun ga _=>?_)
 refine ag (aH _ fc aF rfl rfl rfl rfl rfl (by rfl) rfl (by rfl)) rfl rfl (fun _ _=>?_)
 refine ae<|dF (fun g:(aD×Int)×MA=>g.1=r) (fun g=> [(2,.int .i64 g.1.2),(4,.pointer (some ⟨g2,0,none⟩)),(6,.pointer (some ⟨g3,0,none⟩))]) (fun g=> [am g2 [.slice g.2.Af g.1.1.frames.length g.2.cf,.slice g.2.Ab g.1.1.blocks.length g.2.cb,.slice g.2.Ai g.1.1.inn.length g.2.ci,.slice g.2.Ao g.1.1.out.length g.2.co,.int .i64 g.1.1.status,.int .i64 g.1.1.trap] 29,aj (.slice g.2.Af g.1.1.frames.length g.2.cf) g.1.1.frames,aj (.slice g.2.Ab g.1.1.blocks.length g.2.cb) g.1.1.blocks,aj (.slice g.2.Ai g.1.1.inn.length g.2.ci) g.1.1.inn,aj (.slice g.2.Ao g.1.1.out.length g.2.co) g.1.1.out,am g3 [.slice none 0 0,.slice none 0 0,.slice none 0 0,.slice none 0 0,.int .i64 0,.int .i64 0] 29,am g1 [.slice Ap fs.length cp] 24]) ?_ ?_
 ·refine aL (b8 (fun g:(aD×Int)×MA=>(cI fs g.1.1∧0≤g.1.2∧g.1.2≤10000)∧eo fs g.1.1 g.1.2=r) (fun g=>g.1.2.toNat) (fun g=> [(2,.int .i64 g.1.2),(3,.pointer (some ⟨g1,0,none⟩)),(4,.pointer (some ⟨g2,0,none⟩)),(6,.pointer (some ⟨g3,0,none⟩))]) (fun g=> [am g2 [.slice g.2.Af g.1.1.frames.length g.2.cf,.slice g.2.Ab g.1.1.blocks.length g.2.cb,.slice g.2.Ai g.1.1.inn.length g.2.ci,.slice g.2.Ao g.1.1.out.length g.2.co,.int .i64 g.1.1.status,.int .i64 g.1.1.trap] 29,aj (.slice g.2.Af g.1.1.frames.length g.2.cf) g.1.1.frames,aj (.slice g.2.Ab g.1.1.blocks.length g.2.cb) g.1.1.blocks,aj (.slice g.2.Ai g.1.1.inn.length g.2.ci) g.1.1.inn,aj (.slice g.2.Ao g.1.1.out.length g.2.co) g.1.1.out,am g3 [.slice none 0 0,.slice none 0 0,.slice none 0 0,.slice none 0 0,.int .i64 0,.int .i64 0] 29,am g1 [.slice Ap fs.length cp] 24]) ((m,k),ga) (⟨⟨hR,hk⟩,hr⟩) ⟨rfl,rfl,rfl,rfl,trivial⟩ me ?_)
  rintro⟨⟨x,n⟩,q⟩ hq
  try dsimp only
  obtain⟨⟨hRx,hn0,hn1⟩,hqr⟩:(cI fs x∧0≤n∧n≤10000)∧eo fs x n=r:=hq
  obtain⟨isx,itx⟩:=kV hRx
  have hst:=hRx.st
  refine ac<|ac<|aa<|rn 1 [2,3,4,6,11] rfl<|af (ai fc ar rfl rfl (by rfl)) rfl rfl ?_
  refine rn 1 [2,3,4,6,13] rfl<|ae<|aw rfl (fun h2=>?_) (fun h2=>?_)
  ·have h2:x.status<2:=h2
   have hh:¬fp x:=(not_congr (pY hRx)).2 (by omega)
   have hne:x.frames≠[]:=fun e=>hh (.inl e)
   have hcp:=iz (be fs x).c
   have hcl:=v9 (be fs x).c
   refine ax (ap ?_)
   refine aL<|ac<|aa<|af (aQ (vs:= [_]) fc cE cg rfl rfl (by rfl) rfl) rfl rfl ?_
   refine af (aQ (vs:= [_,_,_,_,_,_]) fc bd aF rfl rfl (by rfl) rfl) rfl rfl ?_
   refine ag (bK rfl rfl rfl Tryz.call76 (fun w hw=>tC Ap cp fs q x w (hw.ro hs) (o8 (m:=x) hw fc fc fc fc rfl rfl rfl rfl isx itx) hF hRx hne)) rfl rfl (fun _ _=>?_)
   refine af (gH (yu _ _) rfl rfl) rfl rfl<|ag (bK rfl rfl rfl Tryz.call32 (fun w hw=>uQ _ w)) rfl rfl (fun _ _=>?_)
   refine rn 1 [2,3,4,6,8] rfl<|ae<|ac<|ac<|aa<|rn 3 [2,3,4,6,8,21] rfl<|ae<|aw rfl (fun hc=>?_) (fun hc=>?_)
   ·have hc:n<dH (be fs x).c:=hc
    have er:(x,n)=r:=by rw[←hqr,lG,if_neg hh,if_pos hc]
    refine bN (aM (q8 rfl (aM (cc ?_))))
    refine aY ((x,n),q) (er) ⟨rfl,rfl,rfl,trivial⟩ me
   have hc:¬n<dH (be fs x).c:=hc
   obtain⟨y,hy⟩:∃y,dK fs x=y:=⟨_,rfl⟩
   have hRy:cI fs y:=hy▸ln hF hRx
   refine ax (ap ?_)
   refine ac<|aa<|rn 2 [3,4,6,22,23] rfl<|af (bx rfl rfl rfl (by omega)) rfl rfl<|rn 1 [2,3,4,6] rfl<|ae<|ac<|aa<|af (aQ (vs:= [_]) fc cE cg rfl rfl (by rfl) rfl) rfl rfl ?_
   refine af (aQ (vs:= [_,_,_,_,_,_]) fc bd aF rfl rfl (by rfl) rfl) rfl rfl ?_
   refine ag (cO rfl rfl rfl Tryz.call25 (fun w hw=>uN Ap cp fs q x y hy w (hw.ro hs) (o8 (m:=x) hw fc fc fc fc rfl rfl rfl rfl isx itx) hF hRx)) rfl rfl (fun gy _=>?_)
   refine ag (aH _ fc aF rfl rfl rfl rfl rfl (by rfl) rfl (by rfl)) rfl rfl (fun _ _=>?_)
   refine ae<|ac<|aa<|rn 1 [2,3,4,6,28] rfl<|af (ai fc ar rfl rfl (by rfl)) rfl rfl ?_
   refine rn 1 [2,3,4,6,30] rfl<|ae<|b9 rfl (fun h0=>?_) (fun h0=>?_)
   ·have h0:¬y.status=0:=h0
    have er:(y,n - dH (be fs x).c)=r:=by rw[←hqr,lG,if_neg hh,if_neg hc,hy,if_neg h0]
    refine bN (q8 rfl (aM (cc ?_)))
    refine aY ((y,n - dH (be fs x).c),gy) (er) ⟨rfl,rfl,rfl,trivial⟩ me
   have h0:y.status=0:=h0
   refine ax (aK ?_)
   refine iQ ((y,n - dH (be fs x).c),gy) (⟨⟨hRy,by show 0≤n - _;omega,by show n - _≤_;omega⟩,by rw[←hqr,lG x,if_neg hh,if_neg hc,hy,if_pos h0]⟩) (by show (n - _).toNat<n.toNat;omega) ⟨rfl,rfl,rfl,rfl,trivial⟩ me
  have h2:¬x.status<2:=h2
  have er:(x,n)=r:=by rw[←hqr];exact(zW ((pY hRx).2 (by omega)) n).symm
  refine bN (aM (aM (cc ?_)))
  refine aY ((x,n),q) (er) ⟨rfl,rfl,rfl,trivial⟩ me
 rintro⟨⟨x,n⟩,q⟩ he
 have he:(x,n)=r:=he
 subst he
 try dsimp only
 refine ac<|aa<|af (aQ (vs:= [_,_,_,_,_,_]) fc bd aF rfl rfl (by rfl) rfl) rfl rfl ?_
 refine rn 1 [6,31,32] rfl<|ag (aH _ fc aF rfl rfl rfl rfl rfl (by rfl) rfl (by rfl)) rfl rfl (fun _ _=>?_)
 refine rn 1 [6,7] rfl<|ae<|au<|bD Tryz.results31 (dp (cs:= [_,_,_,_,_,_]) fc bd aF rfl) (aq rfl) ?_
 intro w hw
 exact⟨q,trivial,rfl,hw.msub ms⟩
end
section
set_option maxRecDepth 100000 in
set_option maxHeartbeats 4000000 in
theorem xX (Ap Aw:Option Addr) (cp cw n:Nat) (fs:List aC) (l:List aD) (hl:l.length=n) (hW:mz fs l) (k:Int) (hk:0≤k∧k≤10000) (r:List aD×Nat) (hr:iw (lP fs l k)=r) (w:World) (hp:Sl w (.slice Ap fs.length cp) fs) (hs:Sl w (.slice Aw n cw) l) :
  Calls Tryz.prog 46 #[.agg #[.slice Ap fs.length cp],.agg #[.slice Aw n cw],.int .i64 k] w fun e w'=> ∃g:Option Addr×Nat,True∧e= .returned (.agg #[.slice g.1 n g.2])∧Cw w.heap.size w [aj (.slice g.1 n g.2) r.1] w':=by
 subst hl
 have bl:=bO hs
 have hn4:=hW.n4
 have hW2:mz fs (lP fs l k):=hW.right (iR fs l k) (qt hW hk.1)
 refine enter Tryz.func46 rfl Tryz.ntmps46 rfl ?_
 refine ac<|aa<|ag (bF rfl rfl rfl) rfl rfl (fun g1 _=>?_)
 refine ag (bF rfl rfl rfl) rfl rfl (fun g2 _=>?_)
 refine ag (aZ bS rfl rfl) rfl rfl (fun g3 _=>?_)
 refine ae<|ac<|aa<|ag (aZ bS rfl rfl) rfl rfl (fun g4 _=>?_)
 refine ae<|ac<|ac<|aa<|rn 1 [2,3,4,6,7,8] rfl<|ae<|dO (fun w h=>Cw.nilO aD h) ?_
 refine aL (b8 (fun g:Nat×Option Addr×Nat=>g.1≤l.length) (fun g=>l.length - g.1) (fun g=> [(2,.int .i64 k),(3,.pointer (some ⟨g1,0,none⟩)),(4,.pointer (some ⟨g2,0,none⟩)),(6,.pointer (some ⟨g3,0,none⟩)),(7,.pointer (some ⟨g4,0,none⟩)),(8,.int .i64 (g.1:Int))]) (fun g=> [am g4 [.slice g.2.1 (((l.take g.1).map fun m=>(eo fs m k).1)).length g.2.2] 67,aj (.slice g.2.1 (((l.take g.1).map fun m=>(eo fs m k).1)).length g.2.2) (((l.take g.1).map fun m=>(eo fs m k).1)),am g1 [.slice Ap fs.length cp] 24,am g2 [.slice Aw l.length cw] 67,am g3 [.slice none 0 0] 67]) (0,none,0) (Nat.zero_le _) ⟨rfl,rfl,rfl,rfl,rfl,rfl,trivial⟩ me ?_)
 rintro⟨j,A',c'⟩ hj'
 try dsimp only
 have hj:j≤l.length:=hj'
 have htl:(((l.take j).map fun m=>(eo fs m k).1)).length=j:=by rw[List.length_map,List.length_take];omega
 refine ac<|ac<|aa<|rn 2 [2,3,4,6,7,8,11,12] rfl<|af (ai fc cM rfl rfl (by rfl)) rfl rfl ?_
 refine af (aN bn rfl rfl) rfl rfl<|rn 1 [2,3,4,6,7,8,15] rfl<|ae<|aw rfl (fun hlt=>?_) (fun hlt=>?_)
 ·have hjl:j<l.length:=by omega
  obtain⟨a,hm,hcell⟩:=hs.mc hjl
  have hRj:=hW.r _ (fG hjl)
  obtain⟨x,hx⟩:∃x,eo fs (aJ l j) k=x:=⟨_,rfl⟩
  have hI:aX x.1.status∧aX x.1.trap:=by rw[←hx];exact kV (og hW.f _ k hRj hk.1).right
  have htk:((l.take (j+1)).map fun m=>(eo fs m k).1)=((l.take j).map fun m=>(eo fs m k).1)++ [x.1]:=by rw[oY hjl,List.map_append,←hx];rfl
  refine ax (ap ?_)
  refine ac<|aL<|dF (fun _:Nat×MA=>True) (fun g=> [(2,.int .i64 k),(3,.pointer (some ⟨g1,0,none⟩)),(4,.pointer (some ⟨g2,0,none⟩)),(6,.pointer (some ⟨g3,0,none⟩)),(7,.pointer (some ⟨g4,0,none⟩)),(8,.int .i64 (j:Int)),(9,.pointer (some ⟨g.1,0,none⟩))]) (fun g=> [am g.1 [.slice g.2.Af x.1.frames.length g.2.cf,.slice g.2.Ab x.1.blocks.length g.2.cb,.slice g.2.Ai x.1.inn.length g.2.ci,.slice g.2.Ao x.1.out.length g.2.co,.int .i64 x.1.status,.int .i64 x.1.trap] 29,aj (.slice g.2.Af x.1.frames.length g.2.cf) x.1.frames,aj (.slice g.2.Ab x.1.blocks.length g.2.cb) x.1.blocks,aj (.slice g.2.Ai x.1.inn.length g.2.ci) x.1.inn,aj (.slice g.2.Ao x.1.out.length g.2.co) x.1.out,am g4 [.slice A' (((l.take j).map fun m=>(eo fs m k).1)).length c'] 67,aj (.slice A' (((l.take j).map fun m=>(eo fs m k).1)).length c') (((l.take j).map fun m=>(eo fs m k).1)),am g1 [.slice Ap fs.length cp] 24,am g2 [.slice Aw l.length cw] 67,am g3 [.slice none 0 0] 67]) ?_ ?_
  ·refine bQ (.still 0 (.still 1 (.still 2 (.still 3 (.still 4 (.still 5 (.still 6 (.pick 7 (.still 8 (.still 9 (.still 10 (.pick 11 (.pick 12 (.still 13 .done) .stop) .stop)))) (.pick 11 (.pick 7 (.still 8 (.still 9 (.still 10 (.pick 12 (.still 13 .done) .stop)))) .stop) .stop))))))))) [] rfl (by kernel_rfl) (by kernel_rfl) ?_
   refine an rfl (aQ (vs:= [_]) fc cE cg rfl rfl (by rfl) rfl) rfl rfl ha ?_
   refine aV ha 1 [2,3,4,6,7,8,19,20] rfl<|an rfl (ai fc cM rfl rfl (by rfl)) rfl rfl ha ?_
   refine aV ha 1 [2,3,4,6,7,8,19,21,22] rfl<|an rfl (aO (k:=j) bn aF (.ro hs) (by omega) rfl rfl rfl) rfl rfl ha ?_
   refine an rfl (cr (hcell _) rfl rfl bd aF) rfl rfl ha ?_
   refine aV ha 1 [2,3,4,6,7,8,19,24,25] rfl<|aB rfl (cO rfl rfl rfl Tryz.call31 (fun w hw=>qn Ap cp fs a (aJ l j) k x hx w (hw.ro hp) (hm.ro hw) hW.f hRj hk)) rfl rfl (.inr fun _=>ha) (fun ga _=>?_) ?_
   ·refine aV ha 3 [2,3,4,6,7,8,27,28] rfl<|aB rfl (aZ bW rfl rfl) rfl rfl (.inr fun _=>ha) (fun q _=>?_) ay
    refine aB rfl (aH [_,_,_,_,_,_] fc aF rfl rfl rfl rfl rfl (by rfl) rfl (by rfl)) rfl rfl (.inr fun _=>ha) (fun _ _=>?_) ay
    refine aV ha 1 [2,3,4,6,7,8,9] rfl<|ck<|aY (q,ga) (trivial) ⟨rfl,rfl,rfl,rfl,rfl,rfl,rfl,trivial⟩ (fun _ h=>h.msub ms)
   refine aB rfl (aZ bW rfl rfl) rfl rfl (.inr fun _=>ha) (fun q _=>?_) ay
   refine aB rfl (cO rfl rfl rfl Tryz.call31 (fun w hw=>qn Ap cp fs a (aJ l j) k x hx w (hw.ro hp) (hm.ro hw) hW.f hRj hk)) rfl rfl (.inr fun _=>ha) (fun ga _=>?_) ay
   refine aV ha 3 [2,3,4,6,7,8,9,27,28] rfl<|aB rfl (aH [_,_,_,_,_,_] fc aF rfl rfl rfl rfl rfl (by rfl) rfl (by rfl)) rfl rfl (.inr fun _=>ha) (fun _ _=>?_) ay
   refine aV ha 1 [2,3,4,6,7,8,9] rfl<|ck<|aY (q,ga) (trivial) ⟨rfl,rfl,rfl,rfl,rfl,rfl,rfl,trivial⟩ (fun _ h=>h.msub ms)
  rintro⟨gx,ga⟩ _
  try dsimp only
  refine aa<|rn 1 [2,3,4,6,7,8,9,29] rfl<|af (ai fc cM rfl rfl (by rfl)) rfl rfl ?_
  refine af (aQ (vs:= [_,_,_,_,_,_]) fc bd aF rfl rfl (by rfl) rfl) rfl rfl ?_
  refine ag (bh (cs:= [_,_,_,_,_,_]) bn aF bW rfl rfl rfl rfl rfl) rfl rfl (fun g5 _=>?_)
  refine ag (dm (α:=aD) (bytes:=112) x.1 [aj (.slice ga.Af x.1.frames.length ga.cf) x.1.frames,aj (.slice ga.Ab x.1.blocks.length ga.cb) x.1.blocks,aj (.slice ga.Ai x.1.inn.length ga.ci) x.1.inn,aj (.slice ga.Ao x.1.out.length ga.co) x.1.out] htk bn (bM kR) rfl (sK fc fc fc fc fc fc) (m8 hI) (by omega) (by omega) rfl rfl rfl) rfl rfl (fun⟨A5,c5⟩ _=>?_)
  try dsimp only
  refine rn 1 [2,3,4,6,7,8,33,34] rfl<|ag (aH _ fc zz rfl rfl rfl rfl rfl (by rfl) rfl (by rfl)) rfl rfl (fun _ _=>?_)
  refine bE (aK (ap ?_))
  refine aa<|rn 1 [2,3,4,6,7,16] rfl<|af (bH rfl rfl rfl (by omega)) rfl rfl<|rn 1 [2,3,4,6,7,8] rfl<|br (j+1,A5,c5) (by show j+1≤_;omega) (by show _ - _<_ - _;omega) ⟨rfl,rfl,rfl,rfl,rfl,rfl,trivial⟩ me
 obtain rfl:j=l.length:=by omega
 have e2:((l.take l.length).map fun m=>(eo fs m k).1)=lP fs l k:=by rw[List.take_length];rfl
 rw[e2,iR]
 refine bN (aM (aM (cc (ap ?_))))
 refine ac<|aa<|af (aQ (vs:= [_]) fc bT aU rfl rfl (by rfl) rfl) rfl rfl ?_
 refine ag (cO rfl rfl rfl Tryz.call45 (fun w hw=>rR A' c' l.length fs (lP fs l k) (iR fs l k) hW2 r hr w (SF.at_ (SF.own (iR fs l k) fc) hw))) rfl rfl (fun⟨A6,c6⟩ _=>?_)
 try dsimp only
 refine rn 3 [6,7,38] rfl<|ag (aH _ fc aU rfl rfl rfl rfl rfl (by rfl) rfl (by rfl)) rfl rfl (fun _ _=>?_)
 refine ae<|ac<|aa<|af (aQ (vs:= [_]) fc bT aU rfl rfl (by rfl) rfl) rfl rfl ?_
 refine ag (aH _ fc aU rfl rfl rfl rfl rfl (by rfl) rfl (by rfl)) rfl rfl (fun _ _=>?_)
 refine ae<|au<|aA Tryz.results46 (dp (cs:= [_]) fc bT aU rfl) ?_
 intro w hw
 exact⟨(A6,c6),trivial,rfl,hw.msub ms⟩
end
section
set_option maxRecDepth 100000 in
set_option maxHeartbeats 2000000 in
theorem mB (A1 A2:Option Addr) (n1 n2 c1 c2:Nat) (l1 l2:List aD) (e u:Int) (he:e=u) (hu:l1=if u=0 then l2 else []) (w:World) (h1:bX w w.heap.size (.slice A1 n1 c1) l1) (h2:bX w w.heap.size (.slice A2 n2 c2) l2) (e1:l1.length=n1) (e2:l2.length=n2) :
  Calls Tryz.prog 50 #[.agg #[.slice A1 n1 c1],.int .i64 e,.int .i64 u,.agg #[.slice A2 n2 c2]] w fun e w'=>e= .returned (.bool true)∧Below w.heap.size w w':=by
 subst he
 refine enter Tryz.func50 rfl Tryz.ntmps50 rfl ?_
 refine ac<|aa<|ag (bF rfl rfl rfl) rfl rfl (fun g1 _=>?_)
 refine ag (bF rfl rfl rfl) rfl rfl (fun g2 _=>?_)
 refine rn 1 [1,2,4,7] rfl<|ae<|ac<|ac<|aa<|rn 2 [1,2,4,7,10] rfl<|ae<|b9 rfl (fun h0=>?_) (fun h0=>?_)
 ·have h0:¬e=0:=h0
  rw[if_neg h0] at hu
  subst hu
  refine aa<|af (cT (cs:= [_]) nA bS rfl rfl (by rfl)) rfl rfl ?_
  refine ag (aH _ fc aU rfl rfl rfl rfl rfl (by rfl) rfl (by rfl)) rfl rfl (fun _ _=>?_)
  refine ae<|ac<|aa<|rn 4 [4,7,15] rfl<|bA (t:=15) (v':= .bool true) rfl (congrArg Value.bool (decide_eq_true rfl)) ?_
  refine af (aQ (vs:= [_]) fc bT aU rfl rfl (by rfl) rfl) rfl rfl ?_
  refine af (aQ (vs:= [_]) fc bT aU rfl rfl (by rfl) rfl) rfl rfl ?_
  refine ag (bK rfl rfl rfl Tryz.call52 (fun w hw=>nR A1 none n1 0 c1 0 [] [] w (hw.ro h1) bX.nil_ e1 rfl)) rfl rfl (fun _ _=>?_)
  refine rn 2 [8] rfl<|ae<|au<|aA Tryz.results50 (aq rfl) ?_
  intro w hw
  exact⟨bt (by rw[decide_eq_true rfl]),hw.below⟩
 have h0:e=0:=h0
 rw[if_pos h0] at hu
 subst hu
 refine ax (ap ?_)
 refine ac<|aa<|rn 4 [4,7,15] rfl<|bA (t:=15) (v':= .bool true) rfl (congrArg Value.bool (decide_eq_true rfl)) ?_
 refine af (aQ (vs:= [_]) fc bT aU rfl rfl (by rfl) rfl) rfl rfl ?_
 refine af (aQ (vs:= [_]) fc bT aU rfl rfl (by rfl) rfl) rfl rfl ?_
 refine ag (bK rfl rfl rfl Tryz.call52 (fun w hw=>nR A1 A2 n1 n2 c1 c2 l1 l1 w (hw.ro h1) (hw.ro h2) e1 e2)) rfl rfl (fun _ _=>?_)
 refine rn 2 [8] rfl<|ae<|au<|aA Tryz.results50 (aq rfl) ?_
 intro w hw
 exact⟨bt (by rw[decide_eq_true rfl]),hw.below⟩
end
section
set_option maxRecDepth 100000 in
set_option maxHeartbeats 4000000 in
theorem q9 (Ap Aw:Option Addr) (cp cw:Nat) (fs:List aC) (l:List aD) (k i z:Int) (hz:aX z) (w:World) (hs:Sl w (.slice Ap fs.length cp) fs) (hl:Sl w (.slice Aw l.length cw) l) (hfit:kc l) :
  Calls Tryz.prog 7 #[.agg #[.slice Ap fs.length cp],.agg #[.slice Aw l.length cw],.int .i64 k,.int .i64 i,.int .i64 z] w fun e w'=>e= .returned (.bool true)∧Below w.heap.size w w':=by
 have bl:=bO hl
 obtain⟨r1,hr1⟩:∃r,mr fs l=r:=⟨_,rfl⟩
 obtain⟨r2,hr2⟩:∃r,kL fs l k=r:=⟨_,rfl⟩
 obtain⟨r3,hr3⟩:∃r,lr fs l i z=r:=⟨_,rfl⟩
 have hM:cz fs l=0→∀w1,Sl w1 (.slice Aw l.length cw) l→Calls Tryz.prog 45 #[.agg #[.slice Aw l.length cw]] w1 fun e w'=> ∃g:Option Addr×Nat,True∧e= .returned (.tuple #[.agg #[.slice g.1 r1.1.length g.2],.int .i64 (r1.2:Int)])∧Cw w1.heap.size w1 [aj (.slice g.1 r1.1.length g.2) r1.1] w':=fun h w1 h1=>by
  have e:iw l=r1:=by rw[←hr1];unfold mr;rw[if_pos h]
  have e2:r1.1.length=l.length:=by rw[←e];exact mq l
  rw[e2]
  exact rR Aw cw l.length fs l rfl (km h) r1 e w1 h1
 have hT:ej fs l k=0→∀w1,Sl w1 (.slice Ap fs.length cp) fs→Sl w1 (.slice Aw l.length cw) l→Calls Tryz.prog 46 #[.agg #[.slice Ap fs.length cp],.agg #[.slice Aw l.length cw],.int .i64 k] w1 fun e w'=> ∃g:Option Addr×Nat,True∧e= .returned (.agg #[.slice g.1 r2.length g.2])∧Cw w1.heap.size w1 [aj (.slice g.1 r2.length g.2) r2] w':=fun h w1 h0 h1=>by
  have e:(iw (lP fs l k)).1=r2:=by rw[←hr2];unfold kL;rw[if_pos h]
  have e2:r2.length=l.length:=by rw[←e,mq,iR]
  rw[e2,←e]
  exact xX Ap Aw cp cw l.length fs l rfl (km (rc h).1) k (rc h).2 _ rfl w1 h0 h1
 have hS:eF fs l i z=0→∀w1,Sl w1 (.slice Aw l.length cw) l→Calls Tryz.prog 47 #[.agg #[.slice Aw l.length cw],.int .i64 i,.int .i64 z] w1 fun e w'=> ∃g:Option Addr×Nat,True∧e= .returned (.tuple #[.agg #[.slice g.1 r3.length g.2],.bool (!decide ((aJ l i.toNat).inn.length=10))])∧Cw w1.heap.size w1 [aj (.slice g.1 r3.length g.2) r3] w':=fun h w1 h1=>by
  obtain⟨h0,hi,_⟩:=sZ h
  have e:nr l i.toNat z=r3:=by
   rw[←hr3]
   unfold nr lr fh
   by_cases h10:(aJ l i.toNat).inn.length=10 <;> simp[h,h10]
  have:=rQ Aw cw l.length fs l rfl (km h0) i.toNat (by omega) z hz r3 e w1 h1
  rw[Int.toNat_of_nonneg hi.1] at this
  exact this
 have u1:r1.1=if cz fs l=0 then r1.1 else []:=by
  split
  ·rfl
  rw[←hr1];unfold mr;rw[if_neg (by assumption)]
 have u2:r2=if ej fs l k=0 then r2 else []:=by
  split
  ·rfl
  rw[←hr2];unfold kL;rw[if_neg (by assumption)]
 have u3:r3=if fh fs l i z=0 then r3 else []:=by
  split
  ·rfl
  rw[←hr3];unfold lr;rw[if_neg (by assumption)]
 refine enter Tryz.func7 rfl Tryz.ntmps7 rfl ?_
 refine ac<|aa<|ag (bF rfl rfl rfl) rfl rfl (fun g1 _=>?_)
 refine ag (bF rfl rfl rfl) rfl rfl (fun g2 _=>?_)
 refine rn 1 [2,3,4,5,6] rfl<|ae<|ac<|aa<|af (aQ (vs:= [_]) fc cE cg rfl rfl (by rfl) rfl) rfl rfl ?_
 refine af (aQ (vs:= [_]) fc bT aU rfl rfl (by rfl) rfl) rfl rfl ?_
 refine ag (cO rfl rfl rfl D3 (fun w hw=>rI Ap Aw cp cw fs l r1 hr1 w (hw.ro hs) (hw.ro hl) hfit)) rfl rfl (fun⟨A1,c1⟩ _=>?_)
 try dsimp only
 refine rn 4 [2,3,4,5,6,31,32,33] rfl<|ag (aZ bS rfl rfl) rfl rfl (fun g3 _=>?_)
 refine ag (aH _ fc aU rfl rfl rfl rfl rfl (by rfl) rfl (by rfl)) rfl rfl (fun _ _=>?_)
 refine rn 2 [2,3,4,5,6,11,12,13] rfl<|ae<|ac<|aa<|af (aQ (vs:= [_]) fc cE cg rfl rfl (by rfl) rfl) rfl rfl ?_
 refine af (aQ (vs:= [_]) fc bT aU rfl rfl (by rfl) rfl) rfl rfl ?_
 refine rn 1 [2,3,4,5,6,11,12,13,35,36,37] rfl<|ag (cO rfl rfl rfl po (fun w hw=>rF Ap Aw cp cw fs l k r2 hr2 w (hw.ro hs) (hw.ro hl) hfit)) rfl rfl (fun⟨A2,c2⟩ _=>?_)
 try dsimp only
 refine rn 3 [2,3,4,5,6,11,12,13,39,40] rfl<|ag (aZ bS rfl rfl) rfl rfl (fun g4 _=>?_)
 refine ag (aH _ fc aU rfl rfl rfl rfl rfl (by rfl) rfl (by rfl)) rfl rfl (fun _ _=>?_)
 refine rn 1 [2,3,4,5,6,11,12,13,14,15] rfl<|ae<|ac<|aa<|af (aQ (vs:= [_]) fc cE cg rfl rfl (by rfl) rfl) rfl rfl ?_
 refine af (aQ (vs:= [_]) fc bT aU rfl rfl (by rfl) rfl) rfl rfl ?_
 refine rn 2 [2,3,4,5,6,11,12,13,14,15,42,43,44,45] rfl<|ag (cO rfl rfl rfl Tryz.call42 (fun w hw=>rG Ap Aw cp cw fs l i z hz r3 hr3 w (hw.ro hs) (hw.ro hl) hfit)) rfl rfl (fun⟨A3,c3⟩ _=>?_)
 try dsimp only
 refine rn 3 [2,3,4,5,6,11,12,13,14,15,47,48] rfl<|ag (aZ bS rfl rfl) rfl rfl (fun g5 _=>?_)
 refine ag (aH _ fc aU rfl rfl rfl rfl rfl (by rfl) rfl (by rfl)) rfl rfl (fun _ _=>?_)
 refine rn 1 [2,3,4,5,6,11,12,13,14,15,16,17] rfl<|ae<|ac<|aa<|af (aQ (vs:= [_]) fc cE cg rfl rfl (by rfl) rfl) rfl rfl ?_
 refine af (aQ (vs:= [_]) fc bT aU rfl rfl (by rfl) rfl) rfl rfl ?_
 refine ag (bK rfl rfl rfl Tryz.call43 (fun w hw=>ww Ap Aw cp cw fs l w (hw.ro hs) (hw.ro hl) hfit)) rfl rfl (fun _ _=>?_)
 refine rn 1 [2,3,4,5,6,11,12,13,14,15,16,17,18] rfl<|ae<|ac<|aa<|rn 4 [2,3,4,5,6,11,12,13,14,15,16,17,18,19,20] rfl<|ae<|dF (fun _:Unit=>True) (fun _=> [(2,.int .i64 k),(3,.int .i64 i),(4,.int .i64 z),(5,.pointer (some ⟨g1,0,none⟩)),(6,.pointer (some ⟨g2,0,none⟩)),(11,.pointer (some ⟨g3,0,none⟩)),(12,.int .i64 (r1.2:Int)),(13,.int .i64 (cz fs l)),(14,.pointer (some ⟨g4,0,none⟩)),(15,.int .i64 (ej fs l k)),(16,.pointer (some ⟨g5,0,none⟩)),(17,.int .i64 (fh fs l i z)),(18,.int .i64 (cz fs l)),(19,.int .i64 (ej fs l k)),(20,.int .i64 (cz fs l))]) (fun _=> [am g1 [.slice Ap fs.length cp] 24,am g2 [.slice Aw l.length cw] 67,am g3 [.slice A1 r1.1.length c1] 67,aj (.slice A1 r1.1.length c1) r1.1,am g4 [.slice A2 r2.length c2] 67,aj (.slice A2 r2.length c2) r2,am g5 [.slice A3 r3.length c3] 67,aj (.slice A3 r3.length c3) r3]) ?_ ?_
 ·refine ac<|aa<|rn 3 [2,3,4,5,6,11,12,13,14,15,16,17,18,19,20,56] rfl<|gU 7 rfl [(2,_),(3,_),(4,_),(5,_),(6,_),(11,_),(12,_),(13,_),(14,_),(15,_),(16,_),(17,_),(18,_),(19,_),(20,_)] [(63,.bool (decide (cz fs l=0∧(k<0∨10000<k))))] ⟨rfl,rfl,rfl,rfl,rfl,rfl,rfl,rfl,rfl,rfl,rfl,rfl,rfl,rfl,rfl,trivial⟩ (fun K=>?_) ?_
  ·refine bw (t:=56) rfl (fun q1=>?_) (fun q1=>?_)
   ·have q1:=of_decide_eq_true q1
    refine rn 3 [2,3,4,5,6,11,12,13,14,15,16,17,18,19,20,56,59] rfl<|bw (t:=59) rfl (fun q2=>?_) (fun q2=>?_)
    ·have q2:=of_decide_eq_true q2
     refine rn 4 [2,3,4,5,6,11,12,13,14,15,16,17,18,19,20,63] rfl<|bA (t:=63) (v':= .bool (decide (cz fs l=0∧(k<0∨10000<k)))) rfl (congrArg Value.bool (decide_eq_true ⟨q1,.inl q2⟩).symm) ?_
     exact dL K ⟨rfl,rfl,rfl,rfl,rfl,rfl,rfl,rfl,rfl,rfl,rfl,rfl,rfl,rfl,rfl,rfl,trivial⟩
    have q2:=of_decide_eq_false q2
    refine rn 4 [2,3,4,5,6,11,12,13,14,15,16,17,18,19,20,63] rfl<|bA (t:=63) (v':= .bool (decide (cz fs l=0∧(k<0∨10000<k)))) rfl (congrArg Value.bool (decide_eq_decide.2 ⟨fun h=>⟨q1,.inr h⟩,fun h=>h.2.resolve_left q2⟩)) ?_
    exact dL K ⟨rfl,rfl,rfl,rfl,rfl,rfl,rfl,rfl,rfl,rfl,rfl,rfl,rfl,rfl,rfl,rfl,trivial⟩
   have q1:=of_decide_eq_false q1
   refine rn 7 [2,3,4,5,6,11,12,13,14,15,16,17,18,19,20,63] rfl<|bA (t:=63) (v':= .bool (decide (cz fs l=0∧(k<0∨10000<k)))) rfl (congrArg Value.bool (decide_eq_false (fun h=>q1 h.1)).symm) ?_
   exact dL K ⟨rfl,rfl,rfl,rfl,rfl,rfl,rfl,rfl,rfl,rfl,rfl,rfl,rfl,rfl,rfl,rfl,trivial⟩
  refine ae<|aw rfl (fun q=>?_) (fun q=>?_)
  ·refine aa<|rn 1 [2,3,4,5,6,11,12,13,14,15,16,17,18,19,20] rfl<|bA (t:=19) (v':= .int .i64 (ej fs l k)) rfl (by unfold ej;rw[if_pos q]) ?_
   refine fa () (trivial) ⟨rfl,rfl,rfl,rfl,rfl,rfl,rfl,rfl,rfl,rfl,rfl,rfl,rfl,rfl,rfl,trivial⟩ me
  refine cP (t:=19) (v':= .int .i64 (ej fs l k)) rfl (by unfold ej;rw[if_neg q]) ?_
  refine ax<|aY () (trivial) ⟨rfl,rfl,rfl,rfl,rfl,rfl,rfl,rfl,rfl,rfl,rfl,rfl,rfl,rfl,rfl,trivial⟩ me
 rintro⟨⟩ _
 try dsimp only
 refine dF (fun _:Unit=>True) (fun _=> [(2,.int .i64 k),(3,.int .i64 i),(4,.int .i64 z),(5,.pointer (some ⟨g1,0,none⟩)),(6,.pointer (some ⟨g2,0,none⟩)),(11,.pointer (some ⟨g3,0,none⟩)),(12,.int .i64 (r1.2:Int)),(13,.int .i64 (cz fs l)),(14,.pointer (some ⟨g4,0,none⟩)),(15,.int .i64 (ej fs l k)),(16,.pointer (some ⟨g5,0,none⟩)),(17,.int .i64 (fh fs l i z)),(18,.int .i64 (cz fs l)),(19,.int .i64 (ej fs l k)),(20,.int .i64 (eF fs l i z))]) (fun _=> [am g1 [.slice Ap fs.length cp] 24,am g2 [.slice Aw l.length cw] 67,am g3 [.slice A1 r1.1.length c1] 67,aj (.slice A1 r1.1.length c1) r1.1,am g4 [.slice A2 r2.length c2] 67,aj (.slice A2 r2.length c2) r2,am g5 [.slice A3 r3.length c3] 67,aj (.slice A3 r3.length c3) r3]) ?_ ?_
 ·refine ac<|aa<|rn 3 [2,3,4,5,6,11,12,13,14,15,16,17,18,19,20,66] rfl<|gU 15 rfl [(2,_),(3,_),(4,_),(5,_),(6,_),(11,_),(12,_),(13,_),(14,_),(15,_),(16,_),(17,_),(18,_),(19,_),(20,_)] [(81,.bool (decide (cz fs l=0∧(i<0∨(l.length:Int)≤i∨cu z=false))))] ⟨rfl,rfl,rfl,rfl,rfl,rfl,rfl,rfl,rfl,rfl,rfl,rfl,rfl,rfl,rfl,trivial⟩ (fun K=>?_) ?_
  ·refine bw (t:=66) rfl (fun q1=>?_) (fun q1=>?_)
   ·have q1:=of_decide_eq_true q1
    refine rn 3 [2,3,4,5,6,11,12,13,14,15,16,17,18,19,20,66,69] rfl<|bw (t:=69) rfl (fun q2=>?_) (fun q2=>?_)
    ·have q2:=of_decide_eq_true q2
     refine rn 12 [2,3,4,5,6,11,12,13,14,15,16,17,18,19,20,81] rfl<|bA (t:=81) (v':= .bool (decide (cz fs l=0∧(i<0∨(l.length:Int)≤i∨cu z=false)))) rfl (congrArg Value.bool (decide_eq_true ⟨q1,.inl q2⟩).symm) ?_
     exact dL K ⟨rfl,rfl,rfl,rfl,rfl,rfl,rfl,rfl,rfl,rfl,rfl,rfl,rfl,rfl,rfl,rfl,trivial⟩
    have q2:=of_decide_eq_false q2
    refine rn 2 [2,3,4,5,6,11,12,13,14,15,16,17,18,19,20,66,69,70,71] rfl<|af (ai fc cM rfl rfl (by rfl)) rfl rfl ?_
    refine af (aN bn rfl rfl) rfl rfl<|rn 3 [2,3,4,5,6,11,12,13,14,15,16,17,18,19,20,66,76] rfl<|bw (t:=76) rfl (fun q3=>?_) (fun q3=>?_)
    ·have q3:(l.length:Int)≤i:=of_decide_eq_true q3
     refine rn 5 [2,3,4,5,6,11,12,13,14,15,16,17,18,19,20,81] rfl<|bA (t:=81) (v':= .bool (decide (cz fs l=0∧(i<0∨(l.length:Int)≤i∨cu z=false)))) rfl (congrArg Value.bool (decide_eq_true ⟨q1,.inr (.inl q3)⟩).symm) ?_
     exact dL K ⟨rfl,rfl,rfl,rfl,rfl,rfl,rfl,rfl,rfl,rfl,rfl,rfl,rfl,rfl,rfl,rfl,trivial⟩
    have q3:¬(l.length:Int)≤i:=of_decide_eq_false q3
    refine rn 1 [2,3,4,5,6,11,12,13,14,15,16,17,18,19,20,66,76,77] rfl<|ag (bK rfl rfl rfl Gi ((fun w hw=>fe ((fun w hw=>jc _ w) w hw)))) rfl rfl (fun _ _=>?_)
    refine rn 3 [2,3,4,5,6,11,12,13,14,15,16,17,18,19,20,81] rfl<|bA (t:=81) (v':= .bool (decide (cz fs l=0∧(i<0∨(l.length:Int)≤i∨cu z=false)))) rfl (congrArg Value.bool (wd q1 q2 q3)) ?_
    exact dL K ⟨rfl,rfl,rfl,rfl,rfl,rfl,rfl,rfl,rfl,rfl,rfl,rfl,rfl,rfl,rfl,rfl,trivial⟩
   have q1:=of_decide_eq_false q1
   refine rn 15 [2,3,4,5,6,11,12,13,14,15,16,17,18,19,20,81] rfl<|bA (t:=81) (v':= .bool (decide (cz fs l=0∧(i<0∨(l.length:Int)≤i∨cu z=false)))) rfl (congrArg Value.bool (decide_eq_false (fun h=>q1 h.1)).symm) ?_
   exact dL K ⟨rfl,rfl,rfl,rfl,rfl,rfl,rfl,rfl,rfl,rfl,rfl,rfl,rfl,rfl,rfl,rfl,trivial⟩
  refine ae<|aw rfl (fun q=>?_) (fun q=>?_)
  ·refine aa<|rn 1 [2,3,4,5,6,11,12,13,14,15,16,17,18,19,20] rfl<|bA (t:=20) (v':= .int .i64 (eF fs l i z)) rfl (by unfold eF;rw[if_pos q]) ?_
   refine fa () (trivial) ⟨rfl,rfl,rfl,rfl,rfl,rfl,rfl,rfl,rfl,rfl,rfl,rfl,rfl,rfl,rfl,trivial⟩ me
  refine cP (t:=20) (v':= .int .i64 (eF fs l i z)) rfl (by unfold eF;rw[if_neg q]) ?_
  refine ax<|aY () (trivial) ⟨rfl,rfl,rfl,rfl,rfl,rfl,rfl,rfl,rfl,rfl,rfl,rfl,rfl,rfl,rfl,trivial⟩ me
 rintro⟨⟩ _
 try dsimp only
 refine ac<|aa<|ag (aZ bS rfl rfl) rfl rfl (fun g6 _=>?_)
 refine ag (aZ bS rfl rfl) rfl rfl (fun g7 _=>?_)
 refine ag (aZ bS rfl rfl) rfl rfl (fun g8 _=>?_)
 refine ae<|ac<|aa<|rn 1 [2,3,4,5,6,11,12,13,14,15,16,17,18,19,20,21,22,23,24] rfl<|ae<|dF (fun _:Option Addr×Nat=>True) (fun g=> [(2,.int .i64 k),(3,.int .i64 i),(4,.int .i64 z),(5,.pointer (some ⟨g1,0,none⟩)),(6,.pointer (some ⟨g2,0,none⟩)),(11,.pointer (some ⟨g3,0,none⟩)),(12,.int .i64 (r1.2:Int)),(13,.int .i64 (cz fs l)),(14,.pointer (some ⟨g4,0,none⟩)),(15,.int .i64 (ej fs l k)),(16,.pointer (some ⟨g5,0,none⟩)),(17,.int .i64 (fh fs l i z)),(18,.int .i64 (cz fs l)),(19,.int .i64 (ej fs l k)),(20,.int .i64 (eF fs l i z)),(21,.pointer (some ⟨g6,0,none⟩)),(22,.pointer (some ⟨g7,0,none⟩)),(23,.pointer (some ⟨g8,0,none⟩)),(24,.int .i64 (r1.2:Int))]) (fun g=> [am g6 [.slice g.1 r1.1.length g.2] 67,aj (.slice g.1 r1.1.length g.2) r1.1,am g7 [.slice none 0 0] 67,am g8 [.slice none 0 0] 67,am g1 [.slice Ap fs.length cp] 24,am g2 [.slice Aw l.length cw] 67,am g3 [.slice A1 r1.1.length c1] 67,aj (.slice A1 r1.1.length c1) r1.1,am g4 [.slice A2 r2.length c2] 67,aj (.slice A2 r2.length c2) r2,am g5 [.slice A3 r3.length c3] 67,aj (.slice A3 r3.length c3) r3]) ?_ ?_
 ·refine ac<|aa<|rn 2 [2,3,4,5,6,11,12,13,14,15,16,17,18,19,20,21,22,23,24,83] rfl<|ae<|aw rfl (fun h0=>?_) (fun h0=>?_)
  ·have h0:cz fs l=0:=h0
   refine aa<|af (aQ (vs:= [_]) fc bT aU rfl rfl (by rfl) rfl) rfl rfl ?_
   refine ag (cO rfl rfl rfl Tryz.call45 (fun w hw=>hM h0 w (hw.ro hl))) rfl rfl (fun⟨B1,b1⟩ _=>?_)
   try dsimp only
   refine rn 3 [2,3,4,5,6,11,12,13,14,15,16,17,18,19,20,21,22,23,87,88] rfl<|ag (aH _ fc aU rfl rfl rfl rfl rfl (by rfl) rfl (by rfl)) rfl rfl (fun _ _=>?_)
   refine rn 1 [2,3,4,5,6,11,12,13,14,15,16,17,18,19,20,21,22,23,24] rfl<|fa (B1,b1) (trivial) ⟨rfl,rfl,rfl,rfl,rfl,rfl,rfl,rfl,rfl,rfl,rfl,rfl,rfl,rfl,rfl,rfl,rfl,rfl,rfl,trivial⟩ me
  have h0:¬cz fs l=0:=h0
  have e:r1=([],0):=by rw[←hr1];unfold mr;rw[if_neg h0]
  subst e
  refine ax<|aY (none,0) (trivial) ⟨rfl,rfl,rfl,rfl,rfl,rfl,rfl,rfl,rfl,rfl,rfl,rfl,rfl,rfl,rfl,rfl,rfl,rfl,rfl,trivial⟩ (fun w h=>(Cw.nilO aD h).msub ms)
 rintro⟨B1,b1⟩ _
 try dsimp only
 refine dF (fun _:Option Addr×Nat=>True) (fun g=> [(3,.int .i64 i),(4,.int .i64 z),(5,.pointer (some ⟨g1,0,none⟩)),(6,.pointer (some ⟨g2,0,none⟩)),(11,.pointer (some ⟨g3,0,none⟩)),(12,.int .i64 (r1.2:Int)),(13,.int .i64 (cz fs l)),(14,.pointer (some ⟨g4,0,none⟩)),(15,.int .i64 (ej fs l k)),(16,.pointer (some ⟨g5,0,none⟩)),(17,.int .i64 (fh fs l i z)),(18,.int .i64 (cz fs l)),(19,.int .i64 (ej fs l k)),(20,.int .i64 (eF fs l i z)),(21,.pointer (some ⟨g6,0,none⟩)),(22,.pointer (some ⟨g7,0,none⟩)),(23,.pointer (some ⟨g8,0,none⟩)),(24,.int .i64 (r1.2:Int))]) (fun g=> [am g7 [.slice g.1 r2.length g.2] 67,aj (.slice g.1 r2.length g.2) r2,am g6 [.slice B1 r1.1.length b1] 67,aj (.slice B1 r1.1.length b1) r1.1,am g8 [.slice none 0 0] 67,am g1 [.slice Ap fs.length cp] 24,am g2 [.slice Aw l.length cw] 67,am g3 [.slice A1 r1.1.length c1] 67,aj (.slice A1 r1.1.length c1) r1.1,am g4 [.slice A2 r2.length c2] 67,aj (.slice A2 r2.length c2) r2,am g5 [.slice A3 r3.length c3] 67,aj (.slice A3 r3.length c3) r3]) ?_ ?_
 ·refine ac<|aa<|rn 2 [2,3,4,5,6,11,12,13,14,15,16,17,18,19,20,21,22,23,24,90] rfl<|ae<|aw rfl (fun h0=>?_) (fun h0=>?_)
  ·have h0:ej fs l k=0:=h0
   refine aa<|af (aQ (vs:= [_]) fc cE cg rfl rfl (by rfl) rfl) rfl rfl ?_
   refine af (aQ (vs:= [_]) fc bT aU rfl rfl (by rfl) rfl) rfl rfl ?_
   refine rn 1 [3,4,5,6,11,12,13,14,15,16,17,18,19,20,21,22,23,24,91,92,93] rfl<|ag (cO rfl rfl rfl Tryz.call46 (fun w hw=>hT h0 w (hw.ro hs) (hw.ro hl))) rfl rfl (fun⟨B2,b2⟩ _=>?_)
   try dsimp only
   refine ag (aH _ fc aU rfl rfl rfl rfl rfl (by rfl) rfl (by rfl)) rfl rfl (fun _ _=>?_)
   refine fa (B2,b2) (trivial) ⟨rfl,rfl,rfl,rfl,rfl,rfl,rfl,rfl,rfl,rfl,rfl,rfl,rfl,rfl,rfl,rfl,rfl,rfl,trivial⟩ me
  have h0:¬ej fs l k=0:=h0
  have e:r2= []:=by rw[←hr2];unfold kL;rw[if_neg h0]
  subst e
  refine ax<|aY (none,0) (trivial) ⟨rfl,rfl,rfl,rfl,rfl,rfl,rfl,rfl,rfl,rfl,rfl,rfl,rfl,rfl,rfl,rfl,rfl,rfl,trivial⟩ (fun w h=>(Cw.nilO aD h).msub ms)
 rintro⟨B2,b2⟩ _
 try dsimp only
 refine dF (fun _:Option Addr×Nat=>True) (fun g=> [(5,.pointer (some ⟨g1,0,none⟩)),(6,.pointer (some ⟨g2,0,none⟩)),(11,.pointer (some ⟨g3,0,none⟩)),(12,.int .i64 (r1.2:Int)),(13,.int .i64 (cz fs l)),(14,.pointer (some ⟨g4,0,none⟩)),(15,.int .i64 (ej fs l k)),(16,.pointer (some ⟨g5,0,none⟩)),(17,.int .i64 (fh fs l i z)),(18,.int .i64 (cz fs l)),(19,.int .i64 (ej fs l k)),(20,.int .i64 (fh fs l i z)),(21,.pointer (some ⟨g6,0,none⟩)),(22,.pointer (some ⟨g7,0,none⟩)),(23,.pointer (some ⟨g8,0,none⟩)),(24,.int .i64 (r1.2:Int))]) (fun g=> [am g8 [.slice g.1 r3.length g.2] 67,aj (.slice g.1 r3.length g.2) r3,am g7 [.slice B2 r2.length b2] 67,aj (.slice B2 r2.length b2) r2,am g6 [.slice B1 r1.1.length b1] 67,aj (.slice B1 r1.1.length b1) r1.1,am g1 [.slice Ap fs.length cp] 24,am g2 [.slice Aw l.length cw] 67,am g3 [.slice A1 r1.1.length c1] 67,aj (.slice A1 r1.1.length c1) r1.1,am g4 [.slice A2 r2.length c2] 67,aj (.slice A2 r2.length c2) r2,am g5 [.slice A3 r3.length c3] 67,aj (.slice A3 r3.length c3) r3]) ?_ ?_
 ·refine ac<|aa<|rn 2 [3,4,5,6,11,12,13,14,15,16,17,18,19,20,21,22,23,24,96] rfl<|ae<|aw rfl (fun h0=>?_) (fun h0=>?_)
  ·have h0:eF fs l i z=0:=h0
   refine ac<|aa<|af (aQ (vs:= [_]) fc bT aU rfl rfl (by rfl) rfl) rfl rfl ?_
   refine rn 2 [5,6,11,12,13,14,15,16,17,18,19,20,21,22,23,24,98,99,100] rfl<|ag (cO rfl rfl rfl Gh (fun w hw=>hS h0 w (hw.ro hl))) rfl rfl (fun⟨B3,b3⟩ _=>?_)
   try dsimp only
   refine rn 3 [5,6,11,12,13,14,15,16,17,18,19,20,21,22,23,24,102,103] rfl<|ag (aZ bS rfl rfl) rfl rfl (fun g9 _=>?_)
   refine ag (aH _ fc aU rfl rfl rfl rfl rfl (by rfl) rfl (by rfl)) rfl rfl (fun _ _=>?_)
   refine rn 1 [5,6,11,12,13,14,15,16,17,18,19,20,21,22,23,24,25,26] rfl<|ae<|ac<|aa<|af (aQ (vs:= [_]) fc bT aU rfl rfl (by rfl) rfl) rfl rfl ?_
   refine ag (aH _ fc aU rfl rfl rfl rfl rfl (by rfl) rfl (by rfl)) rfl rfl (fun _ _=>?_)
   refine ae<|ac<|aa<|rn 2 [5,6,11,12,13,14,15,16,17,18,19,20,21,22,23,24,106] rfl<|ae<|cP (t:=106) (v':= .bool (decide ((aJ l i.toNat).inn.length=10))) rfl (by rw[Bool.not_not]) ?_
   refine aw rfl (fun h10=>?_) (fun h10=>?_)
   ·have h10:(aJ l i.toNat).inn.length=10:=h10
    refine aa<|rn 1 [5,6,11,12,13,14,15,16,17,18,19,20,21,22,23,24] rfl<|bA (t:=20) (v':= .int .i64 (fh fs l i z)) rfl (by unfold fh;rw[if_neg (fun h=>h h0),if_pos h10]) ?_
    refine fa (B3,b3) (trivial) ⟨rfl,rfl,rfl,rfl,rfl,rfl,rfl,rfl,rfl,rfl,rfl,rfl,rfl,rfl,rfl,rfl,trivial⟩ me
   have h10:¬(aJ l i.toNat).inn.length=10:=h10
   refine cP (t:=20) (v':= .int .i64 (fh fs l i z)) rfl (by unfold fh;rw[if_neg (fun h=>h h0),if_neg h10,h0]) ?_
   refine ax<|aY (B3,b3) (trivial) ⟨rfl,rfl,rfl,rfl,rfl,rfl,rfl,rfl,rfl,rfl,rfl,rfl,rfl,rfl,rfl,rfl,trivial⟩ me
  have h0:¬eF fs l i z=0:=h0
  have e0:fh fs l i z=eF fs l i z:=by unfold fh;rw[if_pos h0]
  have e:r3= []:=by rw[←hr3];unfold lr;rw[if_neg (by rw[e0];exact h0)]
  subst e
  refine cP (t:=20) (v':= .int .i64 (fh fs l i z)) rfl (by rw[e0]) ?_
  refine ax<|aY (none,0) (trivial) ⟨rfl,rfl,rfl,rfl,rfl,rfl,rfl,rfl,rfl,rfl,rfl,rfl,rfl,rfl,rfl,rfl,trivial⟩ (fun w h=>(Cw.nilO aD h).msub ms)
 rintro⟨B3,b3⟩ _
 try dsimp only
 refine ac<|aa<|ag (bK rfl rfl rfl Tryz.call48 (fun w hw=>ra w)) rfl rfl (fun _ _=>?_)
 refine rn 1 [5,6,11,12,13,14,15,16,17,18,19,20,21,22,23,24,108] rfl<|af (aQ (vs:= [_]) fc cE cg rfl rfl (by rfl) rfl) rfl rfl ?_
 refine af (aQ (vs:= [_]) fc bT aU rfl rfl (by rfl) rfl) rfl rfl ?_
 refine ag (bK rfl rfl rfl xH (fun w hw=>jQ Ap Aw cp cw fs l w (hw.ro hs) (hw.ro hl) hfit)) rfl rfl (fun _ _=>?_)
 refine rn 4 [11,12,13,14,15,16,17,18,19,20,21,22,23,24,115] rfl<|bA (t:=115) (v':= .bool true) rfl (congrArg Value.bool (decide_eq_true rfl)) ?_
 refine af (aQ (vs:= [_]) fc bT aU rfl rfl (by rfl) rfl) rfl rfl ?_
 refine rn 2 [12,14,15,16,17,19,20,21,22,23,24,115,116,117,118] rfl<|af (aQ (vs:= [_]) fc bT aU rfl rfl (by rfl) rfl) rfl rfl ?_
 refine ag (bK rfl rfl rfl Gg (fun w hw=>mB A1 B1 r1.1.length r1.1.length c1 b1 r1.1 r1.1 _ _ rfl u1 w (SF.at_ (SF.own rfl fc) hw) (SF.at_ (SF.own rfl fc) hw) rfl rfl)) rfl rfl (fun _ _=>?_)
 refine rn 2 [12,14,15,16,17,19,20,22,23,24,122] rfl<|bA (t:=122) (v':= .bool true) rfl (rfl) ?_
 refine rn 5 [14,15,16,17,19,20,22,23,127] rfl<|bA (t:=127) (v':= .bool true) rfl (congrArg Value.bool (decide_eq_true rfl)) ?_
 refine af (aQ (vs:= [_]) fc bT aU rfl rfl (by rfl) rfl) rfl rfl ?_
 refine rn 2 [16,17,20,22,23,127,128,129,130] rfl<|af (aQ (vs:= [_]) fc bT aU rfl rfl (by rfl) rfl) rfl rfl ?_
 refine ag (bK rfl rfl rfl Gg (fun w hw=>mB A2 B2 r2.length r2.length c2 b2 r2 r2 _ _ rfl u2 w (SF.at_ (SF.own rfl fc) hw) (SF.at_ (SF.own rfl fc) hw) rfl rfl)) rfl rfl (fun _ _=>?_)
 refine rn 2 [16,17,20,23,134] rfl<|bA (t:=134) (v':= .bool true) rfl (rfl) ?_
 refine af (aQ (vs:= [_]) fc bT aU rfl rfl (by rfl) rfl) rfl rfl ?_
 refine rn 2 [23,134,135,136,137] rfl<|af (aQ (vs:= [_]) fc bT aU rfl rfl (by rfl) rfl) rfl rfl ?_
 refine ag (bK rfl rfl rfl Gg (fun w hw=>mB A3 B3 r3.length r3.length c3 b3 r3 r3 _ _ rfl u3 w (SF.at_ (SF.own rfl fc) hw) (SF.at_ (SF.own rfl fc) hw) rfl rfl)) rfl rfl (fun _ _=>?_)
 refine rn 2 [10] rfl<|ae<|au<|aA Tryz.results7 (aq rfl) ?_
 intro w hw
 exact⟨rfl,hw.below⟩
end
end Go.Proofs.YtpacloheigifkaaGreat
