/- Texts of one proof, one behind the other: lemmas alone. -/
import Derived.Test.YtpacloheigifkaaGreatM0C
import Derived.Test.YtpacloheigifkaaGreatM38C
import Derived.Test.YtpacloheigifkaaGreatM34C
import Derived.Test.YtpacloheigifkaaGreatM24C
import Derived.Test.YtpacloheigifkaaGreatM27C
import Derived.Test.YtpacloheigifkaaGreatM22C
import Derived.Test.YtpacloheigifkaaGreatM17C
import Derived.Test.YtpacloheigifkaaGreatM35C
import Derived.Test.YtpacloheigifkaaGreatM25C
import Derived.Test.YtpacloheigifkaaGreatM32C
import Derived.Test.YtpacloheigifkaaGreatM28C

namespace Go.Proofs.YtpacloheigifkaaGreat
open Go.RowKit
section
def cN (l:List aR):List Int:=(l.filter fun v=>v.ref && decide (0<v.n)).map fun v=>v.n
def ld (m:aI):List Int:=m.frames.flatMap fun x=>cN x.locals++cN x.stack
theorem yJ (a b:List aR):cN (a++b)=cN a++cN b:=by unfold cN;rw[List.filter_append,List.map_append]
theorem yI (v:aR):cN [v]=if v.ref=true∧0<v.n then [v.n] else []:=by
 unfold cN
 by_cases h:v.ref=true∧0<v.n
 ·rw[if_pos h,List.filter_cons_of_pos (by simp[h.1,h.2])];rfl
 rw[if_neg h,List.filter_cons_of_neg (by simpa using h)];rfl
theorem qc {l:List aR} {k:Nat} (hk:k<l.length):cN (l.take (k+1))=cN (l.take k)++cN [l.getD k default]:=by rw[dL l k default hk,yJ]
theorem jN (l:List aR):(cN l).length≤l.length:=by
 unfold cN
 rw[List.length_map]
 exact List.length_filter_le _ _
section
variable {B:Nat} {w0:World} {H:List a4}
theorem pA {A:Option Addr} {m c k:Nat} {xs:List aR} (h:bM w0 B (.slice A m c) xs) (hk:k<m):a5 (xs.getD k default).n:=by
 obtain⟨cs,⟨_,hi⟩,_⟩:=h.elr hk default
 exact hi
set_option maxRecDepth 100000 in
theorem r6 (go b o:Nat) (v:aR) (hi:a5 v.n) (hv:∀(H:List a4) (w:World),Cw B w0 H w→∀j u,([.bool v.ref,.int .i64 v.n]:List Value)[j]? =some u→w.cell? ⟨b,o+j,none⟩=some u) (acc:List Int) (A:Option Addr) (c:Nat) (hb:acc.length≤1000000) (w:World)
  (hw:Cw B w0 (az go [.slice A acc.length c] 27::an (.slice A acc.length c) acc::H) w) :
  Calls Tryz.prog 123 #[.pointer (some ⟨b,o,none⟩),.pointer (some ⟨go,0,none⟩)] w fun e w'=> ∃g:Option Addr×Nat,True∧e= .returned (.tuple #[])∧Cw B w0 (az go [.slice g.1 (acc++cN [v]).length g.2] 27::an (.slice g.1 (acc++cN [v]).length g.2) (acc++cN [v])::H) w':=by
 obtain⟨r,n⟩:=v
 have hg:=yI ⟨r,n⟩
 refine cB Tryz.func123 rfl Tryz.ntmps123 rfl hw ?_
 refine ac<|aa<|rn 3 [0,1,5] rfl<|af (aZ (fun w hw=>hv _ w hw 0 _ rfl) rfl rfl eh) rfl rfl ?_
 refine rn 1 [0,1,7] rfl ?_
 cases r
 ·rw[if_neg (by simp)] at hg
  rw[hg,List.append_nil]
  refine bU (t:=7) (v':= .bool false) rfl (rfl) ?_
  refine rn 6 [0,1,13] rfl<|ae<|cK rfl<|aq<|cq Cz ?_
  intro w hw
  exact⟨(A,c),trivial,rfl,hw.msub ms⟩
 refine bU (t:=7) (v':= .bool true) rfl (rfl) ?_
 refine rn 3 [0,1,7,10] rfl<|af (aZ (fun w hw=>hv _ w hw 1 _ rfl) rfl rfl aw) rfl rfl ?_
 refine rn 2 [0,1,13] rfl<|ae<|ar rfl (fun hn=>?_) (fun hn=>?_)
 ·have hn:0<n:=hn
  rw[if_pos ⟨rfl,hn⟩] at hg
  rw[hg]
  refine fB (.still 0 (.still 1 (.still 2 (.still 3 (.still 4 (.pick 5 (.pick 6 (.pick 7 .done .stop) .stop) .stop)))))) [7] rfl (by kernel_rfl) (by kernel_rfl) [az go [.slice A acc.length c] 27] ?_
  refine av rfl (aj fc aW rfl rfl (by rfl)) rfl rfl ha ?_
  refine aS ha 3 [1,14,17] rfl<|av rfl (aZ (fun w hw=>hv _ w hw 1 _ rfl) rfl rfl aw) rfl rfl ha ?_
  refine aB rfl (a8 (cs:= [_]) ag aF aV rfl rfl rfl rfl rfl) rfl rfl (.inr fun _=>ha) (fun g1 _=>?_) ay
  refine aB rfl (dM (α:=Int) (bytes:=8) n [] rfl ag (bN cJ) rfl (fH fc fc) (nz hi) (by omega) (by omega) rfl rfl rfl) rfl rfl (.inr fun _=>ha) (fun⟨A3,c3⟩ _=>?_) ay
  try dsimp only
  refine aB rfl (aM _ fc bJ rfl rfl rfl rfl rfl (by rfl) rfl (by rfl)) rfl rfl (.inl rfl) (fun _ _=>?_) ay
  refine cD<|cq Cz ?_
  intro w hw
  exact⟨(A3,c3),trivial,rfl,hw.msub ms⟩
 have hn:¬0<n:=hn
 rw[if_neg (fun h=>hn h.2)] at hg
 rw[hg,List.append_nil]
 refine aq<|cq Cz ?_
 intro w hw
 exact⟨(A,c),trivial,rfl,hw.msub ms⟩
theorem pV {m:aI} {i:Nat} (hi:i<m.frames.length):((m.frames.take (i+1)).flatMap fun x=>cN x.locals++cN x.stack)=((m.frames.take i).flatMap fun x=>cN x.locals++cN x.stack)++(cN (aN m.frames i).locals++cN (aN m.frames i).stack):=by
 rw[lG hi,List.flatMap_append]
 simp
theorem uY {m:aI} (_:m.frames.length≤6) (hf:∀x∈m.frames,x.locals.length≤1000∧x.stack.length≤8) (i:Nat):((m.frames.take i).flatMap fun x=>cN x.locals++cN x.stack).length≤1008*i:=by
 induction i with
 | zero=>simp
 | succ i ih=>
  by_cases h:i<m.frames.length
  ·rw[pV h,List.length_append,List.length_append]
   have h1:=hf _ (dW h)
   have h2:=jN (aN m.frames i).locals
   have h3:=jN (aN m.frames i).stack
   omega
  rw[List.take_of_length_le (by omega)]
  rw[List.take_of_length_le (by omega)] at ih
  omega
set_option maxRecDepth 100000 in
set_option maxHeartbeats 4000000 in
theorem xd (g go:Nat) (a:MA) (m:aI) (hm:dE B w0 a m) (hn6:m.frames.length≤6) (hfs:∀x∈m.frames,x.locals.length≤1000∧x.stack.length≤8) (A:Option Addr) (c:Nat) (w:World)
  (hw:Cw B w0 (az g [.slice a.Af m.frames.length a.cf,.slice a.Ab m.blocks.length a.cb,.slice a.Ai m.inn.length a.ci,.slice a.Ao m.out.length a.co,.int .i64 m.status,.int .i64 m.trap] 29::az go [.slice A 0 c] 27::an (.slice A 0 c) ([]:List Int)::H) w) :
  Calls Tryz.prog 122 #[.pointer (some ⟨g,0,none⟩),.func (.func 123) #[] #[.pointer (some ⟨go,0,none⟩)]] w fun e w'=> ∃q:Option Addr×Nat,True∧e= .returned (.tuple #[])∧Cw B w0 (az g [.slice a.Af m.frames.length a.cf,.slice a.Ab m.blocks.length a.cb,.slice a.Ai m.inn.length a.ci,.slice a.Ao m.out.length a.co,.int .i64 m.status,.int .i64 m.trap] 29::az go [.slice q.1 (ld m).length q.2] 27::an (.slice q.1 (ld m).length q.2) (ld m)::H) w':=by
 have bf:=bR hm.f
 refine cB Tryz.func122 rfl Tryz.ntmps122 rfl hw ?_
 refine ac<|aa<|rn 3 [0,1,10] rfl<|af (aj fc bG rfl rfl (by rfl)) rfl rfl ?_
 refine af (aL aT rfl rfl) rfl rfl<|rn 1 [0,1,12,13] rfl<|ae<|aE (bD (fun g2:Nat×(Option Addr×Nat)=>g2.1≤m.frames.length) (fun g2=>m.frames.length - g2.1) (fun g2=> [(0,.pointer (some ⟨g,0,none⟩)),(1,.func (.func 123) #[] #[.pointer (some ⟨go,0,none⟩)]),(12,.int .i64 (m.frames.length:Int)),(13,.int .i64 (g2.1:Int))]) (fun g2=>az g [.slice a.Af m.frames.length a.cf,.slice a.Ab m.blocks.length a.cb,.slice a.Ai m.inn.length a.ci,.slice a.Ao m.out.length a.co,.int .i64 m.status,.int .i64 m.trap] 29::az go [.slice g2.2.1 ((m.frames.take g2.1).flatMap fun x=>cN x.locals++cN x.stack).length g2.2.2] 27::an (.slice g2.2.1 ((m.frames.take g2.1).flatMap fun x=>cN x.locals++cN x.stack).length g2.2.2) ((m.frames.take g2.1).flatMap fun x=>cN x.locals++cN x.stack)::H) (0,(A,c)) (Nat.zero_le _) ⟨rfl,rfl,rfl,rfl,trivial⟩ (fun w h=>h.msub ms) ?_)
 rintro⟨i,⟨A1,c1⟩⟩ hi'
 try dsimp only
 have hi:i≤m.frames.length:=hi'
 have hsm:=uY hn6 hfs i
 refine ac<|aa<|rn 1 [0,1,12,13,14] rfl<|ae<|ac<|ar rfl (fun hlt=>?_) (fun hlt=>?_)
 ·have hil:i<m.frames.length:=by omega
  obtain⟨F1,d1,F2,d2,hl,hst,hI,hcell⟩:=hm.f.fr hil
  have hxs:=hfs _ (dW hil)
  have hsn:=pV hil
  generalize hacc:((m.frames.take i).flatMap fun x=>cN x.locals++cN x.stack)=acc at hsm hsn
  generalize hx:aN m.frames i=x at hl hst hI hcell hxs hsn
  have hg1:=jN x.locals
  have hg2:=jN x.stack
  refine aq (ak ?_)
  refine ac<|aE<|ac<|aa<|rn 2 [0,1,4,12,13] rfl<|ae<|ac<|bV (.still 0 (.still 1 (.still 2 (.still 3 (.still 4 (.still 5 (.still 6 (.still 7 (.still 8 (.still 9 (.still 10 (.still 11 (.still 12 (.still 13 (.still 14 (.still 15 (.still 18 (.pick 16 (.still 17 .done) .stop)))))))))))))))))) [] rfl (by kernel_rfl) (by kernel_rfl) ?_
  refine aS ha 3 [0,1,4,12,13,18] rfl<|av rfl (aj fc bG rfl rfl (by rfl)) rfl rfl ha ?_
  refine aS ha 1 [0,1,4,12,13,19,20] rfl<|av rfl (aQ (k:=i) aT a7 (.ro hm.f) (by omega) rfl rfl rfl) rfl rfl ha ?_
  refine aS ha 1 [0,1,4,12,13,22] rfl<|av rfl (aZ (fun w hw=>hcell _ w hw 2 _ rfl) rfl rfl bZ) rfl rfl ha ?_
  refine aS ha 3 [0,1,4,12,13,23,26] rfl<|av rfl (aj fc bG rfl rfl (by rfl)) rfl rfl ha ?_
  refine aS ha 1 [0,1,12,13,23,27,28] rfl<|av rfl (aQ (k:=i) aT a7 (.ro hm.f) (by omega) rfl rfl rfl) rfl rfl ha ?_
  refine aS ha 1 [0,1,12,13,23,30] rfl<|av rfl (aZ (fun w hw=>hcell _ w hw 3 _ rfl) rfl rfl bZ) rfl rfl ha ?_
  refine aS ha 1 [0,1,12,13,23,31,34] rfl<|aB rfl (a8 (cs:= [_,_]) dP dF Bs rfl rfl rfl rfl rfl) rfl rfl (.inr fun _=>ha) (fun g1 _=>?_) ay
  refine av rfl (aL dP rfl rfl) rfl rfl ha ?_
  refine cu<|aE (bD (fun q:Nat×(Option Addr×Nat)=>q.1≤2) (fun q=>2 - q.1) (fun q=> [(0,.pointer (some ⟨g,0,none⟩)),(1,.func (.func 123) #[] #[.pointer (some ⟨go,0,none⟩)]),(12,.int .i64 (m.frames.length:Int)),(13,.int .i64 (i:Int)),(32,.slice (some ⟨g1,0,none⟩) 2 2),(33,.int .i64 2),(34,.int .i64 (q.1:Int))]) (fun q=>az go [.slice q.2.1 (acc++(if q.1=0 then [] else if q.1=1 then cN x.locals else cN x.locals++cN x.stack)).length q.2.2] 27::an (.slice q.2.1 (acc++(if q.1=0 then [] else if q.1=1 then cN x.locals else cN x.locals++cN x.stack)).length q.2.2) (acc++(if q.1=0 then [] else if q.1=1 then cN x.locals else cN x.locals++cN x.stack))::az g1 [.slice F1 x.locals.length d1,.slice F2 x.stack.length d2] 95::az g [.slice a.Af m.frames.length a.cf,.slice a.Ab m.blocks.length a.cb,.slice a.Ai m.inn.length a.ci,.slice a.Ao m.out.length a.co,.int .i64 m.status,.int .i64 m.trap] 29::H) (0,(A1,c1)) (Nat.zero_le _) ⟨rfl,rfl,rfl,rfl,rfl,rfl,rfl,trivial⟩ (fun w h=>(show Cw _ _ (az go [.slice A1 (acc++ []).length c1] 27::an (.slice A1 (acc++ []).length c1) (acc++ [])::az g1 [.slice F1 x.locals.length d1,.slice F2 x.stack.length d2] 95::az g [.slice a.Af m.frames.length a.cf,.slice a.Ab m.blocks.length a.cb,.slice a.Ai m.inn.length a.ci,.slice a.Ao m.out.length a.co,.int .i64 m.status,.int .i64 m.trap] 29::H) w from by rw[List.append_nil];exact h.msub ms)) ?_)
  rintro⟨j,⟨A2,c2⟩⟩ hj'
  try dsimp only
  have hj:j≤2:=hj'
  refine ac<|aa<|rn 1 [0,1,12,13,32,33,34,35] rfl<|ae<|ac<|ar rfl (fun hlt2=>?_) (fun hlt2=>?_)
  ·rcases(show j=0∨j=1 by omega) with rfl | rfl
   ·try dsimp only
    rw[if_pos rfl,List.append_nil]
    refine aq (ak ?_)
    refine ac<|aE<|ac<|aa<|af (fV (k:=0) dP dF rfl (by decide) rfl rfl rfl) rfl rfl ?_
    refine af (aZ (fun w hw=>eq (v:= .slice F1 x.locals.length d1) fc rfl w hw) rfl rfl bZ) rfl rfl ?_
    refine rn 1 [0,1,6,12,13,32,33,34] rfl<|ae<|ac<|aa<|rn 1 [0,1,6,12,13,32,33,34,38] rfl<|af (aL aD rfl rfl) rfl rfl<|rn 1 [0,1,6,12,13,32,33,34,39,40] rfl<|ae<|aE (bD (fun q:Nat×(Option Addr×Nat)=>q.1≤x.locals.length) (fun q=>x.locals.length - q.1) (fun q=> [(0,.pointer (some ⟨g,0,none⟩)),(1,.func (.func 123) #[] #[.pointer (some ⟨go,0,none⟩)]),(6,.slice F1 x.locals.length d1),(12,.int .i64 (m.frames.length:Int)),(13,.int .i64 (i:Int)),(32,.slice (some ⟨g1,0,none⟩) 2 2),(33,.int .i64 2),(34,.int .i64 0),(39,.int .i64 (x.locals.length:Int)),(40,.int .i64 (q.1:Int))]) (fun q=>az go [.slice q.2.1 (acc++cN (x.locals.take q.1)).length q.2.2] 27::an (.slice q.2.1 (acc++cN (x.locals.take q.1)).length q.2.2) (acc++cN (x.locals.take q.1))::az g1 [.slice F1 x.locals.length d1,.slice F2 x.stack.length d2] 95::az g [.slice a.Af m.frames.length a.cf,.slice a.Ab m.blocks.length a.cb,.slice a.Ai m.inn.length a.ci,.slice a.Ao m.out.length a.co,.int .i64 m.status,.int .i64 m.trap] 29::H) (0,(A2,c2)) (Nat.zero_le _) ⟨rfl,rfl,rfl,rfl,rfl,rfl,rfl,rfl,rfl,rfl,trivial⟩ (fun w h=>(show Cw _ _ (az go [.slice A2 (acc++cN (x.locals.take 0)).length c2] 27::an (.slice A2 (acc++cN (x.locals.take 0)).length c2) (acc++cN (x.locals.take 0))::az g1 [.slice F1 x.locals.length d1,.slice F2 x.stack.length d2] 95::az g [.slice a.Af m.frames.length a.cf,.slice a.Ab m.blocks.length a.cb,.slice a.Ai m.inn.length a.ci,.slice a.Ao m.out.length a.co,.int .i64 m.status,.int .i64 m.trap] 29::H) w from by rw[List.take_zero,show cN []= [] from rfl,List.append_nil];exact h.msub ms)) ?_)
    rintro⟨k,⟨A3,c3⟩⟩ hk'
    try dsimp only
    have hk:k≤x.locals.length:=hk'
    refine ac<|aa<|rn 1 [0,1,6,12,13,32,33,34,39,40,41] rfl<|ae<|ac<|ar rfl (fun hlt3=>?_) (fun hlt3=>?_)
    ·have hkl:k<x.locals.length:=by omega
     have hgk:=jN (x.locals.take k)
     rw[List.length_take] at hgk
     have hsk:=qc hkl
     refine aq (ak ?_)
     refine ac<|aE<|ac<|aa<|rn 2 [0,1,6,7,12,13,32,33,34,39,40] rfl<|ae<|aa<|rn 3 [0,1,6,12,13,32,33,34,39,40,43,44,45] rfl<|af (aQ (k:=k) aD aP (.ro hl) (by omega) rfl rfl rfl) rfl rfl<|ai (iV rfl rfl rfl Tryz.call123 (fun w hw=>r6 go (ab F1) (ao F1+k*2) (x.locals.getD k default) (pA hl hkl) (fun H w hw j u hu=>SF.val (SF.ro hl) hkl default w hw j u hu) (acc++cN (x.locals.take k)) A3 c3 (by simp only[List.length_append];omega) w (hw.msub (.s fc (.s fc .r))))) rfl rfl (fun⟨A4,c4⟩ _=>?_)
     try dsimp only
     refine bu (aH (ak ?_))
     refine aa<|af (a6 rfl rfl rfl (by omega)) rfl rfl<|rn 1 [0,1,6,12,13,32,33,34,39,40] rfl ?_
     rw[List.append_assoc,←hsk]
     refine aX (k+1,(A4,c4)) (by show k+1≤_;omega) (by show _ - _<_ - _;omega) ⟨rfl,rfl,rfl,rfl,rfl,rfl,rfl,rfl,rfl,rfl,trivial⟩ (fun w h=>h.msub ms)
    obtain rfl:k=x.locals.length:=by omega
    rw[List.take_length]
    refine bz (aG (aG (bO (aH (ak ?_)))))
    refine aa<|af (a6 rfl rfl rfl (by omega)) rfl rfl<|rn 1 [0,1,12,13,32,33,34] rfl<|aX (1,(A3,c3)) ((by decide:1≤2)) (by show 2 - 1<2 - 0;decide) ⟨rfl,rfl,rfl,rfl,rfl,rfl,rfl,trivial⟩ (fun w h=>h.msub ms)
   try dsimp only
   rw[if_neg (by decide),if_pos rfl]
   refine aq (ak ?_)
   refine ac<|aE<|ac<|aa<|af (fV (k:=1) dP dF rfl (by decide) rfl rfl rfl) rfl rfl ?_
   refine af (aZ (fun w hw=>eq (v:= .slice F2 x.stack.length d2) fc rfl w hw) rfl rfl bZ) rfl rfl ?_
   refine rn 1 [0,1,6,12,13,32,33,34] rfl<|ae<|ac<|aa<|rn 1 [0,1,6,12,13,32,33,34,38] rfl<|af (aL aD rfl rfl) rfl rfl<|rn 1 [0,1,6,12,13,32,33,34,39,40] rfl<|ae<|aE (bD (fun q:Nat×(Option Addr×Nat)=>q.1≤x.stack.length) (fun q=>x.stack.length - q.1) (fun q=> [(0,.pointer (some ⟨g,0,none⟩)),(1,.func (.func 123) #[] #[.pointer (some ⟨go,0,none⟩)]),(6,.slice F2 x.stack.length d2),(12,.int .i64 (m.frames.length:Int)),(13,.int .i64 (i:Int)),(32,.slice (some ⟨g1,0,none⟩) 2 2),(33,.int .i64 2),(34,.int .i64 1),(39,.int .i64 (x.stack.length:Int)),(40,.int .i64 (q.1:Int))]) (fun q=>az go [.slice q.2.1 ((acc++cN x.locals)++cN (x.stack.take q.1)).length q.2.2] 27::an (.slice q.2.1 ((acc++cN x.locals)++cN (x.stack.take q.1)).length q.2.2) ((acc++cN x.locals)++cN (x.stack.take q.1))::az g1 [.slice F1 x.locals.length d1,.slice F2 x.stack.length d2] 95::az g [.slice a.Af m.frames.length a.cf,.slice a.Ab m.blocks.length a.cb,.slice a.Ai m.inn.length a.ci,.slice a.Ao m.out.length a.co,.int .i64 m.status,.int .i64 m.trap] 29::H) (0,(A2,c2)) (Nat.zero_le _) ⟨rfl,rfl,rfl,rfl,rfl,rfl,rfl,rfl,rfl,rfl,trivial⟩ (fun w h=>(show Cw _ _ (az go [.slice A2 ((acc++cN x.locals)++cN (x.stack.take 0)).length c2] 27::an (.slice A2 ((acc++cN x.locals)++cN (x.stack.take 0)).length c2) ((acc++cN x.locals)++cN (x.stack.take 0))::az g1 [.slice F1 x.locals.length d1,.slice F2 x.stack.length d2] 95::az g [.slice a.Af m.frames.length a.cf,.slice a.Ab m.blocks.length a.cb,.slice a.Ai m.inn.length a.ci,.slice a.Ao m.out.length a.co,.int .i64 m.status,.int .i64 m.trap] 29::H) w from by rw[List.take_zero,show cN []= [] from rfl,List.append_nil];exact h.msub ms)) ?_)
   rintro⟨k,⟨A3,c3⟩⟩ hk'
   try dsimp only
   have hk:k≤x.stack.length:=hk'
   refine ac<|aa<|rn 1 [0,1,6,12,13,32,33,34,39,40,41] rfl<|ae<|ac<|ar rfl (fun hlt3=>?_) (fun hlt3=>?_)
   ·have hkl:k<x.stack.length:=by omega
    have hgk:=jN (x.stack.take k)
    rw[List.length_take] at hgk
    have hsk:=qc hkl
    refine aq (ak ?_)
    refine ac<|aE<|ac<|aa<|rn 2 [0,1,6,7,12,13,32,33,34,39,40] rfl<|ae<|aa<|rn 3 [0,1,6,12,13,32,33,34,39,40,43,44,45] rfl<|af (aQ (k:=k) aD aP (.ro hst) (by omega) rfl rfl rfl) rfl rfl<|ai (iV rfl rfl rfl Tryz.call123 (fun w hw=>r6 go (ab F2) (ao F2+k*2) (x.stack.getD k default) (pA hst hkl) (fun H w hw j u hu=>SF.val (SF.ro hst) hkl default w hw j u hu) ((acc++cN x.locals)++cN (x.stack.take k)) A3 c3 (by simp only[List.length_append];omega) w (hw.msub (.s fc (.s fc .r))))) rfl rfl (fun⟨A4,c4⟩ _=>?_)
    try dsimp only
    refine bu (aH (ak ?_))
    refine aa<|af (a6 rfl rfl rfl (by omega)) rfl rfl<|rn 1 [0,1,6,12,13,32,33,34,39,40] rfl ?_
    rw[List.append_assoc,←hsk]
    refine aX (k+1,(A4,c4)) (by show k+1≤_;omega) (by show _ - _<_ - _;omega) ⟨rfl,rfl,rfl,rfl,rfl,rfl,rfl,rfl,rfl,rfl,trivial⟩ (fun w h=>h.msub ms)
   obtain rfl:k=x.stack.length:=by omega
   rw[List.take_length]
   refine bz (aG (aG (bO (aH (ak ?_)))))
   refine aa<|af (a6 rfl rfl rfl (by omega)) rfl rfl<|rn 1 [0,1,12,13,32,33,34] rfl ?_
   rw[List.append_assoc]
   refine aX (2,(A3,c3)) ((by decide:2≤2)) (by show 2 - 2<2 - 1;decide) ⟨rfl,rfl,rfl,rfl,rfl,rfl,rfl,trivial⟩ (fun w h=>h.msub ms)
  obtain rfl:j=2:=by omega
  try dsimp only
  rw[if_neg (by decide),if_neg (by decide),←hsn]
  refine bz (aG (aG (bO (aH (ak ?_)))))
  refine aa<|af (a6 rfl rfl rfl (by omega)) rfl rfl<|rn 1 [0,1,12,13] rfl<|aX (i+1,(A2,c2)) (by show i+1≤_;omega) (by show _ - _<_ - _;omega) ⟨rfl,rfl,rfl,rfl,trivial⟩ (fun w h=>h.msub ms)
 obtain rfl:i=m.frames.length:=by omega
 rw[List.take_length]
 refine bz (aG (aG (bO ?_)))
 refine cq Tryz.results122 ?_
 intro w hw
 exact⟨(A1,c1),trivial,rfl,hw.msub ms⟩
end
end
section
theorem BR (R:List Int) (v:aR) (k:Nat):(⟨v.ref,(ek R v k).n⟩:aR)=ek R v k:=by
 have:=rC R v k
 cases h:ek R v k
 rw[h] at this
 rw[←this]
theorem rD {R:List Int} {v:aR} (h:a5 v.n):∀{k:Nat},k≤1000000→a5 (ek R v k).n
 | 0,_=>h
 | k+1,hk=>by
  unfold ek
  split
  ·show a5 ((k:Int)+1)
   unfold a5
   omega
  exact rD h (by omega)
set_option maxRecDepth 100000 in
set_option maxHeartbeats 4000000 in
theorem oL (A Ar:Option Addr) (c cr:Nat) (l:List aR) (R:List Int) (w:World) (hs:Sl w (.slice A l.length c) l) (hrs:Sl w (.slice Ar R.length cr) R) (hb:l.length≤1000) (hR:R.length≤1000) :
  Calls Tryz.prog 90 #[.slice A l.length c,.slice Ar R.length cr] w fun e w'=> ∃u,e= .returned u∧Below w.heap.size w w'∧dB w' w.heap.size u (l.map fun v=>ek R v R.length):=by
 refine enter Tryz.func90 rfl Tryz.ntmps90 rfl ?_
 refine ac<|aa<|rn 1 [0,1] rfl<|ae<|ac<|aa<|rn 1 [0,1,5] rfl<|ae<|ac<|ac<|aa<|rn 1 [0,1,5,6] rfl<|ae<|dx (fun w h=>Cw.nilO aR h) ?_
 refine aE (bD (fun g:Nat×Option Addr×Nat=>g.1≤l.length) (fun g=>l.length - g.1) (fun g=> [(0,.slice A l.length c),(1,.slice Ar R.length cr),(5,.slice g.2.1 ((l.take g.1).map fun v=>ek R v R.length).length g.2.2),(6,.int .i64 (g.1:Int))]) (fun g=> [an (.slice g.2.1 ((l.take g.1).map fun v=>ek R v R.length).length g.2.2) ((l.take g.1).map fun v=>ek R v R.length)]) (0,none,0) (Nat.zero_le _) ⟨rfl,rfl,rfl,rfl,trivial⟩ me ?_)
 rintro⟨i,A1,c1⟩ hi'
 try dsimp only
 have hi:i≤l.length:=hi'
 have hml:((l.take i).map fun v=>ek R v R.length).length=i:=by rw[List.length_map,List.length_take];omega
 refine ac<|ac<|aa<|rn 2 [0,1,5,6,9,10] rfl<|af (aL aD rfl rfl) rfl rfl<|rn 1 [0,1,5,6,12] rfl<|ae<|ar rfl (fun hlt=>?_) (fun hlt=>?_)
 ·have hil:i<l.length:=by omega
  have htk:((l.take (i+1)).map fun v=>ek R v R.length)=((l.take i).map fun v=>ek R v R.length)++ [⟨(l.getD i default).ref,(ek R (l.getD i default) R.length).n⟩]:=by
   rw[dL l i default hil,List.map_append,BR]
   rfl
  have hvi:=pA hs hil
  refine aq (ak ?_)
  refine ac<|aE<|ac<|aa<|rn 2 [0,1,5,6,15,16] rfl<|af (aQ (k:=i) aD aP (.ro hs) (by omega) rfl rfl rfl) rfl rfl<|af (cL (SF.val (SF.ro hs) hil default) rfl rfl dA aP) rfl rfl<|ai (a9 bK rfl rfl) rfl rfl (fun g1 _=>?_)
  refine ai (aM _ fc aP rfl rfl rfl rfl rfl (by rfl) rfl (by rfl)) rfl rfl (fun _ _=>?_)
  refine ae<|ac<|ac<|aa<|rn 1 [0,1,5,6,7,8] rfl<|ae<|aE (bD (fun k:Nat=>k≤R.length) (fun k=>R.length - k) (fun k=> [(0,.slice A l.length c),(1,.slice Ar R.length cr),(5,.slice A1 ((l.take i).map fun v=>ek R v R.length).length c1),(6,.int .i64 (i:Int)),(7,.pointer (some ⟨g1,0,none⟩)),(8,.int .i64 (k:Int))]) (fun k=> [az g1 [.bool (l.getD i default).ref,.int .i64 (ek R (l.getD i default) k).n] 103,an (.slice A1 ((l.take i).map fun v=>ek R v R.length).length c1) ((l.take i).map fun v=>ek R v R.length)]) 0 (Nat.zero_le _) ⟨rfl,rfl,rfl,rfl,rfl,rfl,trivial⟩ me ?_)
  rintro k hk'
  have hk:k≤R.length:=hk'
  refine ac<|ac<|aa<|rn 2 [0,1,5,6,7,8,19,20] rfl<|af (aL ag rfl rfl) rfl rfl<|rn 1 [0,1,5,6,7,8,22] rfl<|ae<|ar rfl (fun hlt2=>?_) (fun hlt2=>?_)
  ·have hkl:k<R.length:=by omega
   refine aq (ak ?_)
   refine ac<|aE<|ac<|bV (.still 0 (.still 1 (.still 2 (.still 3 (.still 4 (.still 5 (.still 6 (.still 7 (.still 8 (.still 9 (.still 10 (.still 11 (.still 12 (.still 13 (.still 14 (.still 15 (.still 16 .done))))))))))))))))) [] rfl (by kernel_rfl) (by kernel_rfl) ?_
   refine aS ha 2 [0,1,5,6,7,8,25,26] rfl<|av rfl (aQ (k:=i) aD aP (.ro hs) (by omega) rfl rfl rfl) rfl rfl ha ?_
   refine aS ha 1 [0,1,5,6,7,8,28] rfl<|av rfl (aZ (fun w hw=>(SF.val (SF.ro hs) hil default) w hw 0 _ rfl) rfl rfl eh) rfl rfl ha ?_
   refine aS ha 1 [0,1,5,6,7,8,30] rfl ?_
   rcases Bool.eq_false_or_eq_true (l.getD i default).ref with hr | hr
   ·rw[hr]
    refine eH (t:=30) (v':= .bool true) rfl (rfl) ?_
    refine aS ha 2 [0,1,5,6,7,8,30,31,32] rfl<|av rfl (aQ (k:=i) aD aP (.ro hs) (by omega) rfl rfl rfl) rfl rfl ha ?_
    refine aS ha 1 [0,1,5,6,7,8,30,34] rfl<|av rfl (aZ (fun w hw=>(SF.val (SF.ro hs) hil default) w hw 1 _ rfl) rfl rfl aw) rfl rfl ha ?_
    refine aS ha 2 [0,1,5,6,7,8,30,35,36,37] rfl<|av rfl (aQ (k:=k) ag aF (.ro hrs) (by omega) rfl rfl rfl) rfl rfl ha ?_
    refine av rfl (aZ (SF.int (.ro hrs) (by omega)) rfl rfl aw) rfl rfl ha ?_
    refine aS ha 2 [0,1,5,6,7,8,41] rfl<|cu<|ar rfl (fun he=>?_) (fun he=>?_)
    ·have hst:(ek R (l.getD i default) (k+1)).n=(k:Int)+1:=by unfold ek;rw[if_pos ⟨hr,he⟩]
     refine aa<|rn 1 [0,1,5,6,7,8,42] rfl<|af (a6 rfl rfl rfl (by omega)) rfl rfl<|rn 1 [0,1,5,6,7,8,43,44] rfl<|ai (aM _ fc aF rfl rfl rfl rfl rfl (by rfl) rfl (by rfl)) rfl rfl (fun _ _=>?_)
     refine bu (aH (ak ?_))
     refine aa<|rn 1 [0,1,5,6,7,23] rfl<|af (a6 rfl rfl rfl (by omega)) rfl rfl<|rn 1 [0,1,5,6,7,8] rfl<|aX (k+1) (by show k+1≤_;omega) (by show _ - _<_ - _;omega) ⟨rfl,rfl,rfl,rfl,rfl,rfl,trivial⟩ (fun w h=>by rw[hst];exact h.msub ms)
    have hst:(ek R (l.getD i default) (k+1)).n=(ek R (l.getD i default) k).n:=by rw[ek,if_neg (fun h=>he h.2)]
    refine aq (aH (ak ?_))
    refine aa<|rn 1 [0,1,5,6,7,23] rfl<|af (a6 rfl rfl rfl (by omega)) rfl rfl<|rn 1 [0,1,5,6,7,8] rfl<|aX (k+1) (by show k+1≤_;omega) (by show _ - _<_ - _;omega) ⟨rfl,rfl,rfl,rfl,rfl,rfl,trivial⟩ (fun w h=>by rw[hst];exact h.msub ms)
   have hst:(ek R (l.getD i default) (k+1)).n=(ek R (l.getD i default) k).n:=by rw[ek,if_neg (fun h=>by rw[hr] at h;cases h.1)]
   rw[hr]
   refine eH (t:=30) (v':= .bool false) rfl (rfl) ?_
   refine aS ha 11 [0,1,5,6,7,8,41] rfl<|cu<|cK rfl<|aq (aH (ak ?_))
   refine aa<|rn 1 [0,1,5,6,7,23] rfl<|af (a6 rfl rfl rfl (by omega)) rfl rfl<|rn 1 [0,1,5,6,7,8] rfl<|aX (k+1) (by show k+1≤_;omega) (by show _ - _<_ - _;omega) ⟨rfl,rfl,rfl,rfl,rfl,rfl,trivial⟩ (fun w h=>by rw[hst];exact h.msub ms)
  obtain rfl:k=R.length:=by omega
  refine bz (aG (aG (bO (ak ?_))))
  refine aa<|rn 1 [0,1,6,7,45] rfl<|af (aY (vs:= [_,_]) fc dA aP rfl rfl (by rfl) rfl) rfl rfl ?_
  refine ai (a8 (cs:= [_,_]) aD aP bK rfl rfl rfl rfl rfl) rfl rfl (fun g2 _=>?_)
  refine ai (dM (α:=aR) (bytes:=16) ⟨(l.getD i default).ref,(ek R (l.getD i default) R.length).n⟩ [] htk aD (bN dy) rfl (fH fc fc) (eI (rD hvi (by omega))) (by omega) (by omega) rfl rfl rfl) rfl rfl (fun⟨A3,c3⟩ _=>?_)
  try dsimp only
  refine rn 1 [0,1,5,6] rfl<|bu (aH (ak ?_))
  refine aa<|rn 1 [0,1,5,13] rfl<|af (a6 rfl rfl rfl (by omega)) rfl rfl<|rn 1 [0,1,5,6] rfl<|aX (i+1,A3,c3) (by show i+1≤_;omega) (by show _ - _<_ - _;omega) ⟨rfl,rfl,rfl,rfl,trivial⟩ me
 obtain rfl:i=l.length:=by omega
 rw[List.take_length]
 refine bz (aG (aG (bO (ak ?_))))
 refine ac<|aa<|rn 2 [4] rfl<|ae<|ap<|au Tryz.results90 (am rfl) ?_
 intro w hw
 exact⟨_,rfl,i6 hw⟩
end
section
theorem mn {l:List aR} {n:Int} :n∈cN l↔0<n∧∃v∈l,v.ref=true∧v.n=n:=by
 unfold cN
 rw[List.mem_map]
 constructor
 ·rintro⟨v,hv,rfl⟩
  obtain⟨h1,h2⟩:=List.mem_filter.1 hv
  simp only[Bool.and_eq_true,decide_eq_true_eq] at h2
  exact⟨h2.2,v,h1,h2.1,rfl⟩
 rintro⟨h0,v,hv,hr,rfl⟩
 exact⟨v,List.mem_filter.2 ⟨hv,by simp[hr,h0]⟩,rfl⟩
theorem wi {m:aI} {n:Int} :n∈ld m↔0<n∧ls m n=true:=by
 unfold ld
 rw[List.mem_flatMap,oq]
 constructor
 ·rintro⟨x,hx,h⟩
  rcases List.mem_append.1 h with h | h
  ·obtain⟨h0,v,hv,hr,e⟩:=mn.1 h
   exact⟨h0,x,hx,v,List.mem_append_left _ hv,hr,e⟩
  obtain⟨h0,v,hv,hr,e⟩:=mn.1 h
  exact⟨h0,x,hx,v,List.mem_append_right _ hv,hr,e⟩
 rintro⟨h0,x,hx,v,hv,hr,e⟩
 refine⟨x,hx,?_⟩
 rcases List.mem_append.1 hv with h | h
 ·exact List.mem_append_left _ (mn.2 ⟨h0,v,h,hr,e⟩)
 exact List.mem_append_right _ (mn.2 ⟨h0,v,h,hr,e⟩)
theorem zU {fs:List aA} {m:aI} (hR:de fs m):Lib.compact (iF (ld m))=bP m:=by
 obtain⟨h1,h2⟩:=pd (pX (ld m))
 refine j3 h1 (jQ m) fun n=>?_
 rw[h2,gg]
 unfold iF
 rw[List.mem_mergeSort,wi]
 constructor
 ·rintro⟨h0,h⟩
  obtain⟨x,hx,v,hv,hr,rfl⟩:=oq.1 h
  have:=pz hR hx hv hr
  exact⟨by omega,h⟩
 rintro⟨h0,h⟩
 exact⟨by omega,h⟩
theorem p4 {m:aI} :(bP m).length≤m.blocks.length:=by
 unfold bP
 rw[List.length_map]
 exact Nat.le_trans (List.length_filter_le _ _) (by rw[List.length_range];exact Nat.le_refl _)
theorem AA (w : World) : Calls Tryz.prog 202 #[.int .u64 0] w fun e w' => e = .returned (.int .i64 0) ∧ w = w' := by
  go_enter Tryz.func202, Tryz.ntmps202
  go_wp2
  all_goals (go_ret; exact ⟨dH (by kernel_rfl), rfl⟩)
set_option maxRecDepth 100000 in
theorem CL (w : World) : Calls Tryz.prog 157 #[.int .u64 0] w fun e w' => e = .returned (.int .i64 0) ∧ w = w' := by
  go_enter Tryz.func157, Tryz.ntmps157
  go_wp2_with (first
    | (go_at_call 202; refine (AA _).mono ?_; rintro e w' ⟨rfl, rfl⟩))
  all_goals (go_ret; exact ⟨rfl, rfl⟩)
theorem yF (A:Option Addr) (c:Nat) (w:World):Calls Tryz.prog 192 #[.slice A 0 c,.int .i64 0,.int .i64 0] w fun e w'=>e= .returned (.tuple #[])∧Below w.heap.size w w':=by
 refine enter Tryz.func192 rfl Tryz.ntmps192 rfl ?_
 refine ac<|aa<|rn 1 [0,1,2,8] rfl<|af (a6 rfl rfl rfl (by omega)) rfl rfl<|rn 1 [0,1,2,6] rfl<|ae<|aE (bD (fun _:Unit=>True) (fun _=>0) (fun _=> [(0,.slice A 0 c),(1,.int .i64 0),(2,.int .i64 0),(6,.int .i64 1)]) (fun _=> []) () (trivial) ⟨rfl,rfl,rfl,rfl,trivial⟩ me ?_)
 rintro _ _
 refine ac<|ac<|aa<|rn 3 [0,1,2,6,12] rfl<|ae<|ar rfl (fun h=>?_) (fun h=>?_)
 ·exact absurd h (by decide)
 refine bz (aG (aG (bO ?_)))
 refine cq Tryz.results192 ?_
 intro w hw
 exact⟨rfl,hw.below⟩
set_option maxRecDepth 100000 in
theorem yn (A:Option Addr) (c:Nat) (l:Int) (w:World):Calls Tryz.prog 156 #[.slice A 0 c,.int .i64 0,.int .i64 0,.int .i64 l] w fun e w'=>e= .returned (.tuple #[])∧Below w.heap.size w w':=by
 refine enter Tryz.func156 rfl Tryz.ntmps156 rfl ?_
 refine ac<|aa<|rn 1 [0,1,2,3,8] rfl<|ae<|ac<|aa<|rn 1 [0,1,2,3,8,9] rfl<|ae<|aE (bD (fun _:Unit=>True) (fun _=>0) (fun _=> [(0,.slice A 0 c),(1,.int .i64 0),(2,.int .i64 0),(3,.int .i64 l),(8,.bool true),(9,.bool true)]) (fun _=> []) () (trivial) ⟨rfl,rfl,rfl,rfl,rfl,rfl,trivial⟩ me ?_)
 rintro _ _
 refine aE<|ac<|aa<|rn 2 [0,1,2,3,8,9,19,20] rfl<|af (cn rfl rfl rfl (by omega)) rfl rfl<|rn 1 [0,1,2,3,8,9,10] rfl<|ae<|ac<|ac<|aa<|rn 2 [0,1,2,3,8,9,10,23] rfl<|ae<|ar rfl (fun h=>?_) (fun h=>?_)
 ·refine ac<|aa<|rn 3 [24,25,26] rfl<|ai (bB rfl rfl rfl Tryz.call192 (fun w hw=>yF A c w)) rfl rfl (fun _ _=>?_)
  refine ae<|ap (ah (aC (ah (aC ?_))))
  refine tI Tryz.results156 ?_
  intro w hw
  exact⟨rfl,hw.below⟩
 exact absurd (show (0:Int)≤12 by decide) h
set_option maxRecDepth 100000 in
theorem vT (A : Option Addr) (c : Nat) (w : World) : Calls Tryz.prog 124 #[.slice A 0 c] w fun e w' => e = .returned (.tuple #[]) ∧ Below w.heap.size w w' := by
  go_enter Tryz.func124, Tryz.ntmps124
  go_wp2_with (first
    | (go_at_call 157; refine (CL _).mono ?_; rintro e w' ⟨rfl, rfl⟩)
    | (go_at_call 156; refine (yn _ _ _ _).mono ?_; rintro e w' ⟨rfl, hb⟩))
  all_goals (go_end0; exact ⟨rfl, (by repeat (first | exact Below.refl _ _ | assumption | refine Below.drew ?_ | refine Below.drewN_ ?_ _ | refine bF ?_ _ | refine cd (by assumption) ?_ | refine cC ?_ (by simp <;> omega) _))⟩)
theorem sa (A:Option Addr) (c:Nat) (w:World):Calls Tryz.prog 125 #[.slice A 0 c] w fun e w'=>e= .returned (.slice A 0 c)∧Below w.heap.size w w':=
 (Any.slices_Compact_int_empty Tryz.laysCompact A c w).mono fun _ _ ⟨h1,h2⟩=>⟨h1,by rw[h2];exact Below.refl _ _⟩
set_option maxRecDepth 100000 in
set_option maxHeartbeats 1000000 in
theorem rh (fs:List aA) (a:MA) (m:aI) (w:World) (hm:dE w.heap.size w a m) (hF:eZ fs) (hR:de fs m) :
  Calls Tryz.prog 88 #[.agg #[.slice a.Af m.frames.length a.cf,.slice a.Ab m.blocks.length a.cb,.slice a.Ai m.inn.length a.ci,.slice a.Ao m.out.length a.co,.int .i64 m.status,.int .i64 m.trap]] w fun e w'=> ∃q:Option Addr×Nat,True∧e= .returned (.slice q.1 (bP m).length q.2)∧Cw w.heap.size w [an (.slice q.1 (bP m).length q.2) (bP m)] w':=by
 have hfs:∀x∈m.frames,x.locals.length≤1000∧x.stack.length≤8:=fun x hx=>by
  obtain⟨i,hi,rfl⟩:=List.getElem_of_mem hx
  have h:=mq hF hR hi
  have e:aN m.frames i=m.frames[i]:=by
   unfold aN
   rw[List.getD_eq_getElem?_getD,List.getElem?_eq_getElem hi]
   rfl
  rw[e] at h
  exact⟨h.2,h.1⟩
 have heq:=zU hR
 refine enter Tryz.func88 rfl Tryz.ntmps88 rfl ?_
 refine ac<|aa<|ai (bH rfl rfl rfl) rfl rfl (fun g1 _=>?_)
 refine rn 1 [1] rfl<|ae<|ac<|aa<|ai (a9 mC rfl rfl) rfl rfl (fun g2 _=>?_)
 refine ae<|dx (fun w h=>Cw.nilO Int h) ?_
 refine ac<|aa<|rn 1 [1,3,4] rfl<|ai (bg rfl rfl rfl Tryz.call122 (fun w hw=>xd g1 g2 a m hm hR.n6 hfs none 0 w (hw.msub (.s fc (.s fc (.s fc .r)))))) rfl rfl (fun⟨A1,c1⟩ _=>?_)
 try dsimp only
 refine ae<|ac<|aa<|af (aj fc aW rfl rfl (by rfl)) rfl rfl ?_
 generalize ld m=l at heq⊢
 generalize bP m=r at heq⊢
 subst heq
 rcases l with _ | ⟨x,l⟩
 ·rw[show iF ([]:List Int)= [] from by unfold iF;simp,show Lib.compact ([]:List Int)= [] from by decide]
  refine ai (bB rfl rfl rfl DW (fun w hw=>vT A1 c1 w)) rfl rfl (fun _ _=>?_)
  refine ae<|ac<|aa<|af (aj fc aW rfl rfl (by rfl)) rfl rfl ?_
  refine ai (bB rfl rfl rfl DV (fun w hw=>sa A1 c1 w)) rfl rfl (fun _ _=>?_)
  refine rn 1 [2] rfl<|ae<|ap<|au Tryz.results88 (am rfl) ?_
  intro w hw
  exact⟨(A1,c1),trivial,rfl,hw.msub ms⟩
 have hsl:(iF (x::l)).length=(x::l).length:=by unfold iF;exact List.length_mergeSort _
 refine ai (bg rfl rfl rfl DW (fun w hw=>qZ (hw.msub (.s fc .r)) (Nat.succ_pos _) (pL hw fc))) rfl rfl (fun _ _=>?_)
 refine ae<|ac<|aa<|af (aj fc aW rfl rfl (by rfl)) rfl rfl ?_
 refine ai (bg rfl rfl rfl DV (fun w hw=>nM (hw.msub (.s fc .r)) (Nat.succ_pos _) (pL hw fc))) rfl rfl (fun _ _=>?_)
 refine rn 1 [2] rfl<|ae<|ap<|au Tryz.results88 (am rfl) ?_
 intro w hw
 exact⟨(A1,c1),trivial,rfl,hw.msub ms⟩
end
section
theorem w8 {l:List Int} {v:Int} (h:v∈l):∃k:Nat,kv l v=k∧k<l.length∧l.getD k 0=v:=by
 unfold kv
 cases e:l.findIdx? (· == v) with
 | none=>
  rw[List.findIdx?_eq_none_iff] at e
  have:=e v h
  simp at this
 | some k=>
  rw[List.findIdx?_eq_some_iff_getElem] at e
  obtain⟨h1,h2,_⟩:=e
  refine⟨k,rfl,h1,?_⟩
  rw[List.getD_eq_getElem?_getD,List.getElem?_eq_getElem h1]
  simpa using h2
def fX {α:Type} (l:List α) (f:α→α) (k:Nat):List α:=(l.take k).map f++l.drop k
section
variable {B:Nat} {w0:World} {H:List a4}
set_option maxRecDepth 100000 in
set_option maxHeartbeats 1000000 in
theorem r7 (g4 g6:Nat) (R:List Int) (r:Int→Int) (hri:∀n∈R,a5 (r n)) (T1 R1:Option Addr) (t1 r1:Nat) (A:Option Addr) (m c k:Nat) (xs:List aR) (hk:k<m) (hok:nG (fun n=>n∈R) (xs.getD k default)) (hpos:(xs.getD k default).ref=true→0≤(xs.getD k default).n) (w:World)
  (hw:Cw B w0 (an (.slice A m c) xs::az g6 [.slice T1 (R.map r).length t1] 27::an (.slice T1 (R.map r).length t1) (R.map r)::az g4 [.slice R1 R.length r1] 27::an (.slice R1 R.length r1) R::H) w) :
  Calls Tryz.prog 127 #[.pointer (some ⟨ab A,ao A+k*2,none⟩),.pointer (some ⟨g6,0,none⟩),.pointer (some ⟨g4,0,none⟩)] w fun e w'=> ∃_:Unit,True∧e= .returned (.tuple #[])∧Cw B w0 (an (.slice A m c) (xs.set k (cR r (xs.getD k default)))::az g6 [.slice T1 (R.map r).length t1] 27::an (.slice T1 (R.map r).length t1) (R.map r)::az g4 [.slice R1 R.length r1] 27::an (.slice R1 R.length r1) R::H) w':=by
 have hl:xs.length=m:=by
  obtain⟨F,h,_⟩:=hw.rd cz.a
  exact bM.len_eq (cy.sl (show cy w F _ xs from h))
 have hself:xs.set k (xs.getD k default)=xs:=by
  apply List.ext_getElem?
  intro i
  rw[List.getElem?_set]
  split
  ·rename_i e
   subst e
   rw[List.getD_eq_getElem?_getD,if_pos (by omega),List.getElem?_eq_getElem (by omega)]
   rfl
  rfl
 generalize hv:xs.getD k default=v at hok hpos hself⊢
 refine cB Tryz.func127 rfl Tryz.ntmps127 rfl hw ?_
 refine ac<|aa<|rn 3 [0,1,2,6] rfl<|af (aZ (fun w hw=>(SF.val (SF.own hl fc) hk default) w hw 0 _ rfl) rfl rfl eh) rfl rfl ?_
 refine rn 1 [0,1,2,8] rfl ?_
 rw[hv]
 rcases Bool.eq_false_or_eq_true v.ref with hr | hr
 ·rw[hr]
  refine bU (t:=8) (v':= .bool true) rfl (rfl) ?_
  refine rn 3 [0,1,2,8,11] rfl<|af (aZ (fun w hw=>(SF.val (SF.own hl fc) hk default) w hw 1 _ rfl) rfl rfl aw) rfl rfl ?_
  refine rn 2 [0,1,2,14] rfl<|ae ?_
  rw[hv]
  refine ar rfl (fun hn=>?_) (fun hn=>?_)
  ·have hn:0<v.n:=hn
   have hin:=hok hr (by omega)
   obtain⟨q,hq1,hq2,hq3⟩:=w8 hin
   have hqm:q<(R.map r).length:=by rw[List.length_map];exact hq2
   have hren:cR r v=⟨true,r v.n⟩:=by unfold cR;rw[if_pos ⟨hr,by omega⟩]
   have hat:(R.map r).getD q 0=r v.n:=by
    rw[List.getD_eq_getElem?_getD,List.getElem?_map,List.getElem?_eq_getElem hq2]
    rw[List.getD_eq_getElem?_getD,List.getElem?_eq_getElem hq2] at hq3
    show r R[q]=_
    rw[show R[q]=v.n from hq3]
   refine bV (.still 0 (.still 1 (.still 2 (.still 3 (.still 4 (.still 5 (.still 6 (.pick 7 (.still 8 (.still 9 (.still 10 (.still 11 (.pick 12 .done .stop))))) .stop)))))))) [12] rfl (by kernel_rfl) (by kernel_rfl) ?_
   refine aS ha 1 [0,1,2,15] rfl<|av rfl (aj fc aW rfl rfl (by rfl)) rfl rfl ha ?_
   refine av rfl (aj fc aW rfl rfl (by rfl)) rfl rfl ha ?_
   refine aS ha 3 [15,16,17,20] rfl<|av rfl (aZ (fun w hw=>(SF.val (SF.own hl fc) hk default) w hw 1 _ rfl) rfl rfl aw) rfl rfl ha ?_
   rw[hv]
   refine aB rfl (bB rfl rfl rfl Tryz.call128 ((fun w hw=>eM ((fun w hw=>qa _ R v.n w (SF.at_ (SF.own rfl fc) hw)) w hw)))) rfl rfl (.inr fun _=>ha) (fun _ _=>?_) ay
   rw[hq1]
   refine av rfl (aQ (k:=q) ag aF (SF.own (xs:=R.map r) rfl fc) (by omega) rfl rfl rfl) rfl rfl ha ?_
   refine av rfl (aZ (SF.int (SF.own (xs:=R.map r) rfl fc) (by omega)) rfl rfl aw) rfl rfl ha ?_
   refine aS ha 2 [24,26] rfl ?_
   rw[hat]
   refine aB rfl (mP (α:=aR) (f:=1) (us:= [.int .i64 (r v.n)]) ⟨true,r v.n⟩ default (xs':=xs.set k (cR r v)) (by rw[hren]) fc hk (hri _ hin) aF rfl rfl rfl rfl rfl rfl (by rw[hv];show [Value.bool v.ref,_]=_;rw[hr];rfl) rfl) rfl rfl (.inl rfl) (fun _ _=>?_) ay
   refine cD<|cq Cy ?_
   intro w hw
   exact⟨(),trivial,rfl,hw.msub ms⟩
  have hn:¬0<v.n:=hn
  have hren:cR r v=v:=by unfold cR;rw[if_neg (fun h=>by have:=hpos hr;have:=h.2;omega)]
  rw[hren,hself]
  refine aq<|cq Cy ?_
  intro w hw
  exact⟨(),trivial,rfl,hw.msub ms⟩
 rw[hr]
 have hren:cR r v=v:=rg hr
 rw[hren,hself]
 refine bU (t:=8) (v':= .bool false) rfl (rfl) ?_
 refine rn 6 [0,1,2,14] rfl<|ae<|cK rfl<|aq<|cq Cy ?_
 intro w hw
 exact⟨(),trivial,rfl,hw.msub ms⟩
theorem pB {α:Type} (l:List α) (f:α→α):fX l f 0=l:=by unfold fX;simp
theorem qQ {α:Type} (l:List α) (f:α→α):fX l f l.length=l.map f:=by unfold fX;simp
theorem qP {α:Type} (l:List α) (f:α→α) (k:Nat):(fX l f k).length=l.length:=by unfold fX;simp;omega
theorem uo {α:Type} [Inhabited α] {l:List α} {f:α→α} {k:Nat} (hk:k<l.length):(fX l f k).getD k default=l.getD k default:=by
 unfold fX
 rw[List.getD_eq_getElem?_getD,List.getElem?_append_right (by simp;omega),List.length_map,List.length_take,Nat.min_eq_left (by omega),Nat.sub_self,List.getElem?_drop,List.getD_eq_getElem?_getD]
 rfl
theorem qO {α:Type} [Inhabited α] {l:List α} {f:α→α} {k:Nat} (hk:k<l.length):(fX l f k).set k (f (l.getD k default))=fX l f (k+1):=by
 unfold fX
 have h1:((l.take k).map f).length=k:=by rw[List.length_map,List.length_take];omega
 rw[List.set_append_right _ _ (by omega),h1,Nat.sub_self,dL l k default hk,List.map_append,List.append_assoc]
 congr 1
 rw[List.drop_eq_getElem_cons hk,List.set_cons_zero]
 rfl
def fG (r:Int→Int) (p:aU×aO):aU×aO:=(p.1,f9 r p.2)
def er (l:List (aU×aO)) (r:Int→Int) (i:Nat):List (aU×aO):=(fX l (fG r) i).eraseIdx i
theorem x8 {l:List (aU×aO)} {i:Nat} (hi:i<l.length) {w:World} (h:Cw B w0 (du l::H) w):∃A1 c1 A2 c2,l[i].1.lv= .slice A1 l[i].2.locals.length c1∧l[i].1.sv= .slice A2 l[i].2.stack.length c2:=by
 obtain⟨s1,s2⟩:=oK hi h
 obtain⟨A1,c1,e1,_⟩:=s1.form
 obtain⟨A2,c2,e2,_⟩:=s2.form
 exact⟨A1,c1,A2,c2,e1,e2⟩
set_option maxRecDepth 100000 in
set_option maxHeartbeats 4000000 in
theorem xc (g3 g4 g6:Nat) (R:List Int) (r:Int→Int) (hri:∀n∈R,a5 (r n)) (T1 R1 Af:Option Addr) (t1 r1 n cf:Nat) (rest:List Value) (l:List (aU×aO)) (hs:List aU) (hln:l.length=n) (hls:l.map Prod.fst=hs) (hn6:n≤6)
  (hok:∀p∈l,oQ (fun n=>n∈R) p.2) (hpos:∀p∈l,∀v∈p.2.locals++p.2.stack,v.ref=true→0≤v.n) (w:World)
  (hw:Cw B w0 (az g3 (.slice Af n cf::rest) 29::an (.slice Af n cf) hs::du l::az g6 [.slice T1 (R.map r).length t1] 27::an (.slice T1 (R.map r).length t1) (R.map r)::az g4 [.slice R1 R.length r1] 27::an (.slice R1 R.length r1) R::H) w) :
  Calls Tryz.prog 122 #[.pointer (some ⟨g3,0,none⟩),.func (.func 127) #[] #[.pointer (some ⟨g6,0,none⟩),.pointer (some ⟨g4,0,none⟩)]] w fun e w'=> ∃_:Unit,True∧e= .returned (.tuple #[])∧Cw B w0 (az g3 (.slice Af n cf::rest) 29::an (.slice Af n cf) hs::du (l.map (fG r))::az g6 [.slice T1 (R.map r).length t1] 27::an (.slice T1 (R.map r).length t1) (R.map r)::az g4 [.slice R1 R.length r1] 27::an (.slice R1 R.length r1) R::H) w':=by
 have hhl:hs.length=n:=by rw[←hls,List.length_map,hln]
 refine cB Tryz.func122 rfl Tryz.ntmps122 rfl hw ?_
 refine ac<|aa<|rn 3 [0,1,10] rfl<|af (aj fc bG rfl rfl (by rfl)) rfl rfl ?_
 refine af (aL aT rfl rfl) rfl rfl<|rn 1 [0,1,12,13] rfl<|ae<|aE (bD (fun i:Nat=>i≤n) (fun i=>n - i) (fun i=> [(0,.pointer (some ⟨g3,0,none⟩)),(1,.func (.func 127) #[] #[.pointer (some ⟨g6,0,none⟩),.pointer (some ⟨g4,0,none⟩)]),(12,.int .i64 (n:Int)),(13,.int .i64 (i:Int))]) (fun i=>du (fX l (fG r) i)::az g3 (.slice Af n cf::rest) 29::an (.slice Af n cf) hs::az g6 [.slice T1 (R.map r).length t1] 27::an (.slice T1 (R.map r).length t1) (R.map r)::az g4 [.slice R1 R.length r1] 27::an (.slice R1 R.length r1) R::H) 0 (Nat.zero_le _) ⟨rfl,rfl,rfl,rfl,trivial⟩ (fun w h=>(show Cw _ _ (du (fX l (fG r) 0)::az g3 (.slice Af n cf::rest) 29::an (.slice Af n cf) hs::az g6 [.slice T1 (R.map r).length t1] 27::an (.slice T1 (R.map r).length t1) (R.map r)::az g4 [.slice R1 R.length r1] 27::an (.slice R1 R.length r1) R::H) w from by rw[pB];exact h.msub ms)) ?_)
 rintro i hi'
 have hi:i≤n:=hi'
 refine ac<|aa<|rn 1 [0,1,12,13,14] rfl<|ae<|ac<|ar rfl (fun hlt=>?_) (fun hlt=>?_)
 ·have hil:i<l.length:=by omega
  have hul:=qP l (fG r) i
  have hatI:(fX l (fG r) i)[i]'(by omega)=l[i]:=by
   have:=uo (f:=fG r) hil
   rw[List.getD_eq_getElem?_getD,List.getElem?_eq_getElem (by omega),List.getD_eq_getElem?_getD,List.getElem?_eq_getElem hil] at this
   exact this
  refine fa (p:= ∃A1 c1 A2 c2,l[i].1.lv= .slice A1 l[i].2.locals.length c1∧l[i].1.sv= .slice A2 l[i].2.stack.length c2) (fun w hw=>by
   have:=x8 (l:=fX l (fG r) i) (i:=i) (by omega) hw
   rw[hatI] at this
   exact this) fun⟨A1,c1,A2,c2,e1,e2⟩=>?_
  refine dx (fun w h=>ra (l:=fX l (fG r) i) (k:=i) (by omega) h) ?_
  rw[hatI]
  have hset:(fX l (fG r) i).set i (fG r l[i])=fX l (fG r) (i+1):=by
   have:=qO (f:=fG r) hil
   rw[List.getD_eq_getElem?_getD,List.getElem?_eq_getElem hil] at this
   exact this
  have hmemI:=List.getElem_mem hil
  obtain⟨hok1,hok2⟩:=hok _ hmemI
  have hpos1:∀v∈l[i].2.locals,v.ref=true→0≤v.n:=fun v hv=>hpos _ hmemI v (List.mem_append_left _ hv)
  have hpos2:∀v∈l[i].2.stack,v.ref=true→0≤v.n:=fun v hv=>hpos _ hmemI v (List.mem_append_right _ hv)
  have hhd:hs.getD i default=⟨l[i].1.func,l[i].1.pc,.slice A1 l[i].2.locals.length c1,.slice A2 l[i].2.stack.length c2⟩:=by
   rw[←hls,List.getD_eq_getElem?_getD,List.getElem?_map,List.getElem?_eq_getElem hil,←e1,←e2]
   rfl
  have hback:∀w,Cw B w0 (an l[i].1.lv (fG r l[i]).2.locals::an l[i].1.sv (fG r l[i]).2.stack::du (er l r i)::az g3 (.slice Af n cf::rest) 29::an (.slice Af n cf) hs::az g6 [.slice T1 (R.map r).length t1] 27::an (.slice T1 (R.map r).length t1) (R.map r)::az g4 [.slice R1 R.length r1] 27::an (.slice R1 R.length r1) R::H) w→Cw B w0 (du (fX l (fG r) (i+1))::az g3 (.slice Af n cf::rest) 29::an (.slice Af n cf) hs::az g6 [.slice T1 (R.map r).length t1] 27::an (.slice T1 (R.map r).length t1) (R.map r)::az g4 [.slice R1 R.length r1] 27::an (.slice R1 R.length r1) R::H) w:=fun w h=>by
   have:=tO (l:=fX l (fG r) i) (k:=i) (q:=fG r l[i]) (by omega) h
   rwa [hset] at this
  show CW _ _ _ _ _ _ _ (an l[i].1.lv l[i].2.locals::an l[i].1.sv l[i].2.stack::du (er l r i)::az g3 (.slice Af n cf::rest) 29::an (.slice Af n cf) hs::az g6 [.slice T1 (R.map r).length t1] 27::an (.slice T1 (R.map r).length t1) (R.map r)::az g4 [.slice R1 R.length r1] 27::an (.slice R1 R.length r1) R::H)
  rw[e1,e2] at hback⊢
  have hrl:(fG r l[i]).2.locals=l[i].2.locals.map (cR r):=rfl
  have hrs:(fG r l[i]).2.stack=l[i].2.stack.map (cR r):=rfl
  rw[hrl,hrs] at hback
  generalize l[i].1.func=hf0 at hhd
  generalize l[i].1.pc=hp0 at hhd
  generalize l[i].2.locals=L1 at *
  generalize l[i].2.stack=L2 at *
  refine fa (p:=L1.length≤140737488355328∧L2.length≤140737488355328) (fun w hw=>⟨bR (SF.at_ (SF.own (α:=aR) (xs:=L1) rfl fc) hw),bR (SF.at_ (SF.own (α:=aR) (xs:=L2) rfl fc) hw)⟩) fun⟨lb1,lb2⟩=>?_
  refine aq (ak ?_)
  refine ac<|aE<|ac<|aa<|rn 2 [0,1,4,12,13] rfl<|ae<|ac<|bV (.still 0 (.still 1 (.still 2 (.still 3 (.still 4 (.still 5 (.still 6 (.still 7 (.still 8 (.still 9 (.still 10 (.still 11 (.still 12 (.still 13 (.still 14 (.still 15 (.still 18 (.pick 16 (.still 17 .done) .stop)))))))))))))))))) [] rfl (by kernel_rfl) (by kernel_rfl) ?_
  refine aS ha 3 [0,1,4,12,13,18] rfl<|av rfl (aj fc bG rfl rfl (by rfl)) rfl rfl ha ?_
  refine aS ha 1 [0,1,4,12,13,19,20] rfl<|av rfl (aQ (k:=i) aT a7 (SF.own (α:=aU) hhl fc) (by omega) rfl rfl rfl) rfl rfl ha ?_
  refine aS ha 1 [0,1,4,12,13,22] rfl<|av rfl (aZ (fun w hw=>(SF.hfr (SF.own (α:=aU) hhl fc) (k:=i) (by omega) hhd) w hw 2 _ rfl) rfl rfl bZ) rfl rfl ha ?_
  refine aS ha 3 [0,1,4,12,13,23,26] rfl<|av rfl (aj fc bG rfl rfl (by rfl)) rfl rfl ha ?_
  refine aS ha 1 [0,1,12,13,23,27,28] rfl<|av rfl (aQ (k:=i) aT a7 (SF.own (α:=aU) hhl fc) (by omega) rfl rfl rfl) rfl rfl ha ?_
  refine aS ha 1 [0,1,12,13,23,30] rfl<|av rfl (aZ (fun w hw=>(SF.hfr (SF.own (α:=aU) hhl fc) (k:=i) (by omega) hhd) w hw 3 _ rfl) rfl rfl bZ) rfl rfl ha ?_
  refine aS ha 1 [0,1,12,13,23,31,34] rfl<|aB rfl (a8 (cs:= [_,_]) dP dF Bs rfl rfl rfl rfl rfl) rfl rfl (.inr fun _=>ha) (fun g1 _=>?_) ay
  refine av rfl (aL dP rfl rfl) rfl rfl ha ?_
  refine cu<|aE (bD (fun j:Nat=>j≤2) (fun j=>2 - j) (fun j=> [(0,.pointer (some ⟨g3,0,none⟩)),(1,.func (.func 127) #[] #[.pointer (some ⟨g6,0,none⟩),.pointer (some ⟨g4,0,none⟩)]),(12,.int .i64 (n:Int)),(13,.int .i64 (i:Int)),(32,.slice (some ⟨g1,0,none⟩) 2 2),(33,.int .i64 2),(34,.int .i64 (j:Int))]) (fun j=>an (.slice A1 L1.length c1) (if j=0 then L1 else L1.map (cR r))::an (.slice A2 L2.length c2) (if j=2 then L2.map (cR r) else L2)::du (er l r i)::az g1 [.slice A1 L1.length c1,.slice A2 L2.length c2] 95::az g3 (.slice Af n cf::rest) 29::an (.slice Af n cf) hs::az g6 [.slice T1 (R.map r).length t1] 27::an (.slice T1 (R.map r).length t1) (R.map r)::az g4 [.slice R1 R.length r1] 27::an (.slice R1 R.length r1) R::H) 0 (Nat.zero_le _) ⟨rfl,rfl,rfl,rfl,rfl,rfl,rfl,trivial⟩ (fun w h=>h.msub ms) ?_)
  rintro j hj'
  have hj:j≤2:=hj'
  refine ac<|aa<|rn 1 [0,1,12,13,32,33,34,35] rfl<|ae<|ac<|ar rfl (fun hlt2=>?_) (fun hlt2=>?_)
  ·rcases(show j=0∨j=1 by omega) with rfl | rfl
   ·rw[if_pos rfl,if_neg (by decide)]
    refine aq (ak ?_)
    refine ac<|aE<|ac<|aa<|af (fV (k:=0) dP dF rfl (by decide) rfl rfl rfl) rfl rfl ?_
    refine af (aZ (fun w hw=>eq (v:= .slice A1 L1.length c1) fc rfl w hw) rfl rfl bZ) rfl rfl ?_
    refine rn 1 [0,1,6,12,13,32,33,34] rfl<|ae<|ac<|aa<|rn 1 [0,1,6,12,13,32,33,34,38] rfl<|af (aL aD rfl rfl) rfl rfl<|rn 1 [0,1,6,12,13,32,33,34,39,40] rfl<|ae<|aE (bD (fun k:Nat=>k≤L1.length) (fun k=>L1.length - k) (fun k=> [(0,.pointer (some ⟨g3,0,none⟩)),(1,.func (.func 127) #[] #[.pointer (some ⟨g6,0,none⟩),.pointer (some ⟨g4,0,none⟩)]),(6,.slice A1 L1.length c1),(12,.int .i64 (n:Int)),(13,.int .i64 (i:Int)),(32,.slice (some ⟨g1,0,none⟩) 2 2),(33,.int .i64 2),(34,.int .i64 0),(39,.int .i64 (L1.length:Int)),(40,.int .i64 (k:Int))]) (fun k=>an (.slice A1 L1.length c1) (fX L1 (cR r) k)::an (.slice A2 L2.length c2) L2::du (er l r i)::az g1 [.slice A1 L1.length c1,.slice A2 L2.length c2] 95::az g3 (.slice Af n cf::rest) 29::an (.slice Af n cf) hs::az g6 [.slice T1 (R.map r).length t1] 27::an (.slice T1 (R.map r).length t1) (R.map r)::az g4 [.slice R1 R.length r1] 27::an (.slice R1 R.length r1) R::H) 0 (Nat.zero_le _) ⟨rfl,rfl,rfl,rfl,rfl,rfl,rfl,rfl,rfl,rfl,trivial⟩ (fun w h=>(show Cw _ _ (an (.slice A1 L1.length c1) (fX L1 (cR r) 0)::an (.slice A2 L2.length c2) L2::du (er l r i)::az g1 [.slice A1 L1.length c1,.slice A2 L2.length c2] 95::az g3 (.slice Af n cf::rest) 29::an (.slice Af n cf) hs::az g6 [.slice T1 (R.map r).length t1] 27::an (.slice T1 (R.map r).length t1) (R.map r)::az g4 [.slice R1 R.length r1] 27::an (.slice R1 R.length r1) R::H) w from by rw[pB];exact h.msub ms)) ?_)
    rintro k hk'
    have hk:k≤L1.length:=hk'
    have hul:=qP L1 (cR r) k
    refine ac<|aa<|rn 1 [0,1,6,12,13,32,33,34,39,40,41] rfl<|ae<|ac<|ar rfl (fun hlt3=>?_) (fun hlt3=>?_)
    ·have hkl:k<L1.length:=by omega
     have hat:=uo (f:=cR r) hkl
     have hmem:=eX (d:=(default:aR)) hkl
     refine aq (ak ?_)
     refine ac<|aE<|ac<|aa<|rn 2 [0,1,6,7,12,13,32,33,34,39,40] rfl<|ae<|aa<|rn 3 [0,1,6,12,13,32,33,34,39,40,43,44,45] rfl<|af (aQ (k:=k) aD aP (SF.own (xs:=fX L1 (cR r) k) hul fc) (by omega) rfl rfl rfl) rfl rfl ?_
     refine ai (iV rfl rfl rfl Tryz.call127 (fun w hw=>r7 g4 g6 R r hri T1 R1 t1 r1 A1 L1.length c1 k (fX L1 (cR r) k) hkl (by rw[hat];exact hok1 _ hmem) (by rw[hat];exact hpos1 _ hmem) w (hw.msub (.s fc (.s fc (.s fc (.s fc (.s fc .r)))))))) rfl rfl (fun _ _=>?_)
     refine bu (aH (ak ?_))
     refine aa<|af (a6 rfl rfl rfl (by omega)) rfl rfl<|rn 1 [0,1,6,12,13,32,33,34,39,40] rfl ?_
     rw[hat,qO hkl]
     refine aX (k+1) (by show k+1≤_;omega) (by show _ - _<_ - _;omega) ⟨rfl,rfl,rfl,rfl,rfl,rfl,rfl,rfl,rfl,rfl,trivial⟩ (fun w h=>h.msub ms)
    obtain rfl:k=L1.length:=by omega
    rw[qQ]
    refine bz (aG (aG (bO (aH (ak ?_)))))
    refine aa<|af (a6 rfl rfl rfl (by omega)) rfl rfl<|rn 1 [0,1,12,13,32,33,34] rfl<|aX 1 ((by decide:1≤2)) (by show 2 - 1<2 - 0;decide) ⟨rfl,rfl,rfl,rfl,rfl,rfl,rfl,trivial⟩ (fun w h=>h.msub ms)
   rw[if_neg (by decide),if_neg (by decide)]
   refine aq (ak ?_)
   refine ac<|aE<|ac<|aa<|af (fV (k:=1) dP dF rfl (by decide) rfl rfl rfl) rfl rfl ?_
   refine af (aZ (fun w hw=>eq (v:= .slice A2 L2.length c2) fc rfl w hw) rfl rfl bZ) rfl rfl ?_
   refine rn 1 [0,1,6,12,13,32,33,34] rfl<|ae<|ac<|aa<|rn 1 [0,1,6,12,13,32,33,34,38] rfl<|af (aL aD rfl rfl) rfl rfl<|rn 1 [0,1,6,12,13,32,33,34,39,40] rfl<|ae<|aE (bD (fun k:Nat=>k≤L2.length) (fun k=>L2.length - k) (fun k=> [(0,.pointer (some ⟨g3,0,none⟩)),(1,.func (.func 127) #[] #[.pointer (some ⟨g6,0,none⟩),.pointer (some ⟨g4,0,none⟩)]),(6,.slice A2 L2.length c2),(12,.int .i64 (n:Int)),(13,.int .i64 (i:Int)),(32,.slice (some ⟨g1,0,none⟩) 2 2),(33,.int .i64 2),(34,.int .i64 1),(39,.int .i64 (L2.length:Int)),(40,.int .i64 (k:Int))]) (fun k=>an (.slice A2 L2.length c2) (fX L2 (cR r) k)::an (.slice A1 L1.length c1) (L1.map (cR r))::du (er l r i)::az g1 [.slice A1 L1.length c1,.slice A2 L2.length c2] 95::az g3 (.slice Af n cf::rest) 29::an (.slice Af n cf) hs::az g6 [.slice T1 (R.map r).length t1] 27::an (.slice T1 (R.map r).length t1) (R.map r)::az g4 [.slice R1 R.length r1] 27::an (.slice R1 R.length r1) R::H) 0 (Nat.zero_le _) ⟨rfl,rfl,rfl,rfl,rfl,rfl,rfl,rfl,rfl,rfl,trivial⟩ (fun w h=>(show Cw _ _ (an (.slice A2 L2.length c2) (fX L2 (cR r) 0)::an (.slice A1 L1.length c1) (L1.map (cR r))::du (er l r i)::az g1 [.slice A1 L1.length c1,.slice A2 L2.length c2] 95::az g3 (.slice Af n cf::rest) 29::an (.slice Af n cf) hs::az g6 [.slice T1 (R.map r).length t1] 27::an (.slice T1 (R.map r).length t1) (R.map r)::az g4 [.slice R1 R.length r1] 27::an (.slice R1 R.length r1) R::H) w from by rw[pB];exact h.msub ms)) ?_)
   rintro k hk'
   have hk:k≤L2.length:=hk'
   have hul:=qP L2 (cR r) k
   refine ac<|aa<|rn 1 [0,1,6,12,13,32,33,34,39,40,41] rfl<|ae<|ac<|ar rfl (fun hlt3=>?_) (fun hlt3=>?_)
   ·have hkl:k<L2.length:=by omega
    have hat:=uo (f:=cR r) hkl
    have hmem:=eX (d:=(default:aR)) hkl
    refine aq (ak ?_)
    refine ac<|aE<|ac<|aa<|rn 2 [0,1,6,7,12,13,32,33,34,39,40] rfl<|ae<|aa<|rn 3 [0,1,6,12,13,32,33,34,39,40,43,44,45] rfl<|af (aQ (k:=k) aD aP (SF.own (xs:=fX L2 (cR r) k) hul fc) (by omega) rfl rfl rfl) rfl rfl ?_
    refine ai (iV rfl rfl rfl Tryz.call127 (fun w hw=>r7 g4 g6 R r hri T1 R1 t1 r1 A2 L2.length c2 k (fX L2 (cR r) k) hkl (by rw[hat];exact hok2 _ hmem) (by rw[hat];exact hpos2 _ hmem) w (hw.msub (.s fc (.s fc (.s fc (.s fc (.s fc .r)))))))) rfl rfl (fun _ _=>?_)
    refine bu (aH (ak ?_))
    refine aa<|af (a6 rfl rfl rfl (by omega)) rfl rfl<|rn 1 [0,1,6,12,13,32,33,34,39,40] rfl ?_
    rw[hat,qO hkl]
    refine aX (k+1) (by show k+1≤_;omega) (by show _ - _<_ - _;omega) ⟨rfl,rfl,rfl,rfl,rfl,rfl,rfl,rfl,rfl,rfl,trivial⟩ (fun w h=>h.msub ms)
   obtain rfl:k=L2.length:=by omega
   rw[qQ]
   refine bz (aG (aG (bO (aH (ak ?_)))))
   refine aa<|af (a6 rfl rfl rfl (by omega)) rfl rfl<|rn 1 [0,1,12,13,32,33,34] rfl<|aX 2 ((by decide:2≤2)) (by show 2 - 2<2 - 1;decide) ⟨rfl,rfl,rfl,rfl,rfl,rfl,rfl,trivial⟩ (fun w h=>h.msub ms)
  obtain rfl:j=2:=by omega
  rw[if_neg (by decide),if_pos rfl]
  refine bz (aG (aG (bO (aH (ak ?_)))))
  refine aa<|af (a6 rfl rfl rfl (by omega)) rfl rfl<|rn 1 [0,1,12,13] rfl<|aX (i+1) (by show i+1≤_;omega) (by show _ - _<_ - _;omega) ⟨rfl,rfl,rfl,rfl,trivial⟩ (fun w h=>hback w (h.msub ms))
 obtain rfl:i=n:=by omega
 rw[←hln,qQ]
 refine bz (aG (aG (bO ?_)))
 refine cq Tryz.results122 ?_
 intro w hw
 exact⟨(),trivial,rfl,hw.msub ms⟩
end
end
section
theorem zd (m:aI):(dr m).frames.length=m.frames.length:=by unfold dr;simp
theorem yc (r:Int→Int) (l:List (aU×aO)):(l.map (fG r)).map Prod.fst=l.map Prod.fst:=by rw[List.map_map];rfl
theorem yb (r:Int→Int) (l:List (aU×aO)):(l.map (fG r)).map Prod.snd=(l.map Prod.snd).map (f9 r):=by rw[List.map_map,List.map_map];rfl
theorem zT {r:Int→Int} {l:List (aU×aO)} (h:eY l):eY (l.map (fG r)):=fun p hp=>by
 obtain⟨q,hq,rfl⟩:=List.mem_map.1 hp
 exact h q hq
set_option maxRecDepth 100000 in
set_option maxHeartbeats 4000000 in
theorem ve (fs:List aA) (a:MA) (m:aI) (w:World) (hm:dE w.heap.size w a m) (hF:eZ fs) (hR:de fs m) :
  Calls Tryz.prog 89 #[.agg #[.slice a.Af m.frames.length a.cf,.slice a.Ab m.blocks.length a.cb,.slice a.Ai m.inn.length a.ci,.slice a.Ao m.out.length a.co,.int .i64 m.status,.int .i64 m.trap]] w fun e w'=> ∃g:MA,True∧
   e= .returned (.agg #[.slice g.Af (dr m).frames.length g.cf,.slice g.Ab (dr m).blocks.length g.cb,.slice g.Ai (dr m).inn.length g.ci,.slice g.Ao (dr m).out.length g.co,.int .i64 (dr m).status,.int .i64 (dr m).trap])∧Cw w.heap.size w [an (.slice g.Af (dr m).frames.length g.cf) (dr m).frames,an (.slice g.Ab (dr m).blocks.length g.cb) (dr m).blocks,an (.slice g.Ai (dr m).inn.length g.ci) (dr m).inn,an (.slice g.Ao (dr m).out.length g.co) (dr m).out] w':=by
 have hb8:=(f7 hR.bl).1
 have hrl:=p4 (m:=m)
 have hin:∀r∈bP m,0≤r∧r≤m.blocks.length:=fun r hr=>by have:=(gg.1 hr).1;omega
 have hri:∀n∈bP m,a5 (dC m.blocks (bP m) n):=fun n hn=>by
  have h1:=hin n hn
  have h2:=gI m.blocks (bP m) n.toNat
  unfold dC
  split
  ·exact⟨by omega,by omega⟩
  exact⟨by omega,by omega⟩
 rw[zd]
 refine enter Tryz.func89 rfl Tryz.ntmps89 rfl ?_
 refine ac<|aa<|ai (bH rfl rfl rfl) rfl rfl (fun g1 _=>?_)
 refine ai (a9 bw rfl rfl) rfl rfl (fun g2 _=>?_)
 refine ae<|ac<|aa<|af (aY (vs:= [_,_,_,_,_,_]) fc bd aJ rfl rfl (by rfl) rfl) rfl rfl ?_
 refine ai (dg rfl rfl rfl oB (fun w hw=>jI a m w (dE.ro hw hm) (nB hF hR))) rfl rfl (fun g0 _=>?_)
 refine ai (a9 bw rfl rfl) rfl rfl (fun g3 _=>?_)
 refine ai (aM _ fc aJ rfl rfl rfl rfl rfl (by rfl) rfl (by rfl)) rfl rfl (fun _ _=>?_)
 refine ae<|ac<|aa<|af (aY (vs:= [_,_,_,_,_,_]) fc bd aJ rfl rfl (by rfl) rfl) rfl rfl ?_
 refine ai (dg rfl rfl rfl Tryz.call88 (fun w hw=>rh fs a m w (dE.ro hw hm) hF hR)) rfl rfl (fun⟨R1,r1⟩ _=>?_)
 try dsimp only
 refine ai (a9 mC rfl rfl) rfl rfl (fun g4 _=>?_)
 refine ai (aM _ fc bJ rfl rfl rfl rfl rfl (by rfl) rfl (by rfl)) rfl rfl (fun _ _=>?_)
 refine ae<|ac<|aa<|rn 1 [2,3,4,12] rfl<|af (aj fc dp rfl rfl (by rfl)) rfl rfl ?_
 refine af (aj fc aW rfl rfl (by rfl)) rfl rfl ?_
 refine ai (dg rfl rfl rfl Tryz.call126 (fun w hw=>CM a.Ab R1 a.cb r1 m.blocks (bP m) w (hw.ro hm.b) (SF.at_ (SF.own rfl fc) hw) (nm.of_check hR.bl) hin (by omega))) rfl rfl (fun⟨⟨K1,k1⟩,⟨T1,t1⟩⟩ _=>?_)
 try dsimp only
 refine rn 3 [2,3,4,16,17] rfl<|ai (a9 mC rfl rfl) rfl rfl (fun g5 _=>?_)
 refine rn 1 [2,3,4,5,6,17] rfl<|ai (aM _ fc bJ rfl rfl rfl rfl rfl (by rfl) rfl (by rfl)) rfl rfl (fun _ _=>?_)
 refine ae<|ac<|aa<|rn 2 [2,3,4,6,18,19] rfl<|ai (aM _ fc fM rfl rfl rfl rfl rfl (by rfl) rfl (by rfl)) rfl rfl (fun _ _=>?_)
 refine ae<|xi (xs:=m.frames) (v:= .slice g0.Af m.frames.length g0.cf) fc fun l hl hok=>?_
 have hll:l.length=m.frames.length:=by rw[←hl,List.length_map]
 have hmem:∀p∈l,p.2∈m.frames:=fun p hp=>by rw[←hl];exact List.mem_map_of_mem hp
 refine ac<|aa<|rn 1 [2,3,20] rfl<|ai (bg rfl rfl rfl Tryz.call122 (fun w hw=>xc g3 g4 g5 (bP m) (dC m.blocks (bP m)) hri T1 R1 g0.Af t1 r1 m.frames.length g0.cf [.slice K1 (ck m.blocks (bP m) m.blocks.length).length k1,.slice g0.Ai m.inn.length g0.ci,.slice g0.Ao m.out.length g0.co,.int .i64 m.status,.int .i64 m.trap] l (l.map Prod.fst) hll rfl hR.n6 (fun p hp=>se hR _ (hmem p hp)) (fun p hp v hv hr=>(pz hR (hmem p hp) hv hr).1) w (hw.msub (.s fc (.s fc (.s fc (.s fc (.s fc (.s fc (.s fc .r)))))))))) rfl rfl (fun _ _=>?_)
 refine ae<|ac<|aa<|af (aY (vs:= [_,_,_,_,_,_]) fc bd aJ rfl rfl (by rfl) rfl) rfl rfl ?_
 refine ai (aM _ fc aJ rfl rfl rfl rfl rfl (by rfl) rfl (by rfl)) rfl rfl (fun _ _=>?_)
 refine ae<|ap<|au Tryz.results89 (eF (cs:= [_,_,_,_,_,_]) fc bd aJ rfl) ?_
 intro w hw
 refine⟨⟨g0.Af,g0.cf,K1,k1,g0.Ai,g0.ci,g0.Ao,g0.co⟩,trivial,rfl,?_⟩
 have h1:=m6 (v:= .slice g0.Af m.frames.length g0.cf) (l:=l.map (fG (dC m.blocks (bP m)))) (H:= [an (.slice K1 (ck m.blocks (bP m) m.blocks.length).length k1) (ck m.blocks (bP m) m.blocks.length),an (.slice g0.Ai m.inn.length g0.ci) m.inn,an (.slice g0.Ao m.out.length g0.co) m.out]) (zT hok) (by rw[yc];exact hw.msub ms)
 rw[yb,hl] at h1
 exact h1
def lB (fs:List aA) (m:aI):aI×Int:=if dI fs m=0 then (dr m,(m.blocks.length:Int) - (dr m).blocks.length) else (default,0)
set_option maxRecDepth 100000 in
set_option maxHeartbeats 4000000 in
theorem nN (Ap:Option Addr) (cp:Nat) (fs:List aA) (a:MA) (m:aI) (r:aI×Int) (hr:lB fs m=r) (w:World) (hs:Sl w (.slice Ap fs.length cp) fs) (hm:dE w.heap.size w a m) (hfit:ie m.frames) :
  Calls Tryz.prog 35 #[.agg #[.slice Ap fs.length cp],.agg #[.slice a.Af m.frames.length a.cf,.slice a.Ab m.blocks.length a.cb,.slice a.Ai m.inn.length a.ci,.slice a.Ao m.out.length a.co,.int .i64 m.status,.int .i64 m.trap]] w fun e w'=> ∃g:MA,True∧
   e= .returned (.tuple #[.agg #[.slice g.Af r.1.frames.length g.cf,.slice g.Ab r.1.blocks.length g.cb,.slice g.Ai r.1.inn.length g.ci,.slice g.Ao r.1.out.length g.co,.int .i64 r.1.status,.int .i64 r.1.trap],.int .i64 r.2,.int .i64 (dI fs m)])∧Cw w.heap.size w [an (.slice g.Af r.1.frames.length g.cf) r.1.frames,an (.slice g.Ab r.1.blocks.length g.cb) r.1.blocks,an (.slice g.Ai r.1.inn.length g.ci) r.1.inn,an (.slice g.Ao r.1.out.length g.co) r.1.out] w':=by
 refine enter Tryz.func35 rfl Tryz.ntmps35 rfl ?_
 refine ac<|aa<|ai (bH rfl rfl rfl) rfl rfl (fun g1 _=>?_)
 refine ai (bH rfl rfl rfl) rfl rfl (fun g2 _=>?_)
 refine ai (a9 bw rfl rfl) rfl rfl (fun g3 _=>?_)
 refine rn 2 [2,3,4] rfl<|ae<|ac<|ac<|aa<|af (aY (vs:= [_]) fc cA cg rfl rfl (by rfl) rfl) rfl rfl ?_
 refine af (aY (vs:= [_,_,_,_,_,_]) fc bd aJ rfl rfl (by rfl) rfl) rfl rfl ?_
 refine ai (bB rfl rfl rfl Ed (fun w hw=>mc Ap cp fs a m w (hw.ro hs) (dE.ro hw hm) hfit)) rfl rfl (fun _ _=>?_)
 refine rn 1 [3,4,7] rfl<|ae<|ac<|aa<|rn 2 [3,4,7,13] rfl<|ae<|bX rfl (fun h=>?_) (fun h=>?_)
 ·have h:¬dI fs m=0:=h
  have e:r=(default,0):=by rw[←hr];unfold lB;rw[if_neg h]
  subst e
  refine ac<|aa<|af (cU (cs:= [_,_,_,_,_,_]) jk bw rfl rfl (by rfl)) rfl rfl ?_
  refine rn 1 [4,14,15] rfl<|ai (aM _ fc aJ rfl rfl rfl rfl rfl (by rfl) rfl (by rfl)) rfl rfl (fun _ _=>?_)
  refine rn 2 [4,5,6] rfl<|ae<|ap (ah ?_)
  refine kz Tryz.results35 (eF (cs:= [_,_,_,_,_,_]) fc bd aJ rfl) (am rfl) (am rfl) ?_
  intro w hw
  exact⟨⟨none,0,none,0,none,0,none,0⟩,trivial,rfl,(jL hw).msub ms⟩
 have h:dI fs m=0:=h
 obtain⟨hF,hR⟩:=nt h
 have e:r=(dr m,(m.blocks.length:Int) - (dr m).blocks.length):=by rw[←hr];unfold lB;rw[if_pos h]
 subst e
 have hb8:=(f7 hR.bl).1
 have hc8:=(f7 (xk hR).bl).1
 refine aq (ak ?_)
 refine ac<|aa<|af (aY (vs:= [_,_,_,_,_,_]) fc bd aJ rfl rfl (by rfl) rfl) rfl rfl ?_
 refine ai (dg rfl rfl rfl Tryz.call89 (fun w hw=>ve fs a m w (dE.ro hw hm) hF hR)) rfl rfl (fun g _=>?_)
 refine ai (a9 bw rfl rfl) rfl rfl (fun g4 _=>?_)
 refine ai (aM _ fc aJ rfl rfl rfl rfl rfl (by rfl) rfl (by rfl)) rfl rfl (fun _ _=>?_)
 refine ae ?_
 generalize dr m=c at hc8⊢
 refine ac<|fB (.still 0 (.still 1 (.still 2 (.still 3 (.still 4 (.still 5 (.still 6 (.still 7 (.pick 8 (.still 9 (.still 10 .done)) .stop))))))))) [] rfl (by kernel_rfl) (by kernel_rfl) [az g4 [.slice g.Af c.frames.length g.cf,.slice g.Ab c.blocks.length g.cb,.slice g.Ai c.inn.length g.ci,.slice g.Ao c.out.length g.co,.int .i64 c.status,.int .i64 c.trap] 29,az g2 [.slice a.Af m.frames.length a.cf,.slice a.Ab m.blocks.length a.cb,.slice a.Ai m.inn.length a.ci,.slice a.Ao m.out.length a.co,.int .i64 m.status,.int .i64 m.trap] 29] ?_
 refine av rfl (aY (vs:= [_,_,_,_,_,_]) fc bd aJ rfl rfl (by rfl) rfl) rfl rfl ha ?_
 refine aS ha 1 [4,8,18,19] rfl<|av rfl (aj fc dp rfl rfl (by rfl)) rfl rfl ha ?_
 refine av rfl (aL bj rfl rfl) rfl rfl ha ?_
 refine aS ha 1 [4,18,21,22] rfl<|av rfl (aj fc dp rfl rfl (by rfl)) rfl rfl ha ?_
 refine av rfl (aL bj rfl rfl) rfl rfl ha ?_
 refine av rfl (cn rfl rfl rfl (by omega)) rfl rfl ha ?_
 refine aB rfl (aM _ fc aJ rfl rfl rfl rfl rfl (by rfl) rfl (by rfl)) rfl rfl (.inr fun _=>ha) (fun _ _=>?_) ay
 refine aS ha 2 [4,5,6] rfl<|cu<|ap<|kz Tryz.results35 (eF (cs:= [_,_,_,_,_,_]) fc bd aJ rfl) (am rfl) (am rfl) ?_
 intro w hw
 exact⟨g,trivial,by rw[h],hw.msub ms⟩
end
section
theorem xS {α:Type} :∀(l:List α) (k:Nat) (d:α),l.set k (l.getD k d)=l
 | [],_,_=>rfl
 | _::_,0,_=>rfl
 | x::l,k+1,d=>congrArg (x:: ·) (xS l k d)
def BU (a:MA) (m:aI):iA:=⟨.slice a.Af m.frames.length a.cf,.slice a.Ab m.blocks.length a.cb,.slice a.Ai m.inn.length a.ci,.slice a.Ao m.out.length a.co,m.status,m.trap⟩
section
variable {P:Program} {n:NF} {B:Nat} {w0:World} {H H':List a4} {Q:Exit→Act→World→Prop} {env:cM} {x:Code} {ops:Array Oper} {os:List Oper}
theorem tW {α:Type} [Ow α] {w:World} {F:Nat→Prop} {v:Value} {xs:List α} (h:cy w F v xs):∃A c,v= .slice A xs.length c:=by
 obtain⟨A,c,e,_⟩:=(cy.sl h).form
 exact⟨A,c,e⟩
abbrev RM (a:MA) (m:aI) (H:List a4):List a4:=an (.slice a.Af m.frames.length a.cf) m.frames::an (.slice a.Ab m.blocks.length a.cb) m.blocks::an (.slice a.Ai m.inn.length a.ci) m.inn::an (.slice a.Ao m.out.length a.co) m.out::H
structure Eb (B:Nat) (w0:World) (X:a4) (L:List aI) (k:Nat) (hs:List iA) (a:MA):Prop where
 len:hs.length=L.length
 hd:hs.getD k default=BU a (jm L k)
 i64:a5 (jm L k).status∧a5 (jm L k).trap
 back:∀(v:Value) (g:MA) (m:aI) H w,Cw B w0 (an v (hs.set k (BU g m))::RM g m (X::H)) w→Cw B w0 (an v (L.set k m)::H) w
structure D9 (B:Nat) (w0:World) (X:a4) (L:List aI) (hs:List iA):Prop where
 el:∀i,i<L.length→∃a:MA,hs.getD i default=BU a (jm L i)∧(a5 (jm L i).status∧a5 (jm L i).trap)∧
  ∀H H',cz H X H'→SF B w0 H a.Af (jm L i).frames.length a.cf (jm L i).frames∧SF B w0 H a.Ab (jm L i).blocks.length a.cb (jm L i).blocks∧SF B w0 H a.Ai (jm L i).inn.length a.ci (jm L i).inn∧SF B w0 H a.Ao (jm L i).out.length a.co (jm L i).out
 len:hs.length=L.length
 back:∀H H' H'' v w,cz H (an v hs) H'→cz H' X H''→Cw B w0 H w→Cw B w0 (an v L::H'') w
theorem SF.min {a:MA} {m:aI} {w:World} (h:SF B w0 H a.Af m.frames.length a.cf m.frames∧SF B w0 H a.Ab m.blocks.length a.cb m.blocks∧SF B w0 H a.Ai m.inn.length a.ci m.inn∧SF B w0 H a.Ao m.out.length a.co m.out) (hi:a5 m.status∧a5 m.trap) (hw:Cw B w0 H w):dE w.heap.size w a m:=
 ⟨SF.at_ h.1 hw,SF.at_ h.2.1 hw,SF.at_ h.2.2.1 hw,SF.at_ h.2.2.2 hw,hi.1,hi.2⟩
end
end
section
section
variable {P:Program} {n:NF} {B:Nat} {w0:World} {H H':List a4} {Q:Exit→Act→World→Prop} {env:cM} {x:Code} {ops:Array Oper} {os:List Oper} {Hq:List a4} {fin:List Nat} {r:fT}
end
structure Dy (B:Nat) (w0:World) (fs:List aA) (m:aI) (a:MA) (li:List (aU×aO)) (k:Nat) (Ap:Option Addr) (cp:Nat) (f p0 p1:Int) (l s:List aR) (o:bT) (fr:Int):Prop where
 hk:li.length=k
 hok:eY li
 hp:bM w0 B (.slice Ap fs.length cp) fs
 hm:dE B w0 a m
 fit:sE m
 nd:mw fs m.blocks.length ⟨f,p1,l,s⟩ o
 bl:cc m.blocks=0
 sl:s.length≤900
 ol:m.out.length≤1000
 k6:k≤1000
 hst:∀q∈li,q.2.stack.length≤1000
 oa:a5 o.a
 pi:a5 f∧a5 p0∧a5 p1
 si:∀v∈s,a5 v.n
 lv:∀v∈l,a5 v.n
 hms:a5 m.status
 fn:0≤f∧f<fs.length∧fr=(ax fs f.toNat).result∧0≤fr
 mf:m.frames.length=k+1
 isn:o.c=19→0≤(bQ s).n∧(bQ s).n≤m.blocks.length
 of:dh fs m=o
 fs:m.frames=li.map Prod.snd++ [⟨f,p0,l,s⟩]
 ib:m.inn.length≤1000
 ii:∀z∈m.inn,a5 z
 sI:∀v∈s,v.n≤2147483647
section
variable {B:Nat} {w0:World} {Q:Exit→Act→World→Prop} (gp gm gr go gc gf gs gn k:Nat) (li:List (aU×aO)) (A Al As Ap Ab Ai Ao:Option Addr) (c cl cs cp cb ci co:Nat) (a:MA) (m:aI) (f p0 p1 fr:Int) (l s:List aR) (o:bT) (fs:List aA) (rz:List Value) (fx0 fx1 fx3:Value) (hrz:rz.length=6)
end
end
section
theorem Ds {α:Type} :∀(l:List α),l.length=6→∃a b c d e f,l= [a,b,c,d,e,f]
 | [a,b,c,d,e,f],_=>⟨a,b,c,d,e,f,rfl⟩
 | [],h=>by cases h
 | [_],h=>by cases h
 | [_,_],h=>by cases h
 | [_,_,_],h=>by cases h
 | [_,_,_,_],h=>by cases h
 | [_,_,_,_,_],h=>by cases h
 | _::_::_::_::_::_::_::_,h=>by simp only[List.length_cons] at h;omega
theorem vi {l:List (List Int)} {x:List Int} (h:x∈l):x.length≤cP l:=by
 unfold cP
 induction l with
 | nil=>cases h
 | cons y l ih=>
  rw[List.map_cons,List.sum_cons]
  rcases List.mem_cons.1 h with rfl | h
  ·omega
  have:=ih h
  omega
theorem Cj {bs:List (List Int)} (h:cc bs=0) (r:Int):((blk bs r).length:Int)≤40:=by
 obtain⟨_,h2,_⟩:=jV h
 by_cases hk:(r - 1).toNat<bs.length
 ·have h3:blk bs r∈bs:=eX hk
  have:=vi h3
  omega
 have h3:blk bs r= []:=by unfold blk;rw[List.getD_eq_getElem?_getD,List.getElem?_eq_none (by omega)];rfl
 rw[h3]
 simp
section
variable {P:Program} {n:NF} {B:Nat} {w0:World} {H H':List a4} {Q:Exit→Act→World→Prop} {env:cM} {x:Code} {ops:Array Oper} {os:List Oper} {Hq:List a4} {fin:List Nat} {r:fT}
end
section
variable {B:Nat} {w0:World} {Q:Exit→Act→World→Prop} (gp gm gr go gc gf gs gn k:Nat) (li:List (aU×aO)) (A Al As Ap Ab Ai Ao:Option Addr) (c cl cs cp cb ci co:Nat) (a:MA) (m:aI) (f p0 p1 fr:Int) (l s:List aR) (o:bT) (fs:List aA) (rz:List Value) (fx0 fx1 fx3:Value)
set_option maxRecDepth 100000 in
set_option maxHeartbeats 1000000 in
theorem DE (R:Dy B w0 fs m a li k Ap cp f p0 p1 l s o fr) (hc:o.c=18) (K:∀(s':List aR) (As':Option Addr) (cs':Nat) (l':List aR) (b':List (List Int)) (Ab':Option Addr) (cb':Nat) (i':List Int) (Ai':Option Addr) (ci':Nat) (o':List Int) (Ao':Option Addr) (co':Nat) (st' nx:Int),a5 nx∧a5 st'→di fs m (li.map Prod.snd) ⟨f,p1,l,s⟩ o= .inr ⟨li.map Prod.snd++ [⟨f,nx,l',s'⟩],b',i',o',st',m.trap⟩→XW ⟨551,[]⟩ B w0 Q .normal [(4,.pointer (some ⟨gr,0,none⟩)),(5,.pointer (some ⟨go,0,none⟩)),(6,.pointer (some ⟨ab A,ao A+k*4,none⟩)),(9,.pointer (some ⟨gs,0,none⟩)),(13,.int .i64 nx)] (az gs [.slice As' s'.length cs'] 95::an (.slice As' s'.length cs') s'::az gr rz 29::az go [.slice A (k+1) c,.slice Ab' b'.length cb',.slice Ai' i'.length ci',.slice Ao' o'.length co',.int .i64 st',.int .i64 m.trap] 29::an (.slice A (k+1) c) (li.map Prod.fst++ [(⟨f,p0,.slice Al l'.length cl,.slice As s.length cs⟩:aU)])::an (.slice Al l'.length cl) l'::du li::an (.slice Ab' b'.length cb') b'::an (.slice Ai' i'.length ci') i'::an (.slice Ao' o'.length co') o':: [])):CW Tryz.prog ⟨551,[]⟩ B w0 (wD [true,true,true,true,true,true,true,true,true,true,true,false,true,false,true,true,true,true,true,true,true,true,true,true,true,true,true,true,true,true,true,true,true,true,true,true,true,true,true,true,true,true,true,true,true,true,true,true,true,false] (Ci Tryz.f25)) Q [(4,.pointer (some ⟨gr,0,none⟩)),(5,.pointer (some ⟨go,0,none⟩)),(6,.pointer (some ⟨ab A,ao A+k*4,none⟩)),(9,.pointer (some ⟨gs,0,none⟩)),(13,.int .i64 p1)] [az gs [.slice As s.length cs] 95,an (.slice As s.length cs) s,az gp [.slice Ap fs.length cp] 24,az gm [.slice a.Af m.frames.length a.cf,.slice a.Ab m.blocks.length a.cb,.slice a.Ai m.inn.length a.ci,.slice a.Ao m.out.length a.co,.int .i64 m.status,.int .i64 m.trap] 29,az gr rz 29,az go [.slice A (k+1) c,.slice Ab m.blocks.length cb,.slice Ai m.inn.length ci,.slice Ao m.out.length co,.int .i64 m.status,.int .i64 m.trap] 29,az gc [.int .i64 o.c,.int .i64 o.a] 49,az gf [fx0,fx1,.int .i64 fr,fx3] 110,az gn [.int .i64 (s.length:Int)] 3,an (.slice A (k+1) c) (li.map Prod.fst++ [(⟨f,p0,.slice Al l.length cl,.slice As s.length cs⟩:aU)]),an (.slice Al l.length cl) l,du li,an (.slice Ab m.blocks.length cb) m.blocks,an (.slice Ai m.inn.length ci) m.inn,an (.slice Ao m.out.length co) m.out]:=by
 have hsl:=R.sl
 refine aa<|af (aj fc bZ rfl rfl (by rfl)) rfl rfl ?_
 refine af (cU (cs:= [_,_]) lK bK rfl rfl (by rfl)) rfl rfl ?_
 refine ai (a8 (cs:= [_,_]) aD aP bK rfl rfl rfl rfl rfl) rfl rfl (fun g1 _=>?_)
 refine ai (dM (α:=aR) (bytes:=16) (⟨true,0⟩) [] rfl aD (bN dy) rfl (fH fc fc) (eI (show a5 0 by decide)) (by omega) (by omega) rfl rfl rfl) rfl rfl (fun⟨A3,c3⟩ _=>?_)
 try dsimp only
 refine ai (aM _ fc dF rfl rfl rfl rfl rfl (by rfl) rfl (by rfl)) rfl rfl (fun _ _=>?_)
 refine bu<|CC (K (s++ [⟨true,0⟩]) A3 c3 l m.blocks Ab cb m.inn Ai ci m.out Ao co m.status p1 ⟨R.pi.2.2,R.hms⟩ (by dsimp only[di];rw[if_neg (by omega)];rw[if_neg (by omega)];rw[if_neg (by omega)];rw[if_neg (by omega)];rw[if_neg (by omega)];rw[if_neg (by omega)];rw[if_neg (by omega)];rw[if_neg (by omega)];rw[if_neg (by omega)];rw[if_neg (by omega)];rw[if_neg (by omega)];rw[if_neg (by omega)];rw[if_neg (by omega)];rw[if_neg (by omega)];dsimp only[iQ];rw[if_neg (by omega)];rw[if_neg (by omega)];rw[if_neg (by omega)];rw[if_neg (by omega)];rw[if_pos hc])) ⟨rfl,rfl,rfl,rfl,rfl,trivial⟩ me
end
end
section
section
variable {P:Program} {n:NF} {B:Nat} {w0:World} {H H':List a4} {Q:Exit→Act→World→Prop} {env:cM} {x:Code}
structure DB (B:Nat) (w0:World) (X:a4) (fr:List aO) (k:Nat) (hs:List aU) (Al:Option Addr) (cl:Nat) (As:Option Addr) (cs:Nat):Prop where
 len:hs.length=fr.length
 hd:hs.getD k default=⟨(aN fr k).func,(aN fr k).pc,.slice Al (aN fr k).locals.length cl,.slice As (aN fr k).stack.length cs⟩
 i64:a5 (aN fr k).func∧a5 (aN fr k).pc
 back:∀(v lv sv:Value) (y:aO) H w,Cw B w0 (an v (hs.set k ⟨y.func,y.pc,lv,sv⟩)::an lv y.locals::an sv y.stack::X::H) w→Cw B w0 (an v (fr.set k y)::H) w
theorem Ch {v:Value} {fr:List aO} {k:Nat} (hk:k<fr.length) (hp:cz H (an v fr) H') (h:∀X hs Al cl As cs,DB B w0 X fr k hs Al cl As cs→CW P n B w0 x Q env (an v hs::an (.slice Al (aN fr k).locals.length cl) (aN fr k).locals::an (.slice As (aN fr k).stack.length cs) (aN fr k).stack::X::H')):CW P n B w0 x Q env H:=fun a w hf hw=>by
 obtain⟨l,hl,hok,h3⟩:=rs (hw.perm hp)
 have hkl:k<l.length:=by rw[←List.length_map (f:=Prod.snd),hl];exact hk
 have h4:=h3.perm (List.Perm.swap ..)
 have h5:Cw B w0 (an l[k].1.lv l[k].2.locals::an l[k].1.sv l[k].2.stack::(du (l.eraseIdx k)::an v (l.map Prod.fst)::H')) w:=ra hkl h4
 have em:aN fr k=l[k].2:=by
  unfold aN
  rw[←hl,List.getD_eq_getElem?_getD,List.getElem?_map,List.getElem?_eq_getElem hkl]
  rfl
 obtain⟨F1,k1,_⟩:=h5.rd cz.a
 obtain⟨F2,k2,_⟩:=h5.rd (cz.s cz.a)
 obtain⟨Al,cl,e1⟩:=tW k1
 obtain⟨As,cs,e2⟩:=tW k2
 have e3:l[k].1.func=l[k].2.func∧l[k].1.pc=l[k].2.pc:=hok l[k] (List.getElem_mem hkl)
 have ea:l[k].1=⟨(aN fr k).func,(aN fr k).pc,.slice Al (aN fr k).locals.length cl,.slice As (aN fr k).stack.length cs⟩:=by
  rw[em,←e1,←e2,←e3.1,←e3.2]
 have hwf:aU.wf l[k].1:=jZ h3 .a (List.mem_map_of_mem (List.getElem_mem hkl))
 rw[e1,e2,←em] at h5
 refine h (du (l.eraseIdx k)) (l.map Prod.fst) Al cl As cs ⟨by rw[←hl,List.length_map,List.length_map],?_,?_,fun u lv sv y H1 w1 h=>?_⟩ a w hf (h5.msub ms)
 ·rw[List.getD_eq_getElem?_getD,List.getElem?_map,List.getElem?_eq_getElem hkl]
  exact ea
 ·rw[ea] at hwf
  exact hwf.1
 have hq:eY (l.set k (⟨y.func,y.pc,lv,sv⟩,y)):=hok.set (q:=(⟨y.func,y.pc,lv,sv⟩,y)) ⟨rfl,rfl⟩
 have h6:Cw B w0 (fz.parts ((⟨y.func,y.pc,lv,sv⟩:aU),y).1 ((⟨y.func,y.pc,lv,sv⟩:aU),y).2++du (l.eraseIdx k)::an u ((l.map Prod.fst).set k ⟨y.func,y.pc,lv,sv⟩)::H1) w1:=h.msub (T:=an lv y.locals::an sv y.stack::du (l.eraseIdx k)::an u ((l.map Prod.fst).set k ⟨y.func,y.pc,lv,sv⟩)::H1) ms
 have h7:=tO hkl h6
 have e1:(l.map Prod.fst).set k ⟨y.func,y.pc,lv,sv⟩=(l.set k (⟨y.func,y.pc,lv,sv⟩,y)).map Prod.fst:=by rw[List.map_set]
 rw[e1] at h7
 have h8:=m6 hq (h7.perm (List.Perm.swap ..))
 rw[List.map_set,hl] at h8
 exact h8
end
theorem rB {m:aI} {l:List aR} (h:mz (ri m) l):(l.map fun v=>ek (bP m) v (bP m).length)=l.map (cR (gH m)):=List.map_congr_left fun v hv=>yw (h v hv)
theorem vm (m:aI):(dr m).blocks=(bP m).map (blk m.blocks):=by
 show ck m.blocks (bP m) m.blocks.length=_
 rw[p8 m _ (Nat.le_refl _),List.filter_eq_self.2]
 intro n hn
 have:=(gg.1 hn).1
 simp only[decide_eq_true_eq]
 omega
def mS (m:aI) (i:Nat):List aO:=(m.frames.take i).map (f9 (gH m))++m.frames.drop i
theorem AG (m:aI) {i:Nat} (h:i≤m.frames.length):(mS m i).length=m.frames.length:=by unfold mS;rw[List.length_append,List.length_map,List.length_take,List.length_drop];omega
theorem w4 (m:aI) {i:Nat} (h:i<m.frames.length):aN (mS m i) i=aN m.frames i:=by
 unfold aN mS
 rw[lh (by rw[List.length_map,List.length_take];omega),kr,List.length_map,List.length_take]
 congr 1
 omega
theorem AF (m:aI) {i:Nat} (h:i<m.frames.length):mS m (i+1)=(mS m i).set i (f9 (gH m) (aN m.frames i)):=by
 have hl:((m.frames.take i).map (f9 (gH m))).length=i:=by rw[List.length_map,List.length_take];omega
 unfold mS
 rw[List.set_append_right _ _ (by omega),hl,Nat.sub_self,lG h,List.map_append,List.append_assoc]
 congr 1
 rw[List.drop_eq_getElem_cons h]
 rfl
set_option maxRecDepth 100000 in
set_option maxHeartbeats 4000000 in
theorem pI (fs:List aA) (a:MA) (m:aI) (w:World) (hm:dE w.heap.size w a m) (hF:eZ fs) (hR:de fs m) :
  Calls Tryz.prog 37 #[.agg #[.slice a.Af m.frames.length a.cf,.slice a.Ab m.blocks.length a.cb,.slice a.Ai m.inn.length a.ci,.slice a.Ao m.out.length a.co,.int .i64 m.status,.int .i64 m.trap]] w fun e w'=> ∃g:MA,True∧
   e= .returned (.agg #[.slice g.Af (dr m).frames.length g.cf,.slice g.Ab (dr m).blocks.length g.cb,.slice g.Ai (dr m).inn.length g.ci,.slice g.Ao (dr m).out.length g.co,.int .i64 (dr m).status,.int .i64 (dr m).trap])∧Cw w.heap.size w [an (.slice g.Af (dr m).frames.length g.cf) (dr m).frames,an (.slice g.Ab (dr m).blocks.length g.cb) (dr m).blocks,an (.slice g.Ai (dr m).inn.length g.ci) (dr m).inn,an (.slice g.Ao (dr m).out.length g.co) (dr m).out] w':=by
 have hfit:=nB hF hR
 have hb8:=(f7 hR.bl).1
 have hrl:=p4 (m:=m)
 have hn6:=hR.n6
 have hok:=se hR
 have hfs:∀x∈m.frames,x.locals.length≤1000∧x.stack.length≤8:=fun x hx=>by
  obtain⟨i,hi,rfl⟩:=List.getElem_of_mem hx
  have h:=mq hF hR hi
  unfold aN at h
  rw[List.getD_eq_getElem?_getD,List.getElem?_eq_getElem hi] at h
  exact⟨h.2,h.1⟩
 refine enter Tryz.func37 rfl Tryz.ntmps37 rfl ?_
 refine ac<|aa<|ai (bH rfl rfl rfl) rfl rfl (fun g1 _=>?_)
 refine ai (a9 bw rfl rfl) rfl rfl (fun g2 _=>?_)
 refine ae<|ac<|aa<|af (aY (vs:= [_,_,_,_,_,_]) fc bd aJ rfl rfl (by rfl) rfl) rfl rfl ?_
 refine ai (dg rfl rfl rfl Tryz.call75 (fun w hw=>uC a m w (hm.ro hw) hfit)) rfl rfl (fun⟨Af,cf,Ab0,cb0,Ai,ci,Ao,co⟩ _=>?_)
 try dsimp only
 refine ai (a9 bw rfl rfl) rfl rfl (fun g3 _=>?_)
 refine ai (aM _ fc aJ rfl rfl rfl rfl rfl (by rfl) rfl (by rfl)) rfl rfl (fun _ _=>?_)
 refine ae<|ac<|aa<|af (aY (vs:= [_,_,_,_,_,_]) fc bd aJ rfl rfl (by rfl) rfl) rfl rfl ?_
 refine ai (dg rfl rfl rfl Tryz.call36 (fun w hw=>oJ a m w (hm.ro hw) hfs hb8 hn6)) rfl rfl (fun⟨Ar,cr⟩ _=>?_)
 try dsimp only
 refine rn 1 [1,2,3,4] rfl<|ae<|ac<|aa<|rn 1 [1,2,3,4,11] rfl<|ai (aM _ fc fM rfl rfl rfl rfl rfl (by rfl) rfl (by rfl)) rfl rfl (fun _ _=>?_)
 refine ae<|ac<|ac<|aa<|rn 1 [1,2,3,4,5] rfl<|ae<|dx (fun w h=>Cw.nilO (List Int) h) ?_
 refine gR (fun g:Option Addr×Nat=>True) (fun g=> [(1,.pointer (some ⟨g1,0,none⟩)),(2,.pointer (some ⟨g2,0,none⟩)),(3,.pointer (some ⟨g3,0,none⟩)),(4,.slice Ar (bP m).length cr)]) (fun g=> [az g3 [.slice Af m.frames.length cf,.slice g.1 (dr m).blocks.length g.2,.slice Ai m.inn.length ci,.slice Ao m.out.length co,.int .i64 m.status,.int .i64 m.trap] 29,an (.slice g.1 (dr m).blocks.length g.2) (dr m).blocks,an (.slice Af m.frames.length cf) m.frames,an (.slice Ai m.inn.length ci) m.inn,an (.slice Ao m.out.length co) m.out,an (.slice Ar (bP m).length cr) (bP m),az g1 [.slice a.Af m.frames.length a.cf,.slice a.Ab m.blocks.length a.cb,.slice a.Ai m.inn.length a.ci,.slice a.Ao m.out.length a.co,.int .i64 m.status,.int .i64 m.trap] 29,az g2 [.slice none 0 0,.slice none 0 0,.slice none 0 0,.slice none 0 0,.int .i64 0,.int .i64 0] 29]) ?_ ?_
 ·refine aE (bD (fun g:Nat×Option Addr×Nat=>g.1≤(bP m).length) (fun g=>(bP m).length - g.1) (fun g=> [(1,.pointer (some ⟨g1,0,none⟩)),(2,.pointer (some ⟨g2,0,none⟩)),(3,.pointer (some ⟨g3,0,none⟩)),(4,.slice Ar (bP m).length cr),(5,.int .i64 (g.1:Int))]) (fun g=> [az g3 [.slice Af m.frames.length cf,.slice g.2.1 (((bP m).take g.1).map (blk m.blocks)).length g.2.2,.slice Ai m.inn.length ci,.slice Ao m.out.length co,.int .i64 m.status,.int .i64 m.trap] 29,an (.slice g.2.1 (((bP m).take g.1).map (blk m.blocks)).length g.2.2) (((bP m).take g.1).map (blk m.blocks)),an (.slice Af m.frames.length cf) m.frames,an (.slice Ai m.inn.length ci) m.inn,an (.slice Ao m.out.length co) m.out,an (.slice Ar (bP m).length cr) (bP m),az g1 [.slice a.Af m.frames.length a.cf,.slice a.Ab m.blocks.length a.cb,.slice a.Ai m.inn.length a.ci,.slice a.Ao m.out.length a.co,.int .i64 m.status,.int .i64 m.trap] 29,az g2 [.slice none 0 0,.slice none 0 0,.slice none 0 0,.slice none 0 0,.int .i64 0,.int .i64 0] 29]) (0,none,0) (Nat.zero_le _) ⟨rfl,rfl,rfl,rfl,rfl,trivial⟩ me ?_)
  rintro⟨i,A',c'⟩ hi'
  try dsimp only
  have hi:i≤(bP m).length:=hi'
  have hbl:(((bP m).take i).map (blk m.blocks)).length=i:=by rw[List.length_map,List.length_take];omega
  refine ac<|ac<|aa<|rn 2 [1,2,3,4,5,12,13] rfl<|af (aL ag rfl rfl) rfl rfl<|rn 1 [1,2,3,4,5,15] rfl<|ae<|ar rfl (fun hlt=>?_) (fun hlt=>?_)
  ·have hil:i<(bP m).length:=by omega
   have hz:=(gg.1 (eX (d:=(0:Int)) hil)).1
   obtain⟨z,hzz⟩:∃z:Nat,(bP m).getD i 0 - 1=z:=⟨((bP m).getD i 0 - 1).toNat,by omega⟩
   have hzl:z<m.blocks.length:=by omega
   obtain⟨A1,c1,hl1,hcell⟩:=hm.b.sub hzl
   have hlz:(m.blocks.getD z []).length≤40:=by have:=Cj hR.bl ((bP m).getD i 0);unfold blk at this;rw[show ((bP m).getD i 0 - 1).toNat=z from by omega] at this;omega
   have hst:((bP m).take (i+1)).map (blk m.blocks)=((bP m).take i).map (blk m.blocks)++ [m.blocks.getD z []]:=by
    rw[dL _ i 0 hil,List.map_append]
    show _++ [blk m.blocks ((bP m).getD i 0)]=_
    unfold blk
    rw[show ((bP m).getD i 0 - 1).toNat=z from by omega]
   refine aq (ak ?_)
   refine ac<|aE<|bV (.still 0 (.still 1 (.still 3 (.still 4 (.still 5 (.still 6 (.still 7 (.still 8 (.still 9 (.still 10 (.still 11 (.pick 2 (.pick 12 (.pick 13 (.pick 14 (.calm 15 (.pick 16 .done .stop)) .stop) .stop) .stop) .stop)))))))))))) [14,15,16] rfl (by kernel_rfl) (by kernel_rfl) ?_
   refine aS ha 1 [1,2,3,4,5,18] rfl<|av rfl (aj fc dp rfl rfl (by rfl)) rfl rfl ha ?_
   refine aS ha 1 [1,2,3,4,5,19,21] rfl<|av rfl (aj fc dp rfl rfl (by rfl)) rfl rfl ha ?_
   refine aS ha 2 [1,2,3,4,5,19,22,23,24] rfl<|av rfl (aQ (k:=i) ag aF (SF.own (xs:=bP m) (A:=Ar) (c:=cr) rfl fc) (by omega) rfl rfl rfl) rfl rfl ha ?_
   refine av rfl (aZ (SF.int (SF.own (xs:=bP m) (A:=Ar) (c:=cr) rfl fc) (by omega)) rfl rfl aw) rfl rfl ha ?_
   refine av rfl (cn rfl rfl rfl (by omega)) rfl rfl ha ?_
   refine eH (t:=27) (v':= .int .i64 (z:Int)) rfl (by rw[hzz]) ?_
   refine av rfl (aQ (k:=z) bj bJ (.ro hm.b) (by omega) rfl rfl rfl) rfl rfl ha ?_
   refine av rfl (aZ (hcell _) rfl rfl aW) rfl rfl ha ?_
   refine aB rfl ((a8 (cs:= []) ag aF aV rfl rfl rfl rfl rfl).mem (H'':=fun g=>an (.slice (some ⟨g,0,none⟩) 0 0) ([]:List Int)::_) fun g w h=>bW (α:=Int) (m:=0) [] rfl (by simp) rfl (by decide) h) rfl rfl (.inr fun _=>ha) (fun ge _=>?_) ay
   refine aB rfl (cT (α:=Int) (bytes:=8) (xs:= []) (ys:=m.blocks.getD z []) (List.nil_append _).symm ag (bN cJ) rfl fc (.ro hl1) (by simp only[List.length_nil];omega) (by simp only[List.length_nil];omega) rfl rfl rfl) rfl rfl (.inr fun _=>ha) (fun⟨A2,c2⟩ _=>?_) ay
   try dsimp only
   refine aB rfl (a8 (cs:= [_]) bj bJ mC rfl rfl rfl rfl rfl) rfl rfl (.inr fun _=>ha) (fun g4 _=>?_) ay
   refine aB rfl (dM (α:=List Int) (bytes:=24) (m.blocks.getD z []) [an (.slice A2 (m.blocks.getD z []).length c2) (m.blocks.getD z [])] hst bj (bN jX) rfl (zu (R:=an (.slice A' (((bP m).take i).map (blk m.blocks)).length c') _) fc fc fc) wS (by omega) (by omega) rfl rfl rfl) rfl rfl (.inl rfl) (fun⟨A5,c5⟩ _=>?_) ay
   try dsimp only
   refine dY 1 [1,2,3,4,5,32,33] rfl<|aB rfl (aM _ fc fM rfl rfl rfl rfl rfl (by rfl) rfl (by rfl)) rfl rfl (.inl rfl) (fun _ _=>?_) ay
   refine cD (aH (ak ?_))
   refine aa<|rn 1 [1,2,3,4,16] rfl<|af (a6 rfl rfl rfl (by omega)) rfl rfl<|rn 1 [1,2,3,4,5] rfl<|aX (i+1,A5,c5) (by show i+1≤_;omega) (by show _ - _<_ - _;omega) ⟨rfl,rfl,rfl,rfl,rfl,trivial⟩ me
  obtain rfl:i=(bP m).length:=by omega
  rw[List.take_length,←vm]
  refine bz (aG (aG (bO ?_)))
  refine be (A',c') (trivial) ⟨rfl,rfl,rfl,rfl,trivial⟩ me
 rintro⟨Ab,cb⟩ _
 try dsimp only
 refine ac<|ac<|aa<|rn 1 [1,2,3,4,6] rfl<|ae<|aE (bD (fun i:Nat=>i≤m.frames.length) (fun i=>m.frames.length - i) (fun i=> [(1,.pointer (some ⟨g1,0,none⟩)),(2,.pointer (some ⟨g2,0,none⟩)),(3,.pointer (some ⟨g3,0,none⟩)),(4,.slice Ar (bP m).length cr),(6,.int .i64 (i:Int))]) (fun i=> [az g3 [.slice Af m.frames.length cf,.slice Ab (dr m).blocks.length cb,.slice Ai m.inn.length ci,.slice Ao m.out.length co,.int .i64 m.status,.int .i64 m.trap] 29,an (.slice Af m.frames.length cf) (mS m i),an (.slice Ab (dr m).blocks.length cb) (dr m).blocks,an (.slice Ai m.inn.length ci) m.inn,an (.slice Ao m.out.length co) m.out,an (.slice Ar (bP m).length cr) (bP m),az g1 [.slice a.Af m.frames.length a.cf,.slice a.Ab m.blocks.length a.cb,.slice a.Ai m.inn.length a.ci,.slice a.Ao m.out.length a.co,.int .i64 m.status,.int .i64 m.trap] 29,az g2 [.slice none 0 0,.slice none 0 0,.slice none 0 0,.slice none 0 0,.int .i64 0,.int .i64 0] 29]) 0 (Nat.zero_le _) ⟨rfl,rfl,rfl,rfl,rfl,trivial⟩ me ?_)
 rintro i hi'
 have hi:i≤m.frames.length:=hi'
 have hfl:=AG m hi
 refine ac<|ac<|aa<|rn 2 [1,2,3,4,6,34,35] rfl<|af (aj fc bG rfl rfl (by rfl)) rfl rfl ?_
 refine af (aL aT rfl rfl) rfl rfl<|rn 1 [1,2,3,4,6,38] rfl<|ae<|ar rfl (fun hlt=>?_) (fun hlt=>?_)
 ·have hil:i<m.frames.length:=by omega
  obtain⟨A1,c1,A2,c2,hl,hst,hI,hcell⟩:=hm.f.fr hil
  obtain⟨hb1,hb2⟩:=hfs (aN m.frames i) (dW hil)
  obtain⟨ok1,ok2⟩:=hok (aN m.frames i) (dW hil)
  refine Ch (fr:=mS m i) (k:=i) (by omega) fc fun X hs Al cl As cs hA=>?_
  have hAl:=hA.len
  have hhd:=hA.hd
  rw[w4 m hil] at hhd⊢
  have hAi:=hA.i64
  rw[w4 m hil] at hAi
  refine aq (ak ?_)
  refine ac<|aE<|ac<|bV (.still 0 (.still 1 (.still 2 (.still 3 (.still 4 (.still 5 (.still 6 (.still 7 (.still 8 (.still 9 (.pick 10 (.still 11 (.still 12 (.pick 13 .done .stop))) .stop))))))))))) [13] rfl (by kernel_rfl) (by kernel_rfl) ?_
  refine aS ha 1 [1,2,3,4,6,41] rfl<|av rfl (aj fc bG rfl rfl (by rfl)) rfl rfl ha ?_
  refine aS ha 2 [1,2,3,4,6,42,43,44] rfl<|av rfl (aj fc bG rfl rfl (by rfl)) rfl rfl ha ?_
  refine aS ha 1 [1,2,3,4,6,42,43,45,46] rfl<|av rfl (aQ (k:=i) aT a7 (.ro hm.f) (by omega) rfl rfl rfl) rfl rfl ha ?_
  refine aS ha 1 [1,2,3,4,6,42,43,48] rfl<|av rfl (aZ (fun w hw=>hcell _ w hw 2 _ rfl) rfl rfl bZ) rfl rfl ha ?_
  refine aS ha 1 [1,2,3,4,6,42,43,49,50] rfl<|aB rfl (d9 rfl rfl rfl Tryz.call90 (fun w hw=>by have:=oL A1 Ar c1 cr (aN m.frames i).locals (bP m) w (hw.ro hl) (SF.at_ (SF.own (xs:=bP m) rfl fc) hw) (by omega) (by omega);rw[rB ok1] at this;exact this)) rfl rfl (.inr fun _=>ha) (fun⟨A3,c3⟩ _=>?_) ay
  try dsimp only
  refine av rfl (aQ (k:=i) aT a7 (SF.own (xs:=hs) (A:=Af) (c:=cf) (by omega) fc) (by omega) rfl rfl rfl) rfl rfl ha ?_
  refine aS ha 1 [1,2,3,4,6,51,53] rfl<|aB rfl (mP (α:=aU) (A:=Af) (c:=cf) (m:=m.frames.length) (f:=2) (us:= [.slice A3 ((aN m.frames i).locals.map (cR (gH m))).length c3]) ⟨(aN m.frames i).func,(aN m.frames i).pc,.slice A3 ((aN m.frames i).locals.map (cR (gH m))).length c3,.slice As (aN m.frames i).stack.length cs⟩ default rfl fc hil ⟨hAi,rfl,rfl⟩ dF rfl rfl rfl rfl rfl rfl (by rw[hhd];rfl) rfl) rfl rfl (.inl rfl) (fun _ _=>?_) ay
  refine cu<|bV (.still 0 (.still 1 (.still 2 (.still 3 (.still 4 (.still 5 (.still 6 (.still 7 (.still 8 (.still 9 (.pick 10 (.still 11 (.still 12 (.pick 13 .done .stop))) .stop))))))))))) [13] rfl (by kernel_rfl) (by kernel_rfl) ?_
  refine aS ha 1 [1,2,3,4,6,54] rfl<|av rfl (aj fc bG rfl rfl (by rfl)) rfl rfl ha ?_
  refine aS ha 2 [1,2,3,4,6,55,56,57] rfl<|av rfl (aj fc bG rfl rfl (by rfl)) rfl rfl ha ?_
  refine aS ha 1 [1,2,3,4,6,55,56,58,59] rfl<|av rfl (aQ (k:=i) aT a7 (.ro hm.f) (by omega) rfl rfl rfl) rfl rfl ha ?_
  refine aS ha 1 [1,2,3,4,6,55,56,61] rfl<|av rfl (aZ (fun w hw=>hcell _ w hw 3 _ rfl) rfl rfl bZ) rfl rfl ha ?_
  refine aS ha 1 [1,2,3,4,6,55,56,62,63] rfl<|aB rfl (d9 rfl rfl rfl Tryz.call90 (fun w hw=>by have:=oL A2 Ar c2 cr (aN m.frames i).stack (bP m) w (hw.ro hst) (SF.at_ (SF.own (xs:=bP m) rfl fc) hw) (by omega) (by omega);rw[rB ok2] at this;exact this)) rfl rfl (.inr fun _=>ha) (fun⟨A4,c4⟩ _=>?_) ay
  try dsimp only
  refine av rfl (aQ (k:=i) aT a7 (SF.own (xs:=hs.set i (⟨(aN m.frames i).func,(aN m.frames i).pc,.slice A3 ((aN m.frames i).locals.map (cR (gH m))).length c3,.slice As (aN m.frames i).stack.length cs⟩:aU)) (A:=Af) (c:=cf) (by rw[List.length_set];omega) fc) (by omega) rfl rfl rfl) rfl rfl ha ?_
  refine aS ha 1 [1,2,3,4,6,64,66] rfl<|aB rfl (mP (α:=aU) (A:=Af) (c:=cf) (m:=m.frames.length) (f:=3) (us:= [.slice A4 ((aN m.frames i).stack.map (cR (gH m))).length c4]) ⟨(aN m.frames i).func,(aN m.frames i).pc,.slice A3 ((aN m.frames i).locals.map (cR (gH m))).length c3,.slice A4 ((aN m.frames i).stack.map (cR (gH m))).length c4⟩ default (List.set_set ..).symm fc hil ⟨hAi,rfl,rfl⟩ dF rfl rfl rfl rfl rfl rfl (by rw[List.getD_eq_getElem?_getD,List.getElem?_set_self (by omega)];rfl) rfl) rfl rfl (.inl rfl) (fun _ _=>?_) ay
  refine cD (aH (ak ?_))
  refine aa<|rn 1 [1,2,3,4,39] rfl<|af (a6 rfl rfl rfl (by omega)) rfl rfl<|rn 1 [1,2,3,4,6] rfl<|aX (i+1) (by show i+1≤_;omega) (by show _ - _<_ - _;omega) ⟨rfl,rfl,rfl,rfl,rfl,trivial⟩ (fun w h=>by rw[AF m hil];exact(hA.back _ _ _ (f9 (gH m) (aN m.frames i)) _ w (h.msub (.s fc (.s fc (.s fc (.s fc .r)))))).msub ms)
 obtain rfl:i=m.frames.length:=by omega
 refine bz (aG (aG (bO (ak ?_))))
 refine ac<|aa<|af (aY (vs:= [_,_,_,_,_,_]) fc bd aJ rfl rfl (by rfl) rfl) rfl rfl ?_
 refine ai (aM _ fc aJ rfl rfl rfl rfl rfl (by rfl) rfl (by rfl)) rfl rfl (fun _ _=>?_)
 refine ae<|ap<|au Tryz.results37 (eF (cs:= [_,_,_,_,_,_]) fc bd aJ rfl) ?_
 intro w hw
 have e1:mS m m.frames.length=(dr m).frames:=by unfold mS dr;rw[List.take_length,List.drop_length,List.append_nil]
 rw[e1] at hw hfl
 exact⟨⟨Af,cf,Ab,cb,Ai,ci,Ao,co⟩,trivial,by rw[hfl];rfl,by rw[hfl];exact hw.msub ms⟩
end
section
theorem vc (c:Int) (w:World):Calls Tryz.prog 86 #[.int .i64 c] w fun e w'=>e= .returned (.int .i64 (dT c))∧Below w.heap.size w w':=by
 refine enter Tryz.func86 rfl Tryz.ntmps86 rfl ?_
 refine ac<|aa<|rn 1 [0] rfl<|ae<|ac<|ac<|aa<|rn 1 [3] rfl<|ae<|aE<|ac<|aa<|rn 2 [3,4] rfl<|ae<|ar rfl (fun h1=>?_) (fun h1=>?_)
 ·have h1:c=14:=h1
  refine ac<|aa<|rn 1 [2] rfl<|ae<|ap (aC (ah ?_))
  refine au C8 (am rfl) ?_
  intro w hw
  exact⟨by rw[h1];rfl,hw.below⟩
 have h1:¬c=14:=h1
 refine ac<|aa<|rn 2 [6] rfl<|ae<|ar rfl (fun h2=>?_) (fun h2=>?_)
 ·have h2:c=12:=h2
  refine ac<|aa<|rn 1 [2] rfl<|ae<|ap (aC (ah ?_))
  refine au C8 (am rfl) ?_
  intro w hw
  exact⟨by rw[h2];rfl,hw.below⟩
 have h2:¬c=12:=h2
 refine aq (aH (ak ?_))
 refine ac<|aa<|rn 1 [2] rfl<|ae<|ap<|au C8 (am rfl) ?_
 intro w hw
 exact⟨by unfold dT;rw[if_neg h1,if_neg h2],hw.below⟩
set_option maxRecDepth 100000 in
theorem yr (Ap:Option Addr) (cp:Nat) (fs:List aA) (a:MA) (m:aI) (w:World) (hs:Sl w (.slice Ap fs.length cp) fs) (hm:dE w.heap.size w a m) (hF:eZ fs) (hR:de fs m) (hne:m.frames≠[]) :
  Calls Tryz.prog 154 #[.agg #[.slice Ap fs.length cp],.agg #[.slice a.Af m.frames.length a.cf,.slice a.Ab m.blocks.length a.cb,.slice a.Ai m.inn.length a.ci,.slice a.Ao m.out.length a.co,.int .i64 m.status,.int .i64 m.trap]] w fun e w'=>e= .returned (.agg #[.int .i64 (dh fs m).c,.int .i64 (dh fs m).a])∧Below w.heap.size w w':=by
 have b1:=bR hm.f
 obtain⟨li,x,e⟩:∃li x,m.frames=li++ [x]:=by
  rcases List.eq_nil_or_concat m.frames with h1 | ⟨l,z,h1⟩
  ·exact absurd h1 hne
  exact⟨l,z,by rw[h1];simp⟩
 obtain⟨hx,hk,hop⟩:=vJ (fs:=fs) e
 obtain⟨k,hkl⟩:∃k,li.length=k:=⟨_,rfl⟩
 rw[hkl] at hx hk
 obtain⟨hfn,hloc,t,he,hts⟩:=hR.top e
 obtain⟨hp0,hp1,_⟩:=(hF.e x.func.toNat (by omega)).at_ _ _ he
 obtain⟨A1,c1,A2,c2,h1,h2,hi,hc⟩:=hm.f.fr (k:=k) (by omega)
 rw[hx] at h1 h2 hi hc
 obtain⟨kf,hkf⟩:∃kf:Nat,x.func=kf:=⟨x.func.toNat,by omega⟩
 obtain⟨kp,hkp⟩:∃kp:Nat,x.pc=kp:=⟨x.pc.toNat,by omega⟩
 rw[hkf,Int.toNat_natCast] at hp1 hop
 rw[hkp,Int.toNat_natCast] at hop
 rw[hkp] at hp1
 have hkfl:kf<fs.length:=by omega
 have hkpl:kp<(ax fs kf).code.length:=by omega
 obtain⟨F1,d1,F2,d2,hfl,hfc,hfi,hfcell⟩:=hs.fn hkfl
 have bp:=bR hs
 have bc:=bR hfc
 rw[hop]
 refine enter Tryz.func154 rfl Tryz.ntmps154 rfl ?_
 refine ac<|aa<|ai (bH rfl rfl rfl) rfl rfl (fun g1 _=>?_)
 refine ai (bH rfl rfl rfl) rfl rfl (fun g2 _=>?_)
 refine ai (a9 dv rfl rfl) rfl rfl (fun g3 _=>?_)
 refine ae<|ac<|aa<|rn 1 [2,3,4,6] rfl<|af (aj fc bG rfl rfl (by rfl)) rfl rfl ?_
 refine rn 1 [2,4,7,8] rfl<|af (aj fc bG rfl rfl (by rfl)) rfl rfl ?_
 refine af (aL aT rfl rfl) rfl rfl<|af (cn rfl rfl rfl (by omega)) rfl rfl<|bU (t:=11) (v':= .int .i64 (k:Int)) rfl (congrArg (Value.int .i64) (by omega)) ?_
 refine af (aQ (k:=k) aT a7 (.ro hm.f) (by omega) rfl rfl rfl) rfl rfl<|af (cL (hc _) rfl rfl gl a7) rfl rfl<|ai (a9 cY rfl rfl) rfl rfl (fun g4 _=>?_)
 refine ai (aM _ fc a7 rfl rfl rfl rfl rfl (by rfl) rfl (by rfl)) rfl rfl (fun _ _=>?_)
 refine ae<|ac<|bV (.still 0 (.still 1 (.still 2 (.still 3 (.still 4 (.still 5 (.still 6 (.still 7 (.still 8 (.still 9 (.still 10 (.pick 11 .done .stop)))))))))))) [11] rfl (by kernel_rfl) (by kernel_rfl) ?_
 refine aS ha 1 [4,5,14] rfl<|av rfl (aj fc cF rfl rfl (by rfl)) rfl rfl ha ?_
 refine aS ha 1 [4,5,15,16] rfl<|av rfl (aj fc aw rfl rfl (by rfl)) rfl rfl ha ?_
 refine eH (t:=17) (v':= .int .i64 (kf:Int)) rfl (congrArg (Value.int .i64) hkf) ?_
 refine av rfl (aQ (k:=kf) bA bq (.ro hs) (by omega) rfl rfl rfl) rfl rfl ha ?_
 refine aS ha 1 [4,5,19] rfl<|av rfl (aZ (fun w hw=>hfcell _ w hw 3 _ rfl) rfl rfl dk) rfl rfl ha ?_
 refine aS ha 1 [4,20,21] rfl<|av rfl (aj fc aw rfl rfl (by rfl)) rfl rfl ha ?_
 refine eH (t:=22) (v':= .int .i64 (kp:Int)) rfl (congrArg (Value.int .i64) hkp) ?_
 refine av rfl (aQ (k:=kp) bt cE (.ro hfc) (by omega) rfl rfl rfl) rfl rfl ha ?_
 refine av rfl (cL (cs:= [_,_]) (SF.op (.ro hfc) (by omega)) rfl rfl gT cE) rfl rfl ha ?_
 refine aB rfl (aM _ fc cE rfl rfl rfl rfl rfl (by rfl) rfl (by rfl)) rfl rfl (.inl rfl) (fun _ _=>?_) ay
 refine cu<|ap<|au Tryz.results154 (eF (cs:= [_,_]) fc gT cE rfl) ?_
 intro w hw
 exact⟨rfl,hw.below⟩
def DO (o:bT):Int:=if ee o=0 then dT o.c else 0
def mb (fs:List aA) (m:aI) (k:Int):aI×Int:=if fh m then (m,k) else if k<dT (dh fs m).c then (m,k) else (dV fs m,k - dT (dh fs m).c)
def lQ (fs:List aA) (m:aI) (k:Int):Prop:= ¬fh m∧dT (dh fs m).c≤k∧(dV fs m).status=0
instance (fs:List aA) (m:aI) (k:Int):Decidable (lQ fs m k):=by unfold lQ;infer_instance
theorem n9 {fs:List aA} {m:aI} {k:Int} (h:fh m):mb fs m k=(m,k):=if_pos h
theorem rx {fs:List aA} {m:aI} {k:Int} (h:¬fh m) (h2:k<dT (dh fs m).c):mb fs m k=(m,k):=(if_neg h).trans (if_pos h2)
theorem n8 {fs:List aA} {m:aI} {k:Int} (h:¬fh m) (h2:¬k<dT (dh fs m).c):mb fs m k=(dV fs m,k - dT (dh fs m).c):=(if_neg h).trans (if_neg h2)
theorem tM (fs:List aA) (m:aI) (k:Int):jh fs m k=if lQ fs m k then jh fs (mb fs m k).1 (mb fs m k).2 else mb fs m k:=by
 rw[tN]
 by_cases h1:fh m
 ·rw[if_pos h1,if_neg (show¬lQ fs m k from fun h=>h.1 h1),n9 h1]
 rw[if_neg h1]
 by_cases h2:k<dT (dh fs m).c
 ·rw[if_pos h2,if_neg (show¬lQ fs m k from fun h=>by have:=h.2.1;omega),rx h1 h2]
 rw[if_neg h2,n8 h1 h2]
 by_cases h3:(dV fs m).status=0
 ·rw[if_pos h3,if_pos (show lQ fs m k from⟨h1,by omega,h3⟩)]
 rw[if_neg h3,if_neg (show¬lQ fs m k from fun h=>h3 h.2.2)]
section
variable {B:Nat} {w0:World} {H:List a4}
set_option maxRecDepth 100000 in
set_option maxHeartbeats 4000000 in
theorem vZ (gd:Nat) (a:MA) (m:aI) (k:Int) (Ap:Option Addr) (cp:Nat) (fs:List aA) (hs:bM w0 B (.slice Ap fs.length cp) fs) (hF:eZ fs) (hR:de fs m) (hk:0≤k∧k≤10000) (p:aI×Int) (hpe:mb fs m k=p) (w:World)
  (hw:Cw B w0 (az gd [.slice a.Af m.frames.length a.cf,.slice a.Ab m.blocks.length a.cb,.slice a.Ai m.inn.length a.ci,.slice a.Ao m.out.length a.co,.int .i64 m.status,.int .i64 m.trap,.int .i64 k] 166::an (.slice a.Af m.frames.length a.cf) m.frames::an (.slice a.Ab m.blocks.length a.cb) m.blocks::an (.slice a.Ai m.inn.length a.ci) m.inn::an (.slice a.Ao m.out.length a.co) m.out::H) w) :
  Calls Tryz.prog 119 #[.pointer (some ⟨gd,0,none⟩),.agg #[.slice Ap fs.length cp]] w fun e w'=> ∃g:MA,True∧e= .returned (.bool (decide (lQ fs m k)))∧
   Cw B w0 (az gd [.slice g.Af p.1.frames.length g.cf,.slice g.Ab p.1.blocks.length g.cb,.slice g.Ai p.1.inn.length g.ci,.slice g.Ao p.1.out.length g.co,.int .i64 p.1.status,.int .i64 p.1.trap,.int .i64 p.2] 166::an (.slice g.Af p.1.frames.length g.cf) p.1.frames::an (.slice g.Ab p.1.blocks.length g.cb) p.1.blocks::an (.slice g.Ai p.1.inn.length g.ci) p.1.inn::an (.slice g.Ao p.1.out.length g.co) p.1.out::H) w':=by
 have hp:=jP (dh fs m).c
 have hst:=hR.st
 have hst2:a5 m.status:=⟨by omega,by omega⟩
 have htr2:a5 m.trap:=by
  rcases Decidable.em (m.status=3) with h3 | h3
  ·have:=hR.t3 h3;exact⟨by omega,by omega⟩
  have:=hR.t0 h3;exact⟨by omega,by omega⟩
 refine cB Tryz.func119 rfl Tryz.ntmps119 rfl hw ?_
 refine ac<|aa<|ai (bH rfl rfl rfl) rfl rfl (fun g1 _=>?_)
 refine rn 1 [0,3] rfl<|ae<|ac<|ac<|aa<|rn 4 [0,3,9] rfl<|af (aj fc bG rfl rfl (by rfl)) rfl rfl ?_
 refine af (aL aT rfl rfl) rfl rfl<|rn 2 [0,3,13] rfl<|bL (t:=13) rfl (fun q1=>?_) (fun q1=>?_)
 ·have hh:fh m:= .inl (List.eq_nil_of_length_eq_zero (by have:=of_decide_eq_true q1;omega))
  have e:p=(m,k):=by rw[←hpe,n9 hh]
  subst e
  refine rn 7 [0,3,20] rfl<|ae<|br rfl<|ac<|aa<|rn 1 [4] rfl<|ae<|ap (ah ?_)
  refine au sK (am rfl) ?_
  intro w hw
  exact⟨a,trivial,bh (decide_eq_false (fun h=>h.1 hh)).symm,hw.msub ms⟩
 have hne:m.frames≠[]:=fun e=>by have:=of_decide_eq_false q1;rw[e] at this;simp at this
 refine rn 4 [0,3,13,17] rfl<|af (aj fc aw rfl rfl (by rfl)) rfl rfl ?_
 refine rn 2 [0,3,20] rfl<|ae<|ar rfl (fun q2=>?_) (fun q2=>?_)
 ·have hh:fh m:= .inr q2
  have e:p=(m,k):=by rw[←hpe,n9 hh]
  subst e
  refine ac<|aa<|rn 1 [4] rfl<|ae<|ap (ah ?_)
  refine au sK (am rfl) ?_
  intro w hw
  exact⟨a,trivial,bh (decide_eq_false (fun h=>h.1 hh)).symm,hw.msub ms⟩
 have q2:¬m.status=3:=q2
 have hh:¬fh m:=fun h=>h.elim hne q2
 have hst3:¬(m.status=2∨m.status=3):=(not_congr (yH hR)).1 hh
 obtain⟨c,hc⟩:∃c,dT (dh fs m).c=c:=⟨_,rfl⟩
 refine aq (ak ?_)
 refine ac<|bV (.still 0 (.still 1 (.still 2 (.still 3 (.still 4 (.pick 5 (.still 6 (.pick 7 (.still 8 .done) .stop)) .stop)))))) [] rfl (by kernel_rfl) (by kernel_rfl) ?_
 refine av rfl (aY (vs:= [_]) fc cA cg rfl rfl (by rfl) rfl) rfl rfl ha ?_
 refine aS ha 3 [0,3,21,24] rfl<|av rfl (aY (vs:= [_,_,_,_,_,_]) fc bd aJ rfl rfl (by rfl) rfl) rfl rfl ha ?_
 refine aB rfl (bB rfl rfl rfl Tryz.call154 (fun w hw=>yr Ap cp fs a m w (hw.ro hs) (gu hw fc fc fc fc rfl rfl rfl rfl hst2 htr2) hF hR hne)) rfl rfl (.inr fun _=>ha) (fun _ _=>?_) ay
 refine av rfl (gh (BO _ _) rfl rfl) rfl rfl ha ?_
 refine aB rfl (bB rfl rfl rfl Tryz.call86 (fun w hw=>vc _ w)) rfl rfl (.inr fun _=>ha) (fun _ _=>?_) ay
 refine aS ha 1 [0,3,5] rfl<|cu<|ac<|ac<|aa<|rn 4 [0,3,5,29,32] rfl<|af (aj fc aw rfl rfl (by rfl)) rfl rfl ?_
 refine rn 1 [0,3,5,34] rfl<|ae ?_
 rw[hc] at hp
 rw[hc]
 have hc3:=Bk (dh fs m).c
 refine ar rfl (fun q3=>?_) (fun q3=>?_)
 ·have q3:k<c:=q3
  have e:p=(m,k):=by rw[←hpe,rx hh (by rw[hc];exact q3)]
  subst e
  refine ac<|aa<|rn 1 [4] rfl<|ae<|ap (ah ?_)
  refine au sK (am rfl) ?_
  intro w hw
  exact⟨a,trivial,bh (decide_eq_false (fun h=>by have:=h.2.1;omega)).symm,hw.msub ms⟩
 have q3:¬k<c:=q3
 obtain⟨m2,hm2⟩:∃m2,dV fs m=m2:=⟨_,rfl⟩
 have e:p=(m2,k - c):=by rw[←hpe,n8 hh (by rw[hc];exact q3),hm2,hc]
 subst e
 have hon:lQ fs m k↔m2.status=0:=by
  unfold lQ
  rw[hm2,hc]
  exact⟨fun h=>h.2.2,fun h=>⟨hh,by omega,h⟩⟩
 refine aq (ak ?_)
 refine ac<|aa<|rn 3 [0,3,5,35,37] rfl<|af (aj fc aw rfl rfl (by rfl)) rfl rfl ?_
 refine rn 1 [0,3,35,38,39] rfl<|af (cn rfl rfl rfl (by omega)) rfl rfl<|rn 2 [0,3,40,42] rfl<|ai (aM _ fc aF rfl rfl rfl rfl rfl (by rfl) rfl (by rfl)) rfl rfl (fun _ _=>?_)
 refine ae<|ac<|bV (.still 0 (.still 1 (.still 2 (.still 3 (.still 4 (.still 5 (.pick 6 (.still 7 (.still 8 (.pick 9 .done .stop))) .stop))))))) [9] rfl (by kernel_rfl) (by kernel_rfl) ?_
 refine aS ha 1 [0,3,43] rfl<|av rfl (aY (vs:= [_]) fc cA cg rfl rfl (by rfl) rfl) rfl rfl ha ?_
 refine aS ha 3 [0,43,44,47] rfl<|av rfl (aY (vs:= [_,_,_,_,_,_]) fc bd aJ rfl rfl (by rfl) rfl) rfl rfl ha ?_
 refine aB rfl (dg rfl rfl rfl Tryz.call73 (fun w hw=>z1 Ap cp fs a m m2 hm2 w (hw.ro hs) (gu hw fc fc fc fc rfl rfl rfl rfl hst2 htr2) (nB hF hR) (fun hst=>vP hs hF hR hst))) rfl rfl (.inr fun _=>ha) (fun g5 _=>?_) ay
 refine aS ha 2 [0,49,51] rfl<|aB rfl (aM _ fc aJ rfl rfl rfl rfl rfl (by rfl) rfl (by rfl)) rfl rfl (.inl rfl) (fun _ _=>?_) ay
 refine cu<|ac<|aa<|rn 4 [55] rfl<|af (aj fc aw rfl rfl (by rfl)) rfl rfl ?_
 refine rn 2 [4] rfl<|ae<|ap<|au sK (am rfl) ?_
 intro w hw
 exact⟨g5,trivial,bh (decide_eq_decide.2 hon).symm,hw.msub ms⟩
end
end
section
theorem wA {fs:List aA} (_:eZ fs) {m:aI} (_:de fs m) {k:Int} (hon:lQ fs m k):mb fs m k=(dV fs m,k - dT (dh fs m).c):=by
 exact n8 hon.1 (by have:=hon.2.1;omega)
set_option maxRecDepth 100000 in
set_option maxHeartbeats 4000000 in
theorem yv (Ap:Option Addr) (cp:Nat) (fs:List aA) (a:MA) (m:aI) (k:Int) (r:aI×Int) (hr:jh fs m k=r) (w:World) (hs:Sl w (.slice Ap fs.length cp) fs) (hm:dE w.heap.size w a m) (hF:eZ fs) (hR:de fs m) (hk:0≤k∧k≤10000) :
  Calls Tryz.prog 84 #[.agg #[.slice Ap fs.length cp],.agg #[.slice a.Af m.frames.length a.cf,.slice a.Ab m.blocks.length a.cb,.slice a.Ai m.inn.length a.ci,.slice a.Ao m.out.length a.co,.int .i64 m.status,.int .i64 m.trap],.int .i64 k] w fun e w'=> ∃g:MA,True∧
   e= .returned (.tuple #[.agg #[.slice g.Af r.1.frames.length g.cf,.slice g.Ab r.1.blocks.length g.cb,.slice g.Ai r.1.inn.length g.ci,.slice g.Ao r.1.out.length g.co,.int .i64 r.1.status,.int .i64 r.1.trap],.int .i64 r.2])∧Cw w.heap.size w [an (.slice g.Af r.1.frames.length g.cf) r.1.frames,an (.slice g.Ab r.1.blocks.length g.cb) r.1.blocks,an (.slice g.Ai r.1.inn.length g.ci) r.1.inn,an (.slice g.Ao r.1.out.length g.co) r.1.out] w':=by
 refine enter Tryz.func84 rfl Tryz.ntmps84 rfl ?_
 refine ac<|aa<|ai (bH rfl rfl rfl) rfl rfl (fun g1 _=>?_)
 refine ai (bH rfl rfl rfl) rfl rfl (fun g2 _=>?_)
 refine ai (a9 bw rfl rfl) rfl rfl (fun g3 _=>?_)
 refine rn 1 [2,3,4,6] rfl<|ae<|ac<|aa<|af (aY (vs:= [_,_,_,_,_,_]) fc bd aJ rfl rfl (by rfl) rfl) rfl rfl ?_
 refine ai (dg rfl rfl rfl oB (fun w hw=>jI a m w (dE.ro hw hm) (nB hF hR))) rfl rfl (fun g0 _=>?_)
 refine rn 1 [3,6,10,11] rfl<|af (cU (cs:= [_,_,_,_,_,_,_]) BG Tryz.zeroValue166 rfl rfl (by rfl)) rfl rfl ?_
 refine ai (bH rfl rfl rfl) rfl rfl (fun g4 _=>?_)
 refine rn 1 [3,6,8] rfl<|ae<|ac<|aE (bD (fun g:(aI×Int)×MA=>(de fs g.1.1∧0≤g.1.2∧g.1.2≤10000)∧jh fs g.1.1 g.1.2=r) (fun g=>g.1.2.toNat) (fun _=> [(3,.pointer (some ⟨g1,0,none⟩)),(6,.pointer (some ⟨g3,0,none⟩)),(8,.pointer (some ⟨g4,0,none⟩))]) (fun g=> [az g4 [.slice g.2.Af g.1.1.frames.length g.2.cf,.slice g.2.Ab g.1.1.blocks.length g.2.cb,.slice g.2.Ai g.1.1.inn.length g.2.ci,.slice g.2.Ao g.1.1.out.length g.2.co,.int .i64 g.1.1.status,.int .i64 g.1.1.trap,.int .i64 g.1.2] 166,an (.slice g.2.Af g.1.1.frames.length g.2.cf) g.1.1.frames,an (.slice g.2.Ab g.1.1.blocks.length g.2.cb) g.1.1.blocks,an (.slice g.2.Ai g.1.1.inn.length g.2.ci) g.1.1.inn,an (.slice g.2.Ao g.1.1.out.length g.2.co) g.1.1.out,az g1 [.slice Ap fs.length cp] 24,az g3 [.slice none 0 0,.slice none 0 0,.slice none 0 0,.slice none 0 0,.int .i64 0,.int .i64 0] 29]) ((m,k),g0) (⟨⟨hR,hk⟩,hr⟩) ⟨rfl,rfl,rfl,trivial⟩ me ?_)
 rintro⟨⟨q,z⟩,g⟩ hq
 try dsimp only
 obtain⟨⟨hRq,hz⟩,hrq⟩:(de fs q∧0≤z∧z≤10000)∧jh fs q z=r:=hq
 obtain⟨p,hpe⟩:∃p,mb fs q z=p:=⟨_,rfl⟩
 refine ac<|ac<|aa<|rn 1 [3,6,8,14] rfl<|af (aY (vs:= [_]) fc cA cg rfl rfl (by rfl) rfl) rfl rfl ?_
 refine ai (bg rfl rfl rfl Tryz.call119 (fun w hw=>vZ g4 g q z Ap cp fs hs hF hRq hz p hpe w (hw.msub (.s fc (.s fc (.s fc (.s fc (.s fc .r)))))))) rfl rfl (fun g5 _=>?_)
 refine ae<|ar rfl (fun hon=>?_) (fun hon=>?_)
 ·have hon:lQ fs q z:=hon
  have e1:=(wA hF hRq hon).symm.trans hpe
  have hp:=jP (dh fs q).c
  have h2:=hon.2.1
  refine aq (ak ?_)
  refine aE<|aq (aH ?_)
  refine kE (p,g5) (by rw[←e1];exact⟨⟨ut hF hRq,by show 0≤z - _;omega,by show z - _≤_;omega⟩,by show jh fs (dV fs q) _=r;rw[←hrq,tM fs q z,if_pos hon,hpe,←e1]⟩) (by rw[←e1];show (z - _).toNat<z.toNat;omega) ⟨rfl,rfl,rfl,trivial⟩ me
 have hon:¬lQ fs q z:=hon
 have e1:p=r:=by rw[←hrq,tM fs q z,if_neg hon,hpe]
 subst e1
 refine bz (aG (aG (bO (ak ?_))))
 refine ac<|fB (.still 0 (.still 1 (.still 2 (.still 3 (.still 4 (.still 5 (.still 6 (.still 7 (.pick 8 (.still 9 .done) .stop))))))))) [] rfl (by kernel_rfl) (by kernel_rfl) [az g4 [.slice g5.Af p.1.frames.length g5.cf,.slice g5.Ab p.1.blocks.length g5.cb,.slice g5.Ai p.1.inn.length g5.ci,.slice g5.Ao p.1.out.length g5.co,.int .i64 p.1.status,.int .i64 p.1.trap,.int .i64 p.2] 166] ?_
 refine aS ha 3 [6,8,19] rfl<|av rfl (aY (vs:= [_,_,_,_,_,_]) fc bd aJ rfl rfl (by rfl) rfl) rfl rfl ha ?_
 refine aS ha 3 [6,20,23] rfl<|av rfl (aj fc aw rfl rfl (by rfl)) rfl rfl ha ?_
 refine aB rfl (aM _ fc aJ rfl rfl rfl rfl rfl (by rfl) rfl (by rfl)) rfl rfl (.inr fun _=>ha) (fun _ _=>?_) ay
 refine aS ha 1 [6,7] rfl<|cu<|ap<|bC Tryz.results84 (eF (cs:= [_,_,_,_,_,_]) fc bd aJ rfl) (am rfl) ?_
 intro w hw
 exact⟨g5,trivial,rfl,hw.msub ms⟩
def lp (fs:List aA) (m:aI) (k:Int):Int:=if dI fs m≠0 then dI fs m else if k<0∨10000<k then 3 else 0
def xY (fs:List aA) (m:aI) (k:Int):aI×Int:=if lp fs m k=0 then jh fs m k else (default,0)
set_option maxRecDepth 100000 in
set_option maxHeartbeats 4000000 in
theorem yu (Ap:Option Addr) (cp:Nat) (fs:List aA) (a:MA) (m:aI) (k:Int) (r:aI×Int) (hr:xY fs m k=r) (w:World) (hs:Sl w (.slice Ap fs.length cp) fs) (hm:dE w.heap.size w a m) (hfit:ie m.frames) :
  Calls Tryz.prog 28 #[.agg #[.slice Ap fs.length cp],.agg #[.slice a.Af m.frames.length a.cf,.slice a.Ab m.blocks.length a.cb,.slice a.Ai m.inn.length a.ci,.slice a.Ao m.out.length a.co,.int .i64 m.status,.int .i64 m.trap],.int .i64 k] w fun e w'=> ∃g:MA,True∧
   e= .returned (.tuple #[.agg #[.slice g.Af r.1.frames.length g.cf,.slice g.Ab r.1.blocks.length g.cb,.slice g.Ai r.1.inn.length g.ci,.slice g.Ao r.1.out.length g.co,.int .i64 r.1.status,.int .i64 r.1.trap],.int .i64 r.2,.int .i64 (lp fs m k)])∧Cw w.heap.size w [an (.slice g.Af r.1.frames.length g.cf) r.1.frames,an (.slice g.Ab r.1.blocks.length g.cb) r.1.blocks,an (.slice g.Ai r.1.inn.length g.ci) r.1.inn,an (.slice g.Ao r.1.out.length g.co) r.1.out] w':=by
 refine enter Tryz.func28 rfl Tryz.ntmps28 rfl ?_
 refine ac<|aa<|ai (bH rfl rfl rfl) rfl rfl (fun g1 _=>?_)
 refine ai (bH rfl rfl rfl) rfl rfl (fun g2 _=>?_)
 refine ai (a9 bw rfl rfl) rfl rfl (fun g3 _=>?_)
 refine rn 2 [2,3,4,6] rfl<|ae<|ac<|aa<|af (aY (vs:= [_]) fc cA cg rfl rfl (by rfl) rfl) rfl rfl ?_
 refine af (aY (vs:= [_,_,_,_,_,_]) fc bd aJ rfl rfl (by rfl) rfl) rfl rfl ?_
 refine ai (bB rfl rfl rfl Ed (fun w hw=>mc Ap cp fs a m w (hw.ro hs) (dE.ro hw hm) hfit)) rfl rfl (fun _ _=>?_)
 refine rn 1 [2,3,4,6,9] rfl<|ae<|ac<|ac<|aa<|rn 3 [2,3,4,6,9,17] rfl ?_
 unfold xY at hr
 by_cases hE:dI fs m=0
 ·obtain⟨hF,hR⟩:=nt hE
  have hE2:lp fs m k=if k<0∨10000<k then 3 else 0:=by unfold lp;rw[if_neg (fun h=>h hE)]
  rw[hE]
  refine bU (t:=17) (v':= .bool true) rfl (rfl) ?_
  refine rn 3 [2,3,4,6,9,17,20] rfl ?_
  by_cases hb0:k<0
  ·have hE3:lp fs m k=3:=by rw[hE2,if_pos (.inl hb0)]
   rw[hE3,if_neg (by decide)] at hr
   subst hr
   rw[hE3]
   refine bU (t:=20) (v':= .bool true) rfl (congrArg Value.bool (decide_eq_true hb0)) ?_
   refine rn 4 [2,3,4,6,9,24] rfl<|ae<|br rfl<|aa<|rn 1 [2,3,4,6,9] rfl<|ae<|ac<|ac<|aa<|rn 2 [2,3,4,6,9,26] rfl<|ae<|cS (t:=26) (v':= .bool true) rfl (rfl) ?_
   refine br rfl<|ac<|aa<|af (cU (cs:= [_,_,_,_,_,_]) jk bw rfl rfl (by rfl)) rfl rfl ?_
   refine rn 1 [6,27,28] rfl<|ai (aM _ fc aJ rfl rfl rfl rfl rfl (by rfl) rfl (by rfl)) rfl rfl (fun _ _=>?_)
   refine rn 2 [6,7,8] rfl<|ae<|ap (ah ?_)
   refine kz vG (eF (cs:= [_,_,_,_,_,_]) fc bd aJ rfl) (am rfl) (am rfl) ?_
   intro w hw
   exact⟨⟨none,0,none,0,none,0,none,0⟩,trivial,rfl,(jL hw).msub ms⟩
  refine bU (t:=20) (v':= .bool false) rfl (congrArg Value.bool (decide_eq_false hb0)) ?_
  refine rn 4 [2,3,4,6,9,24] rfl<|ae ?_
  by_cases hb1:10000<k
  ·have hE3:lp fs m k=3:=by rw[hE2,if_pos (.inr hb1)]
   rw[hE3,if_neg (by decide)] at hr
   subst hr
   rw[hE3]
   refine cS (t:=24) (v':= .bool true) rfl (congrArg Value.bool (decide_eq_true hb1)) ?_
   refine br rfl<|aa<|rn 1 [2,3,4,6,9] rfl<|ae<|ac<|ac<|aa<|rn 2 [2,3,4,6,9,26] rfl<|ae<|cS (t:=26) (v':= .bool true) rfl (rfl) ?_
   refine br rfl<|ac<|aa<|af (cU (cs:= [_,_,_,_,_,_]) jk bw rfl rfl (by rfl)) rfl rfl ?_
   refine rn 1 [6,27,28] rfl<|ai (aM _ fc aJ rfl rfl rfl rfl rfl (by rfl) rfl (by rfl)) rfl rfl (fun _ _=>?_)
   refine rn 2 [6,7,8] rfl<|ae<|ap (ah ?_)
   refine kz vG (eF (cs:= [_,_,_,_,_,_]) fc bd aJ rfl) (am rfl) (am rfl) ?_
   intro w hw
   exact⟨⟨none,0,none,0,none,0,none,0⟩,trivial,rfl,(jL hw).msub ms⟩
  have hE3:lp fs m k=0:=by rw[hE2,if_neg (by omega)]
  rw[hE3,if_pos rfl] at hr
  rw[hE3]
  refine cS (t:=24) (v':= .bool false) rfl (congrArg Value.bool (decide_eq_false hb1)) ?_
  refine cK rfl<|aq (ak ?_)
  refine ac<|ac<|aa<|rn 2 [2,3,4,6,9,26] rfl<|ae<|cS (t:=26) (v':= .bool false) rfl (rfl) ?_
  refine cK rfl<|aq (ak ?_)
  refine ac<|aa<|af (aY (vs:= [_]) fc cA cg rfl rfl (by rfl) rfl) rfl rfl ?_
  refine af (aY (vs:= [_,_,_,_,_,_]) fc bd aJ rfl rfl (by rfl) rfl) rfl rfl ?_
  refine rn 1 [6,30,31,32] rfl<|ai (dg rfl rfl rfl Tryz.call84 (fun w hw=>yv Ap cp fs a m k r hr w (hw.ro hs) (dE.ro hw hm) hF hR (by omega))) rfl rfl (fun g _=>?_)
  refine rn 3 [6,34,35] rfl<|ai (a9 bw rfl rfl) rfl rfl (fun g4 _=>?_)
  refine ai (aM _ fc aJ rfl rfl rfl rfl rfl (by rfl) rfl (by rfl)) rfl rfl (fun _ _=>?_)
  refine rn 1 [6,10,11] rfl<|ae<|ac<|aa<|af (aY (vs:= [_,_,_,_,_,_]) fc bd aJ rfl rfl (by rfl) rfl) rfl rfl ?_
  refine rn 1 [6,36,37] rfl<|ai (aM _ fc aJ rfl rfl rfl rfl rfl (by rfl) rfl (by rfl)) rfl rfl (fun _ _=>?_)
  refine rn 2 [6,7,8] rfl<|ae<|ap<|kz vG (eF (cs:= [_,_,_,_,_,_]) fc bd aJ rfl) (am rfl) (am rfl) ?_
  intro w hw
  exact⟨g,trivial,rfl,hw.msub ms⟩
 have hE3:lp fs m k=dI fs m:=by unfold lp;rw[if_pos hE]
 rw[hE3,if_neg hE] at hr
 subst hr
 rw[hE3]
 refine bU (t:=17) (v':= .bool false) rfl (congrArg Value.bool (decide_eq_false hE)) ?_
 refine rn 7 [2,3,4,6,9,24] rfl<|ae<|cK rfl<|aq (ak ?_)
 refine ac<|ac<|aa<|rn 2 [2,3,4,6,9,26] rfl<|ae<|cS (t:=26) (v':= .bool true) rfl (congrArg Value.bool (by simp[hE])) ?_
 refine br rfl<|ac<|aa<|af (cU (cs:= [_,_,_,_,_,_]) jk bw rfl rfl (by rfl)) rfl rfl ?_
 refine rn 1 [6,27,28] rfl<|ai (aM _ fc aJ rfl rfl rfl rfl rfl (by rfl) rfl (by rfl)) rfl rfl (fun _ _=>?_)
 refine rn 2 [6,7,8] rfl<|ae<|ap (ah ?_)
 refine kz vG (eF (cs:= [_,_,_,_,_,_]) fc bd aJ rfl) (am rfl) (am rfl) ?_
 intro w hw
 exact⟨⟨none,0,none,0,none,0,none,0⟩,trivial,rfl,(jL hw).msub ms⟩
end
section
theorem q4 (a b:MA) (m n:aI) (he:m=n) (w:World) (h1:dE w.heap.size w a m) (h2:dE w.heap.size w b n) :
  Calls Tryz.prog 53 #[.agg #[.slice a.Af m.frames.length a.cf,.slice a.Ab m.blocks.length a.cb,.slice a.Ai m.inn.length a.ci,.slice a.Ao m.out.length a.co,.int .i64 m.status,.int .i64 m.trap],
   .agg #[.slice b.Af n.frames.length b.cf,.slice b.Ab n.blocks.length b.cb,.slice b.Ai n.inn.length b.ci,.slice b.Ao n.out.length b.co,.int .i64 n.status,.int .i64 n.trap]] w fun e w'=>e= .returned (.bool true)∧Below w.heap.size w w':=by
 have:=q5 a b m n w h1 h2
 rwa [decide_eq_true he] at this
theorem rL (A1 A2:Option Addr) (c1 c2:Nat) (l:List Int) (w:World) (h1:Sl w (.slice A1 l.length c1) l) (h2:Sl w (.slice A2 l.length c2) l):Calls Tryz.prog 51 #[.slice A1 l.length c1,.slice A2 l.length c2] w fun e w'=>e= .returned (.bool true)∧Below w.heap.size w w':=by
 have:=ip A1 A2 c1 c2 l l w h1 h2
 rwa [decide_eq_true rfl] at this
end
section
theorem yA {B:Nat} {w:World} :dE B w ⟨none,0,none,0,none,0,none,0⟩ default:=⟨bM.nil_,bM.nil_,bM.nil_,bM.nil_,(by decide:a5 0),(by decide:a5 0)⟩
set_option maxRecDepth 100000 in
set_option maxHeartbeats 1000000 in
theorem qx (a b:MA) (m1 m2:aI) (e:Int) (he:m1=if e≠0 then default else m2) (w:World) (h1:dE w.heap.size w a m1) (h2:dE w.heap.size w b m2) :
  Calls Tryz.prog 21 #[.agg #[.slice a.Af m1.frames.length a.cf,.slice a.Ab m1.blocks.length a.cb,.slice a.Ai m1.inn.length a.ci,.slice a.Ao m1.out.length a.co,.int .i64 m1.status,.int .i64 m1.trap],.int .i64 e,.int .i64 e,
   .agg #[.slice b.Af m2.frames.length b.cf,.slice b.Ab m2.blocks.length b.cb,.slice b.Ai m2.inn.length b.ci,.slice b.Ao m2.out.length b.co,.int .i64 m2.status,.int .i64 m2.trap]] w fun e w'=>e= .returned (.bool true)∧Below w.heap.size w w':=by
 refine enter Tryz.func21 rfl Tryz.ntmps21 rfl ?_
 refine ac<|aa<|ai (bH rfl rfl rfl) rfl rfl (fun g1 _=>?_)
 refine ai (bH rfl rfl rfl) rfl rfl (fun g2 _=>?_)
 refine rn 1 [1,2,4,7] rfl<|ae<|ac<|ac<|aa<|rn 2 [1,2,4,7,10] rfl<|ae<|bX rfl (fun h=>?_) (fun h=>?_)
 ·have h:¬e=0:=h
  rw[if_pos h] at he
  subst he
  refine aa<|af (cU (cs:= [_,_,_,_,_,_]) jk bw rfl rfl (by rfl)) rfl rfl ?_
  refine ai (aM _ fc aJ rfl rfl rfl rfl rfl (by rfl) rfl (by rfl)) rfl rfl (fun _ _=>?_)
  refine ae<|ac<|aa<|rn 4 [4,7,15] rfl<|bU (t:=15) (v':= .bool true) rfl (congrArg Value.bool (decide_eq_true rfl)) ?_
  refine af (aY (vs:= [_,_,_,_,_,_]) fc bd aJ rfl rfl (by rfl) rfl) rfl rfl ?_
  refine af (aY (vs:= [_,_,_,_,_,_]) fc bd aJ rfl rfl (by rfl) rfl) rfl rfl ?_
  refine ai (bB rfl rfl rfl Tryz.call53 (fun w hw=>q4 a ⟨none,0,none,0,none,0,none,0⟩ default default rfl w (h1.ro hw) yA)) rfl rfl (fun _ _=>?_)
  refine rn 2 [8] rfl<|ae<|ap<|au Tryz.results21 (am rfl) ?_
  intro w hw
  exact⟨rfl,hw.below⟩
 have h:e=0:=h
 rw[if_neg (fun h'=>h' h)] at he
 subst he
 refine aq (ak ?_)
 refine ac<|aa<|rn 4 [4,7,15] rfl<|bU (t:=15) (v':= .bool true) rfl (congrArg Value.bool (decide_eq_true rfl)) ?_
 refine af (aY (vs:= [_,_,_,_,_,_]) fc bd aJ rfl rfl (by rfl) rfl) rfl rfl ?_
 refine af (aY (vs:= [_,_,_,_,_,_]) fc bd aJ rfl rfl (by rfl) rfl) rfl rfl ?_
 refine ai (bB rfl rfl rfl Tryz.call53 (fun w hw=>q4 a b m1 m1 rfl w (h1.ro hw) (h2.ro hw))) rfl rfl (fun _ _=>?_)
 refine rn 2 [8] rfl<|ae<|ap<|au Tryz.results21 (am rfl) ?_
 intro w hw
 exact⟨rfl,hw.below⟩
end
section
def e8:List aA:= [⟨0,[2],0,[⟨1,2⟩,⟨14,0⟩,⟨2,0⟩,⟨1,1⟩,⟨14,0⟩,⟨9,0⟩,⟨8,0⟩,⟨1,0⟩,⟨15,0⟩,⟨20,0⟩,⟨13,0⟩]⟩]
def ja:aI:=⟨[⟨0,0,[⟨true,0⟩],[]⟩],[],[],[],0,0⟩
def iB:aI:=⟨[⟨0,6,[⟨true,2⟩],[]⟩],[[0,0],[0]],[],[],0,0⟩
def rO:aI:=⟨[⟨0,6,[⟨true,1⟩],[]⟩],[[0]],[],[],0,0⟩
set_option maxRecDepth 100000 in
theorem iw (w:World):Calls Tryz.prog 71 #[] w fun e w'=> ∃g:Nat,True∧e= .returned (.agg #[.slice (some ⟨g,0,none⟩) 1 1])∧Cw w.heap.size w [an (.slice (some ⟨g,0,none⟩) 1 1) e8] w':=by
 refine enter Tryz.func71 rfl Tryz.ntmps71 rfl ?_
 refine ac<|aa<|ai (a9 Tryz.zeroValue24 rfl rfl) rfl rfl (fun g1 _=>?_)
 refine ae<|ac<|aa<|ai (a8 (cs:= [_]) ag aF aV rfl rfl rfl rfl rfl) rfl rfl (fun g2 _=>?_)
 refine af (cU (cs:= [_,_]) iO dv rfl rfl (by rfl)) rfl rfl ?_
 refine af (cU (cs:= [_,_]) iO dv rfl rfl (by rfl)) rfl rfl ?_
 refine af (cU (cs:= [_,_]) iO dv rfl rfl (by rfl)) rfl rfl ?_
 refine af (cU (cs:= [_,_]) iO dv rfl rfl (by rfl)) rfl rfl ?_
 refine af (cU (cs:= [_,_]) iO dv rfl rfl (by rfl)) rfl rfl ?_
 refine af (cU (cs:= [_,_]) iO dv rfl rfl (by rfl)) rfl rfl ?_
 refine af (cU (cs:= [_,_]) iO dv rfl rfl (by rfl)) rfl rfl ?_
 refine af (cU (cs:= [_,_]) iO dv rfl rfl (by rfl)) rfl rfl ?_
 refine af (cU (cs:= [_,_]) iO dv rfl rfl (by rfl)) rfl rfl ?_
 refine af (cU (cs:= [_,_]) iO dv rfl rfl (by rfl)) rfl rfl ?_
 refine af (cU (cs:= [_,_]) iO dv rfl rfl (by rfl)) rfl rfl ?_
 refine ai (a8 (cs:= [_,_,_,_,_,_,_,_,_,_,_,_,_,_,_,_,_,_,_,_,_,_]) bt cE dv rfl rfl rfl rfl rfl) rfl rfl (fun g3 _=>?_)
 refine af (cU (cs:= [_,_,_,_]) BJ fe rfl rfl (by rfl)) rfl rfl ?_
 refine ai (a8 (cs:= [_,_,_,_]) bA bq fe rfl rfl rfl rfl rfl) rfl rfl (fun g4 _=>?_)
 refine af (cU (cs:= [_]) CG Tryz.zeroValue24 rfl rfl (by rfl)) rfl rfl ?_
 refine ai (aM _ fc cg rfl rfl rfl rfl rfl (by rfl) rfl (by rfl)) rfl rfl (fun _ _=>?_)
 refine ae<|ap<|au Tryz.results71 (eF (cs:= [_]) fc cA cg rfl) ?_
 intro w hw
 refine⟨_,trivial,rfl,?_⟩
 have h:=bW (α:=bT) (m:=11) [⟨1,2⟩,⟨14,0⟩,⟨2,0⟩,⟨1,1⟩,⟨14,0⟩,⟨9,0⟩,⟨8,0⟩,⟨1,0⟩,⟨15,0⟩,⟨20,0⟩,⟨13,0⟩] rfl (show∀o∈[(⟨1,2⟩:bT),⟨14,0⟩,⟨2,0⟩,⟨1,1⟩,⟨14,0⟩,⟨9,0⟩,⟨8,0⟩,⟨1,0⟩,⟨15,0⟩,⟨20,0⟩,⟨13,0⟩],a5 o.c∧a5 o.a from by decide) rfl (by decide) (hw.msub (T:= [az g3 _ _,az g2 _ _,az g4 _ _]) ms)
 have h:=bW (α:=Int) (m:=1) [2] rfl (is (by decide)) rfl (by decide) (h.msub (T:= [az g2 _ _,an (.slice (some ⟨g3,0,none⟩) 11 11) _,az g4 _ _]) ms)
 refine tP (H:= []) (xs:=e8) (nV.cons (Hel:= [an (.slice (some ⟨g2,0,none⟩) 1 1) [(2:Int)],an (.slice (some ⟨g3,0,none⟩) 11 11) [(⟨1,2⟩:bT),⟨14,0⟩,⟨2,0⟩,⟨1,1⟩,⟨14,0⟩,⟨9,0⟩,⟨8,0⟩,⟨1,0⟩,⟨15,0⟩,⟨20,0⟩,⟨13,0⟩]]) (cs:= [_,_,_,_]) (BT (f:=⟨0,[2],0,[⟨1,2⟩,⟨14,0⟩,⟨2,0⟩,⟨1,1⟩,⟨14,0⟩,⟨9,0⟩,⟨8,0⟩,⟨1,0⟩,⟨15,0⟩,⟨20,0⟩,⟨13,0⟩]⟩) (by decide)) nV.nil_) rfl (by decide) ?_
 exact h.msub (T:= [az g4 _ _,an (.slice (some ⟨g2,0,none⟩) 1 1) _,an (.slice (some ⟨g3,0,none⟩) 11 11) _]) ms
set_option maxRecDepth 100000 in
theorem eV:fd e8=0∧qX e8=ja∧lp e8 ja 10=0∧xY e8 ja 10=(iB,0)∧dI e8 iB=0∧lB e8 iB=(rO,1)∧bP iB= [2]:=by
 refine⟨?_,?_,?_,?_,?_,?_,?_⟩ <;> kernel_rfl
theorem Dg (w : World) (a c : Bool) (b d : Int) : (binOp .eql 103 (.agg #[.bool a, .int .i64 b]) (.agg #[.bool c, .int .i64 d])).run Tryz.prog w = .ok (.bool (a == c && b == d)) w := by
  have h := zw
  by_cases h1 : a = c <;> by_cases h2 : b = d <;> simp [go_sem, h, h1, h2]
theorem CP (x y : Operand) (u v : Array Value) (w : World) : (eqGuard .eql 103 x y (.agg u) (.agg v)).run Tryz.prog w = .ok () w := by
  have h := rW
  simp [eqGuard, go_sem, h]
def kH (fs:List aA) (m:aI):List Int:=if dI fs m=0 then bP m else []
set_option maxRecDepth 100000 in
theorem pY (Ap:Option Addr) (cp:Nat) (fs:List aA) (a:MA) (m:aI) (r:List Int) (hr:kH fs m=r) (w:World) (hs:Sl w (.slice Ap fs.length cp) fs) (hm:dE w.heap.size w a m) (hfit:ie m.frames) :
  Calls Tryz.prog 34 #[.agg #[.slice Ap fs.length cp],.agg #[.slice a.Af m.frames.length a.cf,.slice a.Ab m.blocks.length a.cb,.slice a.Ai m.inn.length a.ci,.slice a.Ao m.out.length a.co,.int .i64 m.status,.int .i64 m.trap]] w fun e w'=> ∃q:Option Addr×Nat,True∧e= .returned (.tuple #[.slice q.1 r.length q.2,.int .i64 (dI fs m)])∧Cw w.heap.size w [an (.slice q.1 r.length q.2) r] w':=by
 refine enter Tryz.func34 rfl Tryz.ntmps34 rfl ?_
 refine ac<|aa<|ai (bH rfl rfl rfl) rfl rfl (fun g1 _=>?_)
 refine ai (bH rfl rfl rfl) rfl rfl (fun g2 _=>?_)
 refine rn 2 [2,3] rfl<|ae<|ac<|ac<|aa<|af (aY (vs:= [_]) fc cA cg rfl rfl (by rfl) rfl) rfl rfl ?_
 refine af (aY (vs:= [_,_,_,_,_,_]) fc bd aJ rfl rfl (by rfl) rfl) rfl rfl ?_
 refine ai (bB rfl rfl rfl Ed (fun w hw=>mc Ap cp fs a m w (hw.ro hs) (dE.ro hw hm) hfit)) rfl rfl (fun _ _=>?_)
 refine rn 1 [3,6] rfl<|ae<|ac<|aa<|rn 2 [3,6,11] rfl<|ae<|bX rfl (fun h=>?_) (fun h=>?_)
 ·have h:¬dI fs m=0:=h
  have e:r= []:=by rw[←hr];unfold kH;rw[if_neg h]
  subst e
  refine ac<|aa<|rn 3 [4,5] rfl<|ae<|ap (ah ?_)
  refine bC Tryz.results34 (am rfl) (am rfl) ?_
  intro w hw
  exact⟨(none,0),trivial,rfl,(Cw.nilO Int hw).msub ms⟩
 have h:dI fs m=0:=h
 obtain⟨hF,hR⟩:=nt h
 have e:r=bP m:=by rw[←hr];unfold kH;rw[if_pos h]
 subst e
 refine aq (ak ?_)
 refine ac<|aa<|af (aY (vs:= [_,_,_,_,_,_]) fc bd aJ rfl rfl (by rfl) rfl) rfl rfl ?_
 refine ai (dg rfl rfl rfl Tryz.call88 (fun w hw=>rh fs a m w (dE.ro hw hm) hF hR)) rfl rfl (fun⟨R1,r1⟩ _=>?_)
 try dsimp only
 refine rn 2 [4,5] rfl<|ae<|ap<|bC Tryz.results34 (am rfl) (am rfl) ?_
 intro w hw
 exact⟨(R1,r1),trivial,by rw[h],hw.msub ms⟩
theorem AH:ie ja.frames:=by
 refine⟨by decide,fun x hx=>?_⟩
 have:x=⟨0,0,[⟨true,0⟩],[]⟩:=by simpa [ja] using hx
 subst this
 decide
theorem t6:ie iB.frames:=by
 refine⟨by decide,fun x hx=>?_⟩
 have:x=⟨0,6,[⟨true,2⟩],[]⟩:=by simpa [iB] using hx
 subst this
 decide
theorem uR (A:Option Addr) (c:Nat) (w:World) (hs:Sl w (.slice A 1 c) e8) :
  Calls Tryz.prog 22 #[.agg #[.slice A 1 c]] w fun e w'=> ∃g:MA,True∧
   e= .returned (.tuple #[.agg #[.slice g.Af 1 g.cf,.slice g.Ab 0 g.cb,.slice g.Ai 0 g.ci,.slice g.Ao 0 g.co,.int .i64 0,.int .i64 0],.int .i64 0])∧Cw w.heap.size w [an (.slice g.Af 1 g.cf) ja.frames,an (.slice g.Ab 0 g.cb) ja.blocks,an (.slice g.Ai 0 g.ci) ja.inn,an (.slice g.Ao 0 g.co) ja.out] w':=by
 have:=uJ A c e8 ja eV.2.1 w hs
 rw[eV.1] at this
 exact this
theorem oh (A:Option Addr) (c:Nat) (a:MA) (w:World) (hs:Sl w (.slice A 1 c) e8) (hm:dE w.heap.size w a ja) :
  Calls Tryz.prog 28 #[.agg #[.slice A 1 c],.agg #[.slice a.Af 1 a.cf,.slice a.Ab 0 a.cb,.slice a.Ai 0 a.ci,.slice a.Ao 0 a.co,.int .i64 0,.int .i64 0],.int .i64 10] w fun e w'=> ∃g:MA,True∧
   e= .returned (.tuple #[.agg #[.slice g.Af 1 g.cf,.slice g.Ab 2 g.cb,.slice g.Ai 0 g.ci,.slice g.Ao 0 g.co,.int .i64 0,.int .i64 0],.int .i64 0,.int .i64 0])∧Cw w.heap.size w [an (.slice g.Af 1 g.cf) iB.frames,an (.slice g.Ab 2 g.cb) iB.blocks,an (.slice g.Ai 0 g.ci) iB.inn,an (.slice g.Ao 0 g.co) iB.out] w':=by
 have:=yu A c e8 a ja 10 _ eV.2.2.2.1 w hs hm AH
 rw[eV.2.2.1] at this
 exact this
theorem uS (A:Option Addr) (c:Nat) (a:MA) (w:World) (hs:Sl w (.slice A 1 c) e8) (hm:dE w.heap.size w a iB) :
  Calls Tryz.prog 34 #[.agg #[.slice A 1 c],.agg #[.slice a.Af 1 a.cf,.slice a.Ab 2 a.cb,.slice a.Ai 0 a.ci,.slice a.Ao 0 a.co,.int .i64 0,.int .i64 0]] w fun e w'=> ∃q:Option Addr×Nat,True∧e= .returned (.tuple #[.slice q.1 1 q.2,.int .i64 0])∧Cw w.heap.size w [an (.slice q.1 1 q.2) [(2:Int)]] w':=by
 have:=pY A c e8 a iB [2] (by unfold kH;rw[if_pos eV.2.2.2.2.1];exact eV.2.2.2.2.2.2) w hs hm t6
 rw[eV.2.2.2.2.1] at this
 exact this
theorem oo (A:Option Addr) (c:Nat) (a:MA) (w:World) (hs:Sl w (.slice A 1 c) e8) (hm:dE w.heap.size w a iB) :
  Calls Tryz.prog 35 #[.agg #[.slice A 1 c],.agg #[.slice a.Af 1 a.cf,.slice a.Ab 2 a.cb,.slice a.Ai 0 a.ci,.slice a.Ao 0 a.co,.int .i64 0,.int .i64 0]] w fun e w'=> ∃g:MA,True∧
   e= .returned (.tuple #[.agg #[.slice g.Af 1 g.cf,.slice g.Ab 1 g.cb,.slice g.Ai 0 g.ci,.slice g.Ao 0 g.co,.int .i64 0,.int .i64 0],.int .i64 1,.int .i64 0])∧Cw w.heap.size w [an (.slice g.Af 1 g.cf) rO.frames,an (.slice g.Ab 1 g.cb) rO.blocks,an (.slice g.Ai 0 g.ci) rO.inn,an (.slice g.Ao 0 g.co) rO.out] w':=by
 have:=nN A c e8 a iB _ eV.2.2.2.2.2.1 w hs hm t6
 rw[eV.2.2.2.2.1] at this
 exact this
set_option maxRecDepth 100000 in
set_option maxHeartbeats 4000000 in
theorem oy (w:World):Calls Tryz.prog 38 #[] w fun e w'=>e= .returned (.bool true)∧Below w.heap.size w w':=by
 refine enter Tryz.func38 rfl Tryz.ntmps38 rfl ?_
 refine ac<|aa<|rn 1 [] rfl<|ae<|ac<|aa<|ai (dg rfl rfl rfl qr (fun w hw=>iw w)) rfl rfl (fun gp _=>?_)
 refine ai (dg rfl rfl rfl Tryz.call22 (fun w hw=>uR _ _ w (SF.at_ (SF.own rfl fc) hw))) rfl rfl (fun a1 _=>?_)
 refine rn 3 [14,15] rfl<|ai (a9 bw rfl rfl) rfl rfl (fun g1 _=>?_)
 refine ai (aM _ fc aJ rfl rfl rfl rfl rfl (by rfl) rfl (by rfl)) rfl rfl (fun _ _=>?_)
 refine rn 1 [1] rfl<|ae<|eo (fun _:Nat×MA=>True) (fun g=> [(3,.pointer (some ⟨g.1,0,none⟩)),(5,.int .i64 0)]) (fun g=> [az g.1 [.slice g.2.Af 1 g.2.cf,.slice g.2.Ab 2 g.2.cb,.slice g.2.Ai 0 g.2.ci,.slice g.2.Ao 0 g.2.co,.int .i64 0,.int .i64 0] 29,an (.slice g.2.Af 1 g.2.cf) iB.frames,an (.slice g.2.Ab 2 g.2.cb) iB.blocks,an (.slice g.2.Ai 0 g.2.ci) iB.inn,an (.slice g.2.Ao 0 g.2.co) iB.out]) ?_ ?_
 ·refine bV (.still 1 (.pick 0 (.pick 2 (.calm 3 (.calm 4 (.calm 5 (.calm 6 (.pick 7 (.pick 8 (.calm 9 (.calm 10 .done)) .stop) .stop))))) (.pick 7 (.pick 2 (.calm 3 (.calm 4 (.calm 5 (.calm 6 (.pick 8 (.calm 9 (.calm 10 .done)) .stop))))) .stop) .stop)) (.pick 7 (.pick 0 (.pick 2 (.calm 3 (.calm 4 (.calm 5 (.calm 6 (.pick 8 (.calm 9 (.calm 10 .done)) .stop))))) .stop) .stop) .stop))) [2,3,4,5,6,8,9,10] rfl (by kernel_rfl) (by kernel_rfl) ?_
  refine av rfl (aY (vs:= [_,_,_,_,_,_]) fc bd aJ rfl rfl (by rfl) rfl) rfl rfl ha ?_
  refine aB rfl (dg rfl rfl rfl qr (fun w hw=>iw w)) rfl rfl (.inr fun _=>ha) (fun gq _=>?_) ?_
  ·refine aB rfl (dg rfl rfl rfl Ec (fun w hw=>oh _ _ a1 w (SF.at_ (SF.own rfl fc) hw) (gu (m:=ja) hw fc fc fc fc rfl rfl rfl rfl (by decide) (by decide)))) rfl rfl (.inl rfl) (fun a2 _=>?_) ?_
   ·refine dY 4 [20,21,22] rfl<|aB rfl (a9 bw rfl rfl) rfl rfl (.inr fun _=>ha) (fun q _=>?_) ay
    refine aB rfl (aM [_,_,_,_,_,_] fc aJ rfl rfl rfl rfl rfl (by rfl) rfl (by rfl)) rfl rfl (.inl rfl) (fun _ _=>?_) ay
    refine dY 2 [3,5] rfl<|cD<|be (q,a2) (trivial) ⟨rfl,rfl,trivial⟩ (fun _ h=>h.msub ms)
   refine aB rfl (a9 bw rfl rfl) rfl rfl (.inr fun _=>ha) (fun q _=>?_) ay
   refine aB rfl (dg rfl rfl rfl Ec (fun w hw=>oh _ _ a1 w (SF.at_ (SF.own rfl fc) hw) (gu (m:=ja) hw fc fc fc fc rfl rfl rfl rfl (by decide) (by decide)))) rfl rfl (.inl rfl) (fun a2 _=>?_) ay
   refine dY 4 [3,20,21,22] rfl<|aB rfl (aM [_,_,_,_,_,_] fc aJ rfl rfl rfl rfl rfl (by rfl) rfl (by rfl)) rfl rfl (.inl rfl) (fun _ _=>?_) ay
   refine dY 2 [3,5] rfl<|cD<|be (q,a2) (trivial) ⟨rfl,rfl,trivial⟩ (fun _ h=>h.msub ms)
  refine aB rfl (a9 bw rfl rfl) rfl rfl (.inr fun _=>ha) (fun q _=>?_) ay
  refine aB rfl (dg rfl rfl rfl qr (fun w hw=>iw w)) rfl rfl (.inr fun _=>ha) (fun gq _=>?_) ay
  refine aB rfl (dg rfl rfl rfl Ec (fun w hw=>oh _ _ a1 w (SF.at_ (SF.own rfl fc) hw) (gu (m:=ja) hw fc fc fc fc rfl rfl rfl rfl (by decide) (by decide)))) rfl rfl (.inl rfl) (fun a2 _=>?_) ay
  refine dY 4 [3,20,21,22] rfl<|aB rfl (aM [_,_,_,_,_,_] fc aJ rfl rfl rfl rfl rfl (by rfl) rfl (by rfl)) rfl rfl (.inl rfl) (fun _ _=>?_) ay
  refine dY 2 [3,5] rfl<|cD<|be (q,a2) (trivial) ⟨rfl,rfl,trivial⟩ (fun _ h=>h.msub ms)
 rintro⟨ga,a2⟩ _
 try dsimp only
 refine ac<|bV (.still 1 (.pick 0 (.pick 2 (.calm 3 (.calm 4 (.calm 5 (.calm 6 (.calm 7 .done))))) .stop) .stop)) [2,3,4,5,6,7] rfl (by kernel_rfl) (by kernel_rfl) ?_
 refine av rfl (aY (vs:= [_,_,_,_,_,_]) fc bd aJ rfl rfl (by rfl) rfl) rfl rfl ha ?_
 refine aB rfl (dg rfl rfl rfl qr (fun w hw=>iw w)) rfl rfl (.inr fun _=>ha) (fun gq _=>?_) ay
 refine aB rfl (dg rfl rfl rfl Tryz.call34 (fun w hw=>uS _ _ a2 w (SF.at_ (SF.own rfl fc) hw) (gu (m:=iB) hw fc fc fc fc rfl rfl rfl rfl (by decide) (by decide)))) rfl rfl (.inl rfl) (fun⟨Q1,q1⟩ _=>?_) ay
 try dsimp only
 refine dY 5 [3,5,6,7] rfl<|cu<|eo (fun _:Nat×MA=>True) (fun g=> [(3,.pointer (some ⟨ga,0,none⟩)),(5,.int .i64 0),(6,.slice Q1 1 q1),(7,.int .i64 0),(8,.pointer (some ⟨g.1,0,none⟩)),(9,.int .i64 1),(10,.int .i64 0)]) (fun g=> [az g.1 [.slice g.2.Af 1 g.2.cf,.slice g.2.Ab 1 g.2.cb,.slice g.2.Ai 0 g.2.ci,.slice g.2.Ao 0 g.2.co,.int .i64 0,.int .i64 0] 29,an (.slice g.2.Af 1 g.2.cf) rO.frames,az ga [.slice a2.Af 1 a2.cf,.slice a2.Ab 2 a2.cb,.slice a2.Ai 0 a2.ci,.slice a2.Ao 0 a2.co,.int .i64 0,.int .i64 0] 29,an (.slice Q1 1 q1) [(2:Int)]]) ?_ ?_
 ·refine bV (.still 1 (.pick 0 (.pick 2 (.calm 3 (.calm 4 (.calm 5 (.calm 6 (.pick 7 (.pick 8 (.calm 9 (.calm 10 .done)) .stop) .stop))))) (.pick 7 (.pick 2 (.calm 3 (.calm 4 (.calm 5 (.calm 6 (.pick 8 (.calm 9 (.calm 10 .done)) .stop))))) .stop) .stop)) (.pick 7 (.pick 0 (.pick 2 (.calm 3 (.calm 4 (.calm 5 (.calm 6 (.pick 8 (.calm 9 (.calm 10 .done)) .stop))))) .stop) .stop) .stop))) [2,3,4,5,6,8,9,10] rfl (by kernel_rfl) (by kernel_rfl) ?_
  refine av rfl (aY (vs:= [_,_,_,_,_,_]) fc bd aJ rfl rfl (by rfl) rfl) rfl rfl ha ?_
  refine aB rfl (dg rfl rfl rfl qr (fun w hw=>iw w)) rfl rfl (.inr fun _=>ha) (fun gr _=>?_) ?_
  ·refine aB rfl (dg rfl rfl rfl CB (fun w hw=>oo _ _ a2 w (SF.at_ (SF.own rfl fc) hw) (gu (m:=iB) hw fc fc fc fc rfl rfl rfl rfl (by decide) (by decide)))) rfl rfl (.inl rfl) (fun a3 _=>?_) ?_
   ·refine dY 4 [3,5,6,7,33,34,35] rfl<|aB rfl (a9 bw rfl rfl) rfl rfl (.inr fun _=>ha) (fun q _=>?_) ay
    refine aB rfl (aM [_,_,_,_,_,_] fc aJ rfl rfl rfl rfl rfl (by rfl) rfl (by rfl)) rfl rfl (.inl rfl) (fun _ _=>?_) ay
    refine dY 2 [3,5,6,7,8,9,10] rfl<|cD<|be (q,a3) (trivial) ⟨rfl,rfl,rfl,rfl,rfl,rfl,rfl,trivial⟩ (fun _ h=>h.msub ms)
   refine aB rfl (a9 bw rfl rfl) rfl rfl (.inr fun _=>ha) (fun q _=>?_) ay
   refine aB rfl (dg rfl rfl rfl CB (fun w hw=>oo _ _ a2 w (SF.at_ (SF.own rfl fc) hw) (gu (m:=iB) hw fc fc fc fc rfl rfl rfl rfl (by decide) (by decide)))) rfl rfl (.inl rfl) (fun a3 _=>?_) ay
   refine dY 4 [3,5,6,7,8,33,34,35] rfl<|aB rfl (aM [_,_,_,_,_,_] fc aJ rfl rfl rfl rfl rfl (by rfl) rfl (by rfl)) rfl rfl (.inl rfl) (fun _ _=>?_) ay
   refine dY 2 [3,5,6,7,8,9,10] rfl<|cD<|be (q,a3) (trivial) ⟨rfl,rfl,rfl,rfl,rfl,rfl,rfl,trivial⟩ (fun _ h=>h.msub ms)
  refine aB rfl (a9 bw rfl rfl) rfl rfl (.inr fun _=>ha) (fun q _=>?_) ay
  refine aB rfl (dg rfl rfl rfl qr (fun w hw=>iw w)) rfl rfl (.inr fun _=>ha) (fun gr _=>?_) ay
  refine aB rfl (dg rfl rfl rfl CB (fun w hw=>oo _ _ a2 w (SF.at_ (SF.own rfl fc) hw) (gu (m:=iB) hw fc fc fc fc rfl rfl rfl rfl (by decide) (by decide)))) rfl rfl (.inl rfl) (fun a3 _=>?_) ay
  refine dY 4 [3,5,6,7,8,33,34,35] rfl<|aB rfl (aM [_,_,_,_,_,_] fc aJ rfl rfl rfl rfl rfl (by rfl) rfl (by rfl)) rfl rfl (.inl rfl) (fun _ _=>?_) ay
  refine dY 2 [3,5,6,7,8,9,10] rfl<|cD<|be (q,a3) (trivial) ⟨rfl,rfl,rfl,rfl,rfl,rfl,rfl,trivial⟩ (fun _ h=>h.msub ms)
 rintro⟨gb,a3⟩ _
 try dsimp only
 refine Cg (k:=1) (c:=a3.cf) (A:=a3.Af) (fr:=rO.frames) rfl fc fun X hsX hX=>?_
 obtain⟨B1,d1,B2,d2,e1,hX1⟩:=hX.el 0 (by decide)
 have hS:∀H H',cz H X H'→SF w.heap.size w H B1 1 d1 [(⟨true,1⟩:aR)]:=fun _ _ f=>(hX1 _ _ f).1
 refine ac<|aa<|rn 3 [3,6,7,8,9,10,38] rfl<|bU (t:=38) (v':= .bool true) rfl (rfl) ?_
 refine rn 4 [3,6,8,9,10,42] rfl<|bU (t:=42) (v':= .bool true) rfl (rfl) ?_
 refine rn 4 [3,6,8,9,46] rfl<|bU (t:=46) (v':= .bool true) rfl (rfl) ?_
 refine rn 1 [6,8,9,46,47] rfl<|af (aj fc dp rfl rfl (by rfl)) rfl rfl ?_
 refine af (aL bj rfl rfl) rfl rfl<|rn 3 [6,8,9,52] rfl<|bU (t:=52) (v':= .bool true) rfl (rfl) ?_
 refine rn 1 [8,9,52,53] rfl<|ai (a8 (cs:= [_]) ag aF aV rfl rfl rfl rfl rfl) rfl rfl (fun g2 _=>?_)
 refine jg (fun w h=>bW (α:=Int) (m:=1) [2] rfl (is (by decide)) rfl (by decide) (h.msub (T:= [az g2 _ _,an (.slice a3.Af 1 a3.cf) hsX,X,az gb [.slice a3.Af 1 a3.cf,.slice a3.Ab 1 a3.cb,.slice a3.Ai 0 a3.ci,.slice a3.Ao 0 a3.co,.int .i64 0,.int .i64 0] 29,az ga [.slice a2.Af 1 a2.cf,.slice a2.Ab 2 a2.cb,.slice a2.Ai 0 a2.ci,.slice a2.Ao 0 a2.co,.int .i64 0,.int .i64 0] 29,an (.slice Q1 1 q1) [(2:Int)]]) ms)) ?_
 refine ai (bB rfl rfl rfl nE (fun w hw=>ip Q1 (some ⟨g2,0,none⟩) q1 1 [2] [2] w (SF.at_ (SF.own (A:=Q1) (m:=1) (c:=q1) (xs:= [(2:Int)]) rfl fc) hw) (SF.at_ (SF.own (A:=some ⟨g2,0,none⟩) (m:=1) (c:=1) (xs:= [(2:Int)]) rfl fc) hw))) rfl rfl (fun _ _=>?_)
 refine rn 2 [8,9,57] rfl<|bU (t:=57) (v':= .bool true) rfl (congrArg Value.bool (decide_eq_true rfl)) ?_
 refine rn 4 [8,61] rfl<|bU (t:=61) (v':= .bool true) rfl (rfl) ?_
 refine rn 1 [8,61,62] rfl<|af (aj fc dp rfl rfl (by rfl)) rfl rfl ?_
 refine af (aL bj rfl rfl) rfl rfl<|rn 3 [8,67] rfl<|bU (t:=67) (v':= .bool true) rfl (rfl) ?_
 refine rn 1 [67,68] rfl<|af (aj fc bG rfl rfl (by rfl)) rfl rfl ?_
 refine af (aQ (k:=0) aT a7 (SF.own (α:=aU) hX.len fc) (by omega) rfl rfl rfl) rfl rfl ?_
 refine rn 1 [67,71] rfl<|af (aZ (fun w hw=>(SF.hfr (SF.own (α:=aU) hX.len fc) (k:=0) (by decide) e1) w hw 2 _ rfl) rfl rfl bZ) rfl rfl ?_
 refine af (aQ (k:=0) aD aP (hS _ _ fc) (by omega) rfl rfl rfl) rfl rfl ?_
 refine af (cL (SF.val (k:=0) (hS _ _ fc) (by decide) default) rfl rfl dA aP) rfl rfl ?_
 refine af (cU (cs:= [_,_]) lK bK rfl rfl (by rfl)) rfl rfl ?_
 refine af (kM rfl rfl rfl (fun w=>Dg w _ _ _ _) (fun w=>CP _ _ _ _ w)) rfl rfl ?_
 refine rn 2 [0] rfl<|ae<|ap<|au Tryz.results38 (am rfl) ?_
 intro w hw
 exact⟨rfl,hw.below⟩
end
section
set_option maxRecDepth 100000 in
theorem s8 (A1 A2:Option Addr) (c1 c2:Nat) (l1 l2:List Int) (e:Int) (he:l1=if e≠0 then [] else l2) (w:World) (h1:Sl w (.slice A1 l1.length c1) l1) (h2:Sl w (.slice A2 l2.length c2) l2) :
  Calls Tryz.prog 39 #[.slice A1 l1.length c1,.int .i64 e,.int .i64 e,.slice A2 l2.length c2] w fun e w'=>e= .returned (.bool true)∧Below w.heap.size w w':=by
 refine enter Tryz.func39 rfl Tryz.ntmps39 rfl ?_
 refine ac<|aa<|rn 1 [0,1,2,3] rfl<|ae<|ac<|ac<|aa<|rn 2 [0,1,2,3,10] rfl<|ae<|bX rfl (fun h=>?_) (fun h=>?_)
 ·have h:¬e=0:=h
  rw[if_pos h] at he
  subst he
  refine aa<|rn 1 [0,1,2,3] rfl<|ae<|ac<|aa<|rn 4 [0,3,14] rfl<|bU (t:=14) (v':= .bool true) rfl (congrArg Value.bool (decide_eq_true rfl)) ?_
  refine rn 2 [14,15,16] rfl<|ai (bB rfl rfl rfl nE (fun w hw=>rL A1 none c1 0 [] w (hw.ro h1) Sl.nil_)) rfl rfl (fun _ _=>?_)
  refine rn 2 [8] rfl<|ae<|ap<|au Tryz.results39 (am rfl) ?_
  intro w hw
  exact⟨rfl,hw.below⟩
 have h:e=0:=h
 rw[if_neg (fun h'=>h' h)] at he
 subst he
 refine aq (ak ?_)
 refine ac<|aa<|rn 4 [0,3,14] rfl<|bU (t:=14) (v':= .bool true) rfl (congrArg Value.bool (decide_eq_true rfl)) ?_
 refine rn 2 [14,15,16] rfl<|ai (bB rfl rfl rfl nE (fun w hw=>rL A1 A2 c1 c2 l1 w (hw.ro h1) (hw.ro h2))) rfl rfl (fun _ _=>?_)
 refine rn 2 [8] rfl<|ae<|ap<|au Tryz.results39 (am rfl) ?_
 intro w hw
 exact⟨rfl,hw.below⟩
theorem v5 (a:MA) (m:aI) (r:List Int) (hr:bP m=r) (w:World) (hm:dE w.heap.size w a m) (hfs:∀x∈m.frames,x.locals.length≤1000∧x.stack.length≤8) (hb8:m.blocks.length≤8) (hn6:m.frames.length≤6) :
  Calls Tryz.prog 36 #[.agg #[.slice a.Af m.frames.length a.cf,.slice a.Ab m.blocks.length a.cb,.slice a.Ai m.inn.length a.ci,.slice a.Ao m.out.length a.co,.int .i64 m.status,.int .i64 m.trap]] w fun e w'=> ∃q:Option Addr×Nat,True∧e= .returned (.slice q.1 r.length q.2)∧Cw w.heap.size w [an (.slice q.1 r.length q.2) r] w':=by
 subst hr
 exact oJ a m w hm hfs hb8 hn6
theorem qv (fs:List aA) (a:MA) (m c:aI) (hc:dr m=c) (w:World) (hm:dE w.heap.size w a m) (hF:eZ fs) (hR:de fs m) :
  Calls Tryz.prog 37 #[.agg #[.slice a.Af m.frames.length a.cf,.slice a.Ab m.blocks.length a.cb,.slice a.Ai m.inn.length a.ci,.slice a.Ao m.out.length a.co,.int .i64 m.status,.int .i64 m.trap]] w fun e w'=> ∃g:MA,True∧
   e= .returned (.agg #[.slice g.Af c.frames.length g.cf,.slice g.Ab c.blocks.length g.cb,.slice g.Ai c.inn.length g.ci,.slice g.Ao c.out.length g.co,.int .i64 c.status,.int .i64 c.trap])∧Cw w.heap.size w [an (.slice g.Af c.frames.length g.cf) c.frames,an (.slice g.Ab c.blocks.length g.cb) c.blocks,an (.slice g.Ai c.inn.length g.ci) c.inn,an (.slice g.Ao c.out.length g.co) c.out] w':=by
 subst hc
 exact pI fs a m w hm hF hR
set_option maxRecDepth 100000 in
set_option maxHeartbeats 4000000 in
theorem ox (Ap:Option Addr) (cp:Nat) (fs:List aA) (a:MA) (m:aI) (w:World) (hs:Sl w (.slice Ap fs.length cp) fs) (hm:dE w.heap.size w a m) (hfit:ie m.frames) :
  Calls Tryz.prog 6 #[.agg #[.slice Ap fs.length cp],.agg #[.slice a.Af m.frames.length a.cf,.slice a.Ab m.blocks.length a.cb,.slice a.Ai m.inn.length a.ci,.slice a.Ao m.out.length a.co,.int .i64 m.status,.int .i64 m.trap]] w fun e w'=>e= .returned (.bool true)∧Below w.heap.size w w':=by
 obtain⟨r,hr⟩:∃r,kH fs m=r:=⟨_,rfl⟩
 obtain⟨d,hd⟩:∃d,lB fs m=d:=⟨_,rfl⟩
 have bb:=bR hm.b
 have er:r=if dI fs m≠0 then [] else r:=by
  split
  ·rename_i h
   rw[←hr];unfold kH;rw[if_neg h]
  rfl
 have ed:d.1=if dI fs m≠0 then default else d.1:=by
  split
  ·rename_i h
   rw[←hd];unfold lB;rw[if_neg h]
  rfl
 have hI:a5 d.1.status∧a5 d.1.trap:=by
  rw[←hd]
  unfold lB
  split
  ·exact⟨hm.s,hm.t⟩
  exact⟨by show a5 0;decide,by show a5 0;decide⟩
 refine enter Tryz.func6 rfl Tryz.ntmps6 rfl ?_
 refine ac<|aa<|ai (bH rfl rfl rfl) rfl rfl (fun g1 _=>?_)
 refine ai (bH rfl rfl rfl) rfl rfl (fun g2 _=>?_)
 refine rn 1 [2,3] rfl<|ae<|ac<|aa<|af (aY (vs:= [_]) fc cA cg rfl rfl (by rfl) rfl) rfl rfl ?_
 refine af (aY (vs:= [_,_,_,_,_,_]) fc bd aJ rfl rfl (by rfl) rfl) rfl rfl ?_
 refine ai (dg rfl rfl rfl Tryz.call34 (fun w hw=>pY Ap cp fs a m r hr w (hw.ro hs) (hm.ro hw) hfit)) rfl rfl (fun⟨Q1,q1⟩ _=>?_)
 try dsimp only
 refine rn 5 [2,3,5,6] rfl<|ae<|ac<|aa<|af (aY (vs:= [_]) fc cA cg rfl rfl (by rfl) rfl) rfl rfl ?_
 refine af (aY (vs:= [_,_,_,_,_,_]) fc bd aJ rfl rfl (by rfl) rfl) rfl rfl ?_
 refine ai (dg rfl rfl rfl CB (fun w hw=>nN Ap cp fs a m d hd w (hw.ro hs) (hm.ro hw) hfit)) rfl rfl (fun ga _=>?_)
 refine rn 4 [2,3,5,6,24,25,26] rfl<|ai (a9 bw rfl rfl) rfl rfl (fun g3 _=>?_)
 refine ai (aM _ fc aJ rfl rfl rfl rfl rfl (by rfl) rfl (by rfl)) rfl rfl (fun _ _=>?_)
 refine rn 2 [2,3,5,6,7,8,9] rfl<|ae<|ac<|aa<|af (aY (vs:= [_]) fc cA cg rfl rfl (by rfl) rfl) rfl rfl ?_
 refine af (aY (vs:= [_,_,_,_,_,_]) fc bd aJ rfl rfl (by rfl) rfl) rfl rfl ?_
 refine ai (bB rfl rfl rfl Tryz.call15 (fun w hw=>wb Ap cp fs a m w (hw.ro hs) (hm.ro hw) hfit)) rfl rfl (fun _ _=>?_)
 refine rn 1 [3,5,6,7,8,9,10] rfl<|ae<|ac<|aa<|rn 1 [3,5,6,7,8,9,10,11] rfl<|ae<|ac<|aa<|ai (a9 bw rfl rfl) rfl rfl (fun g4 _=>?_)
 refine ae<|ac<|aa<|rn 1 [3,5,6,7,8,9,10,11,12,13] rfl<|ae<|ac<|ac<|aa<|rn 2 [3,5,6,7,8,9,10,11,12,13,31] rfl<|ae<|gR (fun g:(Option Addr×Nat)×MA=>True) (fun g=> [(5,.slice Q1 r.length q1),(6,.int .i64 (dI fs m)),(7,.pointer (some ⟨g3,0,none⟩)),(8,.int .i64 d.2),(9,.int .i64 (dI fs m)),(10,.int .i64 (dI fs m)),(11,.slice g.1.1 r.length g.1.2),(12,.pointer (some ⟨g4,0,none⟩)),(13,.int .i64 d.2)]) (fun g=> [az g4 [.slice g.2.Af d.1.frames.length g.2.cf,.slice g.2.Ab d.1.blocks.length g.2.cb,.slice g.2.Ai d.1.inn.length g.2.ci,.slice g.2.Ao d.1.out.length g.2.co,.int .i64 d.1.status,.int .i64 d.1.trap] 29,an (.slice g.2.Af d.1.frames.length g.2.cf) d.1.frames,an (.slice g.2.Ab d.1.blocks.length g.2.cb) d.1.blocks,an (.slice g.2.Ai d.1.inn.length g.2.ci) d.1.inn,an (.slice g.2.Ao d.1.out.length g.2.co) d.1.out,an (.slice g.1.1 r.length g.1.2) r,az g1 [.slice Ap fs.length cp] 24,az g2 [.slice a.Af m.frames.length a.cf,.slice a.Ab m.blocks.length a.cb,.slice a.Ai m.inn.length a.ci,.slice a.Ao m.out.length a.co,.int .i64 m.status,.int .i64 m.trap] 29,an (.slice Q1 r.length q1) r,az g3 [.slice ga.Af d.1.frames.length ga.cf,.slice ga.Ab d.1.blocks.length ga.cb,.slice ga.Ai d.1.inn.length ga.ci,.slice ga.Ao d.1.out.length ga.co,.int .i64 d.1.status,.int .i64 d.1.trap] 29,an (.slice ga.Af d.1.frames.length ga.cf) d.1.frames,an (.slice ga.Ab d.1.blocks.length ga.cb) d.1.blocks,an (.slice ga.Ai d.1.inn.length ga.ci) d.1.inn,an (.slice ga.Ao d.1.out.length ga.co) d.1.out]) ?_ ?_
 ·refine ar rfl (fun q3=>?_) (fun q3=>?_)
  ·have q3:dI fs m=0:=q3
   obtain⟨hF,hR⟩:=nt q3
   have hrr:bP m=r:=by rw[←hr];unfold kH;rw[if_pos q3]
   have ja:dr m=d.1:=by rw[←hd];unfold lB;rw[if_pos q3]
   have hd2:(m.blocks.length:Int) - (d.1.blocks.length:Int)=d.2:=by rw[←hd];unfold lB;rw[if_pos q3]
   have hfs:∀x∈m.frames,x.locals.length≤1000∧x.stack.length≤8:=fun x hx=>by
    obtain⟨i,hi,rfl⟩:=List.getElem_of_mem hx
    have h:=mq hF hR hi
    unfold aN at h
    rw[List.getD_eq_getElem?_getD,List.getElem?_eq_getElem hi] at h
    exact⟨h.2,h.1⟩
   have hkl:(dr m).blocks.length≤m.blocks.length:=gI _ _ _
   have hb8:=(f7 hR.bl).1
   refine eo (fun g:(Option Addr×Nat)×MA=>True) (fun g=> [(3,.pointer (some ⟨g2,0,none⟩)),(5,.slice Q1 r.length q1),(6,.int .i64 (dI fs m)),(7,.pointer (some ⟨g3,0,none⟩)),(8,.int .i64 d.2),(9,.int .i64 (dI fs m)),(10,.int .i64 (dI fs m)),(11,.slice g.1.1 r.length g.1.2),(12,.pointer (some ⟨g4,0,none⟩))]) (fun g=> [az g4 [.slice g.2.Af d.1.frames.length g.2.cf,.slice g.2.Ab d.1.blocks.length g.2.cb,.slice g.2.Ai d.1.inn.length g.2.ci,.slice g.2.Ao d.1.out.length g.2.co,.int .i64 d.1.status,.int .i64 d.1.trap] 29,an (.slice g.2.Af d.1.frames.length g.2.cf) d.1.frames,an (.slice g.2.Ab d.1.blocks.length g.2.cb) d.1.blocks,an (.slice g.2.Ai d.1.inn.length g.2.ci) d.1.inn,an (.slice g.2.Ao d.1.out.length g.2.co) d.1.out,an (.slice g.1.1 r.length g.1.2) r,az g1 [.slice Ap fs.length cp] 24,az g2 [.slice a.Af m.frames.length a.cf,.slice a.Ab m.blocks.length a.cb,.slice a.Ai m.inn.length a.ci,.slice a.Ao m.out.length a.co,.int .i64 m.status,.int .i64 m.trap] 29,an (.slice Q1 r.length q1) r,az g3 [.slice ga.Af d.1.frames.length ga.cf,.slice ga.Ab d.1.blocks.length ga.cb,.slice ga.Ai d.1.inn.length ga.ci,.slice ga.Ao d.1.out.length ga.co,.int .i64 d.1.status,.int .i64 d.1.trap] 29,an (.slice ga.Af d.1.frames.length ga.cf) d.1.frames,an (.slice ga.Ab d.1.blocks.length ga.cb) d.1.blocks,an (.slice ga.Ai d.1.inn.length ga.ci) d.1.inn,an (.slice ga.Ao d.1.out.length ga.co) d.1.out]) ?_ ?_
   ·refine bV (.still 0 (.still 2 (.pick 1 (.pick 3 (.calm 4 (.pick 5 .done .stop)) .stop) .stop))) [3,4,5] rfl (by kernel_rfl) (by kernel_rfl) ?_
    refine av rfl (aY (vs:= [_,_,_,_,_,_]) fc bd aJ rfl rfl (by rfl) rfl) rfl rfl ha ?_
    refine av rfl (aY (vs:= [_,_,_,_,_,_]) fc bd aJ rfl rfl (by rfl) rfl) rfl rfl ha ?_
    refine aB rfl (dg rfl rfl rfl Tryz.call36 (fun w hw=>v5 a m r hrr w (hm.ro hw) hfs hb8 hR.n6)) rfl rfl (.inr fun _=>ha) (fun⟨Q2,q2⟩ _=>?_) ay
    try dsimp only
    refine aB rfl (dg rfl rfl rfl Tryz.call37 (fun w hw=>qv fs a m d.1 ja w (hm.ro hw) hF hR)) rfl rfl (.inl rfl) (fun gw _=>?_) ay
    refine dY 1 [3,5,6,7,8,9,10,11,12,35] rfl<|aB rfl (aM _ fc aJ rfl rfl rfl rfl rfl (by rfl) rfl (by rfl)) rfl rfl (.inl rfl) (fun _ _=>?_) ay
    refine cD<|be ((Q2,q2),gw) (trivial) ⟨rfl,rfl,rfl,rfl,rfl,rfl,rfl,rfl,rfl,trivial⟩ (fun _ h=>h.msub ms)
   rintro⟨⟨Q2,q2⟩,gw⟩ _
   try dsimp only
   rw[ja] at hkl
   refine aa<|rn 1 [5,6,7,8,9,10,11,12,36] rfl<|af (aj fc dp rfl rfl (by rfl)) rfl rfl ?_
   refine af (aL bj rfl rfl) rfl rfl<|rn 1 [5,6,7,8,9,10,11,12,38,39] rfl<|af (aj fc dp rfl rfl (by rfl)) rfl rfl ?_
   refine af (aL bj rfl rfl) rfl rfl<|af (cn rfl rfl rfl (by omega)) rfl rfl<|rn 1 [5,6,7,8,9,10,11,12,13] rfl<|bU (t:=13) (v':= .int .i64 d.2) rfl (by rw[←hd2]) ?_
   refine iq ((Q2,q2),gw) (trivial) ⟨rfl,rfl,rfl,rfl,rfl,rfl,rfl,rfl,rfl,trivial⟩ me
  have q3:¬dI fs m=0:=q3
  obtain rfl:r= []:=by rw[er,if_pos q3]
  obtain rfl:(default,0)=d:=by rw[←hd];unfold lB;rw[if_neg q3]
  refine aq<|be ((none,0),⟨none,0,none,0,none,0,none,0⟩) (trivial) ⟨rfl,rfl,rfl,rfl,rfl,rfl,rfl,rfl,rfl,trivial⟩ (fun w h=>(Cw.nilO Int (jL h)).msub ms)
 rintro⟨⟨Q2,q2⟩,gw⟩ _
 try dsimp only
 refine ac<|aa<|ai (bB rfl rfl rfl Tryz.call38 (fun w hw=>oy w)) rfl rfl (fun _ _=>?_)
 refine rn 5 [7,8,9,10,12,13,44,45,46,47,48] rfl<|ai (bB rfl rfl rfl Tryz.call39 (fun w hw=>s8 Q1 Q2 q1 q2 r r (dI fs m) er w (SF.at_ (SF.own (xs:=r) (A:=Q1) (c:=q1) rfl fc) hw) (SF.at_ (SF.own (xs:=r) (A:=Q2) (c:=q2) rfl fc) hw))) rfl rfl (fun _ _=>?_)
 refine rn 2 [7,8,9,10,12,13,51] rfl<|bU (t:=51) (v':= .bool true) rfl (rfl) ?_
 refine af (aY (vs:= [_,_,_,_,_,_]) fc bd aJ rfl rfl (by rfl) rfl) rfl rfl ?_
 refine rn 2 [8,12,13,51,52,53,54] rfl<|af (aY (vs:= [_,_,_,_,_,_]) fc bd aJ rfl rfl (by rfl) rfl) rfl rfl ?_
 refine ai (bB rfl rfl rfl Tryz.call21 (fun w hw=>qx ga gw d.1 d.1 (dI fs m) ed w (gu (m:=d.1) hw fc fc fc fc rfl rfl rfl rfl hI.1 hI.2) (gu (m:=d.1) hw fc fc fc fc rfl rfl rfl rfl hI.1 hI.2))) rfl rfl (fun _ _=>?_)
 refine rn 2 [8,13,58] rfl<|bU (t:=58) (v':= .bool true) rfl (rfl) ?_
 refine rn 5 [4] rfl<|ae<|ap<|au Tryz.results6 (am rfl) ?_
 intro w hw
 exact⟨congrArg (fun b=>Ending.returned (.bool b)) (decide_eq_true rfl),hw.below⟩
end
end Go.Proofs.YtpacloheigifkaaGreat
