/- Texts of one proof, one behind the other: lemmas alone. -/
import Derived.Test.YtpacloheigifkaaGreatM0C
import Derived.Deep.QuietTactic
import Derived.BigQuiet
import Derived.Test.YtpacloheigifkaaGreatM35C
import Derived.Test.YtpacloheigifkaaGreatM22C
import Derived.Test.YtpacloheigifkaaGreatM32C
import Derived.Test.YtpacloheigifkaaGreatM17C
import Derived.Test.YtpacloheigifkaaGreatM23C
import Derived.Test.YtpacloheigifkaaGreatM34C
import Derived.Test.YtpacloheigifkaaGreatM28C
import Derived.Test.YtpacloheigifkaaGreatM26C
import Derived.Test.YtpacloheigifkaaGreatM25C

namespace Go.Proofs.YtpacloheigifkaaGreat
open Go.RowKit
section
set_option maxRecDepth 100000 in
theorem iH (n a b:Int) (w:World):Calls Tryz.prog 139 #[.int .i64 n,.int .i64 a,.int .i64 b] w fun e w'=>e= .returned (.bool (bx n a b))∧Below w.heap.size w w':=by
 refine enter Tryz.func139 rfl Tryz.ntmps139 rfl ?_
 refine ac<|aa<|rn 1 [0,1,2] rfl<|ae<|ac<|aa<|rn 4 [0,2,10] rfl<|bL (t:=10) rfl (fun h1=>?_) (fun h1=>?_)
 ·refine rn 5 [6] rfl<|ae<|ap<|au Tryz.results139 (am rfl) ?_
  intro w hw
  exact⟨bh (by unfold bx;rw[h1];rfl),hw.below⟩
 refine rn 5 [6] rfl<|ae<|ap<|au Tryz.results139 (am rfl) ?_
 intro w hw
 exact⟨bh (by unfold bx;rw[h1];rfl),hw.below⟩
set_option maxRecDepth 100000 in
theorem wV (n:Nat) (hn:n*16≤140737488355328) (w:World):Calls Tryz.prog 228 #[.slice none 0 0,.int .i64 (n:Int)] w fun e w'=> ∃g:Option Addr×Nat,True∧e= .returned (.slice g.1 0 g.2)∧Cw w.heap.size w [an (α:=aR) (.slice g.1 0 g.2) []] w':=by
 refine enter Tryz.func228 rfl Tryz.ntmps228 rfl ?_
 refine ac<|aa<|rn 1 [0,1] rfl<|ae<|ac<|ac<|aa<|rn 2 [0,1,6] rfl<|ae<|ar rfl (fun h0=>?_) (fun h0=>?_)
 ·exact absurd h0 (by omega)
 refine aq (ak ?_)
 refine ac<|ac<|aa<|rn 2 [0,8,9] rfl<|af (wq aD rfl rfl) rfl rfl<|rn 1 [0,8,10,11] rfl<|af (aL aD rfl rfl) rfl rfl<|af (cn rfl rfl rfl (by omega)) rfl rfl<|af (cn rfl rfl rfl (by omega)) rfl rfl<|rn 1 [0,1] rfl<|ae<|ac<|aa<|rn 2 [0,1,16] rfl<|ae<|cS (t:=1) (v':= .int .i64 (n:Int)) rfl (by congr 1) ?_
 refine ar rfl (fun h1=>?_) (fun h1=>?_)
 ·refine aa<|rn 2 [0,1,17,18] rfl<|af (wq aD rfl rfl) rfl rfl<|af (jR (k:=0) aD aP (Nat.le_refl _) rfl rfl rfl) rfl rfl<|rn 1 [0,20,21] rfl<|ai (z9 (α:=aR) (bytes:=16) aD Tryz.underlying3 dy rfl (by decide) (by omega) (by omega) rfl rfl rfl) rfl rfl (fun⟨g,c⟩ _=>?_)
  try dsimp only
  refine rn 1 [22,23] rfl<|af (aL aD rfl rfl) rfl rfl<|af (jR (k:=0) aD aP (Nat.zero_le _) rfl rfl rfl) rfl rfl<|rn 1 [0] rfl<|ae<|ac<|aa<|rn 2 [4] rfl<|ae<|ap<|au Tryz.results228 (am rfl) ?_
  intro w hw
  exact⟨(some ⟨g,0,none⟩,c),trivial,rfl,hw⟩
 refine aq (ak ?_)
 refine ac<|aa<|rn 2 [4] rfl<|ae<|ap<|au Tryz.results228 (am rfl) ?_
 intro w hw
 exact⟨(none,0),trivial,rfl,Cw.nilO aR hw⟩
theorem Co (v:aR) (t:Int):ef v t=((v.ref == !decide (t=1)) && ((!decide (t=3)) || decide (v.n=0))):=by
 unfold ef
 cases v.ref <;> by_cases h1:t=1 <;> simp[h1]
set_option maxRecDepth 100000 in
theorem tY (v:aR) (t:Int) (w:World):Calls Tryz.prog 215 #[.agg #[.bool v.ref,.int .i64 v.n],.int .i64 t] w fun e w'=>e= .returned (.bool (ef v t))∧Below w.heap.size w w':=by
 have ha:=Co v t
 generalize hq:ef v t=q at ha
 refine enter Tryz.func215 rfl Tryz.ntmps215 rfl ?_
 refine ac<|aa<|ai (bH rfl rfl rfl) rfl rfl (fun g1 _=>?_)
 refine rn 1 [1,2] rfl<|ae<|ac<|aa<|rn 1 [1,2,5] rfl<|af (aj fc eh rfl rfl (by rfl)) rfl rfl ?_
 refine rn 2 [1,2,6,8] rfl<|af (BC Tryz.underlying4 rfl rfl rfl) rfl rfl<|rn 1 [1,2,10] rfl<|bL (t:=10) rfl (fun h1=>?_) (fun h1=>?_)
 ·rw[h1,Bool.true_and] at ha
  refine rn 3 [2,10,13] rfl<|bL (t:=13) rfl (fun h2=>?_) (fun h2=>?_)
  ·rw[h2,Bool.true_or] at ha
   refine rn 6 [4] rfl<|ae<|ap<|au Cs (am rfl) ?_
   intro w hw
   exact⟨bh ha.symm,hw.below⟩
  rw[h2,Bool.false_or] at ha
  refine rn 1 [10,13,14] rfl<|af (aj fc aw rfl rfl (by rfl)) rfl rfl ?_
  refine rn 4 [4] rfl<|ae<|ap<|au Cs (am rfl) ?_
  intro w hw
  exact⟨bh ha.symm,hw.below⟩
 rw[h1,Bool.false_and] at ha
 refine rn 9 [4] rfl<|ae<|ap<|au Cs (am rfl) ?_
 intro w hw
 exact⟨bh ha.symm,hw.below⟩
def D6 (a:MA) (m:aI) (pv:Value):List Value:= [.slice a.Af m.frames.length a.cf,.slice a.Ab m.blocks.length a.cb,.slice a.Ai m.inn.length a.ci,.slice a.Ao m.out.length a.co,.int .i64 m.status,.int .i64 m.trap,pv]
section
variable {B:Nat} {w0:World} {H:List a4}
set_option maxRecDepth 100000 in
set_option maxHeartbeats 1000000 in
theorem va (gc:Nat) (a:MA) (m:aI) (pv:Value) (v:aR) (w:World) (hw:Cw B w0 (az gc [.slice a.Af m.frames.length a.cf,.slice a.Ab m.blocks.length a.cb,.slice a.Ai m.inn.length a.ci,.slice a.Ao m.out.length a.co,.int .i64 m.status,.int .i64 m.trap,pv] 147::H) w) :
  Calls Tryz.prog 214 #[.pointer (some ⟨gc,0,none⟩),.agg #[.bool v.ref,.int .i64 v.n]] w fun e w'=> ∃_:Unit,True∧e= .returned (.int .i64 (if dG m.blocks.length v=true then 0 else 3))∧Cw B w0 (az gc [.slice a.Af m.frames.length a.cf,.slice a.Ab m.blocks.length a.cb,.slice a.Ai m.inn.length a.ci,.slice a.Ao m.out.length a.co,.int .i64 m.status,.int .i64 m.trap,pv] 147::H) w':=by
 obtain⟨q,hq⟩:∃q,dG m.blocks.length v=q:=⟨_,rfl⟩
 rw[hq]
 obtain⟨r,z⟩:=v
 refine cB Tryz.func214 rfl Tryz.ntmps214 rfl hw ?_
 refine ac<|aa<|ai (bH rfl rfl rfl) rfl rfl (fun g1 _=>?_)
 refine rn 1 [0,3] rfl<|ae<|ac<|ac<|bV (.still 0 (.still 1 (.still 2 (.still 3 (.still 4 (.still 5 (.still 6 (.still 7 (.still 8 (.still 9 (.still 10 (.pick 11 (.still 12 (.still 13 (.still 14 (.still 15 (.still 16 (.still 17 (.still 18 (.still 19 (.still 20 (.pick 21 (.still 22 (.still 23 (.still 24 .done))) .stop)))))))))) .stop)))))))))))) [] rfl (by kernel_rfl) (by kernel_rfl) ?_
 refine aS ha 1 [0,3,5] rfl<|av rfl (aj fc eh rfl rfl (by rfl)) rfl rfl ha ?_
 refine aS ha 1 [0,3,7] rfl<|kI (t:=7) rfl (fun hr=>?_) (fun hr=>?_)
 ·have hq2:bx z 0 m.blocks.length=q:=by rw[←hq];unfold dG;rw[if_pos hr]
  refine aS ha 1 [0,3,7,8] rfl<|av rfl (aj fc aw rfl rfl (by rfl)) rfl rfl ha ?_
  refine aS ha 4 [3,7,9,13] rfl<|av rfl (aj fc dp rfl rfl (by rfl)) rfl rfl ha ?_
  refine av rfl (aL bj rfl rfl) rfl rfl ha ?_
  refine aB rfl (bB rfl rfl rfl sQ (fun w hw=>iH z 0 m.blocks.length w)) rfl rfl (.inr fun _=>ha) (fun _ _=>?_) ay
  refine aS ha 3 [3,19] rfl ?_
  rw[hq2]
  refine kI (t:=19) rfl (fun hb=>?_) (fun hb=>?_)
  ·have hq3:q=false:=by simpa using hb
   subst hq3
   refine aS ha 6 [19,23,25] rfl<|jB rfl rfl rfl (.inr ha) ?_ ay
   refine aS ha 3 [29] rfl<|cu<|br rfl<|ac<|aa<|rn 1 [4] rfl<|ae<|ap (ah ?_)
   refine au sF (am rfl) ?_
   intro w hw
   exact⟨(),trivial,rfl,hw.msub ms⟩
  have hq3:q=true:=by simpa using hb
  subst hq3
  refine aS ha 1 [3,19,20] rfl<|av rfl (aj fc eh rfl rfl (by rfl)) rfl rfl ha ?_
  refine aS ha 2 [3,19,23] rfl<|kI (t:=23) rfl (fun h3=>?_) (fun h3=>?_)
  ·rw[hr] at h3
   cases h3
  refine aS ha 2 [19,23,25] rfl<|jB rfl rfl rfl (.inr ha) ?_ ay
  refine aS ha 3 [29] rfl<|cu<|cK rfl<|aq (ak ?_)
  refine ac<|aa<|rn 1 [4] rfl<|ae<|ap<|au sF (am rfl) ?_
  intro w hw
  exact⟨(),trivial,rfl,hw.msub ms⟩
 have hq2:cW z=q:=by rw[←hq];unfold dG;rw[if_neg (by rw[hr];decide)]
 refine aS ha 8 [3,7,9,15] rfl<|jB rfl rfl rfl (.inr ha) ?_ ay
 refine aS ha 4 [3,19,20] rfl<|av rfl (aj fc eh rfl rfl (by rfl)) rfl rfl ha ?_
 refine aS ha 2 [3,19,23] rfl<|kI (t:=23) rfl (fun h2=>?_) (fun h2=>?_)
 ·refine aS ha 1 [19,23,24] rfl<|av rfl (aj fc aw rfl rfl (by rfl)) rfl rfl ha ?_
  refine aB rfl (bB rfl rfl rfl Tryz.call93 ((fun w hw=>eM ((fun w hw=>ny z w) w hw)))) rfl rfl (.inr fun _=>ha) (fun _ _=>?_) ay
  refine aS ha 3 [29] rfl<|cu ?_
  rw[hq2]
  refine b9 rfl (fun h4=>?_) (fun h4=>?_)
  ·have hq3:q=false:=by simpa using h4
   subst hq3
   refine ac<|aa<|rn 1 [4] rfl<|ae<|ap (ah ?_)
   refine au sF (am rfl) ?_
   intro w hw
   exact⟨(),trivial,rfl,hw.msub ms⟩
  have hq3:q=true:=by simpa using h4
  subst hq3
  refine aq (ak ?_)
  refine ac<|aa<|rn 1 [4] rfl<|ae<|ap<|au sF (am rfl) ?_
  intro w hw
  exact⟨(),trivial,rfl,hw.msub ms⟩
 rw[hr] at h2
 cases h2
end
end
section
def DN (pc:Int) (es:List fq):Option Nat:=es.findIdx? fun x=>decide (x.pc=pc)
def hent (l:List fq) (k:Nat):fq:=l.getD k ⟨0,.slice none 0 0⟩
theorem SF.hent {B:Nat} {w0:World} {H:List a4} {A:Option Addr} {xs:List fq} {m c k:Nat} (hs:SF B w0 H A m c xs) (hk:k<m):∀w,Cw B w0 H w→∀j v,([.int .i64 (hent xs k).pc,(hent xs k).v]:List Value)[j]? =some v→w.cell? ⟨ab A,ao A+k*2+j,none⟩=some v:=fun w hw _ _ hv=>SF.cell hs hk _ hv w hw
set_option maxRecDepth 100000 in
theorem yY (g:Nat) (pc q:Int) (v:Value) (w:World) (hlt:g<w.heap.size) (hc:w.cell? ⟨g,0,none⟩=some (.int .i64 pc)) :
  Calls Tryz.prog 232 #[.agg #[.int .i64 q,v],.pointer (some ⟨g,0,none⟩)] w fun e w'=>e= .returned (.bool (decide (q=pc)))∧Below w.heap.size w w':=by
 refine enter Tryz.func232 rfl Tryz.ntmps232 rfl ?_
 refine ac<|aa<|ai (bH rfl rfl rfl) rfl rfl (fun g1 _=>?_)
 refine rn 1 [1,2] rfl<|ae<|ac<|aa<|rn 1 [1,4] rfl<|af (aj fc aw rfl rfl (by rfl)) rfl rfl ?_
 refine af (aZ (fun w' hw=>(hw.below.cell hlt).trans hc) rfl rfl aw) rfl rfl ?_
 refine rn 2 [3] rfl<|ae<|ap<|au Tryz.results232 (am rfl) ?_
 intro w hw
 exact⟨rfl,hw.below⟩
set_option maxRecDepth 100000 in
theorem AE (A:Option Addr) (c:Nat) (es:List fq) (g:Nat) (pc:Int) (w:World) (hs:Sl w (.slice A es.length c) es) (hlt:g<w.heap.size) (hc:w.cell? ⟨g,0,none⟩=some (.int .i64 pc)) :
  Calls Tryz.prog 231 #[.slice A es.length c,.func (.func 232) #[] #[.pointer (some ⟨g,0,none⟩)]] w fun e w'=> ∃r:Int,((r= -1∧∀i,i<es.length→(hent es i).pc≠pc)∨∃i:Nat,r=i∧i<es.length∧(hent es i).pc=pc∧∀j,j<i→(hent es j).pc≠pc)∧e= .returned (.int .i64 r)∧Cw w.heap.size w [] w':=by
 have b1:=bR hs
 refine enter Tryz.func231 rfl Tryz.ntmps231 rfl ?_
 refine ac<|aa<|rn 1 [0,1] rfl<|ae<|ac<|ac<|aa<|rn 1 [0,1,6] rfl<|af (aL ff rfl rfl) rfl rfl<|rn 1 [0,1,7,8] rfl<|ae<|aE (bD (fun k:Nat=>k≤es.length∧∀j,j<k→(hent es j).pc≠pc) (fun k=>es.length - k) (fun k=> [(0,.slice A es.length c),(1,.func (.func 232) #[] #[.pointer (some ⟨g,0,none⟩)]),(7,.int .i64 (es.length:Int)),(8,.int .i64 (k:Int))]) (fun _=> []) 0 (⟨Nat.zero_le _,fun _ h=>absurd h (Nat.not_lt_zero _)⟩) ⟨rfl,rfl,rfl,rfl,trivial⟩ me ?_)
 rintro k hk'
 obtain⟨hk,hno⟩:k≤es.length∧∀j,j<k→(hent es j).pc≠pc:=hk'
 refine ac<|aa<|rn 1 [0,1,7,8,9] rfl<|ae<|ac<|ar rfl (fun hlt'=>?_) (fun hlt'=>?_)
 ·have hkl:k<es.length:=by omega
  refine aq (ak ?_)
  refine ac<|aE<|ac<|aa<|rn 2 [0,1,5,7,8] rfl<|ae<|ac<|aa<|rn 3 [0,1,5,7,8,11,12,13] rfl<|af (aQ ff ka (.ro hs) (by omega) rfl rfl rfl) rfl rfl<|af (cL (SF.hent (SF.ro hs) hkl) rfl rfl Tryz.isAgg155 ka) rfl rfl<|ai (oO rfl rfl rfl Tryz.call232 (fun w hw=>yY g pc _ _ w (Nat.lt_of_lt_of_le hlt hw.le) ((hw.below.cell hlt).trans hc))) rfl rfl (fun _ _=>?_)
  refine ae<|ar rfl (fun hp=>?_) (fun hp=>?_)
  ·refine ac<|aa<|rn 2 [4] rfl<|ae<|ap (aC (ah (ah (aC (ah ?_)))))
   refine au Tryz.results231 (am rfl) ?_
   intro w hw
   exact⟨(k:Int),.inr ⟨k,rfl,hkl,hp,hno⟩,rfl,hw⟩
  refine aq (aH (ak ?_))
  refine aa<|af (a6 rfl rfl rfl (by omega)) rfl rfl<|rn 1 [0,1,7,8] rfl<|aX (k+1) (⟨by show k+1≤_;omega,fun j hj=>(Nat.lt_or_ge j k).elim (hno j) (fun h=>by obtain rfl:j=k:=(by omega);exact hp)⟩) (by show _ - _<_ - _;omega) ⟨rfl,rfl,rfl,rfl,trivial⟩ me
 obtain rfl:k=es.length:=by omega
 refine bz (aG (aG (bO (ak ?_))))
 refine ac<|aa<|rn 1 [4] rfl<|ae<|ap<|au Tryz.results231 (am rfl) ?_
 intro w hw
 exact⟨-1,.inl ⟨rfl,hno⟩,rfl,hw⟩
section
variable {B:Nat} {w0:World} {H:List a4}
theorem n7 {L:List (Value×List Int)} {v:Value} {xs:List Int} {w:World} (hi:gB L v xs) (h:Cw B w0 (eD L::H) w):Cw B w0 (fS v xs::H) w:=by
 rcases hi with ⟨rfl,rfl⟩ | hi
 ·exact h.upd fun F ho _=>⟨fun _=>False,⟨fun _ h=>h.elim,fun _ _=>Sl.nil_⟩,rfl,rfl,rfl,Nat.le_refl _,fun _ _ _=>rfl,fun b hb=>hb.elim⟩
 refine h.upd fun F ho _=>?_
 obtain⟨F',h5,h6⟩:=Hs.mem (List.mem_map_of_mem (f:=fun p:Value×List Int=>fS p.1 p.2) hi) (show Hs w _ F from ho)
 exact⟨F',h5,rfl,rfl,rfl,Nat.le_refl _,fun _ _ _=>rfl,fun b hb=> .inl (h6 b hb)⟩
theorem zV {A:Option Addr} {m c k:Nat} {xs:List Int} {w:World} (hk:k≤m) (h:Cw B w0 (fS (.slice A m c) xs::H) w):Cw B w0 (fS (.slice A k c) (xs.take k)::H) w:=by
 refine h.upd fun F ho _=>⟨F,⟨ho.1,fun w' hw'=>?_⟩,rfl,rfl,rfl,Nat.le_refl _,fun _ _ _=>rfl,fun b hb=> .inl hb⟩
 have:=(ho.2 w' hw').cut 0 k (Nat.zero_le _) hk
 rw[r5,Nat.sub_zero,Nat.sub_zero,List.drop_zero] at this
 exact this
theorem kJ {w:World} (h:Cw B w0 H w):Cw B w0 (fS (.slice none 0 0) ([]:List Int)::H) w:=n7 gB.nil_ (iU h)
end
theorem t8 {xs:List f8} {pc:Int} {i:Nat} (hi:i<xs.length) (h1:xs[i].pc=pc) (h2:∀j (_:j<i) (h:j<xs.length),xs[j].pc≠pc):(xs.find? fun e=>decide (e.pc=pc))=some xs[i]:=by
 induction xs generalizing i with
 | nil=>simp at hi
 | cons x xs ih=>
  cases i with
  | zero=>rw[List.find?_cons_of_pos (by simpa using h1)];rfl
  | succ i=>
   rw[List.find?_cons_of_neg (by have h3:=h2 0 (by omega) (by simp);rw[List.getElem_cons_zero] at h3;simpa using h3)]
   exact ih (by simpa using hi) h1 fun j hj h=>h2 (j+1) (by omega) (by simpa using h)
theorem t7 {xs:List f8} {pc:Int} (h2:∀j (h:j<xs.length),xs[j].pc≠pc):(xs.find? fun e=>decide (e.pc=pc))=none:=by
 rw[List.find?_eq_none]
 intro e he
 obtain⟨j,hj,rfl⟩:=List.getElem_of_mem he
 simpa using h2 j hj
theorem i9 {es:List fq} {i:Nat} (h:i<es.length):hent es i=es[i]:=by
 unfold hent
 rw[List.getD_eq_getElem?_getD,List.getElem?_eq_getElem h]
 rfl
set_option maxRecDepth 100000 in
set_option maxHeartbeats 1000000 in
theorem qj (Ap:Option Addr) (cp:Nat) (fs:List aA) (k:Nat) (pc:Int) (q:Option (List Int)) (hq:d8 fs (ax fs k) pc=q) (w:World) (hs:Sl w (.slice Ap fs.length cp) fs) (hk:k<fs.length) (hok:iD fs (ax fs k)) (hn0:0<(ax fs k).code.length) :
  Calls Tryz.prog 229 #[.agg #[.slice Ap fs.length cp],.int .i64 (k:Int),.int .i64 pc] w fun e w'=> ∃g:Option Addr×Nat,True∧e= .returned (.tuple #[.slice g.1 (q.getD []).length g.2,.bool q.isSome])∧
   Cw w.heap.size w [fS (.slice g.1 (q.getD []).length g.2) (q.getD [])] w':=by
 refine enter Tryz.func229 rfl Tryz.ntmps229 rfl ?_
 refine ac<|aa<|ai (bH rfl rfl rfl) rfl rfl (fun g1 _=>?_)
 refine ai (bH rfl rfl rfl) rfl rfl (fun g2 _=>?_)
 refine rn 2 [1,3,5] rfl<|ae<|ac<|aa<|af (aY (vs:= [_]) fc cA cg rfl rfl (by rfl) rfl) rfl rfl ?_
 refine rn 1 [5,12,13] rfl<|ai (dg rfl rfl rfl Tryz.call103 (fun w hw=>nL Ap cp fs k w (hw.ro hs) hk hok hn0)) rfl rfl (fun⟨⟨A1,c1⟩,es,L⟩ hre=>?_)
 try dsimp only
 refine rn 5 [5,8] rfl<|ae<|ac<|aa<|rn 2 [8,17,18] rfl<|ai (dg rfl rfl rfl Tryz.call231 (fun w hw=>AE A1 c1 es g2 pc w (SF.at_ (SF.own rfl fc) hw) (ia hw fc) (eq fc rfl w hw))) rfl rfl (fun r hr=>?_)
 refine rn 1 [8,10] rfl<|ae<|ac<|ac<|aa<|rn 2 [8,10,21] rfl<|ae ?_
 have hre:js es L (b8 fs (ax fs k)).1:=hre
 have hl:=hre.len
 refine ar rfl (fun h0=>?_) (fun h0=>?_)
 ·have hq2:q=none:=by
   rcases hr with ⟨_,h⟩ | ⟨i,h,_⟩
   ·rw[←hq]
    unfold d8
    rw[t7 (fun j hj=>by
     have hj':j<es.length:=by omega
     have:=h j hj'
     rw[i9 hj',(hre.el j hj' hj).1] at this
     exact this)]
    rfl
   omega
  subst hq2
  refine ac<|aa<|rn 2 [6,7] rfl<|ae<|ap (ah ?_)
  refine bC Tryz.results229 (am rfl) (am rfl) ?_
  intro w hw
  exact⟨(none,0),trivial,rfl,(kJ hw).msub ms⟩
 obtain⟨i,hi,hlt,hpc,hno⟩:∃i:Nat,r=i∧i<es.length∧(hent es i).pc=pc∧∀j,j<i→(hent es j).pc≠pc:=hr.elim (fun h=>by omega) id
 subst hi
 have hlt2:i<(b8 fs (ax fs k)).1.length:=by omega
 obtain⟨e1,e2⟩:=hre.el i hlt hlt2
 have hq2:q=some (b8 fs (ax fs k)).1[i].stack:=by
  rw[←hq]
  unfold d8
  rw[t8 hlt2 (by rw[←e1,←i9 hlt];exact hpc) (fun j hj h=>by
   have hj':j<es.length:=by omega
   have:=hno j hj
   rw[i9 hj',(hre.el j hj' h).1] at this
   exact this)]
  rfl
 subst hq2
 rw[←i9 hlt] at e2
 refine aq (ak ?_)
 refine ac<|aa<|rn 2 [22,23] rfl<|af (aQ (k:=i) ff ka (SF.own (xs:=es) rfl fc) (by omega) rfl rfl rfl) rfl rfl ?_
 refine rn 1 [25] rfl<|af (aZ (fun w hw=>SF.hent (SF.own (xs:=es) rfl fc) hlt w hw 1 _ rfl) rfl rfl aW) rfl rfl ?_
 refine rn 2 [6,7] rfl<|ae<|ap<|bC Tryz.results229 (am rfl) (am rfl) ?_
 intro w hw
 obtain⟨A5,c5,e5⟩:=e2.form hw fc
 rw[e5] at e2⊢
 exact⟨(A5,c5),trivial,rfl,(n7 e2 (hw.msub (T:=eD L:: []) ms)).msub ms⟩
end
section
theorem tE {fs:List aA} (hF:eZ fs) {k:Nat} (hk:k<fs.length) {pc to_:Int} {t0 t:List Int} (hc:eO (ax fs k) pc to_=true) (h0:d8 fs (ax fs k) (pc - 1)=some t0) (h1:d8 fs (ax fs k) pc=some t) (hr:(ax fs to_.toNat).result≠0):1≤t.length:=by
 unfold eO at hc
 simp only[Bool.and_eq_true,decide_eq_true_eq] at hc
 obtain⟨_,hcc,hca⟩:=hc
 obtain⟨_,_,_,_,v0,hv0,hn0⟩:=(hF.e _ hk).at_ _ _ h0
 generalize bn (ax fs k).code (pc - 1).toNat=oz at hcc hca hv0 hn0
 obtain⟨t',ht',hle⟩:=hn0 pc (by simp[cQ,hcc])
 rw[h1] at ht'
 have ht':=Option.some.inj ht'
 subst ht'
 obtain⟨T0,V0,e0,_,_,_,rfl⟩:=fQ.1 hv0
 simp[tl,hcc] at e0
 obtain⟨rfl,rfl⟩:=e0
 rw[hca] at hle
 unfold bE at hle
 rw[if_neg hr] at hle
 have:=(nv hle).2.1
 omega
theorem ll {f:aA} {pc to_:Int} :eO f pc to_=(bx pc 1 f.code.length && (decide ((bn f.code (pc - 1).toNat).c=12) && decide ((bn f.code (pc - 1).toNat).a=to_))):=rfl
section
variable {B:Nat} {w0:World} {H:List a4}
set_option maxRecDepth 100000 in
set_option maxHeartbeats 4000000 in
theorem xh (gc:Nat) (a:MA) (m:aI) (Ap:Option Addr) (cp:Nat) (fs:List aA) (hs:bM w0 B (.slice Ap fs.length cp) fs) (hm:dE B w0 a m) (hF:eZ fs) (i:Nat) (hi:i<m.frames.length) (hfn:∀x∈m.frames,0≤x.func∧x.func<fs.length) (q:Option (List Int)) (hq:fu fs m.frames i=q) (w:World) (hw:Cw B w0 (az gc [.slice a.Af m.frames.length a.cf,.slice a.Ab m.blocks.length a.cb,.slice a.Ai m.inn.length a.ci,.slice a.Ao m.out.length a.co,.int .i64 m.status,.int .i64 m.trap,.slice Ap fs.length cp] 147::H) w) :
  Calls Tryz.prog 216 #[.pointer (some ⟨gc,0,none⟩),.int .i64 (i:Int)] w fun e w'=> ∃g:Option Addr×Nat,True∧e= .returned (.tuple #[.slice g.1 (q.getD []).length g.2,.bool q.isSome])∧Cw B w0 (fS (.slice g.1 (q.getD []).length g.2) (q.getD [])::az gc [.slice a.Af m.frames.length a.cf,.slice a.Ab m.blocks.length a.cb,.slice a.Ai m.inn.length a.ci,.slice a.Ao m.out.length a.co,.int .i64 m.status,.int .i64 m.trap,.slice Ap fs.length cp] 147::H) w':=by
 have bf:=bR hm.f
 have bp:=bR hs
 obtain⟨A1,c1,A2,c2,hl,hst,hI,hcell⟩:=hm.f.fr hi
 have hx:=hfn _ (dW hi)
 obtain⟨kf,hkf⟩:∃kf:Nat,(aN m.frames i).func=kf:=⟨(aN m.frames i).func.toNat,by omega⟩
 have hkl:kf<fs.length:=by omega
 obtain⟨hok,hn0⟩:=gJ hF.p hkl
 obtain⟨F1,d1,F2,d2,hfl,hfc,hfi,hfcell⟩:=hs.fn hkl
 have bc:=bR hfc
 have hff:fZ fs m.frames i=ax fs kf:=by unfold fZ;rw[hkf,Int.toNat_natCast]
 obtain⟨pc,hpc⟩:∃pc,(aN m.frames i).pc=pc:=⟨_,rfl⟩
 unfold fu at hq
 rw[hff,hpc] at hq
 rw[hkf,hpc] at hcell
 rw[hpc] at hI
 obtain⟨q1,hq1⟩:∃q1,d8 fs (ax fs kf) pc=q1:=⟨_,rfl⟩
 rw[hq1] at hq
 refine cB Tryz.func216 rfl Tryz.ntmps216 rfl hw ?_
 refine ac<|aa<|rn 2 [0,1] rfl<|ae<|ac<|aa<|rn 4 [0,1,16] rfl<|af (aj fc bG rfl rfl (by rfl)) rfl rfl ?_
 refine rn 1 [0,1,17,18] rfl<|af (aQ (k:=i) aT a7 (.ro hm.f) (by omega) rfl rfl rfl) rfl rfl<|af (cL (hcell _) rfl rfl gl a7) rfl rfl<|ai (a9 cY rfl rfl) rfl rfl (fun g1 _=>?_)
 refine ai (aM _ fc a7 rfl rfl rfl rfl rfl (by rfl) rfl (by rfl)) rfl rfl (fun _ _=>?_)
 refine ae<|ac<|bV (.still 0 (.still 1 (.still 2 (.still 3 (.still 4 (.still 5 (.still 6 (.still 7 (.pick 8 (.still 9 (.still 10 (.still 11 (.still 12 (.still 13 .done))))) .stop))))))))) [] rfl (by kernel_rfl) (by kernel_rfl) ?_
 refine aS ha 3 [0,1,6,24] rfl<|av rfl (aY (vs:= [_]) fc cA cg rfl rfl (by rfl) rfl) rfl rfl ha ?_
 refine aS ha 1 [0,1,6,25,26] rfl<|av rfl (aj fc aw rfl rfl (by rfl)) rfl rfl ha ?_
 refine aS ha 1 [0,1,6,25,27,28] rfl<|av rfl (aj fc aw rfl rfl (by rfl)) rfl rfl ha ?_
 refine aB rfl (dg rfl rfl rfl Tryz.call229 (fun w hw=>qj Ap cp fs kf pc q1 hq1 w (hw.ro hs) hkl hok hn0)) rfl rfl (.inr fun _=>ha) (fun⟨A5,c5⟩ _=>?_) ay
 try dsimp only
 refine aS ha 5 [0,1,6,7,8] rfl<|cu<|ac<|ac<|aa<|rn 5 [0,1,6,7,8,33,37] rfl<|af (aj fc bG rfl rfl (by rfl)) rfl rfl ?_
 refine af (aL aT rfl rfl) rfl rfl<|af (cn rfl rfl rfl (by omega)) rfl rfl<|rn 1 [0,1,6,7,8,41] rfl<|ae<|ar rfl (fun h1=>?_) (fun h1=>?_)
 ·rw[if_pos (show i+1=m.frames.length by omega)] at hq
  subst hq
  refine ac<|aa<|rn 4 [4,5] rfl<|ae<|ap (ah ?_)
  refine bC ij (am rfl) (am rfl) ?_
  intro w hw
  exact⟨(A5,c5),trivial,rfl,hw.msub ms⟩
 rw[if_neg (show¬i+1=m.frames.length by omega)] at hq
 have hi2:i+1<m.frames.length:=by omega
 obtain⟨A3,c3,A4,c4,hl2,hst2,hI2,hcell2⟩:=hm.f.fr hi2
 have hy:=hfn _ (dW hi2)
 obtain⟨ky,hky⟩:∃ky:Nat,(aN m.frames (i+1)).func=ky:=⟨(aN m.frames (i+1)).func.toNat,by omega⟩
 have hkyl:ky<fs.length:=by omega
 have hfy:fZ fs m.frames (i+1)=ax fs ky:=by unfold fZ;rw[hky,Int.toNat_natCast]
 rw[hky] at hcell2
 rw[hfy,hky] at hq
 refine aq (ak ?_)
 refine ac<|aa<|rn 4 [0,1,6,7,8,47] rfl<|af (aj fc bG rfl rfl (by rfl)) rfl rfl ?_
 refine rn 1 [0,6,7,8,48,49] rfl<|af (a6 rfl rfl rfl (by omega)) rfl rfl<|af (aQ (k:=(i+1)) aT a7 (.ro hm.f) (by omega) rfl rfl rfl) rfl rfl<|rn 1 [0,6,7,8,52] rfl<|af (aZ (fun w hw=>hcell2 _ w hw 0 _ rfl) rfl rfl aw) rfl rfl ?_
 refine rn 1 [0,6,7,8,9] rfl<|ae<|ac<|bV (.still 0 (.still 1 (.still 2 (.still 3 (.still 4 (.still 5 (.still 6 (.still 7 (.still 8 (.still 9 (.still 10 .done))))))))))) [] rfl (by kernel_rfl) (by kernel_rfl) ?_
 refine aS ha 4 [0,6,7,8,9,57] rfl<|av rfl (aj fc cF rfl rfl (by rfl)) rfl rfl ha ?_
 refine aS ha 1 [0,6,7,8,9,58,59] rfl<|av rfl (aj fc aw rfl rfl (by rfl)) rfl rfl ha ?_
 refine av rfl (aQ (k:=kf) bA bq (.ro hs) (by omega) rfl rfl rfl) rfl rfl ha ?_
 refine aS ha 1 [0,6,7,8,9,62] rfl<|av rfl (aZ (fun w hw=>hfcell _ w hw 3 _ rfl) rfl rfl dk) rfl rfl ha ?_
 refine aS ha 1 [0,6,7,8,9,10] rfl<|cu<|ac<|ac<|aa<|rn 1 [0,6,7,8,9,10,64] rfl<|af (aj fc aw rfl rfl (by rfl)) rfl rfl ?_
 refine rn 1 [0,6,7,8,9,10,65,66] rfl<|af (aL bt rfl rfl) rfl rfl<|ai (bB rfl rfl rfl sQ (fun w hw=>iH pc 1 (ax fs kf).code.length w)) rfl rfl (fun _ _=>?_)
 refine rn 2 [0,6,7,8,9,10,70] rfl<|bL (t:=70) rfl (fun h2=>?_) (fun h2=>?_)
 ·have hc:eO (ax fs kf) pc ky=false:=by
   rw[ll,show bx pc 1 (ax fs kf).code.length=false from by simpa using h2]
   rfl
  rw[if_pos hc] at hq
  subst hq
  refine rn 20 [0,6,7,8,9,90] rfl<|ae<|br rfl<|ac<|aa<|rn 2 [4,5] rfl<|ae<|ap (ah ?_)
  refine bC ij (am rfl) (am rfl) ?_
  intro w hw
  exact⟨(none,0),trivial,rfl,(kJ hw).msub ms⟩
 have hw1:bx pc 1 (ax fs kf).code.length=true:=by simpa using h2
 have hw2:=db.1 hw1
 refine rn 2 [0,6,7,8,9,10,70,71,72] rfl<|af (aj fc aw rfl rfl (by rfl)) rfl rfl ?_
 refine af (cn rfl rfl rfl (by omega)) rfl rfl<|af (eJ bt cE (.ro hfc) (by omega) rfl rfl rfl) rfl rfl<|rn 1 [0,6,7,8,9,10,70,76] rfl<|af (aZ (SF.opc (.ro hfc) (by omega)) rfl rfl aw) rfl rfl<|rn 3 [0,6,7,8,9,10,80] rfl<|bL (t:=80) rfl (fun h3=>?_) (fun h3=>?_)
 ·have hc:eO (ax fs kf) pc ky=false:=by
   have h3:decide ((bn (ax fs kf).code (pc - 1).toNat).c=12)=false:=by simpa using h3
   rw[ll,h3]
   simp
  rw[if_pos hc] at hq
  subst hq
  refine rn 10 [0,6,7,8,9,90] rfl<|ae<|br rfl<|ac<|aa<|rn 2 [4,5] rfl<|ae<|ap (ah ?_)
  refine bC ij (am rfl) (am rfl) ?_
  intro w hw
  exact⟨(none,0),trivial,rfl,(kJ hw).msub ms⟩
 have h3:decide ((bn (ax fs kf).code (pc - 1).toNat).c=12)=true:=by simpa using h3
 refine rn 2 [0,6,7,8,9,80,81,82] rfl<|af (aj fc aw rfl rfl (by rfl)) rfl rfl ?_
 refine af (cn rfl rfl rfl (by omega)) rfl rfl<|af (eJ bt cE (.ro hfc) (by omega) rfl rfl rfl) rfl rfl<|rn 1 [0,6,7,8,9,80,86] rfl<|af (aZ (SF.opa (.ro hfc) (by omega)) rfl rfl aw) rfl rfl<|rn 3 [0,6,7,8,9,90] rfl<|ae<|bX rfl (fun h4=>?_) (fun h4=>?_)
 ·have hc:eO (ax fs kf) pc ky=false:=by
   rw[ll,decide_eq_false (p:=(bn (ax fs kf).code (pc - 1).toNat).a=ky) h4]
   simp
  rw[if_pos hc] at hq
  subst hq
  refine ac<|aa<|rn 2 [4,5] rfl<|ae<|ap (ah ?_)
  refine bC ij (am rfl) (am rfl) ?_
  intro w hw
  exact⟨(none,0),trivial,rfl,(kJ hw).msub ms⟩
 have hc:eO (ax fs kf) pc ky=true:=by
  rw[ll,hw1,h3,decide_eq_true (p:=(bn (ax fs kf).code (pc - 1).toNat).a=ky) h4]
  rfl
 rw[if_neg (by rw[hc];decide)] at hq
 obtain⟨q0,hq0⟩:∃q0,d8 fs (ax fs kf) (pc - 1)=q0:=⟨_,rfl⟩
 rw[hq0] at hq
 refine aq (ak ?_)
 refine ac<|ac<|bV (.still 0 (.still 1 (.still 2 (.still 3 (.still 4 (.still 5 (.still 6 (.still 7 (.still 8 (.pick 9 (.still 10 (.still 11 (.still 12 (.still 13 (.still 14 .done))))) .stop)))))))))) [] rfl (by kernel_rfl) (by kernel_rfl) ?_
 refine aS ha 3 [0,6,7,8,9,94] rfl<|av rfl (aY (vs:= [_]) fc cA cg rfl rfl (by rfl) rfl) rfl rfl ha ?_
 refine aS ha 1 [0,6,7,8,9,95,96] rfl<|av rfl (aj fc aw rfl rfl (by rfl)) rfl rfl ha ?_
 refine aS ha 1 [0,7,8,9,95,97,98] rfl<|av rfl (aj fc aw rfl rfl (by rfl)) rfl rfl ha ?_
 refine av rfl (cn rfl rfl rfl (by omega)) rfl rfl ha ?_
 refine aB rfl (dg rfl rfl rfl Tryz.call229 (fun w hw=>qj Ap cp fs kf (pc - 1) q0 hq0 w (hw.ro hs) hkl hok hn0)) rfl rfl (.inr fun _=>ha) (fun⟨A6,c6⟩ _=>?_) ay
 try dsimp only
 refine aS ha 5 [0,7,8,9,12] rfl<|cu<|ac<|aa<|rn 3 [0,7,8,9,106] rfl<|bL (t:=106) rfl (fun h5=>?_) (fun h5=>?_)
 ·have h5:q0.isSome=false:=by simpa using h5
  rw[if_pos h5] at hq
  subst hq
  refine rn 3 [0,7,9,109] rfl<|ae<|br rfl<|ac<|aa<|rn 2 [4,5] rfl<|ae<|ap (ah ?_)
  refine bC ij (am rfl) (am rfl) ?_
  intro w hw
  exact⟨(none,0),trivial,rfl,(kJ hw).msub ms⟩
 have h5:q0.isSome=true:=by simpa using h5
 rw[if_neg (by rw[h5];decide)] at hq
 refine rn 3 [0,7,9,109] rfl<|ae<|b9 rfl (fun h6=>?_) (fun h6=>?_)
 ·have h6:q1=none:=by simpa using h6
  subst h6
  have hq:none=q:=hq
  subst hq
  refine ac<|aa<|rn 2 [4,5] rfl<|ae<|ap (ah ?_)
  refine bC ij (am rfl) (am rfl) ?_
  intro w hw
  exact⟨(none,0),trivial,rfl,(kJ hw).msub ms⟩
 obtain⟨t,rfl⟩:∃t,q1=some t:=by cases q1 with
  | none=>simp at h6
  | some t=>exact⟨t,rfl⟩
 obtain⟨t0,rfl⟩:∃t0,q0=some t0:=by cases q0 with
  | none=>simp at h5
  | some t0=>exact⟨t0,rfl⟩
 obtain⟨G1,b1,G2,b2,hgl,hgc,hgi,hgcell⟩:=hs.fn hkyl
 have hq:some (if (ax fs ky).result≠0 then t.dropLast else t)=q:=hq
 subst hq
 refine aq (ak ?_)
 refine ac<|ac<|aa<|rn 4 [7,9,113] rfl<|af (aj fc cF rfl rfl (by rfl)) rfl rfl ?_
 refine rn 1 [7,114,115] rfl<|af (aQ (k:=ky) bA bq (.ro hs) (by omega) rfl rfl rfl) rfl rfl<|rn 1 [7,117] rfl<|af (aZ (fun w hw=>hgcell _ w hw 2 _ rfl) rfl rfl aw) rfl rfl ?_
 refine rn 1 [7,119] rfl<|ae<|bX rfl (fun h7=>?_) (fun h7=>?_)
 ·have hone:=tE hF hkl hc hq0 hq1 (by rw[Int.toNat_natCast];exact h7)
  rw[if_pos h7,List.dropLast_eq_take]
  refine fa (fun w hw=>(hw.rdSl (v:= .slice A5 t.length c5) (xs:=t) fc).form) ?_
  rintro⟨_,_,e,hle,_⟩
  injection e with _ _ e
  have ht8:=((hF.e _ hkl).at_ _ _ hq1).2.2.1
  refine cS (t:=7) (v':= .slice A5 t.length c5) rfl (rfl) ?_
  refine aa<|rn 2 [120,121] rfl<|af (aL ag rfl rfl) rfl rfl<|af (cn rfl rfl rfl (by omega)) rfl rfl<|bU (t:=123) (v':= .int .i64 ((t.length - 1:Nat):Int)) rfl (by show Value.int _ ((t.length:Int) - 1)=_;congr 1;omega) ?_
  refine af (jR (k:=t.length - 1) ag aF (by omega) rfl rfl rfl) rfl rfl<|rn 1 [7] rfl<|ae<|ac<|aa<|rn 3 [4,5] rfl<|ae<|ap<|bC ij (am rfl) (am rfl) ?_
  intro w hw
  have hlt:(t.take (t.length - 1)).length=t.length - 1:=by rw[List.length_take];omega
  refine⟨(A5,c5),trivial,by show _=Ending.returned (.tuple #[.slice A5 (t.take (t.length - 1)).length c5,.bool true]);rw[hlt],?_⟩
  show Cw B w0 (fS (.slice A5 (t.take (t.length - 1)).length c5) (t.take (t.length - 1))::_::H) w
  rw[hlt]
  exact(zV (k:=t.length - 1) (by omega) (hw.msub (T:=fS (.slice A5 t.length c5) t::az gc [.slice a.Af m.frames.length a.cf,.slice a.Ab m.blocks.length a.cb,.slice a.Ai m.inn.length a.ci,.slice a.Ao m.out.length a.co,.int .i64 m.status,.int .i64 m.trap,.slice Ap fs.length cp] 147::H) ms)).msub ms
 rw[if_neg (fun h=>h h7)]
 refine aq (ak ?_)
 refine ac<|aa<|rn 3 [4,5] rfl<|ae<|ap<|bC ij (am rfl) (am rfl) ?_
 intro w hw
 exact⟨(A5,c5),trivial,rfl,hw.msub ms⟩
end
end
section
theorem qh {α:Type} {L:List (List α)} {k:Nat} (hk:k<L.length):(L.take (k+1)).flatten=(L.take k).flatten++L.getD k []:=by
 rw[dL L k [] hk,List.flatten_append]
 simp
theorem tf {α:Type} (L:List (List α)) (k:Nat):(L.take k).flatten.length≤L.flatten.length:=by
 rw[←congrArg List.length (congrArg List.flatten (List.take_append_drop k L)),List.flatten_append,List.length_append]
 omega
set_option maxRecDepth 100000 in
set_option maxHeartbeats 1000000 in
theorem vd (g n:Nat) (hd:Nat→Option Addr×Nat) (L:List (List aR)) (hn:L.length=n) (w:World) (hlt:g<w.heap.size) (hc:∀k,k<n→w.cell? ⟨g,0+k*1,none⟩=some (.slice (hd k).1 (L.getD k []).length (hd k).2))
  (hs:∀k,k<n→Sl w (.slice (hd k).1 (L.getD k []).length (hd k).2) (L.getD k [])) (hb:L.flatten.length*16≤140737488355328) (hn':n≤1000) :
  Calls Tryz.prog 213 #[.slice (some ⟨g,0,none⟩) n n] w fun e w'=> ∃u,e= .returned u∧Below w.heap.size w w'∧dB w' w.heap.size u L.flatten:=by
 subst hn
 have hfl:=tf L
 refine enter Tryz.func213 rfl Tryz.ntmps213 rfl ?_
 refine ac<|aa<|rn 1 [0] rfl<|ae<|ac<|aa<|rn 1 [0,3] rfl<|ae<|ac<|ac<|aa<|rn 1 [0,3,9] rfl<|af (aL dP rfl rfl) rfl rfl<|rn 1 [0,3,9,10,11] rfl<|ae<|aE (bD (fun k:Nat=>k≤L.length) (fun k=>L.length - k) (fun k=> [(0,.slice (some ⟨g,0,none⟩) L.length L.length),(3,.int .i64 ((L.take k).flatten.length:Int)),(9,.slice (some ⟨g,0,none⟩) L.length L.length),(10,.int .i64 (L.length:Int)),(11,.int .i64 (k:Int))]) (fun _=> []) 0 (Nat.zero_le _) ⟨rfl,rfl,rfl,rfl,rfl,trivial⟩ me ?_)
 rintro k hk
 have hk:k≤L.length:=hk
 refine ac<|aa<|rn 1 [0,3,9,10,11,12] rfl<|ae<|ac<|ar rfl (fun h1=>?_) (fun h1=>?_)
 ·have hkn:k<L.length:=by omega
  have hft:=congrArg List.length (qh (L:=L) (k:=k) (by omega))
  rw[List.length_append] at hft
  have hfk:=hfl (k+1)
  refine aq (ak ?_)
  refine ac<|aE<|ac<|aa<|af (fV (k:=k) dP dF rfl hkn rfl rfl rfl) rfl rfl<|af (aZ (fun w' hw=>(hw.below.cell hlt).trans (hc k hkn)) rfl rfl bZ) rfl rfl ?_
  refine rn 1 [0,3,5,9,10,11] rfl<|ae<|ac<|aa<|rn 2 [0,9,10,11,15,16] rfl<|af (aL aD rfl rfl) rfl rfl<|af (a6 rfl rfl rfl (by omega)) rfl rfl<|rn 1 [0,3,9,10,11] rfl<|ae<|ac<|aa<|rn 2 [0,3,9,10,11,20] rfl<|ae<|ar rfl (fun h2=>?_) (fun h2=>?_)
  ·exact absurd h2 (by omega)
  refine cS (t:=3) (v':= .int .i64 ((L.take (k+1)).flatten.length:Int)) rfl (by congr 1;omega) ?_
  refine aq (aH (ak ?_))
  refine aa<|af (a6 rfl rfl rfl (by omega)) rfl rfl<|rn 1 [0,3,9,10,11] rfl<|aX (k+1) (by show k+1≤_;omega) (by show _ - _<_ - _;omega) ⟨rfl,rfl,rfl,rfl,rfl,trivial⟩ me
 obtain rfl:k=L.length:=by omega
 rw[List.take_length]
 refine bz (aG (aG (bO (ak ?_))))
 refine ac<|aa<|rn 1 [0,23] rfl<|ai (dg rfl rfl rfl Tryz.call228 (fun w hw=>wV L.flatten.length hb w)) rfl rfl (fun⟨A2,c2⟩ _=>?_)
 try dsimp only
 refine rn 1 [0,6] rfl<|ae<|ac<|ac<|aa<|rn 1 [6,25] rfl<|af (aL dP rfl rfl) rfl rfl<|rn 1 [6,25,26,27] rfl<|ae<|aE (bD (fun g:Nat×Option Addr×Nat=>g.1≤L.length) (fun g=>L.length - g.1) (fun q=> [(6,.slice q.2.1 (L.take q.1).flatten.length q.2.2),(25,.slice (some ⟨g,0,none⟩) L.length L.length),(26,.int .i64 (L.length:Int)),(27,.int .i64 (q.1:Int))]) (fun q=> [an (.slice q.2.1 (L.take q.1).flatten.length q.2.2) (L.take q.1).flatten]) (0,A2,c2) (Nat.zero_le _) ⟨rfl,rfl,rfl,rfl,trivial⟩ me ?_)
 rintro⟨k,A3,c3⟩ hk
 try dsimp only
 have hk:k≤L.length:=hk
 refine ac<|aa<|rn 1 [6,25,26,27,28] rfl<|ae<|ac<|ar rfl (fun h1=>?_) (fun h1=>?_)
 ·have hkn:k<L.length:=by omega
  have hft:=qh (L:=L) (k:=k) (by omega)
  have hft2:=congrArg List.length hft
  rw[List.length_append] at hft2
  have hfk:=hfl (k+1)
  refine aq (ak ?_)
  refine ac<|aE<|ac<|aa<|af (fV (k:=k) dP dF rfl hkn rfl rfl rfl) rfl rfl<|af (aZ (fun w' hw=>(hw.below.cell hlt).trans (hc k hkn)) rfl rfl bZ) rfl rfl ?_
  refine rn 1 [6,8,25,26,27] rfl<|ae<|aa<|rn 2 [25,26,27,31,32] rfl<|ai (cT (α:=aR) (bytes:=16) (xs:=(L.take k).flatten) (ys:=L.getD k []) hft aD (bN dy) rfl fc (.ro (hs k hkn)) (by omega) (by omega) rfl rfl rfl) rfl rfl (fun⟨A5,c5⟩ _=>?_)
  try dsimp only
  refine rn 1 [6,25,26,27] rfl<|bu (aH (ak ?_))
  refine aa<|af (a6 rfl rfl rfl (by omega)) rfl rfl<|rn 1 [6,25,26,27] rfl<|aX (k+1,A5,c5) (by show k+1≤_;omega) (by show _ - _<_ - _;omega) ⟨rfl,rfl,rfl,rfl,trivial⟩ me
 obtain rfl:k=L.length:=by omega
 rw[List.take_length]
 refine bz (aG (aG (bO (ak ?_))))
 refine ac<|aa<|rn 2 [2] rfl<|ae<|ap<|au Tryz.results213 (am rfl) ?_
 intro w hw
 exact⟨_,rfl,i6 hw⟩
end
section
theorem uk {nb:Nat} {l:List aR} {k:Nat} (hk:k<l.length) (h:dG nb (l.getD k default)=false):l.any (fun v=>!dG nb v)=true:=List.any_eq_true.2 ⟨_,eX hk,by rw[h];rfl⟩
theorem sr {nb:Nat} {l:List aR} (h:∀j,j<l.length→dG nb (l.getD j default)=true):¬l.any (fun v=>!dG nb v)=true:=fun ha=>by
 obtain⟨v,hv,h2⟩:=List.any_eq_true.1 ha
 obtain⟨j,hj,rfl⟩:=List.getElem_of_mem hv
 have:=h j hj
 rw[List.getD_eq_getElem?_getD,List.getElem?_eq_getElem hj,Option.getD_some] at this
 rw[this] at h2
 cases h2
theorem nC {s:List aR} {t:List Int} {n k:Nat} (hk:k<n) (h:ef (s.getD k default) (t.getD k 0)=false):uh s t n=false:=by
 cases e:uh s t n with
 | false=>rfl
 | true=>rw[iz.1 e k hk] at h;cases h
section
variable {B:Nat} {w0:World} {H:List a4}
set_option maxRecDepth 100000 in
set_option maxHeartbeats 4000000 in
theorem pk (gc:Nat) (a:MA) (m:aI) (Ap:Option Addr) (cp:Nat) (fs:List aA) (hs:bM w0 B (.slice Ap fs.length cp) fs) (hm:dE B w0 a m) (hF:eZ fs) (hfit:ie m.frames) (i:Nat) (hi:i<m.frames.length) (hfn:∀x∈m.frames,0≤x.func∧x.func<fs.length) (E:Int) (hE:en fs m.blocks.length m.frames i=E) (w:World) (hw:Cw B w0 (az gc [.slice a.Af m.frames.length a.cf,.slice a.Ab m.blocks.length a.cb,.slice a.Ai m.inn.length a.ci,.slice a.Ao m.out.length a.co,.int .i64 m.status,.int .i64 m.trap,.slice Ap fs.length cp] 147::H) w) :
  Calls Tryz.prog 180 #[.pointer (some ⟨gc,0,none⟩),.int .i64 (i:Int)] w fun e w'=> ∃_:Unit,True∧e= .returned (.int .i64 E)∧Cw B w0 (az gc [.slice a.Af m.frames.length a.cf,.slice a.Ab m.blocks.length a.cb,.slice a.Ai m.inn.length a.ci,.slice a.Ao m.out.length a.co,.int .i64 m.status,.int .i64 m.trap,.slice Ap fs.length cp] 147::H) w':=by
 have bf:=bR hm.f
 have bp:=bR hs
 obtain⟨A1,c1,A2,c2,hl,hst,hI,hcell⟩:=hm.f.fr hi
 obtain⟨hb1,hb2⟩:=hfit.2 (aN m.frames i) (dW hi)
 have hx:=hfn _ (dW hi)
 obtain⟨kf,hkf⟩:∃kf:Nat,(aN m.frames i).func=kf:=⟨(aN m.frames i).func.toNat,by omega⟩
 have hkl:kf<fs.length:=by omega
 obtain⟨hok,hn0⟩:=gJ hF.p hkl
 obtain⟨F1,d1,F2,d2,hfl,hfc,hfi,hfcell⟩:=hs.fn hkl
 have hfl6:(ax fs kf).locals.length≤6:=(hok.op 0 hn0).par kf hkl |>.2
 have hff:fZ fs m.frames i=ax fs kf:=by unfold fZ;rw[hkf,Int.toNat_natCast]
 unfold en at hE
 rw[hff] at hE
 rw[hkf] at hcell
 obtain⟨q,hq⟩:∃q,fu fs m.frames i=q:=⟨_,rfl⟩
 rw[hq] at hE
 generalize ax fs kf=f at hE hfl hfc hfi hfcell hfl6
 generalize aN m.frames i=x at hE hl hst hI hcell hb1 hb2
 have bx1:=bR hl
 have bx2:=bR hst
 refine cB Tryz.func180 rfl Tryz.ntmps180 rfl hw ?_
 refine ac<|aa<|rn 1 [0,1] rfl<|ae<|ac<|aa<|rn 4 [0,1,19] rfl<|af (aj fc bG rfl rfl (by rfl)) rfl rfl ?_
 refine rn 1 [0,1,20,21] rfl<|af (aQ (k:=i) aT a7 (.ro hm.f) (by omega) rfl rfl rfl) rfl rfl<|af (cL (hcell _) rfl rfl gl a7) rfl rfl<|ai (a9 cY rfl rfl) rfl rfl (fun g1 _=>?_)
 refine ai (aM _ fc a7 rfl rfl rfl rfl rfl (by rfl) rfl (by rfl)) rfl rfl (fun _ _=>?_)
 refine ae<|ac<|bV (.still 0 (.still 1 (.still 2 (.still 3 (.still 4 (.still 5 (.still 6 (.still 7 (.still 8 (.pick 9 (.pick 10 .done .stop) .stop)))))))))) [10] rfl (by kernel_rfl) (by kernel_rfl) ?_
 refine aS ha 4 [0,1,5,27] rfl<|av rfl (aj fc cF rfl rfl (by rfl)) rfl rfl ha ?_
 refine aS ha 1 [0,1,5,28,29] rfl<|av rfl (aj fc aw rfl rfl (by rfl)) rfl rfl ha ?_
 refine av rfl (aQ (k:=kf) bA bq (.ro hs) (by omega) rfl rfl rfl) rfl rfl ha ?_
 refine av rfl (cL (hfcell _) rfl rfl ei bq) rfl rfl ha ?_
 refine aB rfl (a9 fe rfl rfl) rfl rfl (.inr fun _=>ha) (fun g2 _=>?_) ay
 refine aB rfl (aM _ fc bq rfl rfl rfl rfl rfl (by rfl) rfl (by rfl)) rfl rfl (.inl rfl) (fun _ _=>?_) ay
 refine cu<|ac<|ac<|aa<|rn 1 [0,1,5,6,33] rfl<|af (aj fc bZ rfl rfl (by rfl)) rfl rfl ?_
 refine af (aL aD rfl rfl) rfl rfl<|rn 1 [0,1,5,6,35,36] rfl<|af (aj fc aW rfl rfl (by rfl)) rfl rfl ?_
 refine af (aL ag rfl rfl) rfl rfl<|rn 1 [0,1,5,6,39] rfl<|ae<|bX rfl (fun h1=>?_) (fun h1=>?_)
 ·rw[if_pos (show x.locals.length≠f.locals.length from fun e=>h1 (by rw[e]))] at hE
  subst hE
  refine ac<|aa<|rn 1 [4] rfl<|ae<|ap (ah ?_)
  refine au jv (am rfl) ?_
  intro w hw
  exact⟨(),trivial,rfl,hw.msub ms⟩
 have h1:x.locals.length=f.locals.length:=by omega
 rw[if_neg (fun h=>h h1)] at hE
 have hcat: [x.locals,x.stack].flatten.length*16≤140737488355328:=by simp only[List.flatten_cons,List.flatten_nil,List.length_append,List.length_nil];omega
 refine aq (ak ?_)
 refine ac<|ac<|aa<|rn 1 [0,1,5,6,40] rfl<|af (aj fc bZ rfl rfl (by rfl)) rfl rfl ?_
 refine rn 1 [0,1,5,6,41,42] rfl<|af (aj fc bZ rfl rfl (by rfl)) rfl rfl ?_
 refine ai (a8 (cs:= [_,_]) dP dF Bs rfl rfl rfl rfl rfl) rfl rfl (fun g3 _=>?_)
 refine ai (d9 rfl rfl rfl Tryz.call213 (fun w hw=>vd g3 2 (fun k=>if k=0 then (A1,c1) else (A2,c2)) [x.locals,x.stack] rfl w (ia hw fc) (fun k hk=>by rcases(show k=0∨k=1 by omega) with rfl | rfl;exact eq fc rfl w hw;exact eq fc rfl w hw) (fun k hk=>by rcases(show k=0∨k=1 by omega) with rfl | rfl;exact hw.ro hl;exact hw.ro hst) hcat (by decide))) rfl rfl (fun⟨A5,c5⟩ _=>?_)
 try dsimp only
 refine af (aL aD rfl rfl) rfl rfl<|rn 1 [0,1,5,6,45,46,47] rfl<|ae ?_
 have hfe: [x.locals,x.stack].flatten=x.locals++x.stack:=by simp
 rw[hfe]
 rw[hfe] at hcat
 refine aE (bD (fun k:Nat=>k≤(x.locals++x.stack).length∧∀j,j<k→dG m.blocks.length ((x.locals++x.stack).getD j default)=true) (fun k=>(x.locals++x.stack).length - k) (fun k=> [(0,.pointer (some ⟨gc,0,none⟩)),(1,.int .i64 (i:Int)),(5,.pointer (some ⟨g1,0,none⟩)),(6,.pointer (some ⟨g2,0,none⟩)),(45,.slice A5 (x.locals++x.stack).length c5),(46,.int .i64 ((x.locals++x.stack).length:Int)),(47,.int .i64 (k:Int))]) (fun _=>an (.slice A5 (x.locals++x.stack).length c5) (x.locals++x.stack)::az g1 [.int .i64 (kf:Int),.int .i64 x.pc,.slice A1 x.locals.length c1,.slice A2 x.stack.length c2] 97::az g2 [.int .i64 f.params,.slice F1 f.locals.length d1,.int .i64 f.result,.slice F2 f.code.length d2] 110::az gc [.slice a.Af m.frames.length a.cf,.slice a.Ab m.blocks.length a.cb,.slice a.Ai m.inn.length a.ci,.slice a.Ao m.out.length a.co,.int .i64 m.status,.int .i64 m.trap,.slice Ap fs.length cp] 147::H) 0 (⟨Nat.zero_le _,fun _ h=>absurd h (Nat.not_lt_zero _)⟩) ⟨rfl,rfl,rfl,rfl,rfl,rfl,rfl,trivial⟩ (fun w h=>h.msub ms) ?_)
 rintro k hk'
 obtain⟨hk,hno⟩:k≤(x.locals++x.stack).length∧∀j,j<k→dG m.blocks.length ((x.locals++x.stack).getD j default)=true:=hk'
 refine ac<|aa<|rn 1 [0,1,5,6,45,46,47,48] rfl<|ae<|ac<|ar rfl (fun hlt=>?_) (fun hlt=>?_)
 ·have hkl2:k<(x.locals++x.stack).length:=by omega
  refine aq (ak ?_)
  refine ac<|aE<|ac<|aa<|af (aQ aD aP (SF.own rfl fc) (by omega) rfl rfl rfl) rfl rfl ?_
  refine af (cL (SF.val (SF.own rfl fc) hkl2 default) rfl rfl dA aP) rfl rfl ?_
  refine ai (a9 bK rfl rfl) rfl rfl (fun g4 _=>?_)
  refine ai (aM _ fc aP rfl rfl rfl rfl rfl (by rfl) rfl (by rfl)) rfl rfl (fun _ _=>?_)
  refine ae<|ac<|aa<|rn 1 [0,1,5,6,8,45,46,47,51] rfl<|af (aY (vs:= [_,_]) fc dA aP rfl rfl (by rfl) rfl) rfl rfl ?_
  refine ai (bg rfl rfl rfl Tryz.call214 (fun w hw=>va gc a m (.slice Ap fs.length cp) ((x.locals++x.stack).getD k default) w (hw.msub (.s fc .r)))) rfl rfl (fun _ _=>?_)
  refine rn 1 [0,1,5,6,9,45,46,47] rfl<|ae<|ac<|aa<|rn 2 [0,1,5,6,9,45,46,47,55] rfl<|ae ?_
  obtain⟨vb,hvb⟩:∃b,dG m.blocks.length ((x.locals++x.stack).getD k default)=b:=⟨_,rfl⟩
  rw[hvb]
  cases vb
  ·rw[if_pos (uk hkl2 hvb)] at hE
   subst hE
   rw[if_neg (by decide)]
   refine bX rfl (fun hz=>?_) (fun hz=>?_)
   ·refine ac<|aa<|rn 2 [4] rfl<|ae<|ap (aC (ah (ah (aC (ah ?_)))))
    refine au jv (am rfl) ?_
    intro w hw
    exact⟨(),trivial,rfl,hw.msub ms⟩
   exact absurd hz (by decide)
  rw[if_pos rfl]
  refine bX rfl (fun hz=>?_) (fun hz=>?_)
  ·exact absurd rfl hz
  refine aq (aH (ak ?_))
  refine aa<|af (a6 rfl rfl rfl (by omega)) rfl rfl<|rn 1 [0,1,5,6,45,46,47] rfl<|aX (k+1) (⟨by show k+1≤_;omega,fun j hj=>(Nat.lt_or_ge j k).elim (hno j) (fun h=>by obtain rfl:j=k:=(by omega);exact hvb)⟩) (by show _ - _<_ - _;omega) ⟨rfl,rfl,rfl,rfl,rfl,rfl,rfl,trivial⟩ (fun w h=>h.msub ms)
 obtain rfl:k=(x.locals++x.stack).length:=by omega
 rw[if_neg (sr hno)] at hE
 refine bz (aG (aG (bO (ak ?_))))
 refine ac<|ac<|aa<|rn 1 [0,1,5,6,58] rfl<|af (aj fc bZ rfl rfl (by rfl)) rfl rfl ?_
 refine af (aL aD rfl rfl) rfl rfl<|rn 1 [0,1,5,6,59,60,61] rfl<|ae<|aE (bD (fun k:Nat=>k≤x.locals.length∧∀j,j<k→ef (x.locals.getD j default) (f.locals.getD j 0)=true) (fun k=>x.locals.length - k) (fun k=> [(0,.pointer (some ⟨gc,0,none⟩)),(1,.int .i64 (i:Int)),(5,.pointer (some ⟨g1,0,none⟩)),(6,.pointer (some ⟨g2,0,none⟩)),(59,.slice A1 x.locals.length c1),(60,.int .i64 (x.locals.length:Int)),(61,.int .i64 (k:Int))]) (fun _=>az g1 [.int .i64 (kf:Int),.int .i64 x.pc,.slice A1 x.locals.length c1,.slice A2 x.stack.length c2] 97::az g2 [.int .i64 f.params,.slice F1 f.locals.length d1,.int .i64 f.result,.slice F2 f.code.length d2] 110::az gc [.slice a.Af m.frames.length a.cf,.slice a.Ab m.blocks.length a.cb,.slice a.Ai m.inn.length a.ci,.slice a.Ao m.out.length a.co,.int .i64 m.status,.int .i64 m.trap,.slice Ap fs.length cp] 147::H) 0 (⟨Nat.zero_le _,fun _ h=>absurd h (Nat.not_lt_zero _)⟩) ⟨rfl,rfl,rfl,rfl,rfl,rfl,rfl,trivial⟩ (fun w h=>h.msub ms) ?_)
 rintro k hk'
 obtain⟨hk,hno2⟩:k≤x.locals.length∧∀j,j<k→ef (x.locals.getD j default) (f.locals.getD j 0)=true:=hk'
 refine ac<|aa<|rn 1 [0,1,5,6,59,60,61,62] rfl<|ae<|ac<|ar rfl (fun hlt=>?_) (fun hlt=>?_)
 ·have hkl2:k<x.locals.length:=by omega
  refine aq (ak ?_)
  refine ac<|aE<|ac<|aa<|rn 1 [0,1,5,6,59,60,61,63] rfl<|af (aQ aD aP (.ro hl) (by omega) rfl rfl rfl) rfl rfl<|af (cL (SF.val (SF.ro hl) hkl2 default) rfl rfl dA aP) rfl rfl<|ai (a9 bK rfl rfl) rfl rfl (fun g5 _=>?_)
  refine rn 1 [0,1,5,6,10,11,59,60,61,65] rfl<|ai (aM _ fc aP rfl rfl rfl rfl rfl (by rfl) rfl (by rfl)) rfl rfl (fun _ _=>?_)
  refine ae<|ac<|bV (.still 0 (.still 1 (.still 2 (.still 3 (.still 4 (.still 5 (.pick 6 (.still 7 .done) .stop))))))) [] rfl (by kernel_rfl) (by kernel_rfl) ?_
  refine av rfl (aY (vs:= [_,_]) fc dA aP rfl rfl (by rfl) rfl) rfl rfl ha ?_
  refine aS ha 1 [0,1,5,6,10,59,60,61,66,67] rfl<|av rfl (aj fc aW rfl rfl (by rfl)) rfl rfl ha ?_
  refine aS ha 1 [0,1,5,6,59,60,61,66,68,69] rfl<|av rfl (aQ (k:=k) ag aF (.ro hfl) (by omega) rfl rfl rfl) rfl rfl ha ?_
  refine av rfl (aZ (SF.int (.ro hfl) (by omega)) rfl rfl aw) rfl rfl ha ?_
  refine aB rfl (bB rfl rfl rfl Tryz.call215 (fun w hw=>tY (x.locals.getD k default) (f.locals.getD k 0) w)) rfl rfl (.inr fun _=>ha) (fun _ _=>?_) ay
  refine aS ha 1 [0,1,5,6,59,60,61,73] rfl<|cu<|b9 rfl (fun hb=>?_) (fun hb=>?_)
  ·have hb:ef (x.locals.getD k default) (f.locals.getD k 0)=false:=by simpa using hb
   rw[if_pos (nC hkl2 hb)] at hE
   subst hE
   refine ac<|aa<|rn 1 [4] rfl<|ae<|ap (aC (ah (ah (aC (ah ?_)))))
   refine au jv (am rfl) ?_
   intro w hw
   exact⟨(),trivial,rfl,hw.msub ms⟩
  have hb:ef (x.locals.getD k default) (f.locals.getD k 0)=true:=by simpa using hb
  refine aq (aH (ak ?_))
  refine aa<|af (a6 rfl rfl rfl (by omega)) rfl rfl<|rn 1 [0,1,5,6,59,60,61] rfl<|aX (k+1) (⟨by show k+1≤_;omega,fun j hj=>(Nat.lt_or_ge j k).elim (hno2 j) (fun h=>by obtain rfl:j=k:=(by omega);exact hb)⟩) (by show _ - _<_ - _;omega) ⟨rfl,rfl,rfl,rfl,rfl,rfl,rfl,trivial⟩ (fun w h=>h.msub ms)
 obtain rfl:k=x.locals.length:=by omega
 rw[if_neg (by rw[iz.2 hno2];decide)] at hE
 refine bz (aG (aG (bO (ak ?_))))
 refine ac<|aa<|rn 2 [5,76,77] rfl<|ai (bg rfl rfl rfl Tryz.call216 (fun w hw=>xh (H:=az g1 [.int .i64 (kf:Int),.int .i64 x.pc,.slice A1 x.locals.length c1,.slice A2 x.stack.length c2] 97::az g2 [.int .i64 f.params,.slice F1 f.locals.length d1,.int .i64 f.result,.slice F2 f.code.length d2] 110::H) gc a m Ap cp fs hs hm hF i hi hfn q hq w (hw.msub ms))) rfl rfl (fun⟨A6,c6⟩ _=>?_)
 try dsimp only
 refine rn 5 [5,12,13] rfl<|ae<|ac<|ac<|aa<|rn 2 [5,12,82] rfl<|ae<|b9 rfl (fun hn=>?_) (fun hn=>?_)
 ·have hn:q=none:=by simpa using hn
  subst hn
  subst hE
  refine ac<|aa<|rn 1 [4] rfl<|ae<|ap (ah ?_)
  refine au jv (am rfl) ?_
  intro w hw
  exact⟨(),trivial,rfl,hw.msub ms⟩
 obtain⟨t,rfl⟩:∃t,q=some t:=by cases q with
  | none=>simp at hn
  | some t=>exact⟨t,rfl⟩
 dsimp only[Option.getD_some] at hE⊢
 refine aq (ak ?_)
 refine ac<|ac<|aa<|rn 1 [5,12,83] rfl<|af (aL ag rfl rfl) rfl rfl<|rn 1 [5,12,84,85] rfl<|af (aj fc bZ rfl rfl (by rfl)) rfl rfl ?_
 refine af (aL aD rfl rfl) rfl rfl<|rn 1 [5,12,88] rfl<|ae<|bX rfl (fun h2=>?_) (fun h2=>?_)
 ·rw[if_pos (show t.length≠x.stack.length from fun e=>h2 (by rw[e]))] at hE
  subst hE
  refine ac<|aa<|rn 1 [4] rfl<|ae<|ap (ah ?_)
  refine au jv (am rfl) ?_
  intro w hw
  exact⟨(),trivial,rfl,hw.msub ms⟩
 have h2:t.length=x.stack.length:=by omega
 rw[if_neg (fun h=>h h2)] at hE
 refine aq (ak ?_)
 refine ac<|ac<|aa<|rn 1 [12,89] rfl<|af (aj fc bZ rfl rfl (by rfl)) rfl rfl ?_
 refine af (aL aD rfl rfl) rfl rfl<|rn 1 [12,90,91,92] rfl<|ae<|aE (bD (fun k:Nat=>k≤x.stack.length∧∀j,j<k→ef (x.stack.getD j default) (t.getD j 0)=true) (fun k=>x.stack.length - k) (fun k=> [(12,.slice A6 t.length c6),(90,.slice A2 x.stack.length c2),(91,.int .i64 (x.stack.length:Int)),(92,.int .i64 (k:Int))]) (fun _=>fS (.slice A6 t.length c6) t::az gc [.slice a.Af m.frames.length a.cf,.slice a.Ab m.blocks.length a.cb,.slice a.Ai m.inn.length a.ci,.slice a.Ao m.out.length a.co,.int .i64 m.status,.int .i64 m.trap,.slice Ap fs.length cp] 147::H) 0 (⟨Nat.zero_le _,fun _ h=>absurd h (Nat.not_lt_zero _)⟩) ⟨rfl,rfl,rfl,rfl,trivial⟩ (fun w h=>h.msub ms) ?_)
 rintro k hk'
 obtain⟨hk,hno3⟩:k≤x.stack.length∧∀j,j<k→ef (x.stack.getD j default) (t.getD j 0)=true:=hk'
 refine ac<|aa<|rn 1 [12,90,91,92,93] rfl<|ae<|ac<|ar rfl (fun hlt=>?_) (fun hlt=>?_)
 ·have hkl2:k<x.stack.length:=by omega
  refine aq (ak ?_)
  refine ac<|aE<|ac<|aa<|rn 1 [12,90,91,92,94] rfl<|af (aQ aD aP (.ro hst) (by omega) rfl rfl rfl) rfl rfl<|af (cL (SF.val (SF.ro hst) hkl2 default) rfl rfl dA aP) rfl rfl<|ai (a9 bK rfl rfl) rfl rfl (fun g6 _=>?_)
  refine rn 1 [12,14,15,90,91,92,96] rfl<|ai (aM _ fc aP rfl rfl rfl rfl rfl (by rfl) rfl (by rfl)) rfl rfl (fun _ _=>?_)
  refine ae<|ac<|bV (.still 0 (.still 1 (.still 2 (.still 3 (.still 4 (.pick 5 (.still 6 .done) .stop)))))) [] rfl (by kernel_rfl) (by kernel_rfl) ?_
  refine av rfl (aY (vs:= [_,_]) fc dA aP rfl rfl (by rfl) rfl) rfl rfl ha ?_
  refine aS ha 2 [12,90,91,92,97,98,99] rfl<|av rfl (aQ (k:=k) ag aF (SF.rd (xs:=t) rfl fc) (by omega) rfl rfl rfl) rfl rfl ha ?_
  refine av rfl (aZ (SF.int (SF.rd (xs:=t) rfl fc) (by omega)) rfl rfl aw) rfl rfl ha ?_
  refine aB rfl (bB rfl rfl rfl Tryz.call215 (fun w hw=>tY (x.stack.getD k default) (t.getD k 0) w)) rfl rfl (.inr fun _=>ha) (fun _ _=>?_) ay
  refine aS ha 1 [12,90,91,92,103] rfl<|cu<|b9 rfl (fun hb=>?_) (fun hb=>?_)
  ·have hb:ef (x.stack.getD k default) (t.getD k 0)=false:=by simpa using hb
   rw[if_pos (nC (by omega) hb)] at hE
   subst hE
   refine ac<|aa<|rn 1 [4] rfl<|ae<|ap (aC (ah (ah (aC (ah ?_)))))
   refine au jv (am rfl) ?_
   intro w hw
   exact⟨(),trivial,rfl,hw.msub ms⟩
  have hb:ef (x.stack.getD k default) (t.getD k 0)=true:=by simpa using hb
  refine aq (aH (ak ?_))
  refine aa<|af (a6 rfl rfl rfl (by omega)) rfl rfl<|rn 1 [12,90,91,92] rfl<|aX (k+1) (⟨by show k+1≤_;omega,fun j hj=>(Nat.lt_or_ge j k).elim (hno3 j) (fun h=>by obtain rfl:j=k:=(by omega);exact hb)⟩) (by show _ - _<_ - _;omega) ⟨rfl,rfl,rfl,rfl,trivial⟩ (fun w h=>h.msub ms)
 obtain rfl:k=x.stack.length:=by omega
 rw[if_neg (by rw[h2,iz.2 hno3];decide)] at hE
 subst hE
 refine bz (aG (aG (bO (ak ?_))))
 refine ac<|aa<|rn 1 [4] rfl<|ae<|ap<|au jv (am rfl) ?_
 intro w hw
 exact⟨(),trivial,rfl,hw.msub ms⟩
end
end
section
theorem Bn {r:Bool} {n t:Int} (h:1≤t∧t≤3):ef ⟨r,n⟩ t=if t=1 then !r else (r && (decide (t=2) || decide (n=0))):=by
 unfold ef
 rcases(show t=1∨t=2∨t=3 by omega) with rfl | rfl | rfl <;> cases r <;> simp
set_option maxRecDepth 100000 in
theorem pZ (v:aR) (t:Int) (ht:1≤t∧t≤3) (w:World):Calls Tryz.prog 112 #[.agg #[.bool v.ref,.int .i64 v.n],.int .i64 t] w fun e w'=>e= .returned (.bool (ef v t))∧Below w.heap.size w w':=by
 obtain⟨r,n⟩:=v
 have h2:=Bn (r:=r) (n:=n) ht
 refine enter Tryz.func112 rfl Tryz.ntmps112 rfl ?_
 refine ac<|aa<|ai (bH rfl rfl rfl) rfl rfl (fun g1 _=>?_)
 refine rn 1 [1,2] rfl<|ae<|ac<|ac<|aa<|rn 2 [1,2,6] rfl<|ae<|ar rfl (fun h1=>?_) (fun h1=>?_)
 ·have h1:t=1:=h1
  rw[if_pos h1] at h2
  refine ac<|aa<|rn 1 [7] rfl<|af (aj fc eh rfl rfl (by rfl)) rfl rfl ?_
  refine rn 2 [4] rfl<|ae<|ap (ah ?_)
  refine au sM (am rfl) ?_
  intro w hw
  exact⟨bh h2.symm,hw.below⟩
 have h1:¬t=1:=h1
 rw[if_neg h1] at h2
 refine aq (ak ?_)
 refine ac<|aa<|rn 1 [1,2,10] rfl<|af (aj fc eh rfl rfl (by rfl)) rfl rfl ?_
 refine rn 1 [1,2,12] rfl ?_
 cases r with
 | false=>
  refine bU (t:=12) (v':= .bool false) rfl (rfl) ?_
  refine rn 9 [4] rfl<|ae<|ap<|au sM (am rfl) ?_
  intro w hw
  exact⟨bh (by rw[h2];rfl),hw.below⟩
 | true=>
  refine bU (t:=12) (v':= .bool true) rfl (rfl) ?_
  refine rn 3 [2,12,15] rfl<|bL (t:=15) rfl (fun q=>?_) (fun q=>?_)
  ·have q:t=2:=of_decide_eq_true q
   refine rn 6 [4] rfl<|ae<|ap<|au sM (am rfl) ?_
   intro w hw
   exact⟨bh (by rw[h2];simp[q]),hw.below⟩
  have q:¬t=2:=of_decide_eq_false q
  refine rn 1 [12,15,16] rfl<|af (aj fc aw rfl rfl (by rfl)) rfl rfl ?_
  refine rn 4 [4] rfl<|ae<|ap<|au sM (am rfl) ?_
  intro w hw
  exact⟨bh (by rw[h2];simp[q]),hw.below⟩
set_option maxRecDepth 100000 in
set_option maxHeartbeats 1000000 in
theorem uz (Ap:Option Addr) (cp:Nat) (fs:List aA) (k:Nat) (pc:Int) (q:Option (List Int)) (hq:d8 fs (ax fs k) pc=q) (w:World) (hs:Sl w (.slice Ap fs.length cp) fs) (hk:k<fs.length) (hok:iD fs (ax fs k)) (hty:kX fs (ax fs k)) (hn0:0<(ax fs k).code.length) :
  Calls Tryz.prog 113 #[.agg #[.slice Ap fs.length cp],.int .i64 (k:Int),.int .i64 pc] w fun e w'=> ∃g:Option Addr×Nat,True∧e= .returned (.tuple #[.slice g.1 (q.getD []).length g.2,.bool q.isSome])∧
   Cw w.heap.size w [fS (.slice g.1 (q.getD []).length g.2) (q.getD [])] w':=by
 refine enter Tryz.func113 rfl Tryz.ntmps113 rfl ?_
 refine ac<|aa<|ai (bH rfl rfl rfl) rfl rfl (fun g1 _=>?_)
 refine rn 2 [1,2,3] rfl<|ae<|ac<|aa<|af (aY (vs:= [_]) fc cA cg rfl rfl (by rfl) rfl) rfl rfl ?_
 refine rn 1 [2,12,13] rfl<|ai (dg rfl rfl rfl Tryz.call59 (fun w hw=>mK Ap cp fs k w (hw.ro hs) hk hok hty hn0)) rfl rfl (fun⟨⟨A1,c1⟩,es,L⟩ hre=>?_)
 try dsimp only
 refine rn 5 [2,8] rfl<|ae<|ac<|ac<|aa<|rn 1 [2,8,10] rfl<|ae ?_
 have hre:js es L (b8 fs (ax fs k)).1:=hre
 have hl:=hre.len
 refine fa (p:=es.length≤140737488355328) (fun w hw=>bR (SF.at_ (SF.own (α:=fq) (xs:=es) rfl fc) hw)) fun b1=>?_
 refine aE (bD (fun i:Nat=>i≤es.length∧∀j,j<i→(hent es j).pc≠pc) (fun i=>es.length - i) (fun i=> [(2,.int .i64 pc),(8,.slice A1 es.length c1),(10,.int .i64 (i:Int))]) (fun _=> [an (.slice A1 es.length c1) es,eD L]) 0 (⟨Nat.zero_le _,fun _ h=>absurd h (Nat.not_lt_zero _)⟩) ⟨rfl,rfl,rfl,trivial⟩ me ?_)
 rintro i hi'
 obtain⟨hi,hno⟩:i≤es.length∧∀j,j<i→(hent es j).pc≠pc:=hi'
 refine ac<|ac<|aa<|rn 2 [2,8,10,17,18] rfl<|af (aL ff rfl rfl) rfl rfl<|rn 1 [2,8,10,20] rfl<|ae<|ar rfl (fun hlt'=>?_) (fun hlt'=>?_)
 ·have hlt:i<es.length:=by omega
  have hlt2:i<(b8 fs (ax fs k)).1.length:=by omega
  obtain⟨e1,e2⟩:=hre.el i hlt hlt2
  refine aq (ak ?_)
  refine ac<|aE<|ac<|aa<|rn 2 [2,8,10,23,24] rfl<|af (aQ (k:=i) ff ka (SF.own (xs:=es) rfl fc) (by omega) rfl rfl rfl) rfl rfl ?_
  refine rn 1 [2,8,10,26] rfl<|af (aZ (fun w hw=>SF.hent (SF.own (xs:=es) rfl fc) hlt w hw 0 _ rfl) rfl rfl aw) rfl rfl ?_
  refine rn 2 [2,8,10,29] rfl<|ae<|ar rfl (fun hp=>?_) (fun hp=>?_)
  ·have hp:(hent es i).pc=pc:=hp
   have hq2:q=some (b8 fs (ax fs k)).1[i].stack:=by
    rw[←hq]
    unfold d8
    rw[t8 hlt2 (by rw[←e1,←i9 hlt];exact hp) (fun j hj h=>by
     have hj':j<es.length:=by omega
     have:=hno j hj
     rw[i9 hj',(hre.el j hj' h).1] at this
     exact this)]
    rfl
   subst hq2
   rw[←i9 hlt] at e2
   refine ac<|aa<|rn 2 [30,31] rfl<|af (aQ (k:=i) ff ka (SF.own (xs:=es) rfl fc) (by omega) rfl rfl rfl) rfl rfl ?_
   refine rn 1 [33] rfl<|af (aZ (fun w hw=>SF.hent (SF.own (xs:=es) rfl fc) hlt w hw 1 _ rfl) rfl rfl aW) rfl rfl ?_
   refine rn 2 [6,7] rfl<|ae<|ap (aC (ah (ah (aC (ah ?_)))))
   refine bC Tryz.results113 (am rfl) (am rfl) ?_
   intro w hw
   obtain⟨A5,c5,e5⟩:=e2.form hw fc
   rw[e5] at e2⊢
   exact⟨(A5,c5),trivial,rfl,(n7 e2 (hw.msub (T:=eD L:: []) ms)).msub ms⟩
  have hp:¬(hent es i).pc=pc:=hp
  refine aq (aH (ak ?_))
  refine aa<|rn 1 [2,8,21] rfl<|af (a6 rfl rfl rfl (by omega)) rfl rfl<|rn 1 [2,8,10] rfl<|aX (i+1) (⟨by show i+1≤_;omega,fun j hj=>(Nat.lt_or_ge j i).elim (hno j) (fun h=>by obtain rfl:j=i:=(by omega);exact hp)⟩) (by show _ - _<_ - _;omega) ⟨rfl,rfl,rfl,trivial⟩ me
 obtain rfl:i=es.length:=by omega
 have hq2:q=none:=by
  rw[←hq]
  unfold d8
  rw[t7 (fun j hj=>by
   have hj':j<es.length:=by omega
   have:=hno j hj'
   rw[i9 hj',(hre.el j hj' hj).1] at this
   exact this)]
  rfl
 subst hq2
 refine bz (aG (aG (bO (ak ?_))))
 refine ac<|aa<|rn 2 [6,7] rfl<|ae<|ap<|bC Tryz.results113 (am rfl) (am rfl) ?_
 intro w hw
 exact⟨(none,0),trivial,rfl,(kJ hw).msub ms⟩
end
section
theorem jj {n k:Nat} (hk:k<n):(List.range n).getD k 0=k:=by
 rw[List.getD_eq_getElem?_getD,List.getElem?_range hk]
 rfl
theorem w3 {l:List aO} {k n:Nat} (hk:k<l.length) (h:bx (aN l k).func 0 ((n:Int) - 1)=false):l.any (fun x=>!bx x.func 0 ((n:Int) - 1))=true:=List.any_eq_true.2 ⟨_,dW hk,by rw[h];rfl⟩
theorem t5 {l:List aO} {n:Nat} (h:∀j,j<l.length→bx (aN l j).func 0 ((n:Int) - 1)=true):(¬l.any (fun x=>!bx x.func 0 ((n:Int) - 1))=true)∧∀x∈l,0≤x.func∧x.func<n:=by
 have h2:∀x∈l,bx x.func 0 ((n:Int) - 1)=true:=fun x hx=>by
  obtain⟨j,hj,rfl⟩:=List.getElem_of_mem hx
  have:=h j hj
  unfold aN at this
  rwa [List.getD_eq_getElem?_getD,List.getElem?_eq_getElem hj] at this
 refine⟨fun ha=>?_,fun x hx=>?_⟩
 ·obtain⟨x,hx,h3⟩:=List.any_eq_true.1 ha
  rw[h2 x hx] at h3
  cases h3
 have:=db.1 (h2 x hx)
 omega
section
variable {B:Nat} {w0:World} {H:List a4}
set_option maxRecDepth 100000 in
set_option maxHeartbeats 4000000 in
theorem tx (gc:Nat) (a:MA) (m:aI) (Ap:Option Addr) (cp:Nat) (fs:List aA) (hs:bM w0 B (.slice Ap fs.length cp) fs) (hm:dE B w0 a m) (hF:eZ fs) (hfit:ie m.frames) (E:Int) (hE:ix fs m=E) (w:World) (hw:Cw B w0 (az gc [.slice a.Af m.frames.length a.cf,.slice a.Ab m.blocks.length a.cb,.slice a.Ai m.inn.length a.ci,.slice a.Ao m.out.length a.co,.int .i64 m.status,.int .i64 m.trap,.slice Ap fs.length cp] 147::H) w) :
  Calls Tryz.prog 142 #[.pointer (some ⟨gc,0,none⟩)] w fun e w'=> ∃_:Unit,True∧e= .returned (.int .i64 E)∧Cw B w0 (az gc [.slice a.Af m.frames.length a.cf,.slice a.Ab m.blocks.length a.cb,.slice a.Ai m.inn.length a.ci,.slice a.Ao m.out.length a.co,.int .i64 m.status,.int .i64 m.trap,.slice Ap fs.length cp] 147::H) w':=by
 have bf:=bR hm.f
 have bp:=bR hs
 unfold ix at hE
 refine cB Tryz.func142 rfl Tryz.ntmps142 rfl hw ?_
 refine ac<|aa<|rn 1 [0] rfl<|ae<|eo (fun _:Unit=> ¬6<m.frames.length∧¬(m.frames.length=0∧m.status≠2)∧¬(0<m.frames.length∧m.status=2)) (fun _=> [(0,.pointer (some ⟨gc,0,none⟩))]) (fun _=>az gc [.slice a.Af m.frames.length a.cf,.slice a.Ab m.blocks.length a.cb,.slice a.Ai m.inn.length a.ci,.slice a.Ao m.out.length a.co,.int .i64 m.status,.int .i64 m.trap,.slice Ap fs.length cp] 147::H) ?_ ?_
 ·refine ac<|aa<|rn 4 [0,12] rfl<|af (aj fc bG rfl rfl (by rfl)) rfl rfl ?_
  refine af (aL aT rfl rfl) rfl rfl<|rn 1 [0,3] rfl<|ae<|aE<|ac<|aa<|rn 3 [0,3,15] rfl<|ae<|ar rfl (fun h6=>?_) (fun h6=>?_)
  ·rw[if_pos (by omega)] at hE
   subst hE
   refine ac<|aa<|rn 1 [2] rfl<|ae<|ap (aC (ah ?_))
   refine au il (am rfl) ?_
   intro w hw
   exact⟨(),trivial,rfl,hw.msub ms⟩
  have h6:¬6<m.frames.length:=by omega
  rw[if_neg h6] at hE
  refine ac<|aa<|rn 3 [0,3,21] rfl<|bL (t:=21) rfl (fun h0=>?_) (fun h0=>?_)
  ·have h0:=of_decide_eq_true h0
   have h0:m.frames.length=0:=by omega
   refine rn 4 [0,3,21,25] rfl<|af (aj fc aw rfl rfl (by rfl)) rfl rfl ?_
   refine rn 3 [0,3,18] rfl<|ae<|bX rfl (fun h2=>?_) (fun h2=>?_)
   ·rw[if_pos ⟨h0,h2⟩] at hE
    subst hE
    refine ac<|aa<|rn 1 [2] rfl<|ae<|ap (aC (ah ?_))
    refine au il (am rfl) ?_
    intro w hw
    exact⟨(),trivial,rfl,hw.msub ms⟩
   refine ac<|aa<|rn 3 [0,32] rfl<|bL (t:=32) rfl (fun h3=>?_) (fun h3=>?_)
   ·have h3:=of_decide_eq_true h3
    exact absurd h3 (by omega)
   refine rn 8 [0,29] rfl<|ae<|cK rfl<|aq (aH ?_)
   refine be () (⟨h6,fun h=>h.2 h2,fun h=>by omega⟩) ⟨rfl,trivial⟩ (fun _ h=>h.msub ms)
  have h0:=of_decide_eq_false h0
  have h0:¬m.frames.length=0:=by omega
  rw[if_neg (fun h=>h0 h.1)] at hE
  refine rn 8 [0,3,18] rfl<|ae<|cK rfl<|ac<|aa<|rn 3 [0,32] rfl<|bL (t:=32) rfl (fun h3=>?_) (fun h3=>?_)
  ·refine rn 4 [0,32,36] rfl<|af (aj fc aw rfl rfl (by rfl)) rfl rfl ?_
   refine rn 3 [0,29] rfl<|ae<|ar rfl (fun h2=>?_) (fun h2=>?_)
   ·rw[if_pos ⟨by omega,h2⟩] at hE
    subst hE
    refine ac<|aa<|rn 1 [2] rfl<|ae<|ap (aC (ah ?_))
    refine au il (am rfl) ?_
    intro w hw
    exact⟨(),trivial,rfl,hw.msub ms⟩
   refine aq (aH ?_)
   refine be () (⟨h6,fun h=>h0 h.1,fun h=>h2 h.2⟩) ⟨rfl,trivial⟩ (fun _ h=>h.msub ms)
  have h3:=of_decide_eq_false h3
  exact absurd h3 (by omega)
 rintro⟨⟩ ⟨h1,h2,h3⟩
 rw[if_neg h1,if_neg h2,if_neg h3] at hE
 refine ac<|ac<|aa<|rn 4 [0,43] rfl<|af (aj fc bG rfl rfl (by rfl)) rfl rfl ?_
 refine af (aL aT rfl rfl) rfl rfl<|rn 1 [0,44,45,46] rfl<|ae<|aE (bD (fun k:Nat=>k≤m.frames.length∧∀j,j<k→bx (aN m.frames j).func 0 ((fs.length:Int) - 1)=true) (fun k=>m.frames.length - k) (fun k=> [(0,.pointer (some ⟨gc,0,none⟩)),(44,.slice a.Af m.frames.length a.cf),(45,.int .i64 (m.frames.length:Int)),(46,.int .i64 (k:Int))]) (fun _=>az gc [.slice a.Af m.frames.length a.cf,.slice a.Ab m.blocks.length a.cb,.slice a.Ai m.inn.length a.ci,.slice a.Ao m.out.length a.co,.int .i64 m.status,.int .i64 m.trap,.slice Ap fs.length cp] 147::H) 0 (⟨Nat.zero_le _,fun _ h=>absurd h (Nat.not_lt_zero _)⟩) ⟨rfl,rfl,rfl,rfl,trivial⟩ (fun w h=>h.msub ms) ?_)
 rintro k hk'
 obtain⟨hk,hno⟩:k≤m.frames.length∧∀j,j<k→bx (aN m.frames j).func 0 ((fs.length:Int) - 1)=true:=hk'
 refine ac<|aa<|rn 1 [0,44,45,46,47] rfl<|ae<|ac<|ar rfl (fun hlt=>?_) (fun hlt=>?_)
 ·have hkl:k<m.frames.length:=by omega
  obtain⟨A1,c1,A2,c2,hl,hst,hI,hcell⟩:=hm.f.fr hkl
  refine aq (ak ?_)
  refine ac<|aE<|ac<|aa<|af (aQ aT a7 (.ro hm.f) (by omega) rfl rfl rfl) rfl rfl<|af (cL (hcell _) rfl rfl gl a7) rfl rfl<|ai (a9 cY rfl rfl) rfl rfl (fun g1 _=>?_)
  refine ai (aM _ fc a7 rfl rfl rfl rfl rfl (by rfl) rfl (by rfl)) rfl rfl (fun _ _=>?_)
  refine ae<|ac<|bV (.still 0 (.still 1 (.still 2 (.still 3 (.still 4 (.still 5 (.still 6 (.still 7 (.still 8 (.pick 9 (.still 10 .done) .stop)))))))))) [] rfl (by kernel_rfl) (by kernel_rfl) ?_
  refine aS ha 1 [0,44,45,46,50] rfl<|av rfl (aj fc aw rfl rfl (by rfl)) rfl rfl ha ?_
  refine aS ha 4 [0,44,45,46,51,55] rfl<|av rfl (aj fc cF rfl rfl (by rfl)) rfl rfl ha ?_
  refine av rfl (aL bA rfl rfl) rfl rfl ha ?_
  refine av rfl (cn rfl rfl rfl (by omega)) rfl rfl ha ?_
  refine aB rfl (bB rfl rfl rfl sQ (fun w hw=>iH (aN m.frames k).func 0 ((fs.length:Int) - 1) w)) rfl rfl (.inr fun _=>ha) (fun _ _=>?_) ay
  refine aS ha 1 [0,44,45,46,60] rfl<|cu<|b9 rfl (fun hb=>?_) (fun hb=>?_)
  ·have hb:bx (aN m.frames k).func 0 ((fs.length:Int) - 1)=false:=by simpa using hb
   rw[if_pos (w3 hkl hb)] at hE
   subst hE
   refine ac<|aa<|rn 1 [2] rfl<|ae<|ap (aC (ah (ah (aC (ah ?_)))))
   refine au il (am rfl) ?_
   intro w hw
   exact⟨(),trivial,rfl,hw.msub ms⟩
  have hb:bx (aN m.frames k).func 0 ((fs.length:Int) - 1)=true:=by simpa using hb
  refine aq (aH (ak ?_))
  refine aa<|af (a6 rfl rfl rfl (by omega)) rfl rfl<|rn 1 [0,44,45,46] rfl<|aX (k+1) (⟨by show k+1≤_;omega,fun j hj=>(Nat.lt_or_ge j k).elim (hno j) (fun h=>by obtain rfl:j=k:=(by omega);exact hb)⟩) (by show _ - _<_ - _;omega) ⟨rfl,rfl,rfl,rfl,trivial⟩ (fun w h=>h.msub ms)
 obtain rfl:k=m.frames.length:=by omega
 obtain⟨hany,hfn⟩:=t5 hno
 rw[if_neg hany] at hE
 refine bz (aG (aG (bO (ak ?_))))
 refine ac<|ac<|aa<|rn 4 [0,65] rfl<|af (aj fc bG rfl rfl (by rfl)) rfl rfl ?_
 refine af (aL aT rfl rfl) rfl rfl<|rn 1 [0,66,67,68] rfl<|ae<|aE (bD (fun k:Nat=>k≤m.frames.length∧(0<k→¬(0<m.frames.length∧(aN m.frames 0).func≠0))∧dD (en fs m.blocks.length m.frames) ((List.range m.frames.length).take k)=0) (fun k=>m.frames.length - k) (fun k=> [(0,.pointer (some ⟨gc,0,none⟩)),(66,.slice a.Af m.frames.length a.cf),(67,.int .i64 (m.frames.length:Int)),(68,.int .i64 (k:Int))]) (fun _=>az gc [.slice a.Af m.frames.length a.cf,.slice a.Ab m.blocks.length a.cb,.slice a.Ai m.inn.length a.ci,.slice a.Ao m.out.length a.co,.int .i64 m.status,.int .i64 m.trap,.slice Ap fs.length cp] 147::H) 0 (⟨Nat.zero_le _,fun h=>absurd h (Nat.not_lt_zero _),rfl⟩) ⟨rfl,rfl,rfl,rfl,trivial⟩ (fun w h=>h.msub ms) ?_)
 rintro k hk'
 obtain⟨hk,hz0,hno2⟩:k≤m.frames.length∧(0<k→¬(0<m.frames.length∧(aN m.frames 0).func≠0))∧dD (en fs m.blocks.length m.frames) ((List.range m.frames.length).take k)=0:=hk'
 refine ac<|aa<|rn 1 [0,66,67,68,69] rfl<|ae<|ac<|ar rfl (fun hlt=>?_) (fun hlt=>?_)
 ·have hkl:k<m.frames.length:=by omega
  obtain⟨A1,c1,A2,c2,hl,hst,hI,hcell⟩:=hm.f.fr hkl
  refine aq (ak ?_)
  refine ac<|aE<|ac<|aa<|rn 1 [0,66,67,68,70] rfl<|af (aQ aT a7 (.ro hm.f) (by omega) rfl rfl rfl) rfl rfl<|af (cL (hcell _) rfl rfl gl a7) rfl rfl<|ai (a9 cY rfl rfl) rfl rfl (fun g2 _=>?_)
  refine rn 1 [0,6,7,66,67,68,72] rfl<|ai (aM _ fc a7 rfl rfl rfl rfl rfl (by rfl) rfl (by rfl)) rfl rfl (fun _ _=>?_)
  refine ae<|ac<|ac<|aa<|rn 3 [0,6,7,66,67,68,75] rfl<|bL (t:=75) rfl (fun hz=>?_) (fun hz=>?_)
  ·have hz:=of_decide_eq_true hz
   obtain rfl:k=0:=by omega
   refine rn 1 [0,6,66,67,68,75,76] rfl<|af (aj fc aw rfl rfl (by rfl)) rfl rfl ?_
   refine rn 2 [0,6,66,67,68,79] rfl<|ae<|bX rfl (fun hf=>?_) (fun hf=>?_)
   ·rw[if_pos ⟨hkl,hf⟩] at hE
    subst hE
    refine ac<|aa<|rn 1 [2] rfl<|ae<|ap (ah (aC (ah (ah (aC (ah ?_))))))
    refine au il (am rfl) ?_
    intro w hw
    exact⟨(),trivial,rfl,hw.msub ms⟩
   have h0:¬(0<m.frames.length∧(aN m.frames 0).func≠0):=fun h=>h.2 hf
   refine aq (ak ?_)
   refine ac<|aa<|rn 2 [0,66,67,68,80,81] rfl<|ai (bg rfl rfl rfl Tryz.call180 (fun w hw=>pk gc a m Ap cp fs hs hm hF hfit 0 hkl hfn _ rfl w (hw.msub (.s fc .r)))) rfl rfl (fun _ _=>?_)
   refine rn 1 [0,8,66,67,68] rfl<|ae<|ac<|aa<|rn 2 [0,8,66,67,68,84] rfl<|ae<|bX rfl (fun he=>?_) (fun he=>?_)
   ·have he:en fs m.blocks.length m.frames 0≠0:=he
    have hsn:=gi (g:=en fs m.blocks.length m.frames) (l:=List.range m.frames.length) 0 (by rw[List.length_range];exact hkl) hno2
    rw[jj hkl] at hsn
    rw[if_neg h0,j7 (k:=0+1) (by rw[hsn];exact he),hsn] at hE
    subst hE
    refine ac<|aa<|rn 2 [2] rfl<|ae<|ap (aC (ah (ah (aC (ah ?_)))))
    refine au il (am rfl) ?_
    intro w hw
    exact⟨(),trivial,rfl,hw.msub ms⟩
   have he:en fs m.blocks.length m.frames 0=0:=he
   have hsn:=gi (g:=en fs m.blocks.length m.frames) (l:=List.range m.frames.length) 0 (by rw[List.length_range];exact hkl) hno2
   rw[jj hkl,he] at hsn
   refine aq (aH (ak ?_))
   refine aa<|af (a6 rfl rfl rfl (by omega)) rfl rfl<|rn 1 [0,66,67,68] rfl<|aX 1 (⟨by show 1≤_;omega,fun _=>h0,hsn⟩) (by show _ - _<_ - _;omega) ⟨rfl,rfl,rfl,rfl,trivial⟩ (fun w h=>h.msub ms)
  have hz:=of_decide_eq_false hz
  have h0:=hz0 (by omega)
  refine rn 4 [0,6,66,67,68,79] rfl<|ae<|cK rfl<|aq (ak ?_)
  refine ac<|aa<|rn 2 [0,66,67,68,80,81] rfl<|ai (bg rfl rfl rfl Tryz.call180 (fun w hw=>pk gc a m Ap cp fs hs hm hF hfit k hkl hfn _ rfl w (hw.msub (.s fc .r)))) rfl rfl (fun _ _=>?_)
  refine rn 1 [0,8,66,67,68] rfl<|ae<|ac<|aa<|rn 2 [0,8,66,67,68,84] rfl<|ae<|bX rfl (fun he=>?_) (fun he=>?_)
  ·have he:en fs m.blocks.length m.frames k≠0:=he
   have hsn:=gi (g:=en fs m.blocks.length m.frames) (l:=List.range m.frames.length) 0 (by rw[List.length_range];exact hkl) hno2
   rw[jj hkl] at hsn
   rw[if_neg h0,j7 (k:=k+1) (by rw[hsn];exact he),hsn] at hE
   subst hE
   refine ac<|aa<|rn 2 [2] rfl<|ae<|ap (aC (ah (ah (aC (ah ?_)))))
   refine au il (am rfl) ?_
   intro w hw
   exact⟨(),trivial,rfl,hw.msub ms⟩
  have he:en fs m.blocks.length m.frames k=0:=he
  have hsn:=gi (g:=en fs m.blocks.length m.frames) (l:=List.range m.frames.length) 0 (by rw[List.length_range];exact hkl) hno2
  rw[jj hkl,he] at hsn
  refine aq (aH (ak ?_))
  refine aa<|af (a6 rfl rfl rfl (by omega)) rfl rfl<|rn 1 [0,66,67,68] rfl<|aX (k+1) (⟨by show k+1≤_;omega,fun _=>h0,hsn⟩) (by show _ - _<_ - _;omega) ⟨rfl,rfl,rfl,rfl,trivial⟩ (fun w h=>h.msub ms)
 obtain rfl:k=m.frames.length:=by omega
 rw[List.take_of_length_le (by rw[List.length_range];exact Nat.le_refl _)] at hno2
 have h0:¬(0<m.frames.length∧(aN m.frames 0).func≠0):=fun h=>hz0 h.1 h
 rw[if_neg h0,hno2] at hE
 subst hE
 refine bz (aG (aG (bO (ak ?_))))
 refine ac<|aa<|rn 1 [2] rfl<|ae<|ap<|au il (am rfl) ?_
 intro w hw
 exact⟨(),trivial,rfl,hw.msub ms⟩
end
end
section
set_option maxRecDepth 100000 in
theorem wG (n:Int) (w:World):Calls Tryz.prog 179 #[.int .i64 n] w fun e w'=>e= .returned (.bool (!cW n))∧Below w.heap.size w w':=by
 refine enter Tryz.func179 rfl Tryz.ntmps179 rfl ?_
 refine ac<|aa<|rn 1 [0] rfl<|ae<|ac<|aa<|rn 1 [3] rfl<|ai (bB rfl rfl rfl Tryz.call93 ((fun w hw=>eM ((fun w hw=>ny n w) w hw)))) rfl rfl (fun _ _=>?_)
 refine rn 2 [2] rfl<|ae<|ap<|au Tryz.results179 (am rfl) ?_
 intro w hw
 exact⟨rfl,hw.below⟩
set_option maxRecDepth 100000 in
theorem rF (A:Option Addr) (c:Nat) (l:List Int) (w:World) (hs:Sl w (.slice A l.length c) l):Calls Tryz.prog 141 #[.slice A l.length c] w fun e w'=>e= .returned (.bool (dd l))∧Below w.heap.size w w':=by
 refine enter Tryz.func141 rfl Tryz.ntmps141 rfl ?_
 refine ac<|aa<|rn 1 [0] rfl<|ae<|ac<|aa<|rn 1 [3] rfl<|ai (bB rfl rfl rfl DT (fun w hw=>mX A c l 179 #[] (fun n=>!cW n) w (hw.ro hs) Tryz.call179 (fun w1 _ x _=>wG x w1))) rfl rfl (fun _ _=>?_)
 refine rn 1 [2] rfl<|ae<|ap<|au Tryz.results141 (am rfl) ?_
 intro w hw
 exact⟨rfl,hw.below⟩
theorem yO (m:aI):fY m=aN m.frames (m.frames.length - 1):=by
 unfold fY aN
 rw[List.getLastD_eq_getLast?,List.getLast?_eq_getElem?,List.getD_eq_getElem?_getD]
section
variable {B:Nat} {w0:World} {H:List a4}
set_option maxRecDepth 100000 in
set_option maxHeartbeats 4000000 in
theorem sm (gc:Nat) (a:MA) (m:aI) (Ap:Option Addr) (cp:Nat) (fs:List aA) (hs:bM w0 B (.slice Ap fs.length cp) fs) (hm:dE B w0 a m) (hF:eZ fs) (hfit:ie m.frames) (E:Int) (hE:j4 fs m=E) (w:World) (hw:Cw B w0 (az gc [.slice a.Af m.frames.length a.cf,.slice a.Ab m.blocks.length a.cb,.slice a.Ai m.inn.length a.ci,.slice a.Ao m.out.length a.co,.int .i64 m.status,.int .i64 m.trap,.slice Ap fs.length cp] 147::H) w) :
  Calls Tryz.prog 106 #[.pointer (some ⟨gc,0,none⟩)] w fun e w'=> ∃_:Unit,True∧e= .returned (.int .i64 E)∧Cw B w0 (az gc [.slice a.Af m.frames.length a.cf,.slice a.Ab m.blocks.length a.cb,.slice a.Ai m.inn.length a.ci,.slice a.Ao m.out.length a.co,.int .i64 m.status,.int .i64 m.trap,.slice Ap fs.length cp] 147::H) w':=by
 have bf:=bR hm.f
 have bp:=bR hs
 unfold j4 at hE
 refine cB Tryz.func106 rfl Tryz.ntmps106 rfl hw ?_
 refine ac<|aa<|rn 1 [0] rfl<|ae<|ac<|aa<|rn 2 [0,3,4] rfl<|ae<|eo (fun _:Unit=>True) (fun _=> [(0,.pointer (some ⟨gc,0,none⟩)),(3,.int .i64 (if m.status=3 then 1 else 0)),(4,.int .i64 (if m.status=3 then 5 else 0))]) (fun _=>az gc [.slice a.Af m.frames.length a.cf,.slice a.Ab m.blocks.length a.cb,.slice a.Ai m.inn.length a.ci,.slice a.Ao m.out.length a.co,.int .i64 m.status,.int .i64 m.trap,.slice Ap fs.length cp] 147::H) ?_ ?_
 ·refine ac<|aa<|rn 4 [0,3,4,11] rfl<|af (aj fc aw rfl rfl (by rfl)) rfl rfl ?_
  refine rn 1 [0,3,4,13] rfl<|ae<|ar rfl (fun h3=>?_) (fun h3=>?_)
  ·rw[if_pos h3,if_pos h3]
   refine aa<|rn 2 [0,3,4] rfl<|iq () (trivial) ⟨rfl,rfl,rfl,trivial⟩ (fun _ h=>h.msub ms)
  rw[if_neg h3,if_neg h3]
  refine aq<|be () (trivial) ⟨rfl,rfl,rfl,trivial⟩ (fun _ h=>h.msub ms)
 rintro⟨⟩ _
 refine ac<|aE<|ac<|aa<|rn 4 [0,3,4,18] rfl<|af (aj fc aw rfl rfl (by rfl)) rfl rfl ?_
 refine ai (bB rfl rfl rfl sQ (fun w hw=>iH m.status 0 3 w)) rfl rfl (fun _ _=>?_)
 refine rn 2 [0,3,4,14] rfl<|ae<|b9 rfl (fun h1=>?_) (fun h1=>?_)
 ·rw[if_pos (by simpa using h1)] at hE
  subst hE
  refine ac<|aa<|rn 1 [2] rfl<|ae<|ap (aC (ah ?_))
  refine au fb (am rfl) ?_
  intro w hw
  exact⟨(),trivial,rfl,hw.msub ms⟩
 rw[if_neg (by simpa using h1)] at hE
 refine ac<|aa<|rn 4 [0,3,4,26] rfl<|af (aj fc aw rfl rfl (by rfl)) rfl rfl ?_
 refine rn 2 [0,27,28,29] rfl<|ai (bB rfl rfl rfl sQ (fun w hw=>iH m.trap _ _ w)) rfl rfl (fun _ _=>?_)
 refine rn 2 [0,22] rfl<|ae<|b9 rfl (fun h2=>?_) (fun h2=>?_)
 ·rw[if_pos (by simpa using h2)] at hE
  subst hE
  refine ac<|aa<|rn 1 [2] rfl<|ae<|ap (aC (ah ?_))
  refine au fb (am rfl) ?_
  intro w hw
  exact⟨(),trivial,rfl,hw.msub ms⟩
 rw[if_neg (by simpa using h2)] at hE
 refine aq (aH (ak ?_))
 refine ac<|ac<|aa<|rn 4 [0,35] rfl<|af (aj fc dp rfl rfl (by rfl)) rfl rfl ?_
 refine ai (bB rfl rfl rfl Tryz.call140 (fun w hw=>vh _ m.blocks w (hw.ro hm.b))) rfl rfl (fun _ _=>?_)
 refine rn 1 [0,5] rfl<|ae<|ac<|aa<|rn 2 [0,5,39] rfl<|ae<|bX rfl (fun h3=>?_) (fun h3=>?_)
 ·rw[if_pos h3] at hE
  subst hE
  refine ac<|aa<|rn 2 [2] rfl<|ae<|ap (ah ?_)
  refine au fb (am rfl) ?_
  intro w hw
  exact⟨(),trivial,rfl,hw.msub ms⟩
 rw[if_neg (fun h=>h h3)] at hE
 refine aq (ak ?_)
 refine eo (fun _:Unit=>(¬(10<m.inn.length∨10<m.out.length))∧¬(dd m.inn=true∨dd m.out=true)) (fun _=> [(0,.pointer (some ⟨gc,0,none⟩))]) (fun _=>az gc [.slice a.Af m.frames.length a.cf,.slice a.Ab m.blocks.length a.cb,.slice a.Ai m.inn.length a.ci,.slice a.Ao m.out.length a.co,.int .i64 m.status,.int .i64 m.trap,.slice Ap fs.length cp] 147::H) ?_ ?_
 ·refine aE<|ac<|aa<|rn 4 [0,45] rfl<|af (aj fc aW rfl rfl (by rfl)) rfl rfl ?_
  refine af (aL ag rfl rfl) rfl rfl<|rn 2 [0,49] rfl<|bL (t:=49) rfl (fun h4=>?_) (fun h4=>?_)
  ·have h4:=of_decide_eq_true h4
   rw[if_pos (.inl (by omega))] at hE
   subst hE
   refine rn 9 [0,41] rfl<|ae<|br rfl<|ac<|aa<|rn 1 [2] rfl<|ae<|ap (aC (ah ?_))
   refine au fb (am rfl) ?_
   intro w hw
   exact⟨(),trivial,rfl,hw.msub ms⟩
  have h4:=of_decide_eq_false h4
  refine rn 4 [0,49,53] rfl<|af (aj fc aW rfl rfl (by rfl)) rfl rfl ?_
  refine af (aL ag rfl rfl) rfl rfl<|rn 3 [0,41] rfl<|ae<|ar rfl (fun h5=>?_) (fun h5=>?_)
  ·rw[if_pos (.inr (by omega))] at hE
   subst hE
   refine ac<|aa<|rn 1 [2] rfl<|ae<|ap (aC (ah ?_))
   refine au fb (am rfl) ?_
   intro w hw
   exact⟨(),trivial,rfl,hw.msub ms⟩
  have h45:¬(10<m.inn.length∨10<m.out.length):=by omega
  rw[if_neg h45] at hE
  refine ac<|aa<|rn 4 [0,62] rfl<|af (aj fc aW rfl rfl (by rfl)) rfl rfl ?_
  refine ai (bB rfl rfl rfl Tryz.call141 (fun w hw=>rF a.Ai a.ci m.inn w (hw.ro hm.i))) rfl rfl (fun _ _=>?_)
  refine rn 1 [0,65] rfl<|bL (t:=65) rfl (fun h6=>?_) (fun h6=>?_)
  ·rw[if_pos (.inl h6)] at hE
   subst hE
   refine rn 8 [0,58] rfl<|ae<|br rfl<|ac<|aa<|rn 1 [2] rfl<|ae<|ap (aC (ah ?_))
   refine au fb (am rfl) ?_
   intro w hw
   exact⟨(),trivial,rfl,hw.msub ms⟩
  refine rn 4 [0,65,69] rfl<|af (aj fc aW rfl rfl (by rfl)) rfl rfl ?_
  refine ai (bB rfl rfl rfl Tryz.call141 (fun w hw=>rF a.Ao a.co m.out w (hw.ro hm.o))) rfl rfl (fun _ _=>?_)
  refine rn 2 [0,58] rfl<|ae<|b9 rfl (fun h7=>?_) (fun h7=>?_)
  ·rw[if_pos (.inr h7)] at hE
   subst hE
   refine ac<|aa<|rn 1 [2] rfl<|ae<|ap (aC (ah ?_))
   refine au fb (am rfl) ?_
   intro w hw
   exact⟨(),trivial,rfl,hw.msub ms⟩
  have h67:¬(dd m.inn=true∨dd m.out=true):=by rw[h6,h7];simp
  refine aq (aH ?_)
  refine be () (⟨h45,h67⟩) ⟨rfl,trivial⟩ (fun _ h=>h.msub ms)
 rintro⟨⟩ ⟨h4,h5⟩
 rw[if_neg h4,if_neg h5] at hE
 refine ac<|ac<|aa<|rn 1 [0,73] rfl<|ai (bg rfl rfl rfl Tryz.call142 (fun w hw=>tx gc a m Ap cp fs hs hm hF hfit _ rfl w (hw.msub (.s fc .r)))) rfl rfl (fun _ _=>?_)
 refine rn 1 [0,6] rfl<|ae<|ac<|aa<|rn 2 [0,6,76] rfl<|ae<|bX rfl (fun h6=>?_) (fun h6=>?_)
 ·rw[if_pos h6] at hE
  subst hE
  refine ac<|aa<|rn 2 [2] rfl<|ae<|ap (ah ?_)
  refine au fb (am rfl) ?_
  intro w hw
  exact⟨(),trivial,rfl,hw.msub ms⟩
 rw[if_neg (fun h=>h h6)] at hE
 refine aq (ak ?_)
 refine ac<|ac<|aa<|rn 4 [0,81] rfl<|af (aj fc aw rfl rfl (by rfl)) rfl rfl ?_
 refine rn 1 [0,83] rfl<|ae<|bX rfl (fun h7=>?_) (fun h7=>?_)
 ·rw[if_pos h7] at hE
  subst hE
  refine ac<|aa<|rn 1 [2] rfl<|ae<|ap (ah ?_)
  refine au fb (am rfl) ?_
  intro w hw
  exact⟨(),trivial,rfl,hw.msub ms⟩
 rw[if_neg (fun h=>h h7)] at hE
 obtain⟨_,hdn,hfn,_,hfr⟩:=lw.1 h6
 have hne:m.frames.length≠0:=fun h=>by
  have:=hdn.1 (List.eq_nil_of_length_eq_zero h)
  omega
 obtain⟨k,hk⟩:∃k,m.frames.length=k+1:=⟨m.frames.length - 1,by omega⟩
 have hkl:k<m.frames.length:=by omega
 obtain⟨A1,c1,A2,c2,hl,hst,hI,hcell⟩:=hm.f.fr hkl
 have hx:=hfn _ (dW hkl)
 obtain⟨kf,hkf⟩:∃kf:Nat,(aN m.frames k).func=kf:=⟨(aN m.frames k).func.toNat,by omega⟩
 have hkfl:kf<fs.length:=by omega
 obtain⟨F1,d1,F2,d2,hfl,hfc,hfi,hfcell⟩:=hs.fn hkfl
 obtain⟨t,ht,_⟩:=hfr k hkl
 unfold fu fZ at ht
 rw[if_pos hk.symm,hkf,Int.toNat_natCast] at ht
 obtain⟨hp0,hp1,_⟩:=(hF.e _ hkfl).at_ _ _ ht
 have hop:dh fs m=bn (ax fs kf).code (aN m.frames k).pc.toNat:=by
  unfold dh
  rw[yO,hk,Nat.add_sub_cancel,hkf,Int.toNat_natCast]
 rw[hop] at hE
 rw[hkf] at hcell
 refine aq (ak ?_)
 refine ac<|bV (.still 0 (.still 1 (.still 2 (.still 3 (.still 4 (.still 5 (.still 6 (.still 7 (.still 8 (.still 9 (.still 10 (.still 11 (.still 12 (.still 13 (.pick 14 (.pick 15 .done .stop) .stop))))))))))))))) [15] rfl (by kernel_rfl) (by kernel_rfl) ?_
 refine aS ha 4 [0,87] rfl<|av rfl (aj fc bG rfl rfl (by rfl)) rfl rfl ha ?_
 refine aS ha 4 [0,88,92] rfl<|av rfl (aj fc bG rfl rfl (by rfl)) rfl rfl ha ?_
 refine av rfl (aL aT rfl rfl) rfl rfl ha ?_
 refine av rfl (cn rfl rfl rfl (by omega)) rfl rfl ha ?_
 refine eH (t:=95) (v':= .int .i64 (k:Int)) rfl (by rw[hk];congr 1;omega) ?_
 refine av rfl (aQ (k:=k) aT a7 (.ro hm.f) hkl rfl rfl rfl) rfl rfl ha ?_
 refine av rfl (cL (hcell _) rfl rfl gl a7) rfl rfl ha ?_
 refine aB rfl (a9 cY rfl rfl) rfl rfl (.inr fun _=>ha) (fun g1 _=>?_) ay
 refine aB rfl (aM _ fc a7 rfl rfl rfl rfl rfl (by rfl) rfl (by rfl)) rfl rfl (.inl rfl) (fun _ _=>?_) ay
 refine cu<|ac<|ac<|bV (.still 0 (.still 1 (.still 2 (.still 3 (.still 4 (.still 5 (.still 6 (.still 7 (.still 8 (.still 9 (.still 10 (.still 11 (.still 12 (.still 13 (.still 14 (.still 15 (.still 16 (.still 17 (.still 18 (.still 19 (.still 20 (.still 21 (.still 22 (.still 23 (.still 24 .done))))))))))))))))))))))))) [] rfl (by kernel_rfl) (by kernel_rfl) ?_
 refine aS ha 4 [0,7,101] rfl<|av rfl (aj fc aW rfl rfl (by rfl)) rfl rfl ha ?_
 refine av rfl (aL ag rfl rfl) rfl rfl ha ?_
 refine aS ha 2 [0,7,105] rfl<|kI (t:=105) rfl (fun h8=>?_) (fun h8=>?_)
 ·have h8:=of_decide_eq_true h8
  rw[if_pos (.inl (by omega))] at hE
  subst hE
  refine aS ha 17 [122] rfl<|cu<|br rfl<|ac<|aa<|rn 1 [2] rfl<|ae<|ap (ah ?_)
  refine au fb (am rfl) ?_
  intro w hw
  exact⟨(),trivial,rfl,hw.msub ms⟩
 have h8:=of_decide_eq_false h8
 refine aS ha 4 [7,105,109] rfl<|av rfl (aj fc cF rfl rfl (by rfl)) rfl rfl ha ?_
 refine aS ha 1 [7,105,110,111] rfl<|av rfl (aj fc aw rfl rfl (by rfl)) rfl rfl ha ?_
 refine av rfl (aQ (k:=kf) bA bq (.ro hs) (by omega) rfl rfl rfl) rfl rfl ha ?_
 refine aS ha 1 [7,105,114] rfl<|av rfl (aZ (fun w hw=>hfcell _ w hw 3 _ rfl) rfl rfl dk) rfl rfl ha ?_
 refine aS ha 1 [105,115,116] rfl<|av rfl (aj fc aw rfl rfl (by rfl)) rfl rfl ha ?_
 refine av rfl (eJ bt cE (.ro hfc) (by omega) rfl rfl rfl) rfl rfl ha ?_
 refine aS ha 1 [105,119] rfl<|av rfl (aZ (SF.opc (.ro hfc) (by omega)) rfl rfl aw) rfl rfl ha ?_
 refine aS ha 2 [122] rfl<|cu<|bX rfl (fun h9=>?_) (fun h9=>?_)
 ·rw[if_pos (.inr h9)] at hE
  subst hE
  refine ac<|aa<|rn 1 [2] rfl<|ae<|ap (ah ?_)
  refine au fb (am rfl) ?_
  intro w hw
  exact⟨(),trivial,rfl,hw.msub ms⟩
 have h9:(bn (ax fs kf).code (aN m.frames k).pc.toNat).c=21:=h9
 rw[if_neg (fun h=>h.elim (fun h=>h8 (by omega)) (fun h=>h h9))] at hE
 subst hE
 refine aq (ak ?_)
 refine ac<|aa<|rn 1 [2] rfl<|ae<|ap<|au fb (am rfl) ?_
 intro w hw
 exact⟨(),trivial,rfl,hw.msub ms⟩
end
set_option maxRecDepth 100000 in
set_option maxHeartbeats 1000000 in
theorem uK (Ap:Option Addr) (cp:Nat) (fs:List aA) (a:MA) (m:aI) (w:World) (hs:Sl w (.slice Ap fs.length cp) fs) (hm:dE w.heap.size w a m) (hF:eZ fs) (hfit:ie m.frames) :
  Calls Tryz.prog 57 #[.agg #[.slice Ap fs.length cp],.agg #[.slice a.Af m.frames.length a.cf,.slice a.Ab m.blocks.length a.cb,.slice a.Ai m.inn.length a.ci,.slice a.Ao m.out.length a.co,.int .i64 m.status,.int .i64 m.trap]] w fun e w'=>e= .returned (.int .i64 (j4 fs m))∧Below w.heap.size w w':=by
 refine enter Tryz.func57 rfl Tryz.ntmps57 rfl ?_
 refine ac<|aa<|ai (bH rfl rfl rfl) rfl rfl (fun g1 _=>?_)
 refine ai (bH rfl rfl rfl) rfl rfl (fun g2 _=>?_)
 refine rn 1 [2,3] rfl<|ae<|ac<|aa<|af (aY (vs:= [_,_,_,_,_,_]) fc bd aJ rfl rfl (by rfl) rfl) rfl rfl ?_
 refine af (aY (vs:= [_]) fc cA cg rfl rfl (by rfl) rfl) rfl rfl ?_
 refine af (cU (cs:= [_,_,_,_,_,_,_]) BI Tryz.zeroValue147 rfl rfl (by rfl)) rfl rfl ?_
 refine ai (bH rfl rfl rfl) rfl rfl (fun g3 _=>?_)
 refine rn 1 [5] rfl<|ae<|ac<|aa<|rn 1 [10] rfl<|ai (bg rfl rfl rfl Tryz.call106 (fun w hw=>sm g3 a m Ap cp fs hs hm hF hfit _ rfl w (hw.msub (.s fc .r)))) rfl rfl (fun _ _=>?_)
 refine rn 1 [4] rfl<|ae<|ap<|au Tryz.results57 (am rfl) ?_
 intro w hw
 exact⟨rfl,hw.below⟩
set_option maxRecDepth 100000 in
set_option maxHeartbeats 1000000 in
theorem mc (Ap:Option Addr) (cp:Nat) (fs:List aA) (a:MA) (m:aI) (w:World) (hs:Sl w (.slice Ap fs.length cp) fs) (hm:dE w.heap.size w a m) (hfit:ie m.frames) :
  Calls Tryz.prog 27 #[.agg #[.slice Ap fs.length cp],.agg #[.slice a.Af m.frames.length a.cf,.slice a.Ab m.blocks.length a.cb,.slice a.Ai m.inn.length a.ci,.slice a.Ao m.out.length a.co,.int .i64 m.status,.int .i64 m.trap]] w fun e w'=>e= .returned (.int .i64 (dI fs m))∧Below w.heap.size w w':=by
 obtain⟨E,hE⟩:∃E,dI fs m=E:=⟨_,rfl⟩
 rw[hE]
 unfold dI at hE
 refine enter Tryz.func27 rfl Tryz.ntmps27 rfl ?_
 refine ac<|aa<|ai (bH rfl rfl rfl) rfl rfl (fun g1 _=>?_)
 refine ai (bH rfl rfl rfl) rfl rfl (fun g2 _=>?_)
 refine rn 1 [2,3] rfl<|ae<|ac<|ac<|aa<|af (aY (vs:= [_]) fc cA cg rfl rfl (by rfl) rfl) rfl rfl ?_
 refine ai (bB rfl rfl rfl Tryz.call55 (fun w hw=>pU Ap cp fs w (hw.ro hs))) rfl rfl (fun _ _=>?_)
 refine rn 1 [2,3,5] rfl<|ae<|ac<|aa<|rn 2 [2,3,5,9] rfl<|ae<|bX rfl (fun h=>?_) (fun h=>?_)
 ·rw[if_pos h] at hE
  subst hE
  refine ac<|aa<|rn 2 [4] rfl<|ae<|ap (ah ?_)
  refine au Tryz.results27 (am rfl) ?_
  intro w hw
  exact⟨rfl,hw.below⟩
 have h:fd fs=0:=h
 rw[if_neg (fun h'=>h' h)] at hE
 subst hE
 refine aq (ak ?_)
 refine ac<|aa<|af (aY (vs:= [_]) fc cA cg rfl rfl (by rfl) rfl) rfl rfl ?_
 refine af (aY (vs:= [_,_,_,_,_,_]) fc bd aJ rfl rfl (by rfl) rfl) rfl rfl ?_
 refine ai (bB rfl rfl rfl Tryz.call57 (fun w hw=>uK Ap cp fs a m w (hw.ro hs) (dE.ro hw hm) (pQ h) hfit)) rfl rfl (fun _ _=>?_)
 refine rn 1 [4] rfl<|ae<|ap<|au Tryz.results27 (am rfl) ?_
 intro w hw
 exact⟨rfl,hw.below⟩
end
section
theorem vP {B:Nat} {w:World} {Ap:Option Addr} {cp:Nat} {fs:List aA} (hs:bM w B (.slice Ap fs.length cp) fs) (hF:eZ fs) {m:aI} (hR:de fs m) (hst:¬(m.status=2∨m.status=3)):∃li x kf,sC fs m li x kf:=by
 have hne:m.frames≠[]:=fun e=>hst (.inl (hR.dn.1 e))
 obtain⟨li,x,e⟩:∃li x,m.frames=li++ [x]:=by
  rcases List.eq_nil_or_concat m.frames with h1 | ⟨l,z,h1⟩
  ·exact absurd h1 hne
  exact⟨l,z,by rw[h1];simp⟩
 obtain⟨hfn,hloc,t,he,hts⟩:=hR.top e
 obtain⟨kf,hkf⟩:∃kf:Nat,x.func=kf:=⟨x.func.toNat,by omega⟩
 rw[hkf,Int.toNat_natCast] at he hloc
 have hkl:kf<fs.length:=by omega
 obtain⟨hp0,hp1,ht8,_⟩:=(hF.e _ hkl).at_ _ _ he
 obtain⟨hok,_⟩:=gJ hF.p hkl
 obtain⟨F1,d1,F2,d2,hfl,hfc,hfi,hfcell⟩:=hs.fn hkl
 have hn6:=hR.n6
 rw[e,List.length_append,List.length_singleton] at hn6
 refine⟨li,x,kf,e,hkf,hkl,⟨hp0,hp1⟩,yt hF hkl (x:= {x with pc:=x.pc+1}) hkf he hts hloc.len,hR.bl,by rw[hts.len];omega,fun y hy=>?_,by have:=hR.ob;omega,by omega,(ru hfc (by omega)).2,by have:=hok.n40;omega⟩
 obtain⟨i,hi,rfl⟩:=List.getElem_of_mem hy
 obtain⟨u,hu,_,hus⟩:=hR.fr i (by rw[e,List.length_append];omega)
 have hfi2:aN m.frames i=li[i]:=by
  rw[e,iy hi]
  unfold aN
  rw[List.getD_eq_getElem?_getD,List.getElem?_eq_getElem hi]
  rfl
 rw[hfi2] at hus
 rw[hus.len]
 have hz:=hR.fn _ (dW (l:=m.frames) (k:=i) (by rw[e,List.length_append];omega))
 have hkz:(aN m.frames i).func.toNat<fs.length:=by omega
 unfold fu fZ at hu
 split at hu
 ·have:=((hF.e _ hkz).at_ _ _ hu).2.2.1
  omega
 split at hu
 ·cases hu
 split at hu
 ·cases hu
 cases h5:d8 fs (ax fs (aN m.frames i).func.toNat) (aN m.frames i).pc with
 | none=>rw[h5] at hu;cases hu
 | some t2=>
  rw[h5] at hu
  have hu:(if (ax fs (aN m.frames (i+1)).func.toNat).result≠0 then t2.dropLast else t2)=u:=Option.some.inj hu
  have:=((hF.e _ hkz).at_ _ _ h5).2.2.1
  rw[←hu]
  split
  ·rw[List.length_dropLast];omega
  omega
theorem mM {fs:List aA} (hF:eZ fs):0<fs.length:=by
 have:=(gS hF.p).1
 omega
theorem mq {fs:List aA} (hF:eZ fs) {m:aI} (hR:de fs m) {i:Nat} (hi:i<m.frames.length):(aN m.frames i).stack.length≤8∧(aN m.frames i).locals.length≤1000:=by
 obtain⟨u,hu,hul,hus⟩:=hR.fr i hi
 have hz:=hR.fn _ (dW hi)
 have hkz:(aN m.frames i).func.toNat<fs.length:=by omega
 rw[hus.len,hul.len]
 have hn40:=((gJ hF.p (mM hF)).1.op 0 (gJ hF.p (mM hF)).2).par _ hkz |>.2
 refine⟨?_,by unfold fZ;omega⟩
 unfold fu fZ at hu
 split at hu
 ·have:=((hF.e _ hkz).at_ _ _ hu).2.2.1
  omega
 split at hu
 ·cases hu
 split at hu
 ·cases hu
 cases h5:d8 fs (ax fs (aN m.frames i).func.toNat) (aN m.frames i).pc with
 | none=>rw[h5] at hu;cases hu
 | some t2=>
  rw[h5] at hu
  have hu:(if (ax fs (aN m.frames (i+1)).func.toNat).result≠0 then t2.dropLast else t2)=u:=Option.some.inj hu
  have:=((hF.e _ hkz).at_ _ _ h5).2.2.1
  rw[←hu]
  split
  ·rw[List.length_dropLast];omega
  omega
theorem nB {fs:List aA} (hF:eZ fs) {m:aI} (hR:de fs m):sE m:=by
 refine⟨⟨by have:=hR.n6;omega,fun x hx=>?_⟩,nm.of_check hR.bl,by have:=hR.ib;omega,by have:=hR.ob;omega⟩
 obtain⟨i,hi,rfl⟩:=List.getElem_of_mem hx
 have h:=mq hF hR hi
 have e:aN m.frames i=m.frames[i]:=by
  unfold aN
  rw[List.getD_eq_getElem?_getD,List.getElem?_eq_getElem hi]
  rfl
 rw[e] at h
 omega
def iC (fs:List aA):aI:=⟨[⟨0,0,dw (ax fs 0).locals,[]⟩],[],[],[],0,0⟩
def qX (fs:List aA):aI:=if fd fs=0 then iC fs else default
def DC (fs:List aA) (m:aI):aI:=if dI fs m=0 then dV fs m else default
theorem l6 {fs:List aA} (h:fd fs=0):0<fs.length:=by
 have:=(gS (pQ h).p).1
 omega
set_option maxRecDepth 100000 in
set_option maxHeartbeats 1000000 in
theorem yz (Ap:Option Addr) (cp:Nat) (fs:List aA) (w:World) (hs:Sl w (.slice Ap fs.length cp) fs) (h0:0<fs.length) (hl6:(ax fs 0).locals.length≤1000) :
  Calls Tryz.prog 72 #[.agg #[.slice Ap fs.length cp]] w fun e w'=> ∃g:MA,True∧
   e= .returned (.agg #[.slice g.Af (iC fs).frames.length g.cf,.slice g.Ab (iC fs).blocks.length g.cb,.slice g.Ai (iC fs).inn.length g.ci,.slice g.Ao (iC fs).out.length g.co,.int .i64 (iC fs).status,.int .i64 (iC fs).trap])∧
   Cw w.heap.size w [an (.slice g.Af (iC fs).frames.length g.cf) (iC fs).frames,an (.slice g.Ab (iC fs).blocks.length g.cb) (iC fs).blocks,an (.slice g.Ai (iC fs).inn.length g.ci) (iC fs).inn,an (.slice g.Ao (iC fs).out.length g.co) (iC fs).out] w':=by
 obtain⟨A1,c1,A2,c2,hl,hc,hi,hcell⟩:=hs.fn h0
 have hF:(dw (ax fs 0).locals).length=(ax fs 0).locals.length:=jo _
 refine enter Tryz.func72 rfl Tryz.ntmps72 rfl ?_
 refine ac<|aa<|ai (bH rfl rfl rfl) rfl rfl (fun g1 _=>?_)
 refine ai (a9 bw rfl rfl) rfl rfl (fun g2 _=>?_)
 refine ae<|ac<|aa<|rn 1 [2,3] rfl<|af (aj fc cF rfl rfl (by rfl)) rfl rfl ?_
 refine af (aQ (k:=0) bA bq (.ro hs) (by omega) rfl rfl rfl) rfl rfl<|af (cL (hcell _) rfl rfl ei bq) rfl rfl<|ai (d9 rfl rfl rfl Tryz.call114 (fun w hw=>qf (ax fs 0).params (ax fs 0).result A1 A2 c1 c2 _ (ax fs 0).locals w (hw.ro hl) (by omega))) rfl rfl (fun⟨A3,c3⟩ _=>?_)
 try dsimp only
 refine af (cU (cs:= [_,_,_,_]) uG cY rfl rfl (by rfl)) rfl rfl ?_
 refine ai (a8 (cs:= [_,_,_,_]) aT a7 cY rfl rfl rfl rfl rfl) rfl rfl (fun g3 _=>?_)
 refine af (cU (cs:= [_,_,_,_,_,_]) jk bw rfl rfl (by rfl)) rfl rfl ?_
 refine ai (aM _ fc aJ rfl rfl rfl rfl rfl (by rfl) rfl (by rfl)) rfl rfl (fun _ _=>?_)
 refine ae<|ap<|au Tryz.results72 (eF (cs:= [_,_,_,_,_,_]) fc bd aJ rfl) ?_
 intro w hw
 refine⟨⟨some ⟨g3,0,none⟩,1,none,0,none,0,none,0⟩,trivial,rfl,?_⟩
 have h1:=tP (H:= []) (xs:=(iC fs).frames) (g:=g3) (nV.cons (Hel:= [an (.slice A3 (dw (ax fs 0).locals).length c3) (dw (ax fs 0).locals),an (.slice none 0 0) ([]:List aR)]) (cs:= [_,_,_,_]) (rN (x:=⟨0,0,dw (ax fs 0).locals,[]⟩) (by show a5 0∧a5 0;decide)) nV.nil_) rfl (by show 1≤_;decide) ((Cw.nilO aR hw).msub (T:= [az g3 _ _,an (.slice A3 (dw (ax fs 0).locals).length c3) (dw (ax fs 0).locals),an (.slice none 0 0) ([]:List aR)]) ms)
 exact(Cw.nilO (List Int) (Cw.nilO Int (Cw.nilO Int h1))).msub ms
theorem jL {B:Nat} {w0 w:World} {H:List a4} (h:Cw B w0 H w):Cw B w0 (an (α:=aO) (.slice none 0 0) []::an (α:=List Int) (.slice none 0 0) []::an (α:=Int) (.slice none 0 0) []::an (α:=Int) (.slice none 0 0) []::H) w:=Cw.nilO aO (Cw.nilO (List Int) (Cw.nilO Int (Cw.nilO Int h)))
set_option maxRecDepth 100000 in
set_option maxHeartbeats 1000000 in
theorem uJ (Ap:Option Addr) (cp:Nat) (fs:List aA) (m:aI) (hmm:qX fs=m) (w:World) (hs:Sl w (.slice Ap fs.length cp) fs) :
  Calls Tryz.prog 22 #[.agg #[.slice Ap fs.length cp]] w fun e w'=> ∃g:MA,True∧
   e= .returned (.tuple #[.agg #[.slice g.Af m.frames.length g.cf,.slice g.Ab m.blocks.length g.cb,.slice g.Ai m.inn.length g.ci,.slice g.Ao m.out.length g.co,.int .i64 m.status,.int .i64 m.trap],.int .i64 (fd fs)])∧Cw w.heap.size w [an (.slice g.Af m.frames.length g.cf) m.frames,an (.slice g.Ab m.blocks.length g.cb) m.blocks,an (.slice g.Ai m.inn.length g.ci) m.inn,an (.slice g.Ao m.out.length g.co) m.out] w':=by
 refine enter Tryz.func22 rfl Tryz.ntmps22 rfl ?_
 refine ac<|aa<|ai (bH rfl rfl rfl) rfl rfl (fun g1 _=>?_)
 refine ai (a9 bw rfl rfl) rfl rfl (fun g2 _=>?_)
 refine rn 1 [1,2] rfl<|ae<|ac<|ac<|aa<|af (aY (vs:= [_]) fc cA cg rfl rfl (by rfl) rfl) rfl rfl ?_
 refine ai (bB rfl rfl rfl Tryz.call55 (fun w hw=>pU Ap cp fs w (hw.ro hs))) rfl rfl (fun _ _=>?_)
 refine rn 1 [1,2,4] rfl<|ae<|ac<|aa<|rn 2 [1,2,4,8] rfl<|ae ?_
 unfold qX at hmm
 refine bX rfl (fun h=>?_) (fun h=>?_)
 ·rw[if_neg h] at hmm
  subst hmm
  refine ac<|aa<|af (cU (cs:= [_,_,_,_,_,_]) jk bw rfl rfl (by rfl)) rfl rfl ?_
  refine rn 1 [2,9,10] rfl<|ai (aM _ fc aJ rfl rfl rfl rfl rfl (by rfl) rfl (by rfl)) rfl rfl (fun _ _=>?_)
  refine rn 1 [2,3] rfl<|ae<|ap (ah ?_)
  refine bC Tryz.results22 (eF (cs:= [_,_,_,_,_,_]) fc bd aJ rfl) (am rfl) ?_
  intro w hw
  exact⟨⟨none,0,none,0,none,0,none,0⟩,trivial,rfl,(jL hw).msub ms⟩
 have h:fd fs=0:=h
 rw[if_pos h] at hmm
 subst hmm
 refine aq (ak ?_)
 refine ac<|aa<|af (aY (vs:= [_]) fc cA cg rfl rfl (by rfl) rfl) rfl rfl ?_
 refine ai (dg rfl rfl rfl Tryz.call72 (fun w hw=>yz Ap cp fs w (hw.ro hs) (l6 h) (by have:=((gJ (pQ h).p (l6 h)).1.op 0 (gJ (pQ h).p (l6 h)).2).par 0 (l6 h) |>.2;omega))) rfl rfl (fun g _=>?_)
 refine ai (aM _ fc aJ rfl rfl rfl rfl rfl (by rfl) rfl (by rfl)) rfl rfl (fun _ _=>?_)
 refine rn 1 [2,3] rfl<|ae<|ap<|bC Tryz.results22 (eF (cs:= [_,_,_,_,_,_]) fc bd aJ rfl) (am rfl) ?_
 intro w hw
 exact⟨g,trivial,by rw[h],hw.msub ms⟩
end
section
theorem rW:Tryz.prog.eqGuardType Tryz.prog.depth 103=false:=by kernel_rfl
theorem zw:Tryz.prog.stoodInHeld 103=false:=by kernel_rfl
theorem CI (w : World) (a c : Bool) (b d : Int) : (binOp .neq 103 (.agg #[.bool a, .int .i64 b]) (.agg #[.bool c, .int .i64 d])).run Tryz.prog w = .ok (.bool (!(a == c && b == d))) w := by
  have h := zw
  by_cases h1 : a = c <;> by_cases h2 : b = d <;> simp [go_sem, h, h1, h2]
theorem CK (x y : Operand) (u v : Array Value) (w : World) : (eqGuard .neq 103 x y (.agg u) (.agg v)).run Tryz.prog w = .ok () w := by
  have h := rW
  simp [eqGuard, go_sem, h]
theorem BQ {v u:aR} :(v.ref == u.ref && v.n == u.n)=decide (v=u):=by
 obtain⟨a,b⟩:=v
 obtain⟨c,d⟩:=u
 by_cases h1:a=c <;> by_cases h2:b=d <;> simp[h1,h2]
theorem nY {α:Type} {a b:List α} {i:Nat} (d:α) (h1:i<a.length) (h2:i<b.length) (h:a.take i=b.take i) (e:a.getD i d=b.getD i d):a.take (i+1)=b.take (i+1):=by
 rw[dL a i d h1,dL b i d h2,h,e]
theorem qT {α:Type} {a b:List α} {i:Nat} (d:α) (e:¬a.getD i d=b.getD i d):¬a=b:=fun h=>e (by rw[h])
set_option maxRecDepth 100000 in
theorem lH (A1 A2:Option Addr) (c1 c2:Nat) (a b:List aR) (w:World) (h1:Sl w (.slice A1 a.length c1) a) (h2:Sl w (.slice A2 b.length c2) b) :
  Calls Tryz.prog 98 #[.slice A1 a.length c1,.slice A2 b.length c2] w fun e w'=>e= .returned (.bool (decide (a=b)))∧Below w.heap.size w w':=by
 have b1:=bR h1
 refine enter Tryz.func98 rfl Tryz.ntmps98 rfl ?_
 refine ac<|aa<|rn 1 [0,1] rfl<|ae<|ac<|ac<|aa<|rn 1 [0,1,6] rfl<|af (aL aD rfl rfl) rfl rfl<|rn 1 [0,1,7,8] rfl<|af (aL aD rfl rfl) rfl rfl<|rn 1 [0,1,10] rfl<|ae<|bX rfl (fun hl=>?_) (fun hl=>?_)
 ·refine ac<|aa<|rn 1 [4] rfl<|ae<|ap (ah ?_)
  refine au C6 (am rfl) ?_
  intro w hw
  exact⟨bh (by rw[decide_eq_false (fun e=>hl (by rw[e]))]),hw.below⟩
 have hl:a.length=b.length:=by omega
 refine aq (ak ?_)
 refine ac<|ac<|aa<|rn 1 [0,1,5] rfl<|ae<|aE (bD (fun i:Nat=>i≤a.length∧a.take i=b.take i) (fun i=>a.length - i) (fun i=> [(0,.slice A1 a.length c1),(1,.slice A2 b.length c2),(5,.int .i64 (i:Int))]) (fun _=> []) 0 (⟨Nat.zero_le _,rfl⟩) ⟨rfl,rfl,rfl,trivial⟩ me ?_)
 rintro i hi'
 obtain⟨hi,hj⟩:i≤a.length∧a.take i=b.take i:=hi'
 refine ac<|ac<|aa<|rn 2 [0,1,5,11,12] rfl<|af (aL aD rfl rfl) rfl rfl<|rn 1 [0,1,5,14] rfl<|ae<|ar rfl (fun hlt=>?_) (fun hlt=>?_)
 ·have hil:i<a.length:=by omega
  have hil2:i<b.length:=by omega
  refine aq (ak ?_)
  refine ac<|aE<|ac<|bV (.still 0 (.still 1 (.still 2 (.still 3 (.still 4 (.still 5 (.still 6 (.still 7 (.still 8 .done))))))))) [] rfl (by kernel_rfl) (by kernel_rfl) ?_
  refine aS ha 2 [0,1,5,17,18] rfl<|av rfl (aQ (k:=i) aD aP (.ro h1) (by omega) rfl rfl rfl) rfl rfl ha ?_
  refine av rfl (cL (SF.val (SF.ro h1) hil default) rfl rfl dA aP) rfl rfl ha ?_
  refine aS ha 2 [0,1,5,20,21,22] rfl<|av rfl (aQ (k:=i) aD aP (.ro h2) (by omega) rfl rfl rfl) rfl rfl ha ?_
  refine av rfl (cL (SF.val (SF.ro h2) hil2 default) rfl rfl dA aP) rfl rfl ha ?_
  refine av rfl (kM rfl rfl rfl (fun w=>CI w _ _ _ _) (fun w=>CK _ _ _ _ w)) rfl rfl ha ?_
  refine cu ?_
  rw[BQ]
  refine bX rfl (fun he=>?_) (fun he=>?_)
  ·refine ac<|aa<|rn 1 [4] rfl<|ae<|ap (aC (ah (ah (aC (ah ?_)))))
   refine au C6 (am rfl) ?_
   intro w hw
   exact⟨bh (by rw[decide_eq_false (qT default he)]),hw.below⟩
  refine aq (aH (ak ?_))
  refine aa<|rn 1 [0,1,15] rfl<|af (a6 rfl rfl rfl (by omega)) rfl rfl<|rn 1 [0,1,5] rfl<|aX (i+1) (⟨by show i+1≤_;omega,nY default hil hil2 hj he⟩) (by show _ - _<_ - _;omega) ⟨rfl,rfl,rfl,trivial⟩ me
 obtain rfl:i=a.length:=by omega
 rw[List.take_length,hl,List.take_length] at hj
 refine bz (aG (aG (bO (ak ?_))))
 refine ac<|aa<|rn 1 [4] rfl<|ae<|ap<|au C6 (am rfl) ?_
 intro w hw
 exact⟨bh (by rw[decide_eq_true hj]),hw.below⟩
set_option maxRecDepth 100000 in
theorem pE (A1 A2:Option Addr) (c1 c2:Nat) (a b:List (List Int)) (w:World) (h1:Sl w (.slice A1 a.length c1) a) (h2:Sl w (.slice A2 b.length c2) b) :
  Calls Tryz.prog 97 #[.slice A1 a.length c1,.slice A2 b.length c2] w fun e w'=>e= .returned (.bool (decide (a=b)))∧Below w.heap.size w w':=by
 have b1:=bR h1
 refine enter Tryz.func97 rfl Tryz.ntmps97 rfl ?_
 refine ac<|aa<|rn 1 [0,1] rfl<|ae<|ac<|ac<|aa<|rn 1 [0,1,6] rfl<|af (aL bj rfl rfl) rfl rfl<|rn 1 [0,1,7,8] rfl<|af (aL bj rfl rfl) rfl rfl<|rn 1 [0,1,10] rfl<|ae<|bX rfl (fun hl=>?_) (fun hl=>?_)
 ·refine ac<|aa<|rn 1 [4] rfl<|ae<|ap (ah ?_)
  refine au C7 (am rfl) ?_
  intro w hw
  exact⟨bh (by rw[decide_eq_false (fun e=>hl (by rw[e]))]),hw.below⟩
 have hl:a.length=b.length:=by omega
 refine aq (ak ?_)
 refine ac<|ac<|aa<|rn 1 [0,1,5] rfl<|ae<|aE (bD (fun i:Nat=>i≤a.length∧a.take i=b.take i) (fun i=>a.length - i) (fun i=> [(0,.slice A1 a.length c1),(1,.slice A2 b.length c2),(5,.int .i64 (i:Int))]) (fun _=> []) 0 (⟨Nat.zero_le _,rfl⟩) ⟨rfl,rfl,rfl,trivial⟩ me ?_)
 rintro i hi'
 obtain⟨hi,hj⟩:i≤a.length∧a.take i=b.take i:=hi'
 refine ac<|ac<|aa<|rn 2 [0,1,5,11,12] rfl<|af (aL bj rfl rfl) rfl rfl<|rn 1 [0,1,5,14] rfl<|ae<|ar rfl (fun hlt=>?_) (fun hlt=>?_)
 ·have hil:i<a.length:=by omega
  have hil2:i<b.length:=by omega
  obtain⟨A3,c3,hb1,hc1⟩:=h1.sub hil
  obtain⟨A4,c4,hb2,hc2⟩:=h2.sub hil2
  refine aq (ak ?_)
  refine ac<|aE<|ac<|bV (.still 0 (.still 1 (.still 2 (.still 3 (.still 4 (.still 5 (.still 6 (.still 7 (.pick 8 (.still 9 .done) .stop))))))))) [] rfl (by kernel_rfl) (by kernel_rfl) ?_
  refine aS ha 2 [0,1,5,17,18] rfl<|av rfl (aQ (k:=i) bj bJ (.ro h1) (by omega) rfl rfl rfl) rfl rfl ha ?_
  refine av rfl (aZ (hc1 _) rfl rfl aW) rfl rfl ha ?_
  refine aS ha 2 [0,1,5,20,21,22] rfl<|av rfl (aQ (k:=i) bj bJ (.ro h2) (by omega) rfl rfl rfl) rfl rfl ha ?_
  refine av rfl (aZ (hc2 _) rfl rfl aW) rfl rfl ha ?_
  refine aB rfl (bB rfl rfl rfl nE (fun w hw=>ip _ _ _ _ (a.getD i []) (b.getD i []) w (hw.ro hb1) (hw.ro hb2))) rfl rfl (.inr fun _=>ha) (fun _ _=>?_) ay
  refine aS ha 1 [0,1,5,26] rfl<|cu<|bX rfl (fun he=>?_) (fun he=>?_)
  ·refine ac<|aa<|rn 1 [4] rfl<|ae<|ap (aC (ah (ah (aC (ah ?_)))))
   refine au C7 (am rfl) ?_
   intro w hw
   exact⟨bh (by rw[decide_eq_false (qT [] he)]),hw.below⟩
  refine aq (aH (ak ?_))
  refine aa<|rn 1 [0,1,15] rfl<|af (a6 rfl rfl rfl (by omega)) rfl rfl<|rn 1 [0,1,5] rfl<|aX (i+1) (⟨by show i+1≤_;omega,nY [] hil hil2 hj he⟩) (by show _ - _<_ - _;omega) ⟨rfl,rfl,rfl,trivial⟩ me
 obtain rfl:i=a.length:=by omega
 rw[List.take_length,hl,List.take_length] at hj
 refine bz (aG (aG (bO (ak ?_))))
 refine ac<|aa<|rn 1 [4] rfl<|ae<|ap<|au C7 (am rfl) ?_
 intro w hw
 exact⟨bh (by rw[decide_eq_true hj]),hw.below⟩
theorem eR {α:Type} {f:aI→α} {m1 m2:aI} (h:¬f m1=f m2):¬m1=m2:=fun e=>h (by rw[e])
theorem Ay {m1 m2:aI} (h1:m1.status=m2.status) (h2:m1.trap=m2.trap) (h3:m1.blocks=m2.blocks) (h4:m1.inn=m2.inn) (h5:m1.out=m2.out) (h6:m1.frames=m2.frames):m1=m2:=by
 cases m1;cases m2;simp_all
theorem qK {l1 l2:List aO} {i:Nat} {α:Type} {f:aO→α} (h:¬f (aN l1 i)=f (aN l2 i)):¬l1=l2:=fun e=>h (by rw[e])
theorem BX {x y:aO} (h1:x.func=y.func) (h2:x.pc=y.pc) (h3:x.locals=y.locals) (h4:x.stack=y.stack):x=y:=by
 cases x;cases y;simp_all
theorem i8 {p:Prop} [Decidable p] (h:(!decide p)=true):¬p:=by simpa using h
theorem gZ {p:Prop} [Decidable p] (h:(!decide p)=false):p:=by simpa using h
set_option maxRecDepth 100000 in
set_option maxHeartbeats 4000000 in
theorem q5 (a b:MA) (m1 m2:aI) (w:World) (h1:dE w.heap.size w a m1) (h2:dE w.heap.size w b m2) :
  Calls Tryz.prog 53 #[.agg #[.slice a.Af m1.frames.length a.cf,.slice a.Ab m1.blocks.length a.cb,.slice a.Ai m1.inn.length a.ci,.slice a.Ao m1.out.length a.co,.int .i64 m1.status,.int .i64 m1.trap],
   .agg #[.slice b.Af m2.frames.length b.cf,.slice b.Ab m2.blocks.length b.cb,.slice b.Ai m2.inn.length b.ci,.slice b.Ao m2.out.length b.co,.int .i64 m2.status,.int .i64 m2.trap]] w fun e w'=>e= .returned (.bool (decide (m1=m2)))∧Below w.heap.size w w':=by
 have b1:=bR h1.f
 refine enter Tryz.func53 rfl Tryz.ntmps53 rfl ?_
 refine ac<|aa<|ai (bH rfl rfl rfl) rfl rfl (fun g1 _=>?_)
 refine ai (bH rfl rfl rfl) rfl rfl (fun g2 _=>?_)
 refine rn 1 [2,3] rfl<|ae<|ac<|ac<|aa<|rn 1 [2,3,8] rfl<|af (aj fc aw rfl rfl (by rfl)) rfl rfl ?_
 refine rn 1 [2,3,9,10] rfl<|af (aj fc aw rfl rfl (by rfl)) rfl rfl ?_
 refine rn 2 [2,3,13] rfl<|bL (t:=13) rfl (fun e1=>?_) (fun e1=>?_)
 ·refine rn 39 [2,3,52] rfl<|ae<|br rfl<|ac<|aa<|rn 1 [4] rfl<|ae<|ap (ah ?_)
  refine au fO (am rfl) ?_
  intro w hw
  exact⟨bh (by rw[decide_eq_false (eR (f:=aI.status) (i8 e1))]),hw.below⟩
 have e1:=gZ e1
 refine rn 1 [2,3,13,14] rfl<|af (aj fc aw rfl rfl (by rfl)) rfl rfl ?_
 refine rn 1 [2,3,13,15,16] rfl<|af (aj fc aw rfl rfl (by rfl)) rfl rfl ?_
 refine rn 3 [2,3,20] rfl<|bL (t:=20) rfl (fun e2=>?_) (fun e2=>?_)
 ·refine rn 32 [2,3,52] rfl<|ae<|br rfl<|ac<|aa<|rn 1 [4] rfl<|ae<|ap (ah ?_)
  refine au fO (am rfl) ?_
  intro w hw
  exact⟨bh (by rw[decide_eq_false (eR (f:=aI.trap) (i8 e2))]),hw.below⟩
 have e2:=gZ e2
 refine rn 1 [2,3,20,21] rfl<|af (aj fc dp rfl rfl (by rfl)) rfl rfl ?_
 refine rn 1 [2,3,20,22,23] rfl<|af (aj fc dp rfl rfl (by rfl)) rfl rfl ?_
 refine ai (bB rfl rfl rfl Tryz.call97 (fun w hw=>pE _ _ _ _ m1.blocks m2.blocks w (hw.ro h1.b) (hw.ro h2.b))) rfl rfl (fun _ _=>?_)
 refine rn 3 [2,3,28] rfl<|bL (t:=28) rfl (fun e3=>?_) (fun e3=>?_)
 ·refine rn 24 [2,3,52] rfl<|ae<|br rfl<|ac<|aa<|rn 1 [4] rfl<|ae<|ap (ah ?_)
  refine au fO (am rfl) ?_
  intro w hw
  exact⟨bh (by rw[decide_eq_false (eR (f:=aI.blocks) (i8 e3))]),hw.below⟩
 have e3:=gZ e3
 refine rn 1 [2,3,28,29] rfl<|af (aj fc aW rfl rfl (by rfl)) rfl rfl ?_
 refine rn 1 [2,3,28,30,31] rfl<|af (aj fc aW rfl rfl (by rfl)) rfl rfl ?_
 refine ai (bB rfl rfl rfl nE (fun w hw=>ip _ _ _ _ m1.inn m2.inn w (hw.ro h1.i) (hw.ro h2.i))) rfl rfl (fun _ _=>?_)
 refine rn 3 [2,3,36] rfl<|bL (t:=36) rfl (fun e4=>?_) (fun e4=>?_)
 ·refine rn 16 [2,3,52] rfl<|ae<|br rfl<|ac<|aa<|rn 1 [4] rfl<|ae<|ap (ah ?_)
  refine au fO (am rfl) ?_
  intro w hw
  exact⟨bh (by rw[decide_eq_false (eR (f:=aI.inn) (i8 e4))]),hw.below⟩
 have e4:=gZ e4
 refine rn 1 [2,3,36,37] rfl<|af (aj fc aW rfl rfl (by rfl)) rfl rfl ?_
 refine rn 1 [2,3,36,38,39] rfl<|af (aj fc aW rfl rfl (by rfl)) rfl rfl ?_
 refine ai (bB rfl rfl rfl nE (fun w hw=>ip _ _ _ _ m1.out m2.out w (hw.ro h1.o) (hw.ro h2.o))) rfl rfl (fun _ _=>?_)
 refine rn 3 [2,3,44] rfl<|bL (t:=44) rfl (fun e5=>?_) (fun e5=>?_)
 ·refine rn 8 [2,3,52] rfl<|ae<|br rfl<|ac<|aa<|rn 1 [4] rfl<|ae<|ap (ah ?_)
  refine au fO (am rfl) ?_
  intro w hw
  exact⟨bh (by rw[decide_eq_false (eR (f:=aI.out) (i8 e5))]),hw.below⟩
 have e5:=gZ e5
 refine rn 1 [2,3,44,45] rfl<|af (aj fc bG rfl rfl (by rfl)) rfl rfl ?_
 refine af (aL aT rfl rfl) rfl rfl<|rn 1 [2,3,44,47,48] rfl<|af (aj fc bG rfl rfl (by rfl)) rfl rfl ?_
 refine af (aL aT rfl rfl) rfl rfl<|rn 2 [2,3,52] rfl<|ae<|bX rfl (fun e6=>?_) (fun e6=>?_)
 ·refine ac<|aa<|rn 1 [4] rfl<|ae<|ap (ah ?_)
  refine au fO (am rfl) ?_
  intro w hw
  exact⟨bh (by rw[decide_eq_false (eR (f:=fun m=>m.frames.length) (fun h=>e6 (by rw[show m1.frames.length=m2.frames.length from h])))]),hw.below⟩
 have e6:m1.frames.length=m2.frames.length:=by omega
 refine aq (ak ?_)
 refine ac<|ac<|aa<|rn 1 [2,3,5] rfl<|ae<|aE (bD (fun i:Nat=>i≤m1.frames.length∧m1.frames.take i=m2.frames.take i) (fun i=>m1.frames.length - i) (fun i=> [(2,.pointer (some ⟨g1,0,none⟩)),(3,.pointer (some ⟨g2,0,none⟩)),(5,.int .i64 (i:Int))]) (fun _=> [az g1 [.slice a.Af m1.frames.length a.cf,.slice a.Ab m1.blocks.length a.cb,.slice a.Ai m1.inn.length a.ci,.slice a.Ao m1.out.length a.co,.int .i64 m1.status,.int .i64 m1.trap] 29,az g2 [.slice b.Af m2.frames.length b.cf,.slice b.Ab m2.blocks.length b.cb,.slice b.Ai m2.inn.length b.ci,.slice b.Ao m2.out.length b.co,.int .i64 m2.status,.int .i64 m2.trap] 29]) 0 (⟨Nat.zero_le _,rfl⟩) ⟨rfl,rfl,rfl,trivial⟩ me ?_)
 rintro i hi'
 obtain⟨hi,hj⟩:i≤m1.frames.length∧m1.frames.take i=m2.frames.take i:=hi'
 refine ac<|ac<|aa<|rn 2 [2,3,5,53,54] rfl<|af (aj fc bG rfl rfl (by rfl)) rfl rfl ?_
 refine af (aL aT rfl rfl) rfl rfl<|rn 1 [2,3,5,57] rfl<|ae<|ar rfl (fun hlt=>?_) (fun hlt=>?_)
 ·have hil:i<m1.frames.length:=by omega
  have hil2:i<m2.frames.length:=by omega
  obtain⟨A1,c1,A2,c2,hl1,hs1,hI1,hc1⟩:=h1.f.fr hil
  obtain⟨A3,c3,A4,c4,hl2,hs2,hI2,hc2⟩:=h2.f.fr hil2
  refine aq (ak ?_)
  refine ac<|aE<|eo (fun _:Nat×Nat=>True) (fun g=> [(2,.pointer (some ⟨g1,0,none⟩)),(3,.pointer (some ⟨g2,0,none⟩)),(5,.int .i64 (i:Int)),(6,.pointer (some ⟨g.1,0,none⟩)),(7,.pointer (some ⟨g.2,0,none⟩))]) (fun g=> [az g1 [.slice a.Af m1.frames.length a.cf,.slice a.Ab m1.blocks.length a.cb,.slice a.Ai m1.inn.length a.ci,.slice a.Ao m1.out.length a.co,.int .i64 m1.status,.int .i64 m1.trap] 29,az g2 [.slice b.Af m2.frames.length b.cf,.slice b.Ab m2.blocks.length b.cb,.slice b.Ai m2.inn.length b.ci,.slice b.Ao m2.out.length b.co,.int .i64 m2.status,.int .i64 m2.trap] 29,az g.1 [.int .i64 (aN m1.frames i).func,.int .i64 (aN m1.frames i).pc,.slice A1 (aN m1.frames i).locals.length c1,.slice A2 (aN m1.frames i).stack.length c2] 97,az g.2 [.int .i64 (aN m2.frames i).func,.int .i64 (aN m2.frames i).pc,.slice A3 (aN m2.frames i).locals.length c3,.slice A4 (aN m2.frames i).stack.length c4] 97]) ?_ ?_
  ·refine fB (.still 0 (.still 1 (.still 2 (.still 3 (.still 4 (.still 5 (.still 6 (.still 7 (.still 8 (.still 9 (.pick 10 (.pick 11 (.pick 12 (.pick 13 .done .stop) .stop) .stop) (.pick 11 (.pick 10 (.pick 12 (.pick 13 .done .stop) .stop) .stop) .stop)))))))))))) [13] rfl (by kernel_rfl) (by kernel_rfl) [az g1 [.slice a.Af m1.frames.length a.cf,.slice a.Ab m1.blocks.length a.cb,.slice a.Ai m1.inn.length a.ci,.slice a.Ao m1.out.length a.co,.int .i64 m1.status,.int .i64 m1.trap] 29,az g2 [.slice b.Af m2.frames.length b.cf,.slice b.Ab m2.blocks.length b.cb,.slice b.Ai m2.inn.length b.ci,.slice b.Ao m2.out.length b.co,.int .i64 m2.status,.int .i64 m2.trap] 29] ?_
   refine aS ha 1 [2,3,5,60] rfl<|av rfl (aj fc bG rfl rfl (by rfl)) rfl rfl ha ?_
   refine aS ha 1 [2,3,5,61,62] rfl<|av rfl (aQ (k:=i) aT a7 (.ro h1.f) (by omega) rfl rfl rfl) rfl rfl ha ?_
   refine av rfl (cL (hc1 _) rfl rfl gl a7) rfl rfl ha ?_
   refine aS ha 1 [2,3,5,64,65] rfl<|av rfl (aj fc bG rfl rfl (by rfl)) rfl rfl ha ?_
   refine aS ha 1 [2,3,5,64,66,67] rfl<|av rfl (aQ (k:=i) aT a7 (.ro h2.f) (by omega) rfl rfl rfl) rfl rfl ha ?_
   refine av rfl (cL (hc2 _) rfl rfl gl a7) rfl rfl ha ?_
   refine aB rfl (a9 cY rfl rfl) rfl rfl (.inr fun _=>ha) (fun q1 _=>?_) ?_
   ·refine aB rfl (a9 cY rfl rfl) rfl rfl (.inr fun _=>ha) (fun q2 _=>?_) ay
    refine aB rfl (aM [_,_,_,_] fc a7 rfl rfl rfl rfl rfl (by rfl) rfl (by rfl)) rfl rfl (.inr fun _=>ha) (fun _ _=>?_) ay
    refine aB rfl (aM [_,_,_,_] fc a7 rfl rfl rfl rfl rfl (by rfl) rfl (by rfl)) rfl rfl (.inl rfl) (fun _ _=>?_) ay
    refine cD<|be (q1,q2) (trivial) ⟨rfl,rfl,rfl,rfl,rfl,trivial⟩ (fun _ h=>h.msub ms)
   refine aB rfl (a9 cY rfl rfl) rfl rfl (.inr fun _=>ha) (fun q2 _=>?_) ay
   refine aB rfl (a9 cY rfl rfl) rfl rfl (.inr fun _=>ha) (fun q1 _=>?_) ay
   refine aB rfl (aM [_,_,_,_] fc a7 rfl rfl rfl rfl rfl (by rfl) rfl (by rfl)) rfl rfl (.inr fun _=>ha) (fun _ _=>?_) ay
   refine aB rfl (aM [_,_,_,_] fc a7 rfl rfl rfl rfl rfl (by rfl) rfl (by rfl)) rfl rfl (.inl rfl) (fun _ _=>?_) ay
   refine cD<|be (q1,q2) (trivial) ⟨rfl,rfl,rfl,rfl,rfl,trivial⟩ (fun _ h=>h.msub ms)
  rintro⟨q1,q2⟩ _
  dsimp only
  refine ac<|aa<|rn 1 [2,3,5,6,7,70] rfl<|af (aj fc aw rfl rfl (by rfl)) rfl rfl ?_
  refine rn 1 [2,3,5,6,7,71,72] rfl<|af (aj fc aw rfl rfl (by rfl)) rfl rfl ?_
  refine rn 2 [2,3,5,6,7,75] rfl<|bL (t:=75) rfl (fun f1=>?_) (fun f1=>?_)
  ·refine rn 22 [2,3,5,97] rfl<|ae<|br rfl<|ac<|aa<|rn 1 [4] rfl<|ae<|ap (aC (ah (ah (aC (ah ?_)))))
   refine au fO (am rfl) ?_
   intro w hw
   exact⟨bh (by rw[decide_eq_false (eR (f:=aI.frames) (qK (i:=i) (f:=aO.func) (i8 f1)))]),hw.below⟩
  have f1:=gZ f1
  refine rn 1 [2,3,5,6,7,75,76] rfl<|af (aj fc aw rfl rfl (by rfl)) rfl rfl ?_
  refine rn 1 [2,3,5,6,7,75,77,78] rfl<|af (aj fc aw rfl rfl (by rfl)) rfl rfl ?_
  refine rn 3 [2,3,5,6,7,82] rfl<|bL (t:=82) rfl (fun f2=>?_) (fun f2=>?_)
  ·refine rn 15 [2,3,5,97] rfl<|ae<|br rfl<|ac<|aa<|rn 1 [4] rfl<|ae<|ap (aC (ah (ah (aC (ah ?_)))))
   refine au fO (am rfl) ?_
   intro w hw
   exact⟨bh (by rw[decide_eq_false (eR (f:=aI.frames) (qK (i:=i) (f:=aO.pc) (i8 f2)))]),hw.below⟩
  have f2:=gZ f2
  refine rn 1 [2,3,5,6,7,82,83] rfl<|af (aj fc bZ rfl rfl (by rfl)) rfl rfl ?_
  refine rn 1 [2,3,5,6,7,82,84,85] rfl<|af (aj fc bZ rfl rfl (by rfl)) rfl rfl ?_
  refine ai (bB rfl rfl rfl Tryz.call98 (fun w hw=>lH _ _ _ _ (aN m1.frames i).locals (aN m2.frames i).locals w (hw.ro hl1) (hw.ro hl2))) rfl rfl (fun _ _=>?_)
  refine rn 3 [2,3,5,6,7,90] rfl<|bL (t:=90) rfl (fun f3=>?_) (fun f3=>?_)
  ·refine rn 7 [2,3,5,97] rfl<|ae<|br rfl<|ac<|aa<|rn 1 [4] rfl<|ae<|ap (aC (ah (ah (aC (ah ?_)))))
   refine au fO (am rfl) ?_
   intro w hw
   exact⟨bh (by rw[decide_eq_false (eR (f:=aI.frames) (qK (i:=i) (f:=aO.locals) (i8 f3)))]),hw.below⟩
  have f3:=gZ f3
  refine rn 1 [2,3,5,7,90,91] rfl<|af (aj fc bZ rfl rfl (by rfl)) rfl rfl ?_
  refine rn 1 [2,3,5,90,92,93] rfl<|af (aj fc bZ rfl rfl (by rfl)) rfl rfl ?_
  refine ai (bB rfl rfl rfl Tryz.call98 (fun w hw=>lH _ _ _ _ (aN m1.frames i).stack (aN m2.frames i).stack w (hw.ro hs1) (hw.ro hs2))) rfl rfl (fun _ _=>?_)
  refine rn 2 [2,3,5,97] rfl<|ae<|bX rfl (fun f4=>?_) (fun f4=>?_)
  ·refine ac<|aa<|rn 1 [4] rfl<|ae<|ap (aC (ah (ah (aC (ah ?_)))))
   refine au fO (am rfl) ?_
   intro w hw
   exact⟨bh (by rw[decide_eq_false (eR (f:=aI.frames) (qK (i:=i) (f:=aO.stack) f4))]),hw.below⟩
  refine aq (aH (ak ?_))
  refine aa<|rn 1 [2,3,58] rfl<|af (a6 rfl rfl rfl (by omega)) rfl rfl<|rn 1 [2,3,5] rfl<|aX (i+1) (⟨by show i+1≤_;omega,nY default hil hil2 hj (BX f1 f2 f3 f4)⟩) (by show _ - _<_ - _;omega) ⟨rfl,rfl,rfl,trivial⟩ (fun w h=>h.msub ms)
 obtain rfl:i=m1.frames.length:=by omega
 rw[List.take_length,e6,List.take_length] at hj
 refine bz (aG (aG (bO (ak ?_))))
 refine ac<|aa<|rn 1 [4] rfl<|ae<|ap<|au fO (am rfl) ?_
 intro w hw
 exact⟨bh (by rw[decide_eq_true (Ay e1 e2 e3 e4 e5 hj)]),hw.below⟩
end
section
theorem yX:Tryz.prog.eqGuardType Tryz.prog.depth 49=false:=by kernel_rfl
theorem CO:Tryz.prog.stoodInHeld 49=false:=by kernel_rfl
theorem CJ (w : World) (a b c d : Int) : (binOp .neq 49 (.agg #[.int .i64 a, .int .i64 b]) (.agg #[.int .i64 c, .int .i64 d])).run Tryz.prog w = .ok (.bool (!(a == c && b == d))) w := by
  have h := CO
  by_cases h1 : a = c <;> by_cases h2 : b = d <;> simp [go_sem, h, h1, h2]
theorem BP (x y : Operand) (u v : Array Value) (w : World) : (eqGuard .neq 49 x y (.agg u) (.agg v)).run Tryz.prog w = .ok () w := by
  have h := yX
  simp [eqGuard, go_sem, h]
theorem xv {fs:List aA} (hF:eZ fs) {kf:Nat} (hk:kf<fs.length) {pc to_:Int} (hc:eO (ax fs kf) pc to_=true) {t0:List Int} (h0:d8 fs (ax fs kf) (pc - 1)=some t0) :
  (0≤to_∧to_<fs.length)∧∃t,d8 fs (ax fs kf) pc=some t∧((ax fs to_.toNat).result≠0→1≤t.length):=by
 unfold eO at hc
 simp only[Bool.and_eq_true,decide_eq_true_eq] at hc
 obtain⟨hw,hcc,hca⟩:=hc
 have hw:=db.1 hw
 obtain⟨_,h1,_,_,v0,hv0,hn0⟩:=(hF.e _ hk).at_ _ _ h0
 have hop:=(gJ hF.p hk).1.op (pc - 1).toNat (by omega)
 generalize bn (ax fs kf).code (pc - 1).toNat=oz at hcc hca hv0 hn0 hop
 have h2:=hop.call hcc
 rw[hca] at h2
 obtain⟨t,ht,hle⟩:=hn0 pc (by simp[cQ,hcc])
 obtain⟨T0,V0,e0,_,_,_,rfl⟩:=fQ.1 hv0
 simp[tl,hcc] at e0
 obtain⟨rfl,rfl⟩:=e0
 rw[hca] at hle
 refine⟨h2,t,ht,fun hr=>?_⟩
 unfold bE at hle
 rw[if_neg hr] at hle
 have:=(nv hle).2.1
 omega
theorem BB {A:Option Addr} {m c k:Nat} {xs:List Int} {B:Nat} {w0 w:World} {H:List a4} (hk:k≤m) (h:Cw B w0 (fS (.slice A m c) xs::H) w):Cw B w0 (fS (.slice (gv A 0 c 1) k (c - 0)) (xs.take k)::H) w:=by
 refine h.upd fun F ho _=>⟨F,⟨ho.1,fun w' hw'=>?_⟩,rfl,rfl,rfl,Nat.le_refl _,fun _ _ _=>rfl,fun b hb=> .inl hb⟩
 have:=(ho.2 w' hw').cut 0 k (Nat.zero_le _) hk
 rw[Nat.sub_zero,List.drop_zero] at this
 exact this
theorem zZ {A:Option Addr} {c:Nat} {xs:List Int} {B:Nat} {w0 w:World} {H:List a4} (h:Cw B w0 (fS (.slice A xs.length c) xs::H) w):Cw B w0 (fS (.slice (gv A 0 c 1) xs.dropLast.length (c - 0)) xs.dropLast::H) w:=by
 have:=BB (k:=xs.length - 1) (by omega) h
 rw[←List.dropLast_eq_take,←List.length_dropLast] at this
 exact this
set_option maxRecDepth 100000 in
set_option maxHeartbeats 4000000 in
theorem uy (a:MA) (m:aI) (Ap:Option Addr) (cp:Nat) (fs:List aA) (i:Nat) (w:World) (hs:Sl w (.slice Ap fs.length cp) fs) (hm:dE w.heap.size w a m) (hF:eZ fs) (hfit:ie m.frames) (hi:i<m.frames.length) (hfn:∀x∈m.frames,0≤x.func∧x.func<fs.length) (E:Int) (hE:en fs m.blocks.length m.frames i=E) :
  Calls Tryz.prog 70 #[.agg #[.slice Ap fs.length cp],.agg #[.slice a.Af m.frames.length a.cf,.slice a.Ab m.blocks.length a.cb,.slice a.Ai m.inn.length a.ci,.slice a.Ao m.out.length a.co,.int .i64 m.status,.int .i64 m.trap],.int .i64 (i:Int)] w fun e w'=>e= .returned (.int .i64 E)∧Below w.heap.size w w':=by
 have bf:=bR hm.f
 have bp:=bR hs
 have bb:=bR hm.b
 obtain⟨A1,c1,A2,c2,hl,hst,hI,hcell⟩:=hm.f.fr hi
 obtain⟨hb1,hb2⟩:=hfit.2 (aN m.frames i) (dW hi)
 have hx:=hfn _ (dW hi)
 obtain⟨kf,hkf⟩:∃kf:Nat,(aN m.frames i).func=kf:=⟨(aN m.frames i).func.toNat,by omega⟩
 have hkl:kf<fs.length:=by omega
 obtain⟨hok,hn0⟩:=gJ hF.p hkl
 have hty:=uX hF.p hkl
 obtain⟨F1,d1,F2,d2,hfl,hfc,hfi,hfcell⟩:=hs.fn hkl
 have hfl6:(ax fs kf).locals.length≤6:=(hok.op 0 hn0).par kf hkl |>.2
 have hlt2:=(iW ((gS hF.p).2.2 _ (hY hkl))).2.2.2.1
 have hff:fZ fs m.frames i=ax fs kf:=by unfold fZ;rw[hkf,Int.toNat_natCast]
 have hent:∀pc t,d8 fs (ax fs kf) pc=some t→Ty t:=fun pc t h=>((hF.e kf hkl).at_ pc t h).2.2.2.1
 have hbeh:∀{pc to_:Int} (_:eO (ax fs kf) pc to_=true) {t0:List Int},d8 fs (ax fs kf) (pc - 1)=some t0→(0≤to_∧to_<fs.length)∧∃t,d8 fs (ax fs kf) pc=some t∧((ax fs to_.toNat).result≠0→1≤t.length):=fun hc _ h0=>xv hF hkl hc h0
 unfold en at hE
 obtain⟨q,hq⟩:∃q,fu fs m.frames i=q:=⟨_,rfl⟩
 rw[hff,hq] at hE
 unfold fu at hq
 rw[hff] at hq
 rw[hkf] at hcell
 have hrent:∀pc q0,d8 fs (ax fs kf) pc=q0→∀w1,Sl w1 (.slice Ap fs.length cp) fs→Calls Tryz.prog 113 #[.agg #[.slice Ap fs.length cp],.int .i64 (kf:Int),.int .i64 pc] w1 fun e w'=> ∃g:Option Addr×Nat,True∧e= .returned (.tuple #[.slice g.1 (q0.getD []).length g.2,.bool q0.isSome])∧
   Cw w1.heap.size w1 [fS (.slice g.1 (q0.getD []).length g.2) (q0.getD [])] w':=fun pc q0 h w1 h1=>uz Ap cp fs kf pc q0 h w1 h1 hkl hok hty hn0
 generalize ax fs kf=f at hE hfl hfc hfi hfcell hfl6 hlt2 hent hbeh hq hrent
 obtain⟨l,hlm⟩:∃l,m.frames=l:=⟨_,rfl⟩
 generalize hxx:aN m.frames i=x at hE hl hst hI hcell hb1 hb2 hq
 have bx1:=bR hl
 have bx2:=bR hst
 have bc:=bR hfc
 refine enter Tryz.func70 rfl Tryz.ntmps70 rfl ?_
 refine ac<|aa<|ai (bH rfl rfl rfl) rfl rfl (fun g1 _=>?_)
 refine ai (bH rfl rfl rfl) rfl rfl (fun g2 _=>?_)
 refine rn 1 [2,3,4] rfl<|ae<|ac<|aa<|rn 1 [2,3,4,18] rfl<|af (aj fc bG rfl rfl (by rfl)) rfl rfl ?_
 refine rn 1 [2,3,4,19,20] rfl<|af (aQ (k:=i) aT a7 (.ro hm.f) (by omega) rfl rfl rfl) rfl rfl<|af (cL (hcell _) rfl rfl gl a7) rfl rfl<|ai (a9 cY rfl rfl) rfl rfl (fun g3 _=>?_)
 refine ai (aM _ fc a7 rfl rfl rfl rfl rfl (by rfl) rfl (by rfl)) rfl rfl (fun _ _=>?_)
 refine ae<|ac<|aa<|rn 1 [2,3,4,7,23] rfl<|af (aj fc cF rfl rfl (by rfl)) rfl rfl ?_
 refine rn 1 [2,3,4,7,24,25] rfl<|af (aj fc aw rfl rfl (by rfl)) rfl rfl ?_
 refine af (aQ (k:=kf) bA bq (.ro hs) (by omega) rfl rfl rfl) rfl rfl<|af (cL (hfcell _) rfl rfl ei bq) rfl rfl<|ai (a9 fe rfl rfl) rfl rfl (fun g4 _=>?_)
 refine ai (aM _ fc bq rfl rfl rfl rfl rfl (by rfl) rfl (by rfl)) rfl rfl (fun _ _=>?_)
 refine ae<|ac<|ac<|aa<|rn 1 [2,3,4,7,8,29] rfl<|af (aj fc bZ rfl rfl (by rfl)) rfl rfl ?_
 refine af (aL aD rfl rfl) rfl rfl<|rn 1 [2,3,4,7,8,31,32] rfl<|af (aj fc aW rfl rfl (by rfl)) rfl rfl ?_
 refine af (aL ag rfl rfl) rfl rfl<|rn 1 [2,3,4,7,8,35] rfl<|ae<|bX rfl (fun h1=>?_) (fun h1=>?_)
 ·rw[if_pos (show x.locals.length≠f.locals.length from fun e=>h1 (by rw[e]))] at hE
  subst hE
  refine ac<|aa<|rn 1 [6] rfl<|ae<|ap (ah ?_)
  refine au ft (am rfl) ?_
  intro w hw
  exact⟨rfl,hw.below⟩
 have h1:x.locals.length=f.locals.length:=by omega
 rw[if_neg (fun h=>h h1)] at hE
 have hal:(x.locals++x.stack).length=x.locals.length+x.stack.length:=List.length_append
 refine aq (ak ?_)
 refine eo (fun _:Option Addr×Nat=>True) (fun g=> [(2,.int .i64 (i:Int)),(3,.pointer (some ⟨g1,0,none⟩)),(4,.pointer (some ⟨g2,0,none⟩)),(7,.pointer (some ⟨g3,0,none⟩)),(8,.pointer (some ⟨g4,0,none⟩)),(9,.slice g.1 (x.locals++x.stack).length g.2)]) (fun g=> [an (.slice g.1 (x.locals++x.stack).length g.2) (x.locals++x.stack),az g3 [.int .i64 (kf:Int),.int .i64 x.pc,.slice A1 x.locals.length c1,.slice A2 x.stack.length c2] 97,az g4 [.int .i64 f.params,.slice F1 f.locals.length d1,.int .i64 f.result,.slice F2 f.code.length d2] 110,az g2 [.slice a.Af m.frames.length a.cf,.slice a.Ab m.blocks.length a.cb,.slice a.Ai m.inn.length a.ci,.slice a.Ao m.out.length a.co,.int .i64 m.status,.int .i64 m.trap] 29,az g1 [.slice Ap fs.length cp] 24]) ?_ ?_
 ·refine bV (.still 1 (.still 2 (.still 4 (.still 5 (.pick 0 (.pick 3 (.pick 6 (.calm 7 .done) .stop) .stop) .stop))))) [6,7] rfl (by kernel_rfl) (by kernel_rfl) ?_
  refine aS ha 1 [2,3,4,7,8,37] rfl<|av rfl (aj fc bZ rfl rfl (by rfl)) rfl rfl ha ?_
  refine aS ha 1 [2,3,4,7,8,38,40] rfl<|av rfl (aj fc bZ rfl rfl (by rfl)) rfl rfl ha ?_
  refine aB rfl ((a8 (cs:= []) aD aP bK rfl rfl rfl rfl rfl).mem (H'':=fun g=>an (.slice (some ⟨g,0,none⟩) 0 0) ([]:List aR)::_) fun g w h=>bW (α:=aR) (m:=0) [] rfl (by simp) rfl (by decide) h) rfl rfl (.inr fun _=>ha) (fun ge _=>?_) ay
  refine aB rfl (cT (α:=aR) (bytes:=16) (xs:= []) (ys:=x.locals) (List.nil_append x.locals).symm aD (bN dy) rfl fc (.ro hl) (by simp only[List.length_nil];omega) (by simp only[List.length_nil];omega) rfl rfl rfl) rfl rfl (.inr fun _=>ha) (fun⟨A5,c5⟩ _=>?_) ay
  try dsimp only
  refine aB rfl (cT (α:=aR) (bytes:=16) (xs:=x.locals) (ys:=x.stack) rfl aD (bN dy) rfl fc (.ro hst) (by omega) (by omega) rfl rfl rfl) rfl rfl (.inl rfl) (fun⟨A6,c6⟩ _=>?_) ay
  try dsimp only
  refine dY 1 [2,3,4,7,8,9] rfl<|cD<|be (A6,c6) (trivial) ⟨rfl,rfl,rfl,rfl,rfl,rfl,trivial⟩ (fun _ h=>h.msub ms)
 rintro⟨A6,c6⟩ _
 try dsimp only
 refine ac<|ac<|aa<|rn 1 [2,3,4,7,8,9,10] rfl<|ae<|aE (bD (fun k:Nat=>k≤(x.locals++x.stack).length∧∀j,j<k→dG m.blocks.length ((x.locals++x.stack).getD j default)=true) (fun k=>(x.locals++x.stack).length - k) (fun k=> [(2,.int .i64 (i:Int)),(3,.pointer (some ⟨g1,0,none⟩)),(4,.pointer (some ⟨g2,0,none⟩)),(7,.pointer (some ⟨g3,0,none⟩)),(8,.pointer (some ⟨g4,0,none⟩)),(9,.slice A6 (x.locals++x.stack).length c6),(10,.int .i64 (k:Int))]) (fun _=> [an (.slice A6 (x.locals++x.stack).length c6) (x.locals++x.stack),az g3 [.int .i64 (kf:Int),.int .i64 x.pc,.slice A1 x.locals.length c1,.slice A2 x.stack.length c2] 97,az g4 [.int .i64 f.params,.slice F1 f.locals.length d1,.int .i64 f.result,.slice F2 f.code.length d2] 110,az g2 [.slice a.Af m.frames.length a.cf,.slice a.Ab m.blocks.length a.cb,.slice a.Ai m.inn.length a.ci,.slice a.Ao m.out.length a.co,.int .i64 m.status,.int .i64 m.trap] 29,az g1 [.slice Ap fs.length cp] 24]) 0 (⟨Nat.zero_le _,fun _ h=>absurd h (Nat.not_lt_zero _)⟩) ⟨rfl,rfl,rfl,rfl,rfl,rfl,rfl,trivial⟩ me ?_)
 rintro k hk'
 obtain⟨hk,hno⟩:k≤(x.locals++x.stack).length∧∀j,j<k→dG m.blocks.length ((x.locals++x.stack).getD j default)=true:=hk'
 refine ac<|ac<|aa<|rn 2 [2,3,4,7,8,9,10,43,44] rfl<|af (aL aD rfl rfl) rfl rfl<|rn 1 [2,3,4,7,8,9,10,46] rfl<|ae<|ar rfl (fun hlt=>?_) (fun hlt=>?_)
 ·have hkl2:k<(x.locals++x.stack).length:=by omega
  obtain⟨vb,hvb⟩:∃b,dG m.blocks.length ((x.locals++x.stack).getD k default)=b:=⟨_,rfl⟩
  have hbad:vb=false→E=3:=fun e=>by rw[e] at hvb;rw[if_pos (uk hkl2 hvb)] at hE;exact hE.symm
  have hgood:vb=true→∀j,j<k+1→dG m.blocks.length ((x.locals++x.stack).getD j default)=true:=fun e j hj=>(Nat.lt_or_ge j k).elim (hno j) (fun h=>by obtain rfl:j=k:=(by omega);rw[hvb,e])
  refine aq (ak ?_)
  refine ac<|aE<|ac<|bV (.still 0 (.still 1 (.still 2 (.still 3 (.still 4 (.still 5 (.still 6 (.still 7 (.still 8 (.still 9 (.still 10 (.still 11 (.still 12 (.still 13 (.pick 14 (.still 15 (.still 16 (.still 17 (.still 18 (.still 19 (.still 20 (.still 21 (.still 22 (.still 23 (.still 24 (.still 25 (.still 26 (.still 27 (.still 28 (.still 29 (.pick 30 (.still 31 (.still 32 (.still 33 .done))) .stop)))))))))))))))) .stop))))))))))))))) [] rfl (by kernel_rfl) (by kernel_rfl) ?_
  refine aS ha 2 [2,3,4,7,8,9,10,49,50] rfl<|av rfl (aQ (k:=k) aD aP (SF.own rfl fc) (by omega) rfl rfl rfl) rfl rfl ha ?_
  refine aS ha 1 [2,3,4,7,8,9,10,52] rfl<|av rfl (aZ (fun w hw=>(SF.val (SF.own rfl fc) hkl2 default) w hw 0 _ rfl) rfl rfl eh) rfl rfl ha ?_
  refine aS ha 1 [2,3,4,7,8,9,10,54] rfl ?_
  rcases Bool.eq_false_or_eq_true ((x.locals++x.stack).getD k default).ref with hr | hr
  ·have hvb2:bx ((x.locals++x.stack).getD k default).n 0 m.blocks.length=vb:=by rw[←hvb];unfold dG;rw[if_pos hr]
   rw[hr]
   refine eH (t:=54) (v':= .bool true) rfl (rfl) ?_
   refine aS ha 2 [2,3,4,7,8,9,10,54,55,56] rfl<|av rfl (aQ (k:=k) aD aP (SF.own rfl fc) (by omega) rfl rfl rfl) rfl rfl ha ?_
   refine aS ha 1 [2,3,4,7,8,9,10,54,58] rfl<|av rfl (aZ (fun w hw=>(SF.val (SF.own rfl fc) hkl2 default) w hw 1 _ rfl) rfl rfl aw) rfl rfl ha ?_
   refine aS ha 1 [2,3,4,7,8,9,10,54,59,60] rfl<|av rfl (aj fc dp rfl rfl (by rfl)) rfl rfl ha ?_
   refine av rfl (aL bj rfl rfl) rfl rfl ha ?_
   refine aB rfl (bB rfl rfl rfl gY ((fun w hw=>eM ((fun w hw=>et _ _ _ w) w hw)))) rfl rfl (.inr fun _=>ha) (fun _ _=>?_) ay
   refine aS ha 3 [2,3,4,7,8,9,10,66] rfl ?_
   rw[hvb2]
   cases vb
   ·refine eH (t:=66) (v':= .bool true) rfl (rfl) ?_
    refine aS ha 12 [2,3,4,7,8,9,10,66,73,78] rfl<|jB rfl rfl rfl (.inr ha) ?_ ay
    refine aS ha 3 [2,3,4,7,8,9,10,82] rfl<|cu<|br rfl<|ac<|aa<|rn 1 [6] rfl<|ae<|ap (aC (ah (ah (aC (ah ?_)))))
    refine au ft (am rfl) ?_
    intro w hw
    exact⟨by rw[hbad rfl],hw.below⟩
   refine eH (t:=66) (v':= .bool false) rfl (rfl) ?_
   refine aS ha 2 [2,3,4,7,8,9,10,66,67,68] rfl<|av rfl (aQ (k:=k) aD aP (SF.own rfl fc) (by omega) rfl rfl rfl) rfl rfl ha ?_
   refine aS ha 1 [2,3,4,7,8,9,10,66,70] rfl<|av rfl (aZ (fun w hw=>(SF.val (SF.own rfl fc) hkl2 default) w hw 0 _ rfl) rfl rfl eh) rfl rfl ha ?_
   refine aS ha 2 [2,3,4,7,8,9,10,66,73] rfl ?_
   rw[hr]
   refine eH (t:=73) (v':= .bool false) rfl (rfl) ?_
   refine aS ha 5 [2,3,4,7,8,9,10,66,73,78] rfl<|jB rfl rfl rfl (.inr ha) ?_ ay
   refine aS ha 3 [2,3,4,7,8,9,10,82] rfl<|cu<|cK rfl<|aq (aH (ak ?_))
   refine aa<|rn 1 [2,3,4,7,8,9,47] rfl<|af (a6 rfl rfl rfl (by omega)) rfl rfl<|rn 1 [2,3,4,7,8,9,10] rfl<|aX (k+1) (⟨by show k+1≤_;omega,hgood rfl⟩) (by show _ - _<_ - _;omega) ⟨rfl,rfl,rfl,rfl,rfl,rfl,rfl,trivial⟩ me
  have hvb2:cW ((x.locals++x.stack).getD k default).n=vb:=by rw[←hvb];unfold dG;rw[if_neg (by rw[hr];decide)]
  rw[hr]
  refine eH (t:=54) (v':= .bool false) rfl (rfl) ?_
  refine aS ha 8 [2,3,4,7,8,9,10,54,59,62] rfl<|jB rfl rfl rfl (.inr ha) ?_ ay
  refine aS ha 5 [2,3,4,7,8,9,10,66,67,68] rfl<|av rfl (aQ (k:=k) aD aP (SF.own rfl fc) (by omega) rfl rfl rfl) rfl rfl ha ?_
  refine aS ha 1 [2,3,4,7,8,9,10,66,70] rfl<|av rfl (aZ (fun w hw=>(SF.val (SF.own rfl fc) hkl2 default) w hw 0 _ rfl) rfl rfl eh) rfl rfl ha ?_
  refine aS ha 2 [2,3,4,7,8,9,10,66,73] rfl ?_
  rw[hr]
  refine eH (t:=73) (v':= .bool true) rfl (rfl) ?_
  refine aS ha 2 [2,3,4,7,8,9,10,66,73,74,75] rfl<|av rfl (aQ (k:=k) aD aP (SF.own rfl fc) (by omega) rfl rfl rfl) rfl rfl ha ?_
  refine aS ha 1 [2,3,4,7,8,9,10,66,73,77] rfl<|av rfl (aZ (fun w hw=>(SF.val (SF.own rfl fc) hkl2 default) w hw 1 _ rfl) rfl rfl aw) rfl rfl ha ?_
  refine aB rfl (bB rfl rfl rfl Tryz.call44 ((fun w hw=>eM ((fun w hw=>ji _ w) w hw)))) rfl rfl (.inr fun _=>ha) (fun _ _=>?_) ay
  refine aS ha 3 [2,3,4,7,8,9,10,82] rfl<|cu ?_
  rw[hvb2]
  cases vb
  ·refine cS (t:=82) (v':= .bool true) rfl (rfl) ?_
   refine br rfl<|ac<|aa<|rn 1 [6] rfl<|ae<|ap (aC (ah (ah (aC (ah ?_)))))
   refine au ft (am rfl) ?_
   intro w hw
   exact⟨by rw[hbad rfl],hw.below⟩
  refine cS (t:=82) (v':= .bool false) rfl (rfl) ?_
  refine cK rfl<|aq (aH (ak ?_))
  refine aa<|rn 1 [2,3,4,7,8,9,47] rfl<|af (a6 rfl rfl rfl (by omega)) rfl rfl<|rn 1 [2,3,4,7,8,9,10] rfl<|aX (k+1) (⟨by show k+1≤_;omega,hgood rfl⟩) (by show _ - _<_ - _;omega) ⟨rfl,rfl,rfl,rfl,rfl,rfl,rfl,trivial⟩ me
 obtain rfl:k=(x.locals++x.stack).length:=by omega
 rw[if_neg (sr hno)] at hE
 refine bz (aG (aG (bO (ak ?_))))
 refine ac<|ac<|aa<|rn 1 [2,3,4,7,8,11] rfl<|ae<|aE (bD (fun k:Nat=>k≤x.locals.length∧∀j,j<k→ef (x.locals.getD j default) (f.locals.getD j 0)=true) (fun k=>x.locals.length - k) (fun k=> [(2,.int .i64 (i:Int)),(3,.pointer (some ⟨g1,0,none⟩)),(4,.pointer (some ⟨g2,0,none⟩)),(7,.pointer (some ⟨g3,0,none⟩)),(8,.pointer (some ⟨g4,0,none⟩)),(11,.int .i64 (k:Int))]) (fun _=> [az g3 [.int .i64 (kf:Int),.int .i64 x.pc,.slice A1 x.locals.length c1,.slice A2 x.stack.length c2] 97,az g4 [.int .i64 f.params,.slice F1 f.locals.length d1,.int .i64 f.result,.slice F2 f.code.length d2] 110,az g2 [.slice a.Af m.frames.length a.cf,.slice a.Ab m.blocks.length a.cb,.slice a.Ai m.inn.length a.ci,.slice a.Ao m.out.length a.co,.int .i64 m.status,.int .i64 m.trap] 29,az g1 [.slice Ap fs.length cp] 24]) 0 (⟨Nat.zero_le _,fun _ h=>absurd h (Nat.not_lt_zero _)⟩) ⟨rfl,rfl,rfl,rfl,rfl,rfl,trivial⟩ me ?_)
 rintro k hk'
 obtain⟨hk,hno2⟩:k≤x.locals.length∧∀j,j<k→ef (x.locals.getD j default) (f.locals.getD j 0)=true:=hk'
 refine ac<|ac<|aa<|rn 2 [2,3,4,7,8,11,83,84] rfl<|af (aj fc bZ rfl rfl (by rfl)) rfl rfl ?_
 refine af (aL aD rfl rfl) rfl rfl<|rn 1 [2,3,4,7,8,11,87] rfl<|ae<|ar rfl (fun hlt=>?_) (fun hlt=>?_)
 ·have hkl2:k<x.locals.length:=by omega
  have ht2:=hlt2 (f.locals.getD k 0) (eX (d:=0) (by omega))
  refine aq (ak ?_)
  refine ac<|aE<|ac<|bV (.still 0 (.still 1 (.still 2 (.still 3 (.still 4 (.still 5 (.still 6 (.still 7 (.still 8 (.still 9 (.pick 10 (.still 11 .done) .stop))))))))))) [] rfl (by kernel_rfl) (by kernel_rfl) ?_
  refine aS ha 1 [2,3,4,7,8,11,90] rfl<|av rfl (aj fc bZ rfl rfl (by rfl)) rfl rfl ha ?_
  refine aS ha 1 [2,3,4,7,8,11,91,92] rfl<|av rfl (aQ (k:=k) aD aP (.ro hl) (by omega) rfl rfl rfl) rfl rfl ha ?_
  refine av rfl (cL (SF.val (SF.ro hl) hkl2 default) rfl rfl dA aP) rfl rfl ha ?_
  refine aS ha 1 [2,3,4,7,8,11,94,95] rfl<|av rfl (aj fc aW rfl rfl (by rfl)) rfl rfl ha ?_
  refine aS ha 1 [2,3,4,7,8,11,94,96,97] rfl<|av rfl (aQ (k:=k) ag aF (.ro hfl) (by omega) rfl rfl rfl) rfl rfl ha ?_
  refine av rfl (aZ (SF.int (.ro hfl) (by omega)) rfl rfl aw) rfl rfl ha ?_
  refine aB rfl (bB rfl rfl rfl Tryz.call112 (fun w hw=>pZ (x.locals.getD k default) (f.locals.getD k 0) (by omega) w)) rfl rfl (.inr fun _=>ha) (fun _ _=>?_) ay
  refine aS ha 1 [2,3,4,7,8,11,101] rfl<|cu<|b9 rfl (fun hb=>?_) (fun hb=>?_)
  ·have hb:ef (x.locals.getD k default) (f.locals.getD k 0)=false:=by simpa using hb
   rw[if_pos (nC hkl2 hb)] at hE
   subst hE
   refine ac<|aa<|rn 1 [6] rfl<|ae<|ap (aC (ah (ah (aC (ah ?_)))))
   refine au ft (am rfl) ?_
   intro w hw
   exact⟨rfl,hw.below⟩
  have hb:ef (x.locals.getD k default) (f.locals.getD k 0)=true:=by simpa using hb
  refine aq (aH (ak ?_))
  refine aa<|rn 1 [2,3,4,7,8,88] rfl<|af (a6 rfl rfl rfl (by omega)) rfl rfl<|rn 1 [2,3,4,7,8,11] rfl<|aX (k+1) (⟨by show k+1≤_;omega,fun j hj=>(Nat.lt_or_ge j k).elim (hno2 j) (fun h=>by obtain rfl:j=k:=(by omega);exact hb)⟩) (by show _ - _<_ - _;omega) ⟨rfl,rfl,rfl,rfl,rfl,rfl,trivial⟩ me
 obtain rfl:k=x.locals.length:=by omega
 rw[if_neg (by rw[iz.2 hno2];decide)] at hE
 obtain⟨q0,hq0⟩:∃q0,d8 fs f x.pc=q0:=⟨_,rfl⟩
 rw[hq0] at hq
 refine bz (aG (aG (bO (ak ?_))))
 refine ac<|aa<|af (aY (vs:= [_]) fc cA cg rfl rfl (by rfl) rfl) rfl rfl ?_
 refine rn 1 [2,3,4,7,8,103,104] rfl<|af (aj fc aw rfl rfl (by rfl)) rfl rfl ?_
 refine rn 1 [2,3,4,7,8,103,105,106] rfl<|af (aj fc aw rfl rfl (by rfl)) rfl rfl ?_
 refine ai (dg rfl rfl rfl Tryz.call113 (fun w hw=>hrent x.pc q0 hq0 w (hw.ro hs))) rfl rfl (fun⟨A7,c7⟩ _=>?_)
 try dsimp only
 refine rn 5 [2,3,4,7,8,12,13] rfl<|ae<|ac<|ac<|aa<|rn 2 [2,3,4,7,8,12,13,111,112] rfl<|af (aj fc bG rfl rfl (by rfl)) rfl rfl ?_
 refine af (aL aT rfl rfl) rfl rfl<|af (cn rfl rfl rfl (by omega)) rfl rfl<|rn 1 [2,3,4,7,8,12,13,116] rfl<|ae<|gR (fun g:List Int×(Option Addr×Nat)=>q=some g.1∧Ty g.1) (fun g=> [(7,.pointer (some ⟨g3,0,none⟩)),(12,.slice g.2.1 g.1.length g.2.2)]) (fun g=> [fS (.slice g.2.1 g.1.length g.2.2) g.1,az g3 [.int .i64 (kf:Int),.int .i64 x.pc,.slice A1 x.locals.length c1,.slice A2 x.stack.length c2] 97,az g4 [.int .i64 f.params,.slice F1 f.locals.length d1,.int .i64 f.result,.slice F2 f.code.length d2] 110,az g2 [.slice a.Af m.frames.length a.cf,.slice a.Ab m.blocks.length a.cb,.slice a.Ai m.inn.length a.ci,.slice a.Ao m.out.length a.co,.int .i64 m.status,.int .i64 m.trap] 29,az g1 [.slice Ap fs.length cp] 24]) ?_ ?_
 ·refine ar rfl (fun hi2=>?_) (fun hi2=>?_)
  ·have hi1:i+1<m.frames.length:=by omega
   obtain⟨A3,c3,A4,c4,_,_,hI2,hcell2⟩:=hm.f.fr (k:=i+1) hi1
   obtain⟨to_,hto⟩:∃t,(aN m.frames (i+1)).func=t:=⟨_,rfl⟩
   have hy:=hfn _ (dW hi1)
   rw[hto] at hy hcell2 hq
   rw[if_neg (by omega)] at hq
   obtain⟨cb,hcb⟩:∃b,eO f x.pc to_=b:=⟨_,rfl⟩
   have hbad:cb=false→E=5:=fun e=>by
    rw[hcb,e,if_pos rfl] at hq
    rw[←hq] at hE
    exact hE.symm
   refine ac<|aa<|rn 1 [2,3,7,8,12,117] rfl<|af (aj fc bG rfl rfl (by rfl)) rfl rfl ?_
   refine rn 1 [3,7,8,12,118,119] rfl<|af (a6 rfl rfl rfl (by omega)) rfl rfl<|bU (t:=120) (v':= .int .i64 ((i+1:Nat):Int)) rfl (congrArg (Value.int .i64) (by omega)) ?_
   refine af (aQ (k:=i+1) aT a7 (.ro hm.f) (by omega) rfl rfl rfl) rfl rfl<|rn 1 [3,7,8,12,122] rfl<|af (aZ (fun w hw=>hcell2 _ w hw 0 _ rfl) rfl rfl aw) rfl rfl ?_
   refine rn 1 [3,7,8,12,14] rfl<|ae<|ac<|ac<|aa<|rn 1 [3,7,8,12,14,124] rfl<|af (aj fc aw rfl rfl (by rfl)) rfl rfl ?_
   refine rn 2 [3,7,8,12,14,127] rfl ?_
   by_cases p1:x.pc<1
   ·have hc0:cb=false:=by rw[←hcb];unfold eO;rw[show bx x.pc 1 f.code.length=false from by rw[Bool.eq_false_iff];exact fun h=>by have:=db.1 h;omega];rfl
    refine bU (t:=127) (v':= .bool true) rfl (congrArg Value.bool (decide_eq_true p1)) ?_
    refine rn 19 [3,7,12,14,146] rfl<|ae<|br rfl<|ac<|aa<|rn 1 [6] rfl<|ae<|ap (ah (ah ?_))
    refine au ft (am rfl) ?_
    intro w hw
    exact⟨by rw[hbad hc0],hw.below⟩
   refine bU (t:=127) (v':= .bool false) rfl (congrArg Value.bool (decide_eq_false p1)) ?_
   refine rn 1 [3,7,8,12,14,127,128] rfl<|af (aj fc aw rfl rfl (by rfl)) rfl rfl ?_
   refine rn 1 [3,7,8,12,14,127,129,130] rfl<|af (aj fc dk rfl rfl (by rfl)) rfl rfl ?_
   refine af (aL bt rfl rfl) rfl rfl<|rn 3 [3,7,8,12,14,135] rfl ?_
   by_cases p2:(f.code.length:Int)<x.pc
   ·have hc0:cb=false:=by rw[←hcb];unfold eO;rw[show bx x.pc 1 f.code.length=false from by rw[Bool.eq_false_iff];exact fun h=>by have:=db.1 h;omega];rfl
    refine bU (t:=135) (v':= .bool true) rfl (congrArg Value.bool (decide_eq_true p2)) ?_
    refine rn 11 [3,7,12,14,146] rfl<|ae<|br rfl<|ac<|aa<|rn 1 [6] rfl<|ae<|ap (ah (ah ?_))
    refine au ft (am rfl) ?_
    intro w hw
    exact⟨by rw[hbad hc0],hw.below⟩
   obtain⟨kp,hkp⟩:∃kp:Nat,x.pc - 1=kp:=⟨(x.pc - 1).toNat,by omega⟩
   have hcb2:((bn f.code kp).c == 12 && (bn f.code kp).a == to_)=cb:=by
    rw[←hcb]
    unfold eO
    rw[db.2 (by omega),hkp,Int.toNat_natCast,Bool.true_and]
    rfl
   refine bU (t:=135) (v':= .bool false) rfl (congrArg Value.bool (decide_eq_false p2)) ?_
   refine rn 1 [3,7,12,14,135,136] rfl<|af (aj fc dk rfl rfl (by rfl)) rfl rfl ?_
   refine rn 1 [3,7,12,14,135,137,138] rfl<|af (aj fc aw rfl rfl (by rfl)) rfl rfl ?_
   refine af (cn rfl rfl rfl (by omega)) rfl rfl<|bU (t:=140) (v':= .int .i64 (kp:Int)) rfl (congrArg (Value.int .i64) hkp) ?_
   refine af (aQ (k:=kp) bt cE (.ro hfc) (by omega) rfl rfl rfl) rfl rfl<|af (cL (cs:= [_,_]) (SF.op (.ro hfc) (by omega)) rfl rfl gT cE) rfl rfl<|rn 1 [3,7,12,14,135,142,143] rfl<|af (cU (cs:= [_,_]) iO dv rfl rfl (by rfl)) rfl rfl ?_
   refine af (kM rfl rfl rfl (fun w=>CJ w _ _ _ _) (fun w=>BP _ _ _ _ w)) rfl rfl ?_
   refine rn 1 [3,7,12,14,146] rfl<|ae ?_
   rw[hcb2]
   cases cb
   ·refine cS (t:=146) (v':= .bool true) rfl (rfl) ?_
    refine br rfl<|ac<|aa<|rn 1 [6] rfl<|ae<|ap (ah (ah ?_))
    refine au ft (am rfl) ?_
    intro w hw
    exact⟨by rw[hbad rfl],hw.below⟩
   refine cS (t:=146) (v':= .bool false) rfl (rfl) ?_
   refine cK rfl<|aq (ak ?_)
   refine ac<|aa<|af (aY (vs:= [_]) fc cA cg rfl rfl (by rfl) rfl) rfl rfl ?_
   refine rn 1 [3,7,12,14,148,149] rfl<|af (aj fc aw rfl rfl (by rfl)) rfl rfl ?_
   refine rn 1 [3,7,12,14,148,150,151] rfl<|af (aj fc aw rfl rfl (by rfl)) rfl rfl ?_
   refine af (cn rfl rfl rfl (by omega)) rfl rfl ?_
   rw[hcb,if_neg (by decide)] at hq
   obtain⟨q1,hq1⟩:∃q1,d8 fs f (x.pc - 1)=q1:=⟨_,rfl⟩
   rw[hq1] at hq
   refine ai (dg rfl rfl rfl Tryz.call113 (fun w hw=>hrent (x.pc - 1) q1 hq1 w (hw.ro hs))) rfl rfl (fun⟨A9,c9⟩ _=>?_)
   try dsimp only
   refine rn 5 [3,7,12,14,16] rfl<|ae<|ac<|ac<|aa<|rn 2 [3,7,12,14,158] rfl<|ae ?_
   cases q1 with
   | none=>
    rw[if_pos (show (none:Option (List Int)).isSome=false from rfl)] at hq
    rw[←hq] at hE
    refine cS (t:=158) (v':= .bool true) rfl (rfl) ?_
    refine br rfl<|ac<|aa<|rn 1 [6] rfl<|ae<|ap (ah (ah ?_))
    refine au ft (am rfl) ?_
    intro w hw
    exact⟨by rw[←hE],hw.below⟩
   | some t0=>
    rw[if_neg (by simp)] at hq
    obtain⟨_,t,ht,htl⟩:=hbeh hcb hq1
    rw[hq0] at ht
    subst ht
    obtain⟨kt,hkt⟩:∃kt:Nat,to_=kt:=⟨to_.toNat,by omega⟩
    have hktl:kt<fs.length:=by omega
    obtain⟨G1,e1,G2,e2,_,_,hGi,hgcell⟩:=hs.fn hktl
    have hres:=(hty.res kt hktl).1
    have hTy:=hent _ _ hq0
    have hq:some (if (ax fs kt).result≠0 then t.dropLast else t)=q:=by
     rw[←hq]
     unfold fZ
     rw[hto,hkt,Int.toNat_natCast]
     rfl
    rw[hkt,Int.toNat_natCast] at htl
    refine cS (t:=158) (v':= .bool false) rfl (rfl) ?_
    refine cK rfl<|aq (ak ?_)
    refine ac<|aa<|rn 1 [7,12,14,159] rfl<|af (aj fc cF rfl rfl (by rfl)) rfl rfl ?_
    refine rn 1 [7,12,160,161] rfl<|bU (t:=161) (v':= .int .i64 (kt:Int)) rfl (congrArg (Value.int .i64) hkt) ?_
    refine af (aQ (k:=kt) bA bq (.ro hs) (by omega) rfl rfl rfl) rfl rfl<|rn 1 [7,12,163] rfl<|af (aZ (fun w hw=>hgcell _ w hw 2 _ rfl) rfl rfl aw) rfl rfl ?_
    refine rn 1 [7,12,165] rfl<|ae<|ar rfl (fun hr=>?_) (fun hr=>?_)
    ·have hr:0<(ax fs kt).result:=hr
     rw[if_pos (by omega)] at hq
     have htl:=htl (by omega)
     have hgl:((some t).getD []).length=t.length:=rfl
     refine fa (p:=t.length≤140737488355328∧t.length≤c7) (fun w hw=>⟨bR (SF.at_ (SF.rd (xs:=t) (m:=t.length) (A:=A7) (c:=c7) rfl fc) hw),(SF.at_ (SF.rd (xs:=t) (m:=t.length) (A:=A7) (c:=c7) rfl fc) hw).cap⟩) fun⟨tb,tc⟩=>?_
     refine aa<|rn 2 [7,166,167] rfl<|af (aL ag rfl rfl) rfl rfl<|af (cn rfl rfl rfl (by omega)) rfl rfl<|bU (t:=169) (v':= .int .i64 ((t.length - 1:Nat):Int)) rfl (congrArg (Value.int .i64) (by omega)) ?_
     refine af (wo (lo:=0) (hi:=t.length - 1) (k:=t.dropLast.length) ag aF ⟨by omega,by omega⟩ (by rw[List.length_dropLast];rfl) rfl rfl rfl rfl) rfl rfl ?_
     refine rn 1 [7,12] rfl<|iq (t.dropLast,(gv A7 0 c7 1,c7 - 0)) (⟨hq.symm,fun y hy=>hTy y (List.dropLast_subset t hy)⟩) ⟨rfl,rfl,trivial⟩ (fun w h=>(zZ (h.msub (T:= [fS (.slice A7 t.length c7) t,az g3 [.int .i64 (kf:Int),.int .i64 x.pc,.slice A1 x.locals.length c1,.slice A2 x.stack.length c2] 97,az g4 [.int .i64 f.params,.slice F1 f.locals.length d1,.int .i64 f.result,.slice F2 f.code.length d2] 110,az g2 [.slice a.Af m.frames.length a.cf,.slice a.Ab m.blocks.length a.cb,.slice a.Ai m.inn.length a.ci,.slice a.Ao m.out.length a.co,.int .i64 m.status,.int .i64 m.trap] 29,az g1 [.slice Ap fs.length cp] 24]) ms)).msub ms)
    rw[if_neg (by omega)] at hq
    refine aq<|be (t,(A7,c7)) (⟨hq.symm,hTy⟩) ⟨rfl,rfl,trivial⟩ (fun w h=>h.msub ms)
  rw[if_pos (by omega)] at hq
  subst hq
  refine ac<|aa<|rn 2 [7,12,172] rfl<|ae ?_
  cases q0 with
  | none=>
   refine cS (t:=172) (v':= .bool true) rfl (rfl) ?_
   refine br rfl<|ac<|aa<|rn 1 [6] rfl<|ae<|ap (ah ?_)
   refine au ft (am rfl) ?_
   intro w hw
   exact⟨by rw[←hE],hw.below⟩
  | some t=>
   refine cS (t:=172) (v':= .bool false) rfl (rfl) ?_
   refine cK rfl<|aq<|be (t,(A7,c7)) (⟨rfl,hent _ _ hq0⟩) ⟨rfl,rfl,trivial⟩ (fun w h=>h.msub ms)
 rintro⟨t,⟨A8,c8⟩⟩ hqt
 obtain⟨hqt,hTy⟩:q=some t∧Ty t:=hqt
 subst hqt
 dsimp only at hE
 try dsimp only
 refine ac<|ac<|aa<|rn 1 [7,12,173] rfl<|af (aL ag rfl rfl) rfl rfl<|rn 1 [7,12,174,175] rfl<|af (aj fc bZ rfl rfl (by rfl)) rfl rfl ?_
 refine af (aL aD rfl rfl) rfl rfl<|rn 1 [7,12,178] rfl<|ae<|bX rfl (fun h2=>?_) (fun h2=>?_)
 ·rw[if_pos (show t.length≠x.stack.length from fun e=>h2 (by rw[e]))] at hE
  subst hE
  refine ac<|aa<|rn 1 [6] rfl<|ae<|ap (ah ?_)
  refine au ft (am rfl) ?_
  intro w hw
  exact⟨rfl,hw.below⟩
 have h2:t.length=x.stack.length:=by omega
 rw[if_neg (fun h=>h h2)] at hE
 refine aq (ak ?_)
 refine ac<|ac<|aa<|rn 1 [7,12,17] rfl<|ae<|aE (bD (fun k:Nat=>k≤t.length∧∀j,j<k→ef (x.stack.getD j default) (t.getD j 0)=true) (fun k=>t.length - k) (fun k=> [(7,.pointer (some ⟨g3,0,none⟩)),(12,.slice A8 t.length c8),(17,.int .i64 (k:Int))]) (fun _=> [fS (.slice A8 t.length c8) t,az g3 [.int .i64 (kf:Int),.int .i64 x.pc,.slice A1 x.locals.length c1,.slice A2 x.stack.length c2] 97]) 0 (⟨Nat.zero_le _,fun _ h=>absurd h (Nat.not_lt_zero _)⟩) ⟨rfl,rfl,rfl,trivial⟩ me ?_)
 rintro k hk'
 obtain⟨hk,hno3⟩:k≤t.length∧∀j,j<k→ef (x.stack.getD j default) (t.getD j 0)=true:=hk'
 refine ac<|ac<|aa<|rn 2 [7,12,17,179,180] rfl<|af (aL ag rfl rfl) rfl rfl<|rn 1 [7,12,17,182] rfl<|ae<|ar rfl (fun hlt=>?_) (fun hlt=>?_)
 ·have hkl2:k<t.length:=by omega
  have hkl3:k<x.stack.length:=by omega
  refine aq (ak ?_)
  refine ac<|aE<|ac<|bV (.still 0 (.still 1 (.still 2 (.still 3 (.still 4 (.still 5 (.still 6 (.still 7 (.still 8 (.pick 9 (.still 10 .done) .stop)))))))))) [] rfl (by kernel_rfl) (by kernel_rfl) ?_
  refine aS ha 1 [7,12,17,185] rfl<|av rfl (aj fc bZ rfl rfl (by rfl)) rfl rfl ha ?_
  refine aS ha 1 [7,12,17,186,187] rfl<|av rfl (aQ (k:=k) aD aP (.ro hst) (by omega) rfl rfl rfl) rfl rfl ha ?_
  refine av rfl (cL (SF.val (SF.ro hst) hkl3 default) rfl rfl dA aP) rfl rfl ha ?_
  refine aS ha 2 [7,12,17,189,190,191] rfl<|av rfl (aQ (k:=k) ag aF (SF.rd (xs:=t) rfl fc) (by omega) rfl rfl rfl) rfl rfl ha ?_
  refine av rfl (aZ (SF.int (SF.rd (xs:=t) rfl fc) (by omega)) rfl rfl aw) rfl rfl ha ?_
  refine aB rfl (bB rfl rfl rfl Tryz.call112 (fun w hw=>pZ (x.stack.getD k default) (t.getD k 0) (hTy _ (eX (d:=0) hkl2)) w)) rfl rfl (.inr fun _=>ha) (fun _ _=>?_) ay
  refine aS ha 1 [7,12,17,195] rfl<|cu<|b9 rfl (fun hb=>?_) (fun hb=>?_)
  ·have hb:ef (x.stack.getD k default) (t.getD k 0)=false:=by simpa using hb
   rw[if_pos (nC hkl2 hb)] at hE
   subst hE
   refine ac<|aa<|rn 1 [6] rfl<|ae<|ap (aC (ah (ah (aC (ah ?_)))))
   refine au ft (am rfl) ?_
   intro w hw
   exact⟨rfl,hw.below⟩
  have hb:ef (x.stack.getD k default) (t.getD k 0)=true:=by simpa using hb
  refine aq (aH (ak ?_))
  refine aa<|rn 1 [7,12,183] rfl<|af (a6 rfl rfl rfl (by omega)) rfl rfl<|rn 1 [7,12,17] rfl<|aX (k+1) (⟨by show k+1≤_;omega,fun j hj=>(Nat.lt_or_ge j k).elim (hno3 j) (fun h=>by obtain rfl:j=k:=(by omega);exact hb)⟩) (by show _ - _<_ - _;omega) ⟨rfl,rfl,rfl,trivial⟩ me
 obtain rfl:k=t.length:=by omega
 rw[if_neg (by rw[iz.2 hno3];decide)] at hE
 subst hE
 refine bz (aG (aG (bO (ak ?_))))
 refine ac<|aa<|rn 1 [6] rfl<|ae<|ap<|au ft (am rfl) ?_
 intro w hw
 exact⟨rfl,hw.below⟩
end
section
def D5:aI:=⟨[⟨0,0,[],[]⟩],[],[],[],0,0⟩
def D4:aI:=⟨[⟨0,1,[],[⟨false,3⟩]⟩],[],[],[],0,0⟩
def D3:aI:=⟨[⟨0,0,[],[]⟩],[],[],[],1,0⟩
section
variable {fs:List aA} {m:aI} {n:Nat}
end
section
variable {B:Nat} {w0 w:World} {H H1 H2 H3 H4:List a4}
theorem gu {g:MA} {m:aI} {nf nb ni no:Nat} (hw:Cw B w0 H w) (hf:cz H (an (.slice g.Af nf g.cf) m.frames) H1) (hb:cz H (an (.slice g.Ab nb g.cb) m.blocks) H2) (hi:cz H (an (.slice g.Ai ni g.ci) m.inn) H3) (ho:cz H (an (.slice g.Ao no g.co) m.out) H4) (e1:m.frames.length=nf) (e2:m.blocks.length=nb) (e3:m.inn.length=ni) (e4:m.out.length=no) (hs:a5 m.status) (ht:a5 m.trap):dE w.heap.size w g m:=by
 subst e1 e2 e3 e4
 exact⟨SF.at_ (SF.own rfl hf) hw,SF.at_ (SF.own rfl hb) hw,SF.at_ (SF.own rfl hi) hw,SF.at_ (SF.own rfl ho) hw,hs,ht⟩
end
section
variable {P:Program} {n:NF} {B:Nat} {w0:World} {H H':List a4} {Q:Exit→Act→World→Prop} {env:cM} {x:Code}
structure Dz (B:Nat) (w0:World) (X:a4) (k:Nat) (A:Option Addr) (c:Nat) (fr:List aO) (hs:List aU):Prop where
 el:∀i,i<k→∃Al cl As cs,hs.getD i default=⟨(aN fr i).func,(aN fr i).pc,.slice Al (aN fr i).locals.length cl,.slice As (aN fr i).stack.length cs⟩∧
  (∀H H',cz H X H'→SF B w0 H Al (aN fr i).locals.length cl (aN fr i).locals∧SF B w0 H As (aN fr i).stack.length cs (aN fr i).stack)
 len:hs.length=k
 back:∀H H' H'' w,cz H (an (.slice A k c) hs) H'→cz H' X H''→Cw B w0 H w→Cw B w0 (an (.slice A k c) fr::H'') w
theorem SF.hfr {A:Option Addr} {xs:List aU} {m c k:Nat} {h:aU} (hs:SF B w0 H A m c xs) (hk:k<m) (e:xs.getD k default=h):∀w,Cw B w0 H w→∀j v,([.int .i64 h.func,.int .i64 h.pc,h.lv,h.sv]:List Value)[j]? =some v→w.cell? ⟨ab A,ao A+k*4+j,none⟩=some v:=fun w hw j v hv=>SF.cell hs hk default (by rw[e];exact hv) w hw
theorem oK {l:List (aU×aO)} {i:Nat} (hi:i<l.length) {w:World} (h:Cw B w0 (du l::H) w):Sl w l[i].1.lv l[i].2.locals∧Sl w l[i].1.sv l[i].2.stack:=by
 have h1:Cw B w0 (an l[i].1.lv l[i].2.locals::an l[i].1.sv l[i].2.stack::(du (l.eraseIdx i)::H)) w:=ra hi h
 obtain⟨F1,k1,_⟩:=h1.rd cz.a
 obtain⟨F2,k2,_⟩:=h1.rd (cz.s cz.a)
 exact⟨cy.sl k1,cy.sl k2⟩
theorem Cg {A:Option Addr} {k c:Nat} {fr:List aO} (hk:fr.length=k) (hp:cz H (an (.slice A k c) fr) H')
  (h:∀(X:a4) (hs:List aU),Dz B w0 X k A c fr hs→CW P n B w0 x Q env (an (.slice A k c) hs::X::H')):CW P n B w0 x Q env H:=fun a w hf hw=>by
 obtain⟨l,hl,hok,h3⟩:=rs (hw.perm hp)
 have hll:l.length=k:=by rw[←hk,←hl,List.length_map]
 refine h (du l) (l.map Prod.fst) ⟨fun i hi=>?_,by rw[List.length_map,hll],fun H1 H2 H3 w f1 f2 hw=>?_⟩ a w hf h3
 ·have hi':i<l.length:=by omega
  obtain⟨s1,s2⟩:=oK hi' (h3.perm (List.Perm.swap ..))
  have hfr:aN fr i=l[i].2:=by
   unfold aN
   rw[←hl,List.getD_eq_getElem?_getD,List.getElem?_map,List.getElem?_eq_getElem hi']
   rfl
  have hfi:=hok l[i] (List.getElem_mem hi')
  obtain⟨Al,cl,e1,_⟩:=s1.form
  obtain⟨As,cs,e2,_⟩:=s2.form
  refine⟨Al,cl,As,cs,?_,fun H1 H2 f=>⟨⟨by rw[hfr],fun w hw=>?_⟩,⟨by rw[hfr],fun w hw=>?_⟩⟩⟩
  ·rw[List.getD_eq_getElem?_getD,List.getElem?_map,List.getElem?_eq_getElem hi',hfr,←e1,←e2]
   show l[i].1=_
   have h1:l[i].1.func=l[i].2.func:=hfi.1
   have h2:l[i].1.pc=l[i].2.pc:=hfi.2
   rw[←h1,←h2]
  ·have:=(oK hi' (hw.perm f)).1
   rw[e1] at this
   rw[hfr];exact this
  have:=(oK hi' (hw.perm f)).2
  rw[e2] at this
  rw[hfr];exact this
 have:=m6 (v:= .slice A k c) (H:=H3) hok ((hw.perm f1).perm (List.Perm.cons _ f2))
 rw[hl] at this
 exact this
end
end
section
theorem BO (a b:Int) (w:World):(Instr.field 49 (.agg #[.int .i64 a,.int .i64 b]) 0).run Tryz.prog w= .ok (.int .i64 a) w:=by kernel_rfl
theorem vJ {fs:List aA} {m:aI} {li:List aO} {x:aO} (e:m.frames=li++ [x]):aN m.frames li.length=x∧m.frames.length=li.length+1∧dh fs m=bn (ax fs x.func.toNat).code x.pc.toNat:=by
 refine⟨by rw[e,iP],by rw[e];simp,?_⟩
 unfold dh fY
 rw[e,qy]
end
section
theorem ug {l r:List Int} :dd (l++r)=true↔dd l=true∨dd r=true:=by
 unfold dd
 rw[List.any_append,Bool.or_eq_true]
theorem Cl {l:List Int} {k:Nat} (hk:k<l.length) (h:cW (l.getD k 0)=false):dd l=true:=List.any_eq_true.2 ⟨_,eX (d:=0) hk,by rw[h];rfl⟩
theorem Ck {l:List Int} (h:∀j,j<l.length→cW (l.getD j 0)=true):¬dd l=true:=fun hb=>by
 obtain⟨x,hx,h2⟩:=List.any_eq_true.1 hb
 obtain⟨j,hj,rfl⟩:=List.getElem_of_mem hx
 have:=h j hj
 rw[List.getD_eq_getElem?_getD,List.getElem?_eq_getElem hj] at this
 have this:cW l[j]=true:=this
 rw[this] at h2
 cases h2
set_option maxRecDepth 100000 in
set_option maxHeartbeats 8000000 in
theorem uv (a:MA) (m:aI) (Ap:Option Addr) (cp:Nat) (fs:List aA) (w:World) (hs:Sl w (.slice Ap fs.length cp) fs) (hm:dE w.heap.size w a m) (hF:eZ fs) (hfit:ie m.frames) (E:Int) (hE:j4 fs m=E) :
  Calls Tryz.prog 19 #[.agg #[.slice Ap fs.length cp],.agg #[.slice a.Af m.frames.length a.cf,.slice a.Ab m.blocks.length a.cb,.slice a.Ai m.inn.length a.ci,.slice a.Ao m.out.length a.co,.int .i64 m.status,.int .i64 m.trap]] w fun e w'=>e= .returned (.int .i64 E)∧Below w.heap.size w w':=by
 have bf:=bR hm.f
 have bp:=bR hs
 have bi:=bR hm.i
 have bo:=bR hm.o
 have hp1:=mM hF
 obtain⟨sb,hsb⟩:∃b,bx m.status 0 3=b:=⟨_,rfl⟩
 obtain⟨tb,htb⟩:∃b,bx m.trap (if m.status=3 then 1 else 0) (if m.status=3 then 5 else 0)=b:=⟨_,rfl⟩
 unfold j4 at hE
 rw[hsb,htb] at hE
 refine enter Tryz.func19 rfl Tryz.ntmps19 rfl ?_
 refine ac<|aa<|ai (bH rfl rfl rfl) rfl rfl (fun g1 _=>?_)
 refine ai (bH rfl rfl rfl) rfl rfl (fun g2 _=>?_)
 refine rn 1 [2,3] rfl<|ae<|ac<|ac<|aa<|rn 1 [2,3,12] rfl<|af (aj fc aw rfl rfl (by rfl)) rfl rfl ?_
 refine ai (bB rfl rfl rfl gY ((fun w hw=>eM ((fun w hw=>et _ _ _ w) w hw)))) rfl rfl (fun _ _=>?_)
 refine rn 1 [2,3,15] rfl<|ae ?_
 rw[hsb]
 cases sb
 ·rw[if_pos rfl] at hE
  subst hE
  refine cS (t:=15) (v':= .bool true) rfl (rfl) ?_
  refine br rfl<|ac<|aa<|rn 1 [4] rfl<|ae<|ap (ah ?_)
  refine au ew (am rfl) ?_
  intro w hw
  exact⟨rfl,hw.below⟩
 rw[if_neg (by decide)] at hE
 refine cS (t:=15) (v':= .bool false) rfl (rfl) ?_
 refine cK rfl<|aq (ak ?_)
 refine ac<|ac<|aa<|rn 1 [2,3,16] rfl<|af (aj fc aw rfl rfl (by rfl)) rfl rfl ?_
 refine rn 2 [2,3,19] rfl<|jz 15 rfl [(2,_),(3,_)] [(34,.bool (!tb))] ⟨rfl,rfl,trivial⟩ (fun K=>?_) ?_
 ·refine bL (t:=19) rfl (fun s3=>?_) (fun s3=>?_)
  ·have s3:=of_decide_eq_true s3
   rw[if_pos s3,if_pos s3] at htb
   refine rn 1 [2,3,19,20] rfl<|af (aj fc aw rfl rfl (by rfl)) rfl rfl ?_
   refine ai (bB rfl rfl rfl gY ((fun w hw=>eM ((fun w hw=>et _ _ _ w) w hw)))) rfl rfl (fun _ _=>?_)
   refine rn 3 [2,3,25] rfl ?_
   rw[htb]
   cases tb
   ·refine bU (t:=25) (v':= .bool true) rfl (rfl) ?_
    refine rn 9 [2,3,34] rfl<|bU (t:=34) (v':= .bool (!false)) rfl (rfl) ?_
    exact fx K ⟨rfl,rfl,rfl,trivial⟩
   refine bU (t:=25) (v':= .bool false) rfl (rfl) ?_
   refine rn 1 [2,3,25,26] rfl<|af (aj fc aw rfl rfl (by rfl)) rfl rfl ?_
   refine rn 2 [2,3,25,29] rfl<|bU (t:=29) (v':= .bool false) rfl (congrArg Value.bool (by rw[s3];rfl)) ?_
   refine rn 5 [2,3,34] rfl<|bU (t:=34) (v':= .bool (!true)) rfl (rfl) ?_
   exact fx K ⟨rfl,rfl,rfl,trivial⟩
  have s3:=of_decide_eq_false s3
  rw[if_neg s3,if_neg s3] at htb
  refine rn 7 [2,3,25,26] rfl<|af (aj fc aw rfl rfl (by rfl)) rfl rfl ?_
  refine rn 2 [2,3,25,29] rfl<|bU (t:=29) (v':= .bool true) rfl (congrArg Value.bool (by simp[s3])) ?_
  refine rn 1 [2,3,25,29,30] rfl<|af (aj fc aw rfl rfl (by rfl)) rfl rfl ?_
  refine rn 3 [2,3,34] rfl<|bU (t:=34) (v':= .bool (!tb)) rfl (congrArg Value.bool (by rw[←htb];unfold bx;by_cases h0:m.trap=0;rw[h0];rfl;rw[Bool.eq_iff_iff];simp[h0];omega)) ?_
  exact fx K ⟨rfl,rfl,rfl,trivial⟩
 refine ae ?_
 cases tb
 ·rw[if_pos rfl] at hE
  subst hE
  refine cS (t:=34) (v':= .bool true) rfl (rfl) ?_
  refine br rfl<|ac<|aa<|rn 1 [4] rfl<|ae<|ap (ah ?_)
  refine au ew (am rfl) ?_
  intro w hw
  exact⟨rfl,hw.below⟩
 rw[if_neg (by decide)] at hE
 refine cS (t:=34) (v':= .bool false) rfl (rfl) ?_
 refine cK rfl<|aq (ak ?_)
 refine ac<|aa<|rn 1 [2,3,35] rfl<|af (aj fc dp rfl rfl (by rfl)) rfl rfl ?_
 refine ai (bB rfl rfl rfl Tryz.call69 ((fun w hw=>eM ((fun w hw=>n5 _ m.blocks w (hw.ro hm.b)) w hw)))) rfl rfl (fun _ _=>?_)
 refine rn 1 [2,3,5] rfl<|ae<|ac<|ac<|aa<|rn 2 [2,3,5,39] rfl<|ae<|bX rfl (fun hb=>?_) (fun hb=>?_)
 ·have hb:¬cc m.blocks=0:=hb
  rw[if_pos hb] at hE
  refine ac<|aa<|rn 2 [4] rfl<|ae<|ap (ah ?_)
  refine au ew (am rfl) ?_
  intro w hw
  exact⟨by rw[←hE],hw.below⟩
 have hb:cc m.blocks=0:=hb
 rw[if_neg (fun h=>h hb)] at hE
 refine aq (ak ?_)
 refine ac<|ac<|aa<|rn 1 [2,3,41] rfl<|af (aj fc aW rfl rfl (by rfl)) rfl rfl ?_
 refine af (aL ag rfl rfl) rfl rfl<|rn 2 [2,3,45] rfl<|jz 5 rfl [(2,_),(3,_)] [(50,.bool (decide (10<m.inn.length∨10<m.out.length)))] ⟨rfl,rfl,trivial⟩ (fun K=>?_) ?_
 ·refine bL (t:=45) rfl (fun u1=>?_) (fun u1=>?_)
  ·have u1:=of_decide_eq_true u1
   refine rn 5 [2,3,50] rfl<|bU (t:=50) (v':= .bool (decide (10<m.inn.length∨10<m.out.length))) rfl (congrArg Value.bool (decide_eq_true (.inl (by omega))).symm) ?_
   exact fx K ⟨rfl,rfl,rfl,trivial⟩
  have u1:=of_decide_eq_false u1
  refine rn 1 [2,3,45,46] rfl<|af (aj fc aW rfl rfl (by rfl)) rfl rfl ?_
  refine af (aL ag rfl rfl) rfl rfl<|rn 2 [2,3,50] rfl<|bU (t:=50) (v':= .bool (decide (10<m.inn.length∨10<m.out.length))) rfl (congrArg Value.bool (decide_eq_decide.2 (by omega))) ?_
  exact fx K ⟨rfl,rfl,rfl,trivial⟩
 refine ae<|ar rfl (fun h10=>?_) (fun h10=>?_)
 ·rw[if_pos h10] at hE
  subst hE
  refine ac<|aa<|rn 1 [4] rfl<|ae<|ap (ah ?_)
  refine au ew (am rfl) ?_
  intro w hw
  exact⟨rfl,hw.below⟩
 have h10:¬(10<m.inn.length∨10<m.out.length):=h10
 rw[if_neg h10] at hE
 have hal:(m.inn++m.out).length=m.inn.length+m.out.length:=List.length_append
 refine aq (ak ?_)
 refine eo (fun _:Option Addr×Nat=>True) (fun g=> [(2,.pointer (some ⟨g1,0,none⟩)),(3,.pointer (some ⟨g2,0,none⟩)),(6,.slice g.1 (m.inn++m.out).length g.2)]) (fun g=> [an (.slice g.1 (m.inn++m.out).length g.2) (m.inn++m.out),az g2 [.slice a.Af m.frames.length a.cf,.slice a.Ab m.blocks.length a.cb,.slice a.Ai m.inn.length a.ci,.slice a.Ao m.out.length a.co,.int .i64 m.status,.int .i64 m.trap] 29,az g1 [.slice Ap fs.length cp] 24]) ?_ ?_
 ·refine bV (.still 1 (.still 2 (.still 4 (.still 5 (.pick 0 (.pick 3 (.pick 6 (.calm 7 .done) .stop) .stop) .stop))))) [6,7] rfl (by kernel_rfl) (by kernel_rfl) ?_
  refine aS ha 1 [2,3,52] rfl<|av rfl (aj fc aW rfl rfl (by rfl)) rfl rfl ha ?_
  refine aS ha 1 [2,3,53,55] rfl<|av rfl (aj fc aW rfl rfl (by rfl)) rfl rfl ha ?_
  refine aB rfl ((a8 (cs:= []) ag aF aV rfl rfl rfl rfl rfl).mem (H'':=fun g=>an (.slice (some ⟨g,0,none⟩) 0 0) ([]:List Int)::_) fun g w h=>bW (α:=Int) (m:=0) [] rfl (by simp) rfl (by decide) h) rfl rfl (.inr fun _=>ha) (fun ge _=>?_) ay
  refine aB rfl (cT (α:=Int) (bytes:=8) (xs:= []) (ys:=m.inn) (List.nil_append m.inn).symm ag (bN cJ) rfl fc (.ro hm.i) (by simp only[List.length_nil];omega) (by simp only[List.length_nil];omega) rfl rfl rfl) rfl rfl (.inr fun _=>ha) (fun⟨A5,c5⟩ _=>?_) ay
  try dsimp only
  refine aB rfl (cT (α:=Int) (bytes:=8) (xs:=m.inn) (ys:=m.out) rfl ag (bN cJ) rfl fc (.ro hm.o) (by omega) (by omega) rfl rfl rfl) rfl rfl (.inl rfl) (fun⟨A6,c6⟩ _=>?_) ay
  try dsimp only
  refine dY 1 [2,3,6] rfl<|cD<|be (A6,c6) (trivial) ⟨rfl,rfl,rfl,trivial⟩ (fun _ h=>h.msub ms)
 rintro⟨A6,c6⟩ _
 try dsimp only
 refine ac<|ac<|aa<|rn 1 [2,3,6,7] rfl<|ae<|aE (bD (fun k:Nat=>k≤(m.inn++m.out).length∧∀j,j<k→cW ((m.inn++m.out).getD j 0)=true) (fun k=>(m.inn++m.out).length - k) (fun k=> [(2,.pointer (some ⟨g1,0,none⟩)),(3,.pointer (some ⟨g2,0,none⟩)),(6,.slice A6 (m.inn++m.out).length c6),(7,.int .i64 (k:Int))]) (fun _=> [an (.slice A6 (m.inn++m.out).length c6) (m.inn++m.out),az g2 [.slice a.Af m.frames.length a.cf,.slice a.Ab m.blocks.length a.cb,.slice a.Ai m.inn.length a.ci,.slice a.Ao m.out.length a.co,.int .i64 m.status,.int .i64 m.trap] 29,az g1 [.slice Ap fs.length cp] 24]) 0 (⟨Nat.zero_le _,fun _ h=>absurd h (Nat.not_lt_zero _)⟩) ⟨rfl,rfl,rfl,rfl,trivial⟩ me ?_)
 rintro k hk'
 obtain⟨hk,hno⟩:k≤(m.inn++m.out).length∧∀j,j<k→cW ((m.inn++m.out).getD j 0)=true:=hk'
 refine ac<|ac<|aa<|rn 2 [2,3,6,7,58,59] rfl<|af (aL ag rfl rfl) rfl rfl<|rn 1 [2,3,6,7,61] rfl<|ae<|ar rfl (fun hlt=>?_) (fun hlt=>?_)
 ·have hkl:k<(m.inn++m.out).length:=by omega
  refine aq (ak ?_)
  refine ac<|aE<|ac<|aa<|rn 2 [2,3,6,7,64,65] rfl<|af (aQ (k:=k) ag aF (SF.own rfl fc) (by omega) rfl rfl rfl) rfl rfl ?_
  refine af (aZ (SF.int (SF.own rfl fc) (by omega)) rfl rfl aw) rfl rfl ?_
  refine ai (bB rfl rfl rfl Tryz.call44 ((fun w hw=>eM ((fun w hw=>ji _ w) w hw)))) rfl rfl (fun _ _=>?_)
  refine rn 1 [2,3,6,7,69] rfl<|ae<|b9 rfl (fun hb2=>?_) (fun hb2=>?_)
  ·have hb2:cW ((m.inn++m.out).getD k 0)=false:=by simpa using hb2
   rw[if_pos (ug.1 (Cl hkl hb2))] at hE
   subst hE
   refine ac<|aa<|rn 1 [4] rfl<|ae<|ap (aC (ah (ah (aC (ah ?_)))))
   refine au ew (am rfl) ?_
   intro w hw
   exact⟨rfl,hw.below⟩
  have hb2:cW ((m.inn++m.out).getD k 0)=true:=by simpa using hb2
  refine aq (aH (ak ?_))
  refine aa<|rn 1 [2,3,6,62] rfl<|af (a6 rfl rfl rfl (by omega)) rfl rfl<|rn 1 [2,3,6,7] rfl<|aX (k+1) (⟨by show k+1≤_;omega,fun j hj=>(Nat.lt_or_ge j k).elim (hno j) (fun h=>by obtain rfl:j=k:=(by omega);exact hb2)⟩) (by show _ - _<_ - _;omega) ⟨rfl,rfl,rfl,rfl,trivial⟩ me
 obtain rfl:k=(m.inn++m.out).length:=by omega
 rw[if_neg (fun h=>Ck hno (ug.2 h))] at hE
 obtain⟨FE,hFE⟩:∃e,ix fs m=e:=⟨_,rfl⟩
 rw[hFE] at hE
 unfold ix at hFE
 have hbadE:FE≠0→E=FE:=fun h=>by rw[if_pos h] at hE;exact hE.symm
 refine bz (aG (aG (bO (ak ?_))))
 refine ac<|aa<|rn 1 [2,3,70] rfl<|af (aj fc bG rfl rfl (by rfl)) rfl rfl ?_
 refine af (aL aT rfl rfl) rfl rfl<|rn 1 [2,3,8] rfl<|ae<|ac<|ac<|aa<|rn 2 [2,3,8,74] rfl<|ae<|ar rfl (fun h6=>?_) (fun h6=>?_)
 ·rw[if_pos (by omega)] at hFE
  subst hFE
  refine ac<|aa<|rn 1 [4] rfl<|ae<|ap (ah ?_)
  refine au ew (am rfl) ?_
  intro w hw
  exact⟨by rw[hbadE (by decide)],hw.below⟩
 have h6:¬6<m.frames.length:=by omega
 rw[if_neg h6] at hFE
 refine aq (ak ?_)
 refine ac<|ac<|aa<|rn 3 [2,3,8,77] rfl<|jz 4 rfl [(2,_),(3,_),(8,_)] [(81,.bool (decide (m.frames.length=0∧m.status≠2)))] ⟨rfl,rfl,rfl,trivial⟩ (fun K=>?_) ?_
 ·refine bL (t:=77) rfl (fun v1=>?_) (fun v1=>?_)
  ·have v1:=of_decide_eq_true v1
   refine rn 1 [2,3,8,77,78] rfl<|af (aj fc aw rfl rfl (by rfl)) rfl rfl ?_
   refine rn 2 [2,3,8,81] rfl<|bU (t:=81) (v':= .bool (decide (m.frames.length=0∧m.status≠2))) rfl (congrArg Value.bool (by rw[←decide_not];exact decide_eq_decide.2 ⟨fun h=>⟨by omega,h⟩,fun h=>h.2⟩)) ?_
   exact fx K ⟨rfl,rfl,rfl,rfl,trivial⟩
  have v1:=of_decide_eq_false v1
  refine rn 4 [2,3,8,81] rfl<|bU (t:=81) (v':= .bool (decide (m.frames.length=0∧m.status≠2))) rfl (congrArg Value.bool (decide_eq_false (by omega)).symm) ?_
  exact fx K ⟨rfl,rfl,rfl,rfl,trivial⟩
 refine ae<|ar rfl (fun v2=>?_) (fun v2=>?_)
 ·rw[if_pos v2] at hFE
  subst hFE
  refine ac<|aa<|rn 1 [4] rfl<|ae<|ap (ah ?_)
  refine au ew (am rfl) ?_
  intro w hw
  exact⟨by rw[hbadE (by decide)],hw.below⟩
 rw[if_neg v2] at hFE
 refine aq (ak ?_)
 refine ac<|ac<|aa<|rn 3 [2,3,8,84] rfl<|jz 4 rfl [(2,_),(3,_),(8,_)] [(88,.bool (decide (0<m.frames.length∧m.status=2)))] ⟨rfl,rfl,rfl,trivial⟩ (fun K=>?_) ?_
 ·refine bL (t:=84) rfl (fun v3=>?_) (fun v3=>?_)
  ·have v3:=of_decide_eq_true v3
   refine rn 1 [2,3,8,84,85] rfl<|af (aj fc aw rfl rfl (by rfl)) rfl rfl ?_
   refine rn 2 [2,3,8,88] rfl<|bU (t:=88) (v':= .bool (decide (0<m.frames.length∧m.status=2))) rfl (congrArg Value.bool (decide_eq_decide.2 (by omega))) ?_
   exact fx K ⟨rfl,rfl,rfl,rfl,trivial⟩
  have v3:=of_decide_eq_false v3
  refine rn 4 [2,3,8,88] rfl<|bU (t:=88) (v':= .bool (decide (0<m.frames.length∧m.status=2))) rfl (congrArg Value.bool (decide_eq_false (by omega)).symm) ?_
  exact fx K ⟨rfl,rfl,rfl,rfl,trivial⟩
 refine ae<|ar rfl (fun v4=>?_) (fun v4=>?_)
 ·rw[if_pos v4] at hFE
  subst hFE
  refine ac<|aa<|rn 1 [4] rfl<|ae<|ap (ah ?_)
  refine au ew (am rfl) ?_
  intro w hw
  exact⟨by rw[hbadE (by decide)],hw.below⟩
 rw[if_neg v4] at hFE
 refine aq (ak ?_)
 refine ac<|ac<|aa<|rn 1 [2,3,8,9] rfl<|ae<|aE (bD (fun k:Nat=>k≤m.frames.length∧∀j,j<k→bx (aN m.frames j).func 0 ((fs.length:Int) - 1)=true) (fun k=>m.frames.length - k) (fun k=> [(2,.pointer (some ⟨g1,0,none⟩)),(3,.pointer (some ⟨g2,0,none⟩)),(8,.int .i64 (m.frames.length:Int)),(9,.int .i64 (k:Int))]) (fun _=> [az g2 [.slice a.Af m.frames.length a.cf,.slice a.Ab m.blocks.length a.cb,.slice a.Ai m.inn.length a.ci,.slice a.Ao m.out.length a.co,.int .i64 m.status,.int .i64 m.trap] 29,az g1 [.slice Ap fs.length cp] 24]) 0 (⟨Nat.zero_le _,fun _ h=>absurd h (Nat.not_lt_zero _)⟩) ⟨rfl,rfl,rfl,rfl,trivial⟩ me ?_)
 rintro k hk'
 obtain⟨hk,hno2⟩:k≤m.frames.length∧∀j,j<k→bx (aN m.frames j).func 0 ((fs.length:Int) - 1)=true:=hk'
 refine ac<|ac<|aa<|rn 3 [2,3,8,9,91] rfl<|ae<|ar rfl (fun hlt=>?_) (fun hlt=>?_)
 ·have hkl:k<m.frames.length:=by omega
  obtain⟨A1,c1,A2,c2,hl,hst,hI,hcell⟩:=hm.f.fr hkl
  refine aq (ak ?_)
  refine ac<|aE<|ac<|bV (.still 0 (.still 1 (.still 2 (.still 3 (.still 4 (.still 5 (.still 6 (.still 7 (.still 8 (.still 9 (.pick 10 (.still 11 .done) .stop))))))))))) [] rfl (by kernel_rfl) (by kernel_rfl) ?_
  refine aS ha 1 [2,3,8,9,94] rfl<|av rfl (aj fc bG rfl rfl (by rfl)) rfl rfl ha ?_
  refine aS ha 1 [2,3,8,9,95,96] rfl<|av rfl (aQ (k:=k) aT a7 (.ro hm.f) (by omega) rfl rfl rfl) rfl rfl ha ?_
  refine aS ha 1 [2,3,8,9,98] rfl<|av rfl (aZ (fun w hw=>hcell _ w hw 0 _ rfl) rfl rfl aw) rfl rfl ha ?_
  refine aS ha 1 [2,3,8,9,99,100] rfl<|av rfl (aj fc cF rfl rfl (by rfl)) rfl rfl ha ?_
  refine av rfl (aL bA rfl rfl) rfl rfl ha ?_
  refine av rfl (cn rfl rfl rfl (by omega)) rfl rfl ha ?_
  refine aB rfl (bB rfl rfl rfl gY ((fun w hw=>eM ((fun w hw=>et _ _ _ w) w hw)))) rfl rfl (.inr fun _=>ha) (fun _ _=>?_) ay
  refine aS ha 1 [2,3,8,9,105] rfl<|cu<|b9 rfl (fun hb2=>?_) (fun hb2=>?_)
  ·have hb2:bx (aN m.frames k).func 0 ((fs.length:Int) - 1)=false:=by simpa using hb2
   rw[if_pos (w3 hkl hb2)] at hFE
   subst hFE
   refine ac<|aa<|rn 1 [4] rfl<|ae<|ap (aC (ah (ah (aC (ah ?_)))))
   refine au ew (am rfl) ?_
   intro w hw
   exact⟨by rw[hbadE (by decide)],hw.below⟩
  have hb2:bx (aN m.frames k).func 0 ((fs.length:Int) - 1)=true:=by simpa using hb2
  refine aq (aH (ak ?_))
  refine aa<|rn 1 [2,3,8,92] rfl<|af (a6 rfl rfl rfl (by omega)) rfl rfl<|rn 1 [2,3,8,9] rfl<|aX (k+1) (⟨by show k+1≤_;omega,fun j hj=>(Nat.lt_or_ge j k).elim (hno2 j) (fun h=>by obtain rfl:j=k:=(by omega);exact hb2)⟩) (by show _ - _<_ - _;omega) ⟨rfl,rfl,rfl,rfl,trivial⟩ me
 obtain rfl:k=m.frames.length:=by omega
 obtain⟨hany,hfn⟩:=t5 hno2
 rw[if_neg hany] at hFE
 refine bz (aG (aG (bO (ak ?_))))
 refine ac<|ac<|aa<|rn 3 [2,3,8,108] rfl<|jz 7 rfl [(2,_),(3,_),(8,_)] [(115,.bool (decide (0<m.frames.length∧(aN m.frames 0).func≠0)))] ⟨rfl,rfl,rfl,trivial⟩ (fun K=>?_) ?_
 ·refine bL (t:=108) rfl (fun w1=>?_) (fun w1=>?_)
  ·have w1:=of_decide_eq_true w1
   obtain⟨A1,c1,A2,c2,hl,hst,hI,hcell⟩:=hm.f.fr (k:=0) (by omega)
   refine rn 1 [2,3,8,108,109] rfl<|af (aj fc bG rfl rfl (by rfl)) rfl rfl ?_
   refine af (aQ (k:=0) aT a7 (.ro hm.f) (by omega) rfl rfl rfl) rfl rfl<|rn 1 [2,3,8,108,112] rfl<|af (aZ (fun w hw=>hcell _ w hw 0 _ rfl) rfl rfl aw) rfl rfl ?_
   refine rn 2 [2,3,8,115] rfl<|bU (t:=115) (v':= .bool (decide (0<m.frames.length∧(aN m.frames 0).func≠0))) rfl (congrArg Value.bool (by rw[←decide_not];exact decide_eq_decide.2 ⟨fun h=>⟨by omega,h⟩,fun h=>h.2⟩)) ?_
   exact fx K ⟨rfl,rfl,rfl,rfl,trivial⟩
  have w1:=of_decide_eq_false w1
  refine rn 7 [2,3,8,115] rfl<|bU (t:=115) (v':= .bool (decide (0<m.frames.length∧(aN m.frames 0).func≠0))) rfl (congrArg Value.bool (decide_eq_false (fun h=>by omega)).symm) ?_
  exact fx K ⟨rfl,rfl,rfl,rfl,trivial⟩
 refine ae<|ar rfl (fun w2=>?_) (fun w2=>?_)
 ·rw[if_pos w2] at hFE
  subst hFE
  refine ac<|aa<|rn 1 [4] rfl<|ae<|ap (ah ?_)
  refine au ew (am rfl) ?_
  intro w hw
  exact⟨by rw[hbadE (by decide)],hw.below⟩
 rw[if_neg w2] at hFE
 refine aq (ak ?_)
 refine ac<|ac<|aa<|rn 1 [2,3,8,10] rfl<|ae<|aE (bD (fun k:Nat=>k≤m.frames.length∧dD (en fs m.blocks.length m.frames) ((List.range m.frames.length).take k)=0) (fun k=>m.frames.length - k) (fun k=> [(2,.pointer (some ⟨g1,0,none⟩)),(3,.pointer (some ⟨g2,0,none⟩)),(8,.int .i64 (m.frames.length:Int)),(10,.int .i64 (k:Int))]) (fun _=> [az g2 [.slice a.Af m.frames.length a.cf,.slice a.Ab m.blocks.length a.cb,.slice a.Ai m.inn.length a.ci,.slice a.Ao m.out.length a.co,.int .i64 m.status,.int .i64 m.trap] 29,az g1 [.slice Ap fs.length cp] 24]) 0 (⟨Nat.zero_le _,rfl⟩) ⟨rfl,rfl,rfl,rfl,trivial⟩ me ?_)
 rintro k hk'
 obtain⟨hk,hno3⟩:k≤m.frames.length∧dD (en fs m.blocks.length m.frames) ((List.range m.frames.length).take k)=0:=hk'
 refine ac<|ac<|aa<|rn 3 [2,3,8,10,118] rfl<|ae<|ar rfl (fun hlt=>?_) (fun hlt=>?_)
 ·have hkl:k<m.frames.length:=by omega
  have hsn:=gi (g:=en fs m.blocks.length m.frames) (l:=List.range m.frames.length) 0 (by rw[List.length_range];exact hkl) hno3
  rw[jj hkl] at hsn
  refine aq (ak ?_)
  refine ac<|aE<|ac<|aa<|af (aY (vs:= [_]) fc cA cg rfl rfl (by rfl) rfl) rfl rfl ?_
  refine af (aY (vs:= [_,_,_,_,_,_]) fc bd aJ rfl rfl (by rfl) rfl) rfl rfl ?_
  refine rn 1 [2,3,8,10,121,122,123] rfl<|ai (bB rfl rfl rfl Tryz.call70 (fun w hw=>uy a m Ap cp fs k w (hw.ro hs) (dE.ro hw hm) hF hfit hkl hfn _ rfl)) rfl rfl (fun _ _=>?_)
  refine rn 1 [2,3,8,10,11] rfl<|ae<|ac<|aa<|rn 2 [2,3,8,10,11,126] rfl<|ae<|bX rfl (fun he=>?_) (fun he=>?_)
  ·have he:en fs m.blocks.length m.frames k≠0:=he
   rw[j7 (k:=k+1) (by rw[hsn];exact he),hsn] at hFE
   rw[hFE] at he
   refine ac<|aa<|rn 2 [4] rfl<|ae<|ap (aC (ah (ah (aC (ah ?_)))))
   refine au ew (am rfl) ?_
   intro w hw
   exact⟨by rw[hbadE he,←hFE],hw.below⟩
  have he:en fs m.blocks.length m.frames k=0:=he
  rw[he] at hsn
  refine aq (aH (ak ?_))
  refine aa<|rn 1 [2,3,8,119] rfl<|af (a6 rfl rfl rfl (by omega)) rfl rfl<|rn 1 [2,3,8,10] rfl<|aX (k+1) (⟨by show k+1≤_;omega,hsn⟩) (by show _ - _<_ - _;omega) ⟨rfl,rfl,rfl,rfl,trivial⟩ me
 obtain rfl:k=m.frames.length:=by omega
 rw[List.take_of_length_le (by rw[List.length_range];exact Nat.le_refl _)] at hno3
 rw[hno3] at hFE
 subst hFE
 rw[if_neg (fun h=>h rfl)] at hE
 refine bz (aG (aG (bO (ak ?_))))
 refine ac<|ac<|bV (.still 0 (.still 1 (.still 2 (.still 3 (.still 4 (.still 5 (.still 6 (.still 7 (.still 8 (.still 9 (.still 10 (.still 11 (.still 12 (.still 13 (.still 14 (.still 15 (.still 16 (.still 17 (.still 18 (.still 19 (.still 20 (.still 21 (.still 22 (.still 23 (.still 24 (.still 25 (.still 26 (.still 27 (.still 28 (.still 29 (.still 30 (.still 31 (.still 32 (.still 33 .done)))))))))))))))))))))))))))))))))) [] rfl (by kernel_rfl) (by kernel_rfl) ?_
 refine aS ha 1 [2,3,8,128] rfl<|av rfl (aj fc aw rfl rfl (by rfl)) rfl rfl ha ?_
 refine aS ha 2 [2,3,8,131] rfl ?_
 by_cases s1:m.status=1
 ·rw[if_neg (fun h=>h s1)] at hE
  refine eH (t:=131) (v':= .bool true) rfl (congrArg Value.bool (by rw[s1];rfl)) ?_
  refine aS ha 1 [2,3,8,131,132] rfl<|av rfl (aj fc aW rfl rfl (by rfl)) rfl rfl ha ?_
  refine av rfl (aL ag rfl rfl) rfl rfl ha ?_
  refine aS ha 2 [2,3,8,131,136] rfl ?_
  by_cases i0:0<m.inn.length
  ·rw[if_pos (.inl i0)] at hE
   subst hE
   refine eH (t:=136) (v':= .bool true) rfl (congrArg Value.bool (decide_eq_true (by omega))) ?_
   refine aS ha 25 [161] rfl<|cu<|br rfl<|ac<|aa<|rn 1 [4] rfl<|ae<|ap (ah ?_)
   refine au ew (am rfl) ?_
   intro w hw
   exact⟨rfl,hw.below⟩
  have hne:m.frames≠[]:=fun e=>v2 ⟨by rw[e];rfl,by omega⟩
  obtain⟨li,x,e⟩:∃li x,m.frames=li++ [x]:=by
   rcases List.eq_nil_or_concat m.frames with h1 | ⟨l,z,h1⟩
   ·exact absurd h1 hne
   exact⟨l,z,by rw[h1];simp⟩
  obtain⟨hx,hkk,hop⟩:=vJ (fs:=fs) e
  obtain⟨k,hkl⟩:∃k,li.length=k:=⟨_,rfl⟩
  rw[hkl] at hx hkk
  have hfr:=mo.1 (ku hno3 k (List.mem_range.2 (by omega)))
  have hfx:=hfn x (by rw[e];simp)
  rw[e,←hkl] at hfr
  obtain⟨_,hloc,t,he,hts⟩:=(lE hfx).1 hfr
  obtain⟨hp0,hp1',_⟩:=(hF.e x.func.toNat (by omega)).at_ _ _ he
  obtain⟨A1,c1,A2,c2,h1,h2,hi,hc⟩:=hm.f.fr (k:=k) (by omega)
  rw[hx] at h1 h2 hi hc
  obtain⟨kf,hkf⟩:∃kf:Nat,x.func=kf:=⟨x.func.toNat,by omega⟩
  obtain⟨kp,hkp⟩:∃kp:Nat,x.pc=kp:=⟨x.pc.toNat,by omega⟩
  rw[hkf,Int.toNat_natCast] at hp1' hop
  rw[hkp,Int.toNat_natCast] at hop
  rw[hkp] at hp1'
  have hkfl:kf<fs.length:=by omega
  have hkpl:kp<(ax fs kf).code.length:=by omega
  obtain⟨F1,d1,F2,d2,hfl,hfc,hfi,hfcell⟩:=hs.fn hkfl
  have bc:=bR hfc
  rw[hop] at hE
  refine eH (t:=136) (v':= .bool false) rfl (congrArg Value.bool (decide_eq_false (by omega))) ?_
  refine aS ha 1 [3,8,131,136,137] rfl<|av rfl (aj fc cF rfl rfl (by rfl)) rfl rfl ha ?_
  refine aS ha 1 [3,8,131,136,138,139] rfl<|av rfl (aj fc bG rfl rfl (by rfl)) rfl rfl ha ?_
  refine aS ha 1 [3,8,131,136,138,140,141] rfl<|av rfl (cn rfl rfl rfl (by omega)) rfl rfl ha ?_
  refine eH (t:=142) (v':= .int .i64 (k:Int)) rfl (congrArg (Value.int .i64) (by omega)) ?_
  refine av rfl (aQ (k:=k) aT a7 (.ro hm.f) (by omega) rfl rfl rfl) rfl rfl ha ?_
  refine aS ha 1 [3,8,131,136,138,144] rfl<|av rfl (aZ (fun w hw=>hc _ w hw 0 _ rfl) rfl rfl aw) rfl rfl ha ?_
  refine eH (t:=145) (v':= .int .i64 (kf:Int)) rfl (congrArg (Value.int .i64) hkf) ?_
  refine av rfl (aQ (k:=kf) bA bq (.ro hs) (by omega) rfl rfl rfl) rfl rfl ha ?_
  refine aS ha 1 [3,8,131,136,147] rfl<|av rfl (aZ (fun w hw=>hfcell _ w hw 3 _ rfl) rfl rfl dk) rfl rfl ha ?_
  refine aS ha 1 [8,131,136,148,149] rfl<|av rfl (aj fc bG rfl rfl (by rfl)) rfl rfl ha ?_
  refine aS ha 1 [131,136,148,150,151] rfl<|av rfl (cn rfl rfl rfl (by omega)) rfl rfl ha ?_
  refine eH (t:=152) (v':= .int .i64 (k:Int)) rfl (congrArg (Value.int .i64) (by omega)) ?_
  refine av rfl (aQ (k:=k) aT a7 (.ro hm.f) (by omega) rfl rfl rfl) rfl rfl ha ?_
  refine aS ha 1 [131,136,148,154] rfl<|av rfl (aZ (fun w hw=>hc _ w hw 1 _ rfl) rfl rfl aw) rfl rfl ha ?_
  refine eH (t:=155) (v':= .int .i64 (kp:Int)) rfl (congrArg (Value.int .i64) hkp) ?_
  refine av rfl (aQ (k:=kp) bt cE (.ro hfc) (by omega) rfl rfl rfl) rfl rfl ha ?_
  refine aS ha 1 [131,136,157] rfl<|av rfl (aZ (SF.opc (.ro hfc) hkpl) rfl rfl aw) rfl rfl ha ?_
  refine aS ha 3 [161] rfl<|cu<|bX rfl (fun c21=>?_) (fun c21=>?_)
  ·rw[if_pos (.inr c21)] at hE
   subst hE
   refine ac<|aa<|rn 1 [4] rfl<|ae<|ap (ah ?_)
   refine au ew (am rfl) ?_
   intro w hw
   exact⟨rfl,hw.below⟩
  have c21:(bn (ax fs kf).code kp).c=21:=c21
  rw[if_neg (fun h=>h.elim i0 (fun h=>h c21))] at hE
  subst hE
  refine aq (ak ?_)
  refine ac<|aa<|rn 1 [4] rfl<|ae<|ap<|au ew (am rfl) ?_
  intro w hw
  exact⟨rfl,hw.below⟩
 rw[if_pos s1] at hE
 subst hE
 refine eH (t:=131) (v':= .bool false) rfl (congrArg Value.bool (decide_eq_false s1)) ?_
 refine aS ha 30 [161] rfl<|cu<|cK rfl<|aq (ak ?_)
 refine ac<|aa<|rn 1 [4] rfl<|ae<|ap<|au ew (am rfl) ?_
 intro w hw
 exact⟨rfl,hw.below⟩
set_option maxRecDepth 100000 in
theorem wb (Ap:Option Addr) (cp:Nat) (fs:List aA) (a:MA) (m:aI) (w:World) (hs:Sl w (.slice Ap fs.length cp) fs) (hm:dE w.heap.size w a m) (hfit:ie m.frames) :
  Calls Tryz.prog 15 #[.agg #[.slice Ap fs.length cp],.agg #[.slice a.Af m.frames.length a.cf,.slice a.Ab m.blocks.length a.cb,.slice a.Ai m.inn.length a.ci,.slice a.Ao m.out.length a.co,.int .i64 m.status,.int .i64 m.trap]] w fun e w'=>e= .returned (.int .i64 (dI fs m))∧Below w.heap.size w w':=by
 refine enter Tryz.func15 rfl Tryz.ntmps15 rfl ?_
 refine ac<|aa<|ai (bH rfl rfl rfl) rfl rfl (fun g1 _=>?_)
 refine ai (bH rfl rfl rfl) rfl rfl (fun g2 _=>?_)
 refine rn 1 [2,3] rfl<|ae<|ac<|aa<|af (aY (vs:= [_]) fc cA cg rfl rfl (by rfl) rfl) rfl rfl ?_
 refine ai (bB rfl rfl rfl Tryz.call16 (fun w hw=>pJ Ap cp fs w (hw.ro hs))) rfl rfl (fun _ _=>?_)
 refine rn 1 [2,3,5] rfl<|ae<|ac<|ac<|aa<|rn 2 [2,3,5,9] rfl<|ae<|ar rfl (fun h=>?_) (fun h=>?_)
 ·have h:fd fs=0:=h
  refine aa<|af (aY (vs:= [_]) fc cA cg rfl rfl (by rfl) rfl) rfl rfl ?_
  refine af (aY (vs:= [_,_,_,_,_,_]) fc bd aJ rfl rfl (by rfl) rfl) rfl rfl ?_
  refine ai (bB rfl rfl rfl Tryz.call19 (fun w hw=>uv a m Ap cp fs w (hw.ro hs) (dE.ro hw hm) (pQ h) hfit _ rfl)) rfl rfl (fun _ _=>?_)
  refine rn 1 [5] rfl<|ae<|ac<|aa<|rn 2 [4] rfl<|ae<|ap<|au Tryz.results15 (am rfl) ?_
  intro w hw
  exact⟨by unfold dI;rw[if_neg (fun h'=>h' h)],hw.below⟩
 have h:¬fd fs=0:=h
 refine aq (ak ?_)
 refine ac<|aa<|rn 2 [4] rfl<|ae<|ap<|au Tryz.results15 (am rfl) ?_
 intro w hw
 exact⟨by unfold dI;rw[if_pos h],hw.below⟩
end
section
set_option maxRecDepth 100000 in
set_option maxHeartbeats 8000000 in
theorem uC (a:MA) (m:aI) (w:World) (hm:dE w.heap.size w a m) (hfit:sE m) :
  Calls Tryz.prog 75 #[.agg #[.slice a.Af m.frames.length a.cf,.slice a.Ab m.blocks.length a.cb,.slice a.Ai m.inn.length a.ci,.slice a.Ao m.out.length a.co,.int .i64 m.status,.int .i64 m.trap]] w fun e w'=> ∃g:MA,True∧
   e= .returned (.agg #[.slice g.Af m.frames.length g.cf,.slice g.Ab m.blocks.length g.cb,.slice g.Ai m.inn.length g.ci,.slice g.Ao m.out.length g.co,.int .i64 m.status,.int .i64 m.trap])∧
   Cw w.heap.size w [an (.slice g.Af m.frames.length g.cf) m.frames,an (.slice g.Ab m.blocks.length g.cb) m.blocks,an (.slice g.Ai m.inn.length g.ci) m.inn,an (.slice g.Ao m.out.length g.co) m.out] w':=by
 have b1:=bR hm.f
 have hf64:=hfit.f.1
 have hfi:=hfit.i
 have hfo:=hfit.o
 refine enter Tryz.func75 rfl Tryz.ntmps75 rfl ?_
 refine ac<|aa<|ai (bH rfl rfl rfl) rfl rfl (fun g1 _=>?_)
 refine ai (a9 bw rfl rfl) rfl rfl (fun g2 _=>?_)
 refine ae<|ac<|aa<|af (aY (vs:= [_,_,_,_,_,_]) fc bd aJ rfl rfl (by rfl) rfl) rfl rfl ?_
 refine ai (a9 bw rfl rfl) rfl rfl (fun g3 _=>?_)
 refine ai (aM _ fc aJ rfl rfl rfl rfl rfl (by rfl) rfl (by rfl)) rfl rfl (fun _ _=>?_)
 refine ae<|eo (fun _:(Option Addr×Nat)×(Option Addr×Nat)×(Option Addr×Nat)=>True) (fun g=> [(1,.pointer (some ⟨g1,0,none⟩)),(2,.pointer (some ⟨g2,0,none⟩)),(3,.pointer (some ⟨g3,0,none⟩))]) (fun g=> [az g1 [.slice a.Af m.frames.length a.cf,.slice a.Ab m.blocks.length a.cb,.slice a.Ai m.inn.length a.ci,.slice a.Ao m.out.length a.co,.int .i64 m.status,.int .i64 m.trap] 29,az g2 [.slice none 0 0,.slice none 0 0,.slice none 0 0,.slice none 0 0,.int .i64 0,.int .i64 0] 29,az g3 [.slice none 0 0,.slice g.1.1 m.blocks.length g.1.2,.slice g.2.1.1 m.inn.length g.2.1.2,.slice g.2.2.1 m.out.length g.2.2.2,.int .i64 m.status,.int .i64 m.trap] 29,an (.slice g.1.1 m.blocks.length g.1.2) m.blocks,an (.slice g.2.1.1 m.inn.length g.2.1.2) m.inn,an (.slice g.2.2.1 m.out.length g.2.2.2) m.out]) ?_ ?_
 ·refine bV (.still 0 (.still 1 (.still 4 (.still 5 (.still 8 (.still 9 (.pick 2 (.still 11 (.pick 3 (.pick 6 (.pick 7 (.pick 10 (.pick 12 (.calm 13 (.pick 14 (.calm 15 (.pick 16 (.calm 17 (.pick 18 .done .stop)) .stop)) .stop)) .stop) .stop) .stop) (.pick 7 (.pick 6 (.pick 10 (.pick 12 (.calm 13 (.pick 14 (.calm 15 (.pick 16 (.calm 17 (.pick 18 .done .stop)) .stop)) .stop)) .stop) .stop) .stop) .stop)) (.pick 7 (.pick 3 (.pick 6 (.pick 10 (.pick 12 (.calm 13 (.pick 14 (.calm 15 (.pick 16 (.calm 17 (.pick 18 .done .stop)) .stop)) .stop)) .stop) .stop) .stop) .stop) .stop))) (.pick 3 (.pick 2 (.still 11 (.pick 6 (.pick 7 (.pick 10 (.pick 12 (.calm 13 (.pick 14 (.calm 15 (.pick 16 (.calm 17 (.pick 18 .done .stop)) .stop)) .stop)) .stop) .stop) .stop) (.pick 7 (.pick 6 (.pick 10 (.pick 12 (.calm 13 (.pick 14 (.calm 15 (.pick 16 (.calm 17 (.pick 18 .done .stop)) .stop)) .stop)) .stop) .stop) .stop) .stop))) (.pick 7 (.pick 2 (.still 11 (.pick 6 (.pick 10 (.pick 12 (.calm 13 (.pick 14 (.calm 15 (.pick 16 (.calm 17 (.pick 18 .done .stop)) .stop)) .stop)) .stop) .stop) .stop)) .stop) .stop)) (.pick 7 (.pick 2 (.still 11 (.pick 3 (.pick 6 (.pick 10 (.pick 12 (.calm 13 (.pick 14 (.calm 15 (.pick 16 (.calm 17 (.pick 18 .done .stop)) .stop)) .stop)) .stop) .stop) .stop) .stop)) (.pick 3 (.pick 2 (.still 11 (.pick 6 (.pick 10 (.pick 12 (.calm 13 (.pick 14 (.calm 15 (.pick 16 (.calm 17 (.pick 18 .done .stop)) .stop)) .stop)) .stop) .stop) .stop)) .stop) .stop)) .stop))))))))) [12,13,14,15,16,17,18] rfl (by kernel_rfl) (by kernel_rfl) ?_
  refine aS ha 1 [1,2,3,7] rfl<|av rfl (aj fc dp rfl rfl (by rfl)) rfl rfl ha ?_
  refine aS ha 1 [1,2,3,8,11] rfl<|av rfl (aj fc aW rfl rfl (by rfl)) rfl rfl ha ?_
  refine aS ha 1 [1,2,3,8,12,15] rfl<|av rfl (aj fc aW rfl rfl (by rfl)) rfl rfl ha ?_
  refine aB rfl (d9 rfl rfl rfl sR (fun w hw=>j5 _ m.blocks w (hw.ro hm.b) hfit.b)) rfl rfl (.inr fun _=>ha) (fun⟨A1,c1⟩ _=>?_) ?_
  ·try dsimp only
   refine aS ha 1 [1,2,3,9,12,16,18] rfl<|aB rfl ((a8 (cs:= []) ag aF aV rfl rfl rfl rfl rfl).mem (H'':=fun g=>an (.slice (some ⟨g,0,none⟩) 0 0) ([]:List Int)::_) fun g w h=>bW (α:=Int) (m:=0) [] rfl (by simp) rfl (by decide) h) rfl rfl (.inr fun _=>ha) (fun ge _=>?_) ?_
   ·refine aB rfl (cT (α:=Int) (bytes:=8) (xs:= []) (ys:=m.inn) (List.nil_append m.inn).symm ag (bN cJ) rfl fc (.ro hm.i) (by simp only[List.length_nil];omega) (by simp only[List.length_nil];omega) rfl rfl rfl) rfl rfl (.inr fun _=>ha) (fun⟨A2,c2⟩ _=>?_) ?_
    ·try dsimp only
     refine aB rfl ((a8 (cs:= []) ag aF aV rfl rfl rfl rfl rfl).mem (H'':=fun g=>an (.slice (some ⟨g,0,none⟩) 0 0) ([]:List Int)::_) fun g w h=>bW (α:=Int) (m:=0) [] rfl (by simp) rfl (by decide) h) rfl rfl (.inr fun _=>ha) (fun gf _=>?_) ay
     refine aB rfl (cT (α:=Int) (bytes:=8) (xs:= []) (ys:=m.out) (List.nil_append m.out).symm ag (bN cJ) rfl fc (.ro hm.o) (by simp only[List.length_nil];omega) (by simp only[List.length_nil];omega) rfl rfl rfl) rfl rfl (.inr fun _=>ha) (fun⟨A3,c3⟩ _=>?_) ay
     try dsimp only
     refine aB rfl (aM _ fc fM rfl rfl rfl rfl rfl (by rfl) rfl (by rfl)) rfl rfl (.inl rfl) (fun _ _=>?_) ay
     refine dY 1 [1,2,3,13,17,19] rfl<|aB rfl (aM _ fc bJ rfl rfl rfl rfl rfl (by rfl) rfl (by rfl)) rfl rfl (.inl rfl) (fun _ _=>?_) ay
     refine dY 1 [1,2,3,17,20] rfl<|aB rfl (aM _ fc bJ rfl rfl rfl rfl rfl (by rfl) rfl (by rfl)) rfl rfl (.inl rfl) (fun _ _=>?_) ay
     refine dY 1 [1,2,3,21] rfl<|aB rfl (aM _ fc fN rfl rfl rfl rfl rfl (by rfl) rfl (by rfl)) rfl rfl (.inl rfl) (fun _ _=>?_) ay
     refine cD<|be ((A1,c1),(A2,c2),(A3,c3)) (trivial) ⟨rfl,rfl,rfl,trivial⟩ (fun _ h=>h.msub ms)
    refine aB rfl ((a8 (cs:= []) ag aF aV rfl rfl rfl rfl rfl).mem (H'':=fun g=>an (.slice (some ⟨g,0,none⟩) 0 0) ([]:List Int)::_) fun g w h=>bW (α:=Int) (m:=0) [] rfl (by simp) rfl (by decide) h) rfl rfl (.inr fun _=>ha) (fun gf _=>?_) ay
    refine aB rfl (cT (α:=Int) (bytes:=8) (xs:= []) (ys:=m.inn) (List.nil_append m.inn).symm ag (bN cJ) rfl fc (.ro hm.i) (by simp only[List.length_nil];omega) (by simp only[List.length_nil];omega) rfl rfl rfl) rfl rfl (.inr fun _=>ha) (fun⟨A2,c2⟩ _=>?_) ay
    try dsimp only
    refine aB rfl (cT (α:=Int) (bytes:=8) (xs:= []) (ys:=m.out) (List.nil_append m.out).symm ag (bN cJ) rfl fc (.ro hm.o) (by simp only[List.length_nil];omega) (by simp only[List.length_nil];omega) rfl rfl rfl) rfl rfl (.inr fun _=>ha) (fun⟨A3,c3⟩ _=>?_) ay
    try dsimp only
    refine aB rfl (aM _ fc fM rfl rfl rfl rfl rfl (by rfl) rfl (by rfl)) rfl rfl (.inl rfl) (fun _ _=>?_) ay
    refine dY 1 [1,2,3,13,17,19] rfl<|aB rfl (aM _ fc bJ rfl rfl rfl rfl rfl (by rfl) rfl (by rfl)) rfl rfl (.inl rfl) (fun _ _=>?_) ay
    refine dY 1 [1,2,3,17,20] rfl<|aB rfl (aM _ fc bJ rfl rfl rfl rfl rfl (by rfl) rfl (by rfl)) rfl rfl (.inl rfl) (fun _ _=>?_) ay
    refine dY 1 [1,2,3,21] rfl<|aB rfl (aM _ fc fN rfl rfl rfl rfl rfl (by rfl) rfl (by rfl)) rfl rfl (.inl rfl) (fun _ _=>?_) ay
    refine cD<|be ((A1,c1),(A2,c2),(A3,c3)) (trivial) ⟨rfl,rfl,rfl,trivial⟩ (fun _ h=>h.msub ms)
   refine aB rfl ((a8 (cs:= []) ag aF aV rfl rfl rfl rfl rfl).mem (H'':=fun g=>an (.slice (some ⟨g,0,none⟩) 0 0) ([]:List Int)::_) fun g w h=>bW (α:=Int) (m:=0) [] rfl (by simp) rfl (by decide) h) rfl rfl (.inr fun _=>ha) (fun gf _=>?_) ay
   refine aB rfl ((a8 (cs:= []) ag aF aV rfl rfl rfl rfl rfl).mem (H'':=fun g=>an (.slice (some ⟨g,0,none⟩) 0 0) ([]:List Int)::_) fun g w h=>bW (α:=Int) (m:=0) [] rfl (by simp) rfl (by decide) h) rfl rfl (.inr fun _=>ha) (fun ge _=>?_) ay
   refine aB rfl (cT (α:=Int) (bytes:=8) (xs:= []) (ys:=m.inn) (List.nil_append m.inn).symm ag (bN cJ) rfl fc (.ro hm.i) (by simp only[List.length_nil];omega) (by simp only[List.length_nil];omega) rfl rfl rfl) rfl rfl (.inr fun _=>ha) (fun⟨A2,c2⟩ _=>?_) ay
   try dsimp only
   refine aB rfl (cT (α:=Int) (bytes:=8) (xs:= []) (ys:=m.out) (List.nil_append m.out).symm ag (bN cJ) rfl fc (.ro hm.o) (by simp only[List.length_nil];omega) (by simp only[List.length_nil];omega) rfl rfl rfl) rfl rfl (.inr fun _=>ha) (fun⟨A3,c3⟩ _=>?_) ay
   try dsimp only
   refine aB rfl (aM _ fc fM rfl rfl rfl rfl rfl (by rfl) rfl (by rfl)) rfl rfl (.inl rfl) (fun _ _=>?_) ay
   refine dY 1 [1,2,3,13,17,19] rfl<|aB rfl (aM _ fc bJ rfl rfl rfl rfl rfl (by rfl) rfl (by rfl)) rfl rfl (.inl rfl) (fun _ _=>?_) ay
   refine dY 1 [1,2,3,17,20] rfl<|aB rfl (aM _ fc bJ rfl rfl rfl rfl rfl (by rfl) rfl (by rfl)) rfl rfl (.inl rfl) (fun _ _=>?_) ay
   refine dY 1 [1,2,3,21] rfl<|aB rfl (aM _ fc fN rfl rfl rfl rfl rfl (by rfl) rfl (by rfl)) rfl rfl (.inl rfl) (fun _ _=>?_) ay
   refine cD<|be ((A1,c1),(A2,c2),(A3,c3)) (trivial) ⟨rfl,rfl,rfl,trivial⟩ (fun _ h=>h.msub ms)
  refine aB rfl ((a8 (cs:= []) ag aF aV rfl rfl rfl rfl rfl).mem (H'':=fun g=>an (.slice (some ⟨g,0,none⟩) 0 0) ([]:List Int)::_) fun g w h=>bW (α:=Int) (m:=0) [] rfl (by simp) rfl (by decide) h) rfl rfl (.inr fun _=>ha) (fun ge _=>?_) ?_
  ·refine aB rfl (d9 rfl rfl rfl sR (fun w hw=>j5 _ m.blocks w (hw.ro hm.b) hfit.b)) rfl rfl (.inr fun _=>ha) (fun⟨A1,c1⟩ _=>?_) ?_
   ·try dsimp only
    refine aS ha 1 [1,2,3,9,10,12,16,18] rfl<|aB rfl (cT (α:=Int) (bytes:=8) (xs:= []) (ys:=m.inn) (List.nil_append m.inn).symm ag (bN cJ) rfl fc (.ro hm.i) (by simp only[List.length_nil];omega) (by simp only[List.length_nil];omega) rfl rfl rfl) rfl rfl (.inr fun _=>ha) (fun⟨A2,c2⟩ _=>?_) ?_
    ·try dsimp only
     refine aB rfl ((a8 (cs:= []) ag aF aV rfl rfl rfl rfl rfl).mem (H'':=fun g=>an (.slice (some ⟨g,0,none⟩) 0 0) ([]:List Int)::_) fun g w h=>bW (α:=Int) (m:=0) [] rfl (by simp) rfl (by decide) h) rfl rfl (.inr fun _=>ha) (fun gf _=>?_) ay
     refine aB rfl (cT (α:=Int) (bytes:=8) (xs:= []) (ys:=m.out) (List.nil_append m.out).symm ag (bN cJ) rfl fc (.ro hm.o) (by simp only[List.length_nil];omega) (by simp only[List.length_nil];omega) rfl rfl rfl) rfl rfl (.inr fun _=>ha) (fun⟨A3,c3⟩ _=>?_) ay
     try dsimp only
     refine aB rfl (aM _ fc fM rfl rfl rfl rfl rfl (by rfl) rfl (by rfl)) rfl rfl (.inl rfl) (fun _ _=>?_) ay
     refine dY 1 [1,2,3,13,17,19] rfl<|aB rfl (aM _ fc bJ rfl rfl rfl rfl rfl (by rfl) rfl (by rfl)) rfl rfl (.inl rfl) (fun _ _=>?_) ay
     refine dY 1 [1,2,3,17,20] rfl<|aB rfl (aM _ fc bJ rfl rfl rfl rfl rfl (by rfl) rfl (by rfl)) rfl rfl (.inl rfl) (fun _ _=>?_) ay
     refine dY 1 [1,2,3,21] rfl<|aB rfl (aM _ fc fN rfl rfl rfl rfl rfl (by rfl) rfl (by rfl)) rfl rfl (.inl rfl) (fun _ _=>?_) ay
     refine cD<|be ((A1,c1),(A2,c2),(A3,c3)) (trivial) ⟨rfl,rfl,rfl,trivial⟩ (fun _ h=>h.msub ms)
    refine aB rfl ((a8 (cs:= []) ag aF aV rfl rfl rfl rfl rfl).mem (H'':=fun g=>an (.slice (some ⟨g,0,none⟩) 0 0) ([]:List Int)::_) fun g w h=>bW (α:=Int) (m:=0) [] rfl (by simp) rfl (by decide) h) rfl rfl (.inr fun _=>ha) (fun gf _=>?_) ay
    refine aB rfl (cT (α:=Int) (bytes:=8) (xs:= []) (ys:=m.inn) (List.nil_append m.inn).symm ag (bN cJ) rfl fc (.ro hm.i) (by simp only[List.length_nil];omega) (by simp only[List.length_nil];omega) rfl rfl rfl) rfl rfl (.inr fun _=>ha) (fun⟨A2,c2⟩ _=>?_) ay
    try dsimp only
    refine aB rfl (cT (α:=Int) (bytes:=8) (xs:= []) (ys:=m.out) (List.nil_append m.out).symm ag (bN cJ) rfl fc (.ro hm.o) (by simp only[List.length_nil];omega) (by simp only[List.length_nil];omega) rfl rfl rfl) rfl rfl (.inr fun _=>ha) (fun⟨A3,c3⟩ _=>?_) ay
    try dsimp only
    refine aB rfl (aM _ fc fM rfl rfl rfl rfl rfl (by rfl) rfl (by rfl)) rfl rfl (.inl rfl) (fun _ _=>?_) ay
    refine dY 1 [1,2,3,13,17,19] rfl<|aB rfl (aM _ fc bJ rfl rfl rfl rfl rfl (by rfl) rfl (by rfl)) rfl rfl (.inl rfl) (fun _ _=>?_) ay
    refine dY 1 [1,2,3,17,20] rfl<|aB rfl (aM _ fc bJ rfl rfl rfl rfl rfl (by rfl) rfl (by rfl)) rfl rfl (.inl rfl) (fun _ _=>?_) ay
    refine dY 1 [1,2,3,21] rfl<|aB rfl (aM _ fc fN rfl rfl rfl rfl rfl (by rfl) rfl (by rfl)) rfl rfl (.inl rfl) (fun _ _=>?_) ay
    refine cD<|be ((A1,c1),(A2,c2),(A3,c3)) (trivial) ⟨rfl,rfl,rfl,trivial⟩ (fun _ h=>h.msub ms)
   refine aB rfl ((a8 (cs:= []) ag aF aV rfl rfl rfl rfl rfl).mem (H'':=fun g=>an (.slice (some ⟨g,0,none⟩) 0 0) ([]:List Int)::_) fun g w h=>bW (α:=Int) (m:=0) [] rfl (by simp) rfl (by decide) h) rfl rfl (.inr fun _=>ha) (fun gf _=>?_) ay
   refine aB rfl (d9 rfl rfl rfl sR (fun w hw=>j5 _ m.blocks w (hw.ro hm.b) hfit.b)) rfl rfl (.inr fun _=>ha) (fun⟨A1,c1⟩ _=>?_) ay
   try dsimp only
   refine aS ha 1 [1,2,3,9,10,12,14,16,18] rfl<|aB rfl (cT (α:=Int) (bytes:=8) (xs:= []) (ys:=m.inn) (List.nil_append m.inn).symm ag (bN cJ) rfl fc (.ro hm.i) (by simp only[List.length_nil];omega) (by simp only[List.length_nil];omega) rfl rfl rfl) rfl rfl (.inr fun _=>ha) (fun⟨A2,c2⟩ _=>?_) ay
   try dsimp only
   refine aB rfl (cT (α:=Int) (bytes:=8) (xs:= []) (ys:=m.out) (List.nil_append m.out).symm ag (bN cJ) rfl fc (.ro hm.o) (by simp only[List.length_nil];omega) (by simp only[List.length_nil];omega) rfl rfl rfl) rfl rfl (.inr fun _=>ha) (fun⟨A3,c3⟩ _=>?_) ay
   try dsimp only
   refine aB rfl (aM _ fc fM rfl rfl rfl rfl rfl (by rfl) rfl (by rfl)) rfl rfl (.inl rfl) (fun _ _=>?_) ay
   refine dY 1 [1,2,3,13,17,19] rfl<|aB rfl (aM _ fc bJ rfl rfl rfl rfl rfl (by rfl) rfl (by rfl)) rfl rfl (.inl rfl) (fun _ _=>?_) ay
   refine dY 1 [1,2,3,17,20] rfl<|aB rfl (aM _ fc bJ rfl rfl rfl rfl rfl (by rfl) rfl (by rfl)) rfl rfl (.inl rfl) (fun _ _=>?_) ay
   refine dY 1 [1,2,3,21] rfl<|aB rfl (aM _ fc fN rfl rfl rfl rfl rfl (by rfl) rfl (by rfl)) rfl rfl (.inl rfl) (fun _ _=>?_) ay
   refine cD<|be ((A1,c1),(A2,c2),(A3,c3)) (trivial) ⟨rfl,rfl,rfl,trivial⟩ (fun _ h=>h.msub ms)
  refine aB rfl ((a8 (cs:= []) ag aF aV rfl rfl rfl rfl rfl).mem (H'':=fun g=>an (.slice (some ⟨g,0,none⟩) 0 0) ([]:List Int)::_) fun g w h=>bW (α:=Int) (m:=0) [] rfl (by simp) rfl (by decide) h) rfl rfl (.inr fun _=>ha) (fun gf _=>?_) ay
  refine aB rfl (d9 rfl rfl rfl sR (fun w hw=>j5 _ m.blocks w (hw.ro hm.b) hfit.b)) rfl rfl (.inr fun _=>ha) (fun⟨A1,c1⟩ _=>?_) ?_
  ·try dsimp only
   refine aS ha 1 [1,2,3,9,12,14,16,18] rfl<|aB rfl ((a8 (cs:= []) ag aF aV rfl rfl rfl rfl rfl).mem (H'':=fun g=>an (.slice (some ⟨g,0,none⟩) 0 0) ([]:List Int)::_) fun g w h=>bW (α:=Int) (m:=0) [] rfl (by simp) rfl (by decide) h) rfl rfl (.inr fun _=>ha) (fun ge _=>?_) ay
   refine aB rfl (cT (α:=Int) (bytes:=8) (xs:= []) (ys:=m.inn) (List.nil_append m.inn).symm ag (bN cJ) rfl fc (.ro hm.i) (by simp only[List.length_nil];omega) (by simp only[List.length_nil];omega) rfl rfl rfl) rfl rfl (.inr fun _=>ha) (fun⟨A2,c2⟩ _=>?_) ay
   try dsimp only
   refine aB rfl (cT (α:=Int) (bytes:=8) (xs:= []) (ys:=m.out) (List.nil_append m.out).symm ag (bN cJ) rfl fc (.ro hm.o) (by simp only[List.length_nil];omega) (by simp only[List.length_nil];omega) rfl rfl rfl) rfl rfl (.inr fun _=>ha) (fun⟨A3,c3⟩ _=>?_) ay
   try dsimp only
   refine aB rfl (aM _ fc fM rfl rfl rfl rfl rfl (by rfl) rfl (by rfl)) rfl rfl (.inl rfl) (fun _ _=>?_) ay
   refine dY 1 [1,2,3,13,17,19] rfl<|aB rfl (aM _ fc bJ rfl rfl rfl rfl rfl (by rfl) rfl (by rfl)) rfl rfl (.inl rfl) (fun _ _=>?_) ay
   refine dY 1 [1,2,3,17,20] rfl<|aB rfl (aM _ fc bJ rfl rfl rfl rfl rfl (by rfl) rfl (by rfl)) rfl rfl (.inl rfl) (fun _ _=>?_) ay
   refine dY 1 [1,2,3,21] rfl<|aB rfl (aM _ fc fN rfl rfl rfl rfl rfl (by rfl) rfl (by rfl)) rfl rfl (.inl rfl) (fun _ _=>?_) ay
   refine cD<|be ((A1,c1),(A2,c2),(A3,c3)) (trivial) ⟨rfl,rfl,rfl,trivial⟩ (fun _ h=>h.msub ms)
  refine aB rfl ((a8 (cs:= []) ag aF aV rfl rfl rfl rfl rfl).mem (H'':=fun g=>an (.slice (some ⟨g,0,none⟩) 0 0) ([]:List Int)::_) fun g w h=>bW (α:=Int) (m:=0) [] rfl (by simp) rfl (by decide) h) rfl rfl (.inr fun _=>ha) (fun ge _=>?_) ay
  refine aB rfl (d9 rfl rfl rfl sR (fun w hw=>j5 _ m.blocks w (hw.ro hm.b) hfit.b)) rfl rfl (.inr fun _=>ha) (fun⟨A1,c1⟩ _=>?_) ay
  try dsimp only
  refine aS ha 1 [1,2,3,9,10,12,14,16,18] rfl<|aB rfl (cT (α:=Int) (bytes:=8) (xs:= []) (ys:=m.inn) (List.nil_append m.inn).symm ag (bN cJ) rfl fc (.ro hm.i) (by simp only[List.length_nil];omega) (by simp only[List.length_nil];omega) rfl rfl rfl) rfl rfl (.inr fun _=>ha) (fun⟨A2,c2⟩ _=>?_) ay
  try dsimp only
  refine aB rfl (cT (α:=Int) (bytes:=8) (xs:= []) (ys:=m.out) (List.nil_append m.out).symm ag (bN cJ) rfl fc (.ro hm.o) (by simp only[List.length_nil];omega) (by simp only[List.length_nil];omega) rfl rfl rfl) rfl rfl (.inr fun _=>ha) (fun⟨A3,c3⟩ _=>?_) ay
  try dsimp only
  refine aB rfl (aM _ fc fM rfl rfl rfl rfl rfl (by rfl) rfl (by rfl)) rfl rfl (.inl rfl) (fun _ _=>?_) ay
  refine dY 1 [1,2,3,13,17,19] rfl<|aB rfl (aM _ fc bJ rfl rfl rfl rfl rfl (by rfl) rfl (by rfl)) rfl rfl (.inl rfl) (fun _ _=>?_) ay
  refine dY 1 [1,2,3,17,20] rfl<|aB rfl (aM _ fc bJ rfl rfl rfl rfl rfl (by rfl) rfl (by rfl)) rfl rfl (.inl rfl) (fun _ _=>?_) ay
  refine dY 1 [1,2,3,21] rfl<|aB rfl (aM _ fc fN rfl rfl rfl rfl rfl (by rfl) rfl (by rfl)) rfl rfl (.inl rfl) (fun _ _=>?_) ay
  refine cD<|be ((A1,c1),(A2,c2),(A3,c3)) (trivial) ⟨rfl,rfl,rfl,trivial⟩ (fun _ h=>h.msub ms)
 rintro⟨⟨Ab,cb⟩,⟨Ai,ci⟩,⟨Ao,co⟩⟩ _
 try dsimp only
 refine dx (fun w h=>Cw.nilO aO h) ?_
 refine ac<|ac<|aa<|rn 1 [1,2,3,4] rfl<|ae<|aE (bD (fun g:Nat×Option Addr×Nat=>g.1≤m.frames.length) (fun g=>m.frames.length - g.1) (fun g=> [(1,.pointer (some ⟨g1,0,none⟩)),(2,.pointer (some ⟨g2,0,none⟩)),(3,.pointer (some ⟨g3,0,none⟩)),(4,.int .i64 (g.1:Int))]) (fun g=> [an (.slice g.2.1 (m.frames.take g.1).length g.2.2) (m.frames.take g.1),az g1 [.slice a.Af m.frames.length a.cf,.slice a.Ab m.blocks.length a.cb,.slice a.Ai m.inn.length a.ci,.slice a.Ao m.out.length a.co,.int .i64 m.status,.int .i64 m.trap] 29,az g2 [.slice none 0 0,.slice none 0 0,.slice none 0 0,.slice none 0 0,.int .i64 0,.int .i64 0] 29,an (.slice Ab m.blocks.length cb) m.blocks,an (.slice Ai m.inn.length ci) m.inn,an (.slice Ao m.out.length co) m.out,az g3 [.slice g.2.1 (m.frames.take g.1).length g.2.2,.slice Ab m.blocks.length cb,.slice Ai m.inn.length ci,.slice Ao m.out.length co,.int .i64 m.status,.int .i64 m.trap] 29]) (0,none,0) (Nat.zero_le _) ⟨rfl,rfl,rfl,rfl,trivial⟩ me ?_)
 rintro⟨k,A',c'⟩ hk
 try dsimp only
 have hk:k≤m.frames.length:=hk
 have htl:(m.frames.take k).length=k:=by rw[List.length_take];omega
 refine ac<|ac<|aa<|rn 2 [1,2,3,4,22,23] rfl<|af (aj fc bG rfl rfl (by rfl)) rfl rfl ?_
 refine af (aL aT rfl rfl) rfl rfl<|rn 1 [1,2,3,4,26] rfl<|ae<|ar rfl (fun hlt=>?_) (fun hlt=>?_)
 ·have hkl:k<m.frames.length:=by omega
  obtain⟨A1,c1,A2,c2,hl,hst,hi,hcell⟩:=hm.f.fr hkl
  obtain⟨hb1,hb2⟩:=hfit.f.2 (aN m.frames k) (dW hkl)
  have htk:=lG hkl
  refine aq (ak ?_)
  refine ac<|aE<|ac<|aa<|rn 1 [1,2,3,4,29] rfl<|af (aj fc bG rfl rfl (by rfl)) rfl rfl ?_
  refine rn 1 [1,2,3,4,30,31] rfl<|af (aQ (k:=k) aT a7 (.ro hm.f) (by omega) rfl rfl rfl) rfl rfl<|af (cL (hcell _) rfl rfl gl a7) rfl rfl<|ai (a9 cY rfl rfl) rfl rfl (fun g4 _=>?_)
  refine ai (aM _ fc a7 rfl rfl rfl rfl rfl (by rfl) rfl (by rfl)) rfl rfl (fun _ _=>?_)
  refine ae<|eo (fun _:(Option Addr×Nat)×(Option Addr×Nat)=>True) (fun g=> [(1,.pointer (some ⟨g1,0,none⟩)),(2,.pointer (some ⟨g2,0,none⟩)),(3,.pointer (some ⟨g3,0,none⟩)),(4,.int .i64 (k:Int)),(5,.pointer (some ⟨g4,0,none⟩))]) (fun g=> [az g4 [.int .i64 (aN m.frames k).func,.int .i64 (aN m.frames k).pc,.slice g.1.1 (aN m.frames k).locals.length g.1.2,.slice g.2.1 (aN m.frames k).stack.length g.2.2] 97,an (.slice g.1.1 (aN m.frames k).locals.length g.1.2) (aN m.frames k).locals,an (.slice g.2.1 (aN m.frames k).stack.length g.2.2) (aN m.frames k).stack,an (.slice A' (m.frames.take k).length c') (m.frames.take k),az g1 [.slice a.Af m.frames.length a.cf,.slice a.Ab m.blocks.length a.cb,.slice a.Ai m.inn.length a.ci,.slice a.Ao m.out.length a.co,.int .i64 m.status,.int .i64 m.trap] 29,az g2 [.slice none 0 0,.slice none 0 0,.slice none 0 0,.slice none 0 0,.int .i64 0,.int .i64 0] 29,an (.slice Ab m.blocks.length cb) m.blocks,an (.slice Ai m.inn.length ci) m.inn,an (.slice Ao m.out.length co) m.out,az g3 [.slice A' (m.frames.take k).length c',.slice Ab m.blocks.length cb,.slice Ai m.inn.length ci,.slice Ao m.out.length co,.int .i64 m.status,.int .i64 m.trap] 29]) ?_ ?_
  ·refine bV (.still 1 (.still 2 (.still 5 (.still 6 (.pick 0 (.pick 3 (.calm 8 (.pick 4 (.pick 7 (.pick 9 (.calm 10 (.pick 11 .done .stop)) .stop) .stop) .stop)) (.pick 4 (.pick 3 (.calm 8 (.pick 7 (.pick 9 (.calm 10 (.pick 11 .done .stop)) .stop) .stop)) .stop) .stop)) (.pick 4 (.pick 0 (.pick 3 (.calm 8 (.pick 7 (.pick 9 (.calm 10 (.pick 11 .done .stop)) .stop) .stop)) .stop) .stop) .stop)))))) [7,8,9,10,11] rfl (by kernel_rfl) (by kernel_rfl) ?_
   refine aS ha 1 [1,2,3,4,5,35] rfl<|av rfl (aj fc bZ rfl rfl (by rfl)) rfl rfl ha ?_
   refine aS ha 1 [1,2,3,4,5,36,39] rfl<|av rfl (aj fc bZ rfl rfl (by rfl)) rfl rfl ha ?_
   refine aB rfl ((a8 (cs:= []) aD aP bK rfl rfl rfl rfl rfl).mem (H'':=fun g=>an (.slice (some ⟨g,0,none⟩) 0 0) ([]:List aR)::_) fun g w h=>bW (α:=aR) (m:=0) [] rfl (by simp) rfl (by decide) h) rfl rfl (.inr fun _=>ha) (fun ge _=>?_) ?_
   ·refine aB rfl (cT (α:=aR) (bytes:=16) (xs:= []) (ys:=(aN m.frames k).locals) (List.nil_append _).symm aD (bN dy) rfl fc (.ro hl) (by simp only[List.length_nil];omega) (by simp only[List.length_nil];omega) rfl rfl rfl) rfl rfl (.inr fun _=>ha) (fun⟨A3,c3⟩ _=>?_) ?_
    ·try dsimp only
     refine dY 1 [1,2,3,4,5,37,40,42] rfl<|aB rfl ((a8 (cs:= []) aD aP bK rfl rfl rfl rfl rfl).mem (H'':=fun g=>an (.slice (some ⟨g,0,none⟩) 0 0) ([]:List aR)::_) fun g w h=>bW (α:=aR) (m:=0) [] rfl (by simp) rfl (by decide) h) rfl rfl (.inr fun _=>ha) (fun gf _=>?_) ay
     refine aB rfl (cT (α:=aR) (bytes:=16) (xs:= []) (ys:=(aN m.frames k).stack) (List.nil_append _).symm aD (bN dy) rfl fc (.ro hst) (by simp only[List.length_nil];omega) (by simp only[List.length_nil];omega) rfl rfl rfl) rfl rfl (.inl rfl) (fun⟨A4,c4⟩ _=>?_) ay
     try dsimp only
     refine aB rfl (aM _ fc dF rfl rfl rfl rfl rfl (by rfl) rfl (by rfl)) rfl rfl (.inl rfl) (fun _ _=>?_) ay
     refine dY 1 [1,2,3,4,5,41,43] rfl<|aB rfl (aM _ fc dF rfl rfl rfl rfl rfl (by rfl) rfl (by rfl)) rfl rfl (.inl rfl) (fun _ _=>?_) ay
     refine cD<|be ((A3,c3),(A4,c4)) (trivial) ⟨rfl,rfl,rfl,rfl,rfl,trivial⟩ (fun _ h=>h.msub ms)
    refine aB rfl ((a8 (cs:= []) aD aP bK rfl rfl rfl rfl rfl).mem (H'':=fun g=>an (.slice (some ⟨g,0,none⟩) 0 0) ([]:List aR)::_) fun g w h=>bW (α:=aR) (m:=0) [] rfl (by simp) rfl (by decide) h) rfl rfl (.inr fun _=>ha) (fun gf _=>?_) ay
    refine aB rfl (cT (α:=aR) (bytes:=16) (xs:= []) (ys:=(aN m.frames k).locals) (List.nil_append _).symm aD (bN dy) rfl fc (.ro hl) (by simp only[List.length_nil];omega) (by simp only[List.length_nil];omega) rfl rfl rfl) rfl rfl (.inr fun _=>ha) (fun⟨A3,c3⟩ _=>?_) ay
    try dsimp only
    refine dY 1 [1,2,3,4,5,37,38,40,42] rfl<|aB rfl (cT (α:=aR) (bytes:=16) (xs:= []) (ys:=(aN m.frames k).stack) (List.nil_append _).symm aD (bN dy) rfl fc (.ro hst) (by simp only[List.length_nil];omega) (by simp only[List.length_nil];omega) rfl rfl rfl) rfl rfl (.inl rfl) (fun⟨A4,c4⟩ _=>?_) ay
    try dsimp only
    refine aB rfl (aM _ fc dF rfl rfl rfl rfl rfl (by rfl) rfl (by rfl)) rfl rfl (.inl rfl) (fun _ _=>?_) ay
    refine dY 1 [1,2,3,4,5,41,43] rfl<|aB rfl (aM _ fc dF rfl rfl rfl rfl rfl (by rfl) rfl (by rfl)) rfl rfl (.inl rfl) (fun _ _=>?_) ay
    refine cD<|be ((A3,c3),(A4,c4)) (trivial) ⟨rfl,rfl,rfl,rfl,rfl,trivial⟩ (fun _ h=>h.msub ms)
   refine aB rfl ((a8 (cs:= []) aD aP bK rfl rfl rfl rfl rfl).mem (H'':=fun g=>an (.slice (some ⟨g,0,none⟩) 0 0) ([]:List aR)::_) fun g w h=>bW (α:=aR) (m:=0) [] rfl (by simp) rfl (by decide) h) rfl rfl (.inr fun _=>ha) (fun gf _=>?_) ay
   refine aB rfl ((a8 (cs:= []) aD aP bK rfl rfl rfl rfl rfl).mem (H'':=fun g=>an (.slice (some ⟨g,0,none⟩) 0 0) ([]:List aR)::_) fun g w h=>bW (α:=aR) (m:=0) [] rfl (by simp) rfl (by decide) h) rfl rfl (.inr fun _=>ha) (fun ge _=>?_) ay
   refine aB rfl (cT (α:=aR) (bytes:=16) (xs:= []) (ys:=(aN m.frames k).locals) (List.nil_append _).symm aD (bN dy) rfl fc (.ro hl) (by simp only[List.length_nil];omega) (by simp only[List.length_nil];omega) rfl rfl rfl) rfl rfl (.inr fun _=>ha) (fun⟨A3,c3⟩ _=>?_) ay
   try dsimp only
   refine dY 1 [1,2,3,4,5,37,38,40,42] rfl<|aB rfl (cT (α:=aR) (bytes:=16) (xs:= []) (ys:=(aN m.frames k).stack) (List.nil_append _).symm aD (bN dy) rfl fc (.ro hst) (by simp only[List.length_nil];omega) (by simp only[List.length_nil];omega) rfl rfl rfl) rfl rfl (.inl rfl) (fun⟨A4,c4⟩ _=>?_) ay
   try dsimp only
   refine aB rfl (aM _ fc dF rfl rfl rfl rfl rfl (by rfl) rfl (by rfl)) rfl rfl (.inl rfl) (fun _ _=>?_) ay
   refine dY 1 [1,2,3,4,5,41,43] rfl<|aB rfl (aM _ fc dF rfl rfl rfl rfl rfl (by rfl) rfl (by rfl)) rfl rfl (.inl rfl) (fun _ _=>?_) ay
   refine cD<|be ((A3,c3),(A4,c4)) (trivial) ⟨rfl,rfl,rfl,rfl,rfl,trivial⟩ (fun _ h=>h.msub ms)
  rintro⟨⟨A3,c3⟩,⟨A4,c4⟩⟩ _
  try dsimp only
  refine aa<|rn 1 [1,2,3,4,5,44] rfl<|af (aj fc bG rfl rfl (by rfl)) rfl rfl ?_
  refine af (aY (vs:= [_,_,_,_]) fc gl a7 rfl rfl (by rfl) rfl) rfl rfl ?_
  refine ai (a8 (cs:= [_,_,_,_]) aT a7 cY rfl rfl rfl rfl rfl) rfl rfl (fun g5 _=>?_)
  refine ai (dM (α:=aO) (bytes:=64) (aN m.frames k) [an (.slice A3 (aN m.frames k).locals.length c3) (aN m.frames k).locals,an (.slice A4 (aN m.frames k).stack.length c4) (aN m.frames k).stack] htk aT (bN kT) rfl (zt fc fc fc fc) (rN hi) (by omega) (by omega) rfl rfl rfl) rfl rfl (fun⟨A5,c5⟩ _=>?_)
  try dsimp only
  refine rn 1 [1,2,3,4,48,49] rfl<|ai (aM _ fc fN rfl rfl rfl rfl rfl (by rfl) rfl (by rfl)) rfl rfl (fun _ _=>?_)
  refine bu (aH (ak ?_))
  refine aa<|rn 1 [1,2,3,27] rfl<|af (a6 rfl rfl rfl (by omega)) rfl rfl<|rn 1 [1,2,3,4] rfl<|aX (k+1,A5,c5) (by show k+1≤_;omega) (by show _ - _<_ - _;omega) ⟨rfl,rfl,rfl,rfl,trivial⟩ me
 obtain rfl:k=m.frames.length:=by omega
 rw[List.take_length]
 refine bz (aG (aG (bO (ak ?_))))
 refine ac<|aa<|af (aY (vs:= [_,_,_,_,_,_]) fc bd aJ rfl rfl (by rfl) rfl) rfl rfl ?_
 refine ai (aM _ fc aJ rfl rfl rfl rfl rfl (by rfl) rfl (by rfl)) rfl rfl (fun _ _=>?_)
 refine ae<|ap<|au Tryz.results75 (eF (cs:= [_,_,_,_,_,_]) fc bd aJ rfl) ?_
 intro w hw
 exact⟨⟨A',c',Ab,cb,Ai,ci,Ao,co⟩,trivial,rfl,hw.msub ms⟩
end
section
def lu (l:List aR) (n:Int):Bool:=l.any fun v=>v.ref && decide (v.n=n)
def jT (m:aI) (i:Nat) (n:Int):Bool:=(m.frames.take i).any fun x=>lu (x.locals++x.stack) n
def dZ (m:aI) (k:Nat):List Int:=((List.range k).filter fun j:Nat=>ls m ((j:Int)+1)).map fun j:Nat=>(j:Int)+1
theorem v8 (m:aI):dZ m m.blocks.length=bP m:=rfl
theorem v7 (m:aI) (k:Nat):(dZ m k).length≤k:=by
 unfold dZ
 rw[List.length_map]
 exact Nat.le_trans (List.length_filter_le _ _) (by rw[List.length_range];exact Nat.le_refl _)
theorem v6 {m:aI} {k:Nat} (h:ls m ((k:Int)+1)=true):dZ m (k+1)=dZ m k++ [(k:Int)+1]:=by
 unfold dZ
 rw[List.range_succ,List.filter_append,List.map_append,List.filter_cons_of_pos (by exact h)]
 rfl
theorem x9 {m:aI} {k:Nat} (h:¬ls m ((k:Int)+1)=true):dZ m (k+1)=dZ m k:=by
 unfold dZ
 rw[List.range_succ,List.filter_append,List.map_append,List.filter_cons_of_neg (by exact h)]
 simp
theorem wT (m:aI) (n:Int):jT m m.frames.length n=ls m n:=by unfold jT ls lu;rw[List.take_length]
theorem uU {m:aI} {i:Nat} (hi:i<m.frames.length) (n:Int):jT m (i+1) n=(jT m i n || lu ((aN m.frames i).locals++(aN m.frames i).stack) n):=by
 unfold jT
 rw[lG hi,List.any_append]
 simp
theorem wU {l:List aR} {k:Nat} (hk:k<l.length) (n:Int):lu (l.take (k+1)) n=(lu (l.take k) n || ((l.getD k default).ref && decide ((l.getD k default).n=n))):=by
 unfold lu
 rw[dL l k default hk,List.any_append]
 simp
set_option maxRecDepth 100000 in
set_option maxHeartbeats 4000000 in
theorem oJ (a:MA) (m:aI) (w:World) (hm:dE w.heap.size w a m) (hfs:∀x∈m.frames,x.locals.length≤1000∧x.stack.length≤8) (hb8:m.blocks.length≤8) (hn6:m.frames.length≤6) :
  Calls Tryz.prog 36 #[.agg #[.slice a.Af m.frames.length a.cf,.slice a.Ab m.blocks.length a.cb,.slice a.Ai m.inn.length a.ci,.slice a.Ao m.out.length a.co,.int .i64 m.status,.int .i64 m.trap]] w fun e w'=> ∃q:Option Addr×Nat,True∧e= .returned (.slice q.1 (bP m).length q.2)∧Cw w.heap.size w [an (.slice q.1 (bP m).length q.2) (bP m)] w':=by
 refine enter Tryz.func36 rfl Tryz.ntmps36 rfl ?_
 refine ac<|aa<|ai (bH rfl rfl rfl) rfl rfl (fun g1 _=>?_)
 refine rn 1 [1] rfl<|ae<|ac<|aa<|rn 1 [1,3] rfl<|ae<|ac<|ac<|aa<|rn 1 [1,3,4] rfl<|ae<|dx (fun w h=>Cw.nilO Int h) ?_
 refine aE (bD (fun g:Nat×(Option Addr×Nat)=>g.1≤m.blocks.length) (fun g=>m.blocks.length - g.1) (fun g=> [(1,.pointer (some ⟨g1,0,none⟩)),(3,.slice g.2.1 (dZ m g.1).length g.2.2),(4,.int .i64 ((g.1:Int)+1))]) (fun g=> [an (.slice g.2.1 (dZ m g.1).length g.2.2) (dZ m g.1),az g1 [.slice a.Af m.frames.length a.cf,.slice a.Ab m.blocks.length a.cb,.slice a.Ai m.inn.length a.ci,.slice a.Ao m.out.length a.co,.int .i64 m.status,.int .i64 m.trap] 29]) (0,(none,0)) (Nat.zero_le _) ⟨rfl,rfl,rfl,trivial⟩ me ?_)
 rintro⟨k,⟨A,c⟩⟩ hk'
 try dsimp only
 have hk:k≤m.blocks.length:=hk'
 have hrl:=v7 m k
 refine ac<|ac<|aa<|rn 2 [1,3,4,9,10] rfl<|af (aj fc dp rfl rfl (by rfl)) rfl rfl ?_
 refine af (aL bj rfl rfl) rfl rfl<|rn 1 [1,3,4,13] rfl<|ae<|ar rfl (fun hlt=>?_) (fun hlt=>?_)
 ·have hkl:k<m.blocks.length:=by omega
  refine aq (ak ?_)
  refine ac<|aE<|ac<|aa<|rn 1 [1,3,4,5] rfl<|ae<|ac<|ac<|aa<|rn 1 [1,3,4,5,6] rfl<|ae<|aE (bD (fun i:Nat=>i≤m.frames.length) (fun i=>m.frames.length - i) (fun i=> [(1,.pointer (some ⟨g1,0,none⟩)),(3,.slice A (dZ m k).length c),(4,.int .i64 ((k:Int)+1)),(5,.bool (jT m i ((k:Int)+1))),(6,.int .i64 (i:Int))]) (fun _=> [an (.slice A (dZ m k).length c) (dZ m k),az g1 [.slice a.Af m.frames.length a.cf,.slice a.Ab m.blocks.length a.cb,.slice a.Ai m.inn.length a.ci,.slice a.Ao m.out.length a.co,.int .i64 m.status,.int .i64 m.trap] 29]) 0 (Nat.zero_le _) ⟨rfl,rfl,rfl,rfl,rfl,trivial⟩ me ?_)
  rintro i hi'
  have hi:i≤m.frames.length:=hi'
  refine ac<|ac<|aa<|rn 2 [1,3,4,5,6,16,17] rfl<|af (aj fc bG rfl rfl (by rfl)) rfl rfl ?_
  refine af (aL aT rfl rfl) rfl rfl<|rn 1 [1,3,4,5,6,20] rfl<|ae<|ar rfl (fun hlt2=>?_) (fun hlt2=>?_)
  ·have hil:i<m.frames.length:=by omega
   obtain⟨A1,c1,A2,c2,hl,hst,hI,hcell⟩:=hm.f.fr hil
   obtain⟨hb1,hb2⟩:=hfs (aN m.frames i) (dW hil)
   have hsu:=uU hil ((k:Int)+1)
   generalize hx:aN m.frames i=x at hl hst hI hcell hb1 hb2 hsu
   refine aq (ak ?_)
   refine ac<|aE<|eo (fun _:Option Addr×Nat=>True) (fun g=> [(1,.pointer (some ⟨g1,0,none⟩)),(3,.slice A (dZ m k).length c),(4,.int .i64 ((k:Int)+1)),(5,.bool (jT m i ((k:Int)+1))),(6,.int .i64 (i:Int)),(7,.slice g.1 (x.locals++x.stack).length g.2)]) (fun g=> [an (.slice g.1 (x.locals++x.stack).length g.2) (x.locals++x.stack),an (.slice A (dZ m k).length c) (dZ m k),az g1 [.slice a.Af m.frames.length a.cf,.slice a.Ab m.blocks.length a.cb,.slice a.Ai m.inn.length a.ci,.slice a.Ao m.out.length a.co,.int .i64 m.status,.int .i64 m.trap] 29]) ?_ ?_
   ·refine bV (.still 1 (.still 2 (.still 3 (.still 4 (.still 5 (.still 6 (.still 8 (.still 9 (.still 10 (.still 11 (.still 12 (.still 13 (.pick 0 (.pick 7 (.pick 14 (.still 15 .done) .stop) .stop) .stop))))))))))))) [] rfl (by kernel_rfl) (by kernel_rfl) ?_
    refine aS ha 1 [1,3,4,5,6,24] rfl<|av rfl (aj fc bG rfl rfl (by rfl)) rfl rfl ha ?_
    refine aS ha 1 [1,3,4,5,6,25,26] rfl<|av rfl (aQ (k:=i) aT a7 (.ro hm.f) (by omega) rfl rfl rfl) rfl rfl ha ?_
    refine aS ha 1 [1,3,4,5,6,28] rfl<|av rfl (aZ (fun w hw=>hcell _ w hw 2 _ rfl) rfl rfl bZ) rfl rfl ha ?_
    refine aS ha 1 [1,3,4,5,6,29,31] rfl<|av rfl (aj fc bG rfl rfl (by rfl)) rfl rfl ha ?_
    refine aS ha 1 [1,3,4,5,6,29,32,33] rfl<|av rfl (aQ (k:=i) aT a7 (.ro hm.f) (by omega) rfl rfl rfl) rfl rfl ha ?_
    refine aS ha 1 [1,3,4,5,6,29,35] rfl<|av rfl (aZ (fun w hw=>hcell _ w hw 3 _ rfl) rfl rfl bZ) rfl rfl ha ?_
    refine aB rfl ((a8 (cs:= []) aD aP bK rfl rfl rfl rfl rfl).mem (H'':=fun g=>an (.slice (some ⟨g,0,none⟩) 0 0) ([]:List aR)::_) fun g w h=>bW (α:=aR) (m:=0) [] rfl (by simp) rfl (by decide) h) rfl rfl (.inr fun _=>ha) (fun ge _=>?_) ay
    refine aB rfl (cT (α:=aR) (bytes:=16) (xs:= []) (ys:=x.locals) (List.nil_append x.locals).symm aD (bN dy) rfl fc (.ro hl) (by simp only[List.length_nil];omega) (by simp only[List.length_nil];omega) rfl rfl rfl) rfl rfl (.inr fun _=>ha) (fun⟨A5,c5⟩ _=>?_) ay
    try dsimp only
    refine aB rfl (cT (α:=aR) (bytes:=16) (xs:=x.locals) (ys:=x.stack) rfl aD (bN dy) rfl fc (.ro hst) (by omega) (by omega) rfl rfl rfl) rfl rfl (.inr fun _=>ha) (fun⟨A6,c6⟩ _=>?_) ay
    try dsimp only
    refine aS ha 1 [1,3,4,5,6,7] rfl<|cD<|be (A6,c6) (trivial) ⟨rfl,rfl,rfl,rfl,rfl,rfl,trivial⟩ (fun _ h=>h.msub ms)
   rintro⟨A6,c6⟩ _
   try dsimp only
   have hal:(x.locals++x.stack).length=x.locals.length+x.stack.length:=List.length_append
   refine ac<|aa<|rn 1 [1,3,4,5,6,7,8] rfl<|ae<|cS (t:=5) (v':= .bool (jT m i ((k:Int)+1) || lu ((x.locals++x.stack).take 0) ((k:Int)+1))) rfl (by simp[lu]) ?_
   refine aE (bD (fun j:Nat=>j≤(x.locals++x.stack).length) (fun j=>(x.locals++x.stack).length - j) (fun j=> [(1,.pointer (some ⟨g1,0,none⟩)),(3,.slice A (dZ m k).length c),(4,.int .i64 ((k:Int)+1)),(5,.bool (jT m i ((k:Int)+1) || lu ((x.locals++x.stack).take j) ((k:Int)+1))),(6,.int .i64 (i:Int)),(7,.slice A6 (x.locals++x.stack).length c6),(8,.int .i64 (j:Int))]) (fun _=> [an (.slice A6 (x.locals++x.stack).length c6) (x.locals++x.stack),an (.slice A (dZ m k).length c) (dZ m k),az g1 [.slice a.Af m.frames.length a.cf,.slice a.Ab m.blocks.length a.cb,.slice a.Ai m.inn.length a.ci,.slice a.Ao m.out.length a.co,.int .i64 m.status,.int .i64 m.trap] 29]) 0 (Nat.zero_le _) ⟨rfl,rfl,rfl,rfl,rfl,rfl,rfl,trivial⟩ me ?_)
   rintro j hj'
   have hj:j≤(x.locals++x.stack).length:=hj'
   refine ac<|ac<|aa<|rn 2 [1,3,4,5,6,7,8,38,39] rfl<|af (aL aD rfl rfl) rfl rfl<|rn 1 [1,3,4,5,6,7,8,41] rfl<|ae<|ar rfl (fun hlt3=>?_) (fun hlt3=>?_)
   ·have hjl:j<(x.locals++x.stack).length:=by omega
    have hsj:=wU hjl ((k:Int)+1)
    refine aq (ak ?_)
    refine ac<|aE<|aa<|rn 2 [1,3,4,6,7,8,45] rfl ?_
    generalize hhb:(jT m i ((k:Int)+1) || lu ((x.locals++x.stack).take j) ((k:Int)+1))=hb
    refine jz 15 rfl [(1,_),(3,_),(4,_),(6,_),(7,_),(8,_)] [(60,.bool (hb || (((x.locals++x.stack).getD j default).ref && decide (((x.locals++x.stack).getD j default).n=((k:Int)+1)))))] ⟨rfl,rfl,rfl,rfl,rfl,rfl,trivial⟩ (fun K=>?_) ?_
    ·cases hb
     ·refine bU (t:=45) (v':= .bool false) rfl (rfl) ?_
      refine rn 2 [1,3,4,6,7,8,45,46,47] rfl<|af (aQ (k:=j) aD aP (SF.own (xs:=(x.locals++x.stack)) rfl fc) (by omega) rfl rfl rfl) rfl rfl ?_
      refine rn 1 [1,3,4,6,7,8,45,49] rfl<|af (aZ (fun w hw=>(SF.val (SF.own rfl fc) hjl default) w hw 0 _ rfl) rfl rfl eh) rfl rfl ?_
      refine rn 1 [1,3,4,6,7,8,45,51] rfl ?_
      rcases Bool.eq_false_or_eq_true ((x.locals++x.stack).getD j default).ref with hr | hr
      ·rw[hr]
       refine bU (t:=51) (v':= .bool true) rfl (rfl) ?_
       refine rn 2 [1,3,4,6,7,8,45,51,52,53] rfl<|af (aQ (k:=j) aD aP (SF.own (xs:=(x.locals++x.stack)) rfl fc) (by omega) rfl rfl rfl) rfl rfl ?_
       refine rn 1 [1,3,4,6,7,8,45,51,55] rfl<|af (aZ (fun w hw=>(SF.val (SF.own rfl fc) hjl default) w hw 1 _ rfl) rfl rfl aw) rfl rfl ?_
       refine rn 4 [1,3,4,6,7,8,60] rfl<|bU (t:=60) (v':= .bool (false || (((x.locals++x.stack).getD j default).ref && decide (((x.locals++x.stack).getD j default).n=((k:Int)+1))))) rfl (by rw[hr];simp) ?_
       exact fx K ⟨rfl,rfl,rfl,rfl,rfl,rfl,rfl,trivial⟩
      rw[hr]
      refine bU (t:=51) (v':= .bool false) rfl (rfl) ?_
      refine rn 9 [1,3,4,6,7,8,60] rfl<|bU (t:=60) (v':= .bool (false || (((x.locals++x.stack).getD j default).ref && decide (((x.locals++x.stack).getD j default).n=((k:Int)+1))))) rfl (by rw[hr];rfl) ?_
      exact fx K ⟨rfl,rfl,rfl,rfl,rfl,rfl,rfl,trivial⟩
     refine bU (t:=45) (v':= .bool true) rfl (rfl) ?_
     refine rn 15 [1,3,4,6,7,8,60] rfl<|bU (t:=60) (v':= .bool (true || (((x.locals++x.stack).getD j default).ref && decide (((x.locals++x.stack).getD j default).n=((k:Int)+1))))) rfl (rfl) ?_
     exact fx K ⟨rfl,rfl,rfl,rfl,rfl,rfl,rfl,trivial⟩
    refine rn 1 [1,3,4,5,6,7,8] rfl<|bu (aH (ak ?_))
    refine aa<|rn 1 [1,3,4,5,6,7,42] rfl<|af (a6 rfl rfl rfl (by omega)) rfl rfl<|rn 1 [1,3,4,5,6,7,8] rfl ?_
    subst hhb
    rw[Bool.or_assoc,←hsj]
    refine aX (j+1) (by show j+1≤_;omega) (by show _ - _<_ - _;omega) ⟨rfl,rfl,rfl,rfl,rfl,rfl,rfl,trivial⟩ me
   obtain rfl:j=(x.locals++x.stack).length:=by omega
   rw[List.take_length,←hsu]
   refine bz (aG (aG (bO (aH (ak ?_)))))
   refine aa<|rn 1 [1,3,4,5,21] rfl<|af (a6 rfl rfl rfl (by omega)) rfl rfl<|rn 1 [1,3,4,5,6] rfl<|aX (i+1) (by show i+1≤_;omega) (by show _ - _<_ - _;omega) ⟨rfl,rfl,rfl,rfl,rfl,trivial⟩ me
  obtain rfl:i=m.frames.length:=by omega
  rw[wT]
  refine bz (aG (aG (bO (ak ?_))))
  refine ac<|aa<|rn 1 [1,3,4,61] rfl<|ae<|b9 rfl (fun hh=>?_) (fun hh=>?_)
  ·refine aa<|rn 2 [1,4,62,63] rfl<|ai (a8 (cs:= [_]) ag aF aV rfl rfl rfl rfl rfl) rfl rfl (fun g2 _=>?_)
   refine ai (dM (α:=Int) (bytes:=8) ((k:Int)+1) [] (v6 hh) ag (bN cJ) rfl (fH fc fc) (nz (by unfold a5;omega)) (by omega) (by omega) rfl rfl rfl) rfl rfl (fun⟨A3,c3⟩ _=>?_)
   try dsimp only
   refine rn 1 [1,3,4] rfl<|bu (aH (ak ?_))
   refine aa<|rn 1 [1,3,14] rfl<|af (a6 rfl rfl rfl (by omega)) rfl rfl<|rn 1 [1,3,4] rfl<|aX (k+1,(A3,c3)) (by show k+1≤_;omega) (by show _ - _<_ - _;omega) ⟨rfl,rfl,rfl,trivial⟩ me
  rw[←x9 (by rw[hh];decide)]
  refine aq (aH (ak ?_))
  refine aa<|rn 1 [1,3,14] rfl<|af (a6 rfl rfl rfl (by omega)) rfl rfl<|rn 1 [1,3,4] rfl<|aX (k+1,(A,c)) (by show k+1≤_;omega) (by show _ - _<_ - _;omega) ⟨rfl,rfl,rfl,trivial⟩ me
 obtain rfl:k=m.blocks.length:=by omega
 rw[v8]
 refine bz (aG (aG (bO (ak ?_))))
 refine ac<|aa<|rn 2 [2] rfl<|ae<|ap<|au Tryz.results36 (am rfl) ?_
 intro w hw
 exact⟨(A,c),trivial,rfl,hw.msub ms⟩
end
section
def ek (R:List Int) (v:aR):Nat→aR
 | 0=>v
 | k+1=>if v.ref=true∧v.n=R.getD k 0 then ⟨v.ref,(k:Int)+1⟩ else ek R v k
theorem rC (R:List Int) (v:aR):∀k,(ek R v k).ref=v.ref
 | 0=>rfl
 | k+1=>by
  unfold ek
  split
  ·rfl
  exact rC R v k
theorem p7 {R:List Int} {v:aR} :∀{k:Nat},(∀j,j<k→¬(v.ref=true∧v.n=R.getD j 0))→ek R v k=v
 | 0,_=>rfl
 | k+1,h=>by
  unfold ek
  rw[if_neg (h k (Nat.lt_succ_self k))]
  exact p7 fun j hj=>h j (by omega)
theorem rE {R:List Int} {v:aR} {q:Nat} (hr:v.ref=true) (hq:v.n=R.getD q 0):∀{k:Nat},q<k→(∀j,q<j→j<k→v.n≠R.getD j 0)→ek R v k=⟨true,(q:Int)+1⟩
 | 0,h,_=>absurd h (Nat.not_lt_zero _)
 | k+1,h,hne=>by
  unfold ek
  by_cases e:q=k
  ·subst e
   rw[if_pos ⟨hr,hq⟩,hr]
  rw[if_neg (fun h'=>hne k (by omega) (by omega) h'.2)]
  exact rE hr hq (by omega) fun j h1 h2=>hne j h1 (by omega)
theorem mG {R:List Int} (hs:R.Pairwise (· < ·)) {i j:Nat} (hij:i<j) (hj:j<R.length):R.getD i 0<R.getD j 0:=by
 have:=List.pairwise_iff_getElem.1 hs i j (by omega) hj hij
 rw[List.getD_eq_getElem?_getD,List.getElem?_eq_getElem (by omega),List.getD_eq_getElem?_getD,List.getElem?_eq_getElem hj]
 exact this
theorem qY {R:List Int} (hs:R.Pairwise (· < ·)) {q:Nat} (hq:q<R.length):(R.filter fun n=>decide (n≤R.getD q 0)).length=q+1:=by
 have h1:(R.filter fun n=>decide (n≤R.getD q 0))=R.take (q+1):=by
  conv=>lhs;rw[←List.take_append_drop (q+1) R]
  rw[List.filter_append,List.filter_eq_self.2,List.filter_eq_nil_iff.2,List.append_nil]
  ·intro n hn
   obtain⟨i,hi,rfl⟩:=List.getElem_of_mem hn
   rw[List.length_drop] at hi
   have:=mG hs (i:=q) (j:=q+1+i) (by omega) (by omega)
   rw[List.getElem_drop]
   rw[List.getD_eq_getElem?_getD (i:=q+1+i),List.getElem?_eq_getElem (by omega)] at this
   have this:R.getD q 0<R[q+1+i]:=this
   simp only[decide_eq_true_eq]
   rw[List.take_append_drop]
   omega
  intro n hn
  obtain⟨i,hi,rfl⟩:=List.getElem_of_mem hn
  rw[List.length_take] at hi
  simp only[decide_eq_true_eq]
  rw[List.getElem_take,List.take_append_drop]
  by_cases e:i=q
  ·subst e
   rw[List.getD_eq_getElem?_getD,List.getElem?_eq_getElem (by omega)]
   exact Int.le_refl _
  have:=mG hs (i:=i) (j:=q) (by omega) hq
  rw[List.getD_eq_getElem?_getD (i:=i),List.getElem?_eq_getElem (by omega)] at this
  have this:R[i]<R.getD q 0:=this
  omega
 rw[h1,List.length_take]
 omega
theorem yw {m:aI} {v:aR} (hok:nG (ri m) v):ek (bP m) v (bP m).length=cR (gH m) v:=by
 by_cases h:v.ref=true∧v.n≠0
 ·have hin:v.n∈bP m:=hok h.1 h.2
  obtain⟨q,hq,he⟩:=List.getElem_of_mem hin
  have he2:(bP m).getD q 0=v.n:=by rw[List.getD_eq_getElem?_getD,List.getElem?_eq_getElem hq];exact he
  have h1:=(gg.1 hin).1
  rw[rE h.1 he2.symm hq (fun j h1 h2 e=>by have:=mG (jQ m) h1 h2;omega)]
  unfold cR
  rw[if_pos h]
  unfold gH dC
  rw[if_neg h.2,p8 m _ (by omega),List.length_map,show (v.n.toNat:Int)=v.n from by omega,←he2,qY (jQ m) hq]
  simp
 rw[p7 (fun j hj hv=>?_)]
 ·unfold cR;rw[if_neg h]
 have h0:v.n=0:=Classical.byContradiction fun h0=>h ⟨hv.1,h0⟩
 have hmem:=eX (d:=(0:Int)) hj
 rw[←hv.2,h0] at hmem
 have:=(gg.1 hmem).1
 omega
end
section
theorem nt {fs:List aA} {m:aI} (h:dI fs m=0):eZ fs∧de fs m:=by
 unfold dI at h
 split at h
 ·rename_i h2;exact absurd h h2
 rename_i h2;exact⟨pQ (Classical.not_not.1 h2),wd.1 h⟩
end
end Go.Proofs.YtpacloheigifkaaGreat
