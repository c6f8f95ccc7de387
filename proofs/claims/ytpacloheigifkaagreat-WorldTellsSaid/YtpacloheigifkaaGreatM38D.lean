/- Texts of one proof, one behind the other: lemmas alone. -/
import Derived.Test.YtpacloheigifkaaGreatM0D
import Derived.Deep.QuietTactic
import Derived.BigQuiet
import Derived.Test.YtpacloheigifkaaGreatM35D
import Derived.Test.YtpacloheigifkaaGreatM22D
import Derived.Test.YtpacloheigifkaaGreatM17D
import Derived.Test.YtpacloheigifkaaGreatM34D
import Derived.Test.YtpacloheigifkaaGreatM23D
import Derived.Test.YtpacloheigifkaaGreatM32D
import Derived.Test.YtpacloheigifkaaGreatM28D
import Derived.Test.YtpacloheigifkaaGreatM25D

namespace Go.Proofs.YtpacloheigifkaaGreat
open Go.RowKit
section
set_option maxRecDepth 100000 in
theorem js (n a b:Int) (w:World):Calls Tryz.prog 139 #[.int .i64 n,.int .i64 a,.int .i64 b] w fun e w'=>e= .returned (.bool (bL n a b))∧Below w.heap.size w w':=by
 refine enter Tryz.func139 rfl Tryz.ntmps139 rfl ?_
 refine ac<|aa<|rn 1 [0,1,2] rfl<|ae<|ac<|aa<|rn 4 [0,2,10] rfl<|bw (t:=10) rfl (fun h1=>?_) (fun h1=>?_)
 ·refine rn 5 [6] rfl<|ae<|au<|aA Tryz.results139 (aq rfl) ?_
  intro w hw
  exact⟨bt (by unfold bL;rw[h1];rfl),hw.below⟩
 refine rn 5 [6] rfl<|ae<|au<|aA Tryz.results139 (aq rfl) ?_
 intro w hw
 exact⟨bt (by unfold bL;rw[h1];rfl),hw.below⟩
set_option maxRecDepth 100000 in
theorem yO (n:Nat) (hn:n*16≤140737488355328) (w:World):Calls Tryz.prog 228 #[.slice none 0 0,.int .i64 (n:Int)] w fun e w'=> ∃g:Option Addr×Nat,True∧e= .returned (.slice g.1 0 g.2)∧Cw w.heap.size w [aj (α:=aS) (.slice g.1 0 g.2) []] w':=by
 refine enter Tryz.func228 rfl Tryz.ntmps228 rfl ?_
 refine ac<|aa<|rn 1 [0,1] rfl<|ae<|ac<|ac<|aa<|rn 2 [0,1,6] rfl<|ae<|aw rfl (fun h0=>?_) (fun h0=>?_)
 ·exact absurd h0 (by omega)
 refine ax (ap ?_)
 refine ac<|ac<|aa<|rn 2 [0,8,9] rfl<|af (yf az rfl rfl) rfl rfl<|rn 1 [0,8,10,11] rfl<|af (aN az rfl rfl) rfl rfl<|af (bx rfl rfl rfl (by omega)) rfl rfl<|af (bx rfl rfl rfl (by omega)) rfl rfl<|rn 1 [0,1] rfl<|ae<|ac<|aa<|rn 2 [0,1,16] rfl<|ae<|cP (t:=1) (v':= .int .i64 (n:Int)) rfl (by congr 1) ?_
 refine aw rfl (fun h1=>?_) (fun h1=>?_)
 ·refine aa<|rn 2 [0,1,17,18] rfl<|af (yf az rfl rfl) rfl rfl<|af (fC (k:=0) az aE (Nat.le_refl _) rfl rfl rfl) rfl rfl<|rn 1 [0,20,21] rfl<|ag (Cb (α:=aS) (bytes:=16) az Tryz.underlying3 dk rfl (by decide) (by omega) (by omega) rfl rfl rfl) rfl rfl (fun⟨g,c⟩ _=>?_)
  try dsimp only
  refine rn 1 [22,23] rfl<|af (aN az rfl rfl) rfl rfl<|af (fC (k:=0) az aE (Nat.zero_le _) rfl rfl rfl) rfl rfl<|rn 1 [0] rfl<|ae<|ac<|aa<|rn 2 [4] rfl<|ae<|au<|aA Tryz.results228 (aq rfl) ?_
  intro w hw
  exact⟨(some ⟨g,0,none⟩,c),trivial,rfl,hw⟩
 refine ax (ap ?_)
 refine ac<|aa<|rn 2 [4] rfl<|ae<|au<|aA Tryz.results228 (aq rfl) ?_
 intro w hw
 exact⟨(none,0),trivial,rfl,Cw.nilO aS hw⟩
theorem DQ (v:aS) (t:Int):eP v t=((v.ref == !decide (t=1)) && ((!decide (t=3)) || decide (v.n=0))):=by
 unfold eP
 cases v.ref <;> by_cases h1:t=1 <;> simp[h1]
set_option maxRecDepth 100000 in
theorem vO (v:aS) (t:Int) (w:World):Calls Tryz.prog 215 #[.agg #[.bool v.ref,.int .i64 v.n],.int .i64 t] w fun e w'=>e= .returned (.bool (eP v t))∧Below w.heap.size w w':=by
 have ha:=DQ v t
 generalize hq:eP v t=q at ha
 refine enter Tryz.func215 rfl Tryz.ntmps215 rfl ?_
 refine ac<|aa<|ag (bF rfl rfl rfl) rfl rfl (fun g1 _=>?_)
 refine rn 1 [1,2] rfl<|ae<|ac<|aa<|rn 1 [1,2,5] rfl<|af (ai fc fF rfl rfl (by rfl)) rfl rfl ?_
 refine rn 2 [1,2,6,8] rfl<|af (Da Tryz.underlying4 rfl rfl rfl) rfl rfl<|rn 1 [1,2,10] rfl<|bw (t:=10) rfl (fun h1=>?_) (fun h1=>?_)
 ·rw[h1,Bool.true_and] at ha
  refine rn 3 [2,10,13] rfl<|bw (t:=13) rfl (fun h2=>?_) (fun h2=>?_)
  ·rw[h2,Bool.true_or] at ha
   refine rn 6 [4] rfl<|ae<|au<|aA DW (aq rfl) ?_
   intro w hw
   exact⟨bt ha.symm,hw.below⟩
  rw[h2,Bool.false_or] at ha
  refine rn 1 [10,13,14] rfl<|af (ai fc ar rfl rfl (by rfl)) rfl rfl ?_
  refine rn 4 [4] rfl<|ae<|au<|aA DW (aq rfl) ?_
  intro w hw
  exact⟨bt ha.symm,hw.below⟩
 rw[h1,Bool.false_and] at ha
 refine rn 9 [4] rfl<|ae<|au<|aA DW (aq rfl) ?_
 intro w hw
 exact⟨bt ha.symm,hw.below⟩
def Ga (a:MA) (m:aD) (pv:Value):List Value:= [.slice a.Af m.frames.length a.cf,.slice a.Ab m.blocks.length a.cb,.slice a.Ai m.inn.length a.ci,.slice a.Ao m.out.length a.co,.int .i64 m.status,.int .i64 m.trap,pv]
section
variable {B:Nat} {w0:World} {H:List bj}
set_option maxRecDepth 100000 in
set_option maxHeartbeats 1000000 in
theorem xa (gc:Nat) (a:MA) (m:aD) (pv:Value) (v:aS) (w:World) (hw:Cw B w0 (am gc [.slice a.Af m.frames.length a.cf,.slice a.Ab m.blocks.length a.cb,.slice a.Ai m.inn.length a.ci,.slice a.Ao m.out.length a.co,.int .i64 m.status,.int .i64 m.trap,pv] 147::H) w) :
  Calls Tryz.prog 214 #[.pointer (some ⟨gc,0,none⟩),.agg #[.bool v.ref,.int .i64 v.n]] w fun e w'=> ∃_:Unit,True∧e= .returned (.int .i64 (if et m.blocks.length v=true then 0 else 3))∧Cw B w0 (am gc [.slice a.Af m.frames.length a.cf,.slice a.Ab m.blocks.length a.cb,.slice a.Ai m.inn.length a.ci,.slice a.Ao m.out.length a.co,.int .i64 m.status,.int .i64 m.trap,pv] 147::H) w':=by
 obtain⟨q,hq⟩:∃q,et m.blocks.length v=q:=⟨_,rfl⟩
 rw[hq]
 obtain⟨r,z⟩:=v
 refine db Tryz.func214 rfl Tryz.ntmps214 rfl hw ?_
 refine ac<|aa<|ag (bF rfl rfl rfl) rfl rfl (fun g1 _=>?_)
 refine rn 1 [0,3] rfl<|ae<|ac<|ac<|bQ (.still 0 (.still 1 (.still 2 (.still 3 (.still 4 (.still 5 (.still 6 (.still 7 (.still 8 (.still 9 (.still 10 (.pick 11 (.still 12 (.still 13 (.still 14 (.still 15 (.still 16 (.still 17 (.still 18 (.still 19 (.still 20 (.pick 21 (.still 22 (.still 23 (.still 24 .done))) .stop)))))))))) .stop)))))))))))) [] rfl (by kernel_rfl) (by kernel_rfl) ?_
 refine aV ha 1 [0,3,5] rfl<|an rfl (ai fc fF rfl rfl (by rfl)) rfl rfl ha ?_
 refine aV ha 1 [0,3,7] rfl<|lM (t:=7) rfl (fun hr=>?_) (fun hr=>?_)
 ·have hq2:bL z 0 m.blocks.length=q:=by rw[←hq];unfold et;rw[if_pos hr]
  refine aV ha 1 [0,3,7,8] rfl<|an rfl (ai fc ar rfl rfl (by rfl)) rfl rfl ha ?_
  refine aV ha 4 [3,7,9,13] rfl<|an rfl (ai fc ew rfl rfl (by rfl)) rfl rfl ha ?_
  refine an rfl (aN cy rfl rfl) rfl rfl ha ?_
  refine aB rfl (bK rfl rfl rfl uK (fun w hw=>js z 0 m.blocks.length w)) rfl rfl (.inr fun _=>ha) (fun _ _=>?_) ay
  refine aV ha 3 [3,19] rfl ?_
  rw[hq2]
  refine lM (t:=19) rfl (fun hb=>?_) (fun hb=>?_)
  ·have hq3:q=false:=by simpa using hb
   subst hq3
   refine aV ha 6 [19,23,25] rfl<|kw rfl rfl rfl (.inr ha) ?_ ay
   refine aV ha 3 [29] rfl<|cJ<|bR rfl<|ac<|aa<|rn 1 [4] rfl<|ae<|au (ak ?_)
   refine aA uA (aq rfl) ?_
   intro w hw
   exact⟨(),trivial,rfl,hw.msub ms⟩
  have hq3:q=true:=by simpa using hb
  subst hq3
  refine aV ha 1 [3,19,20] rfl<|an rfl (ai fc fF rfl rfl (by rfl)) rfl rfl ha ?_
  refine aV ha 2 [3,19,23] rfl<|lM (t:=23) rfl (fun h3=>?_) (fun h3=>?_)
  ·rw[hr] at h3
   cases h3
  refine aV ha 2 [19,23,25] rfl<|kw rfl rfl rfl (.inr ha) ?_ ay
  refine aV ha 3 [29] rfl<|cJ<|dg rfl<|ax (ap ?_)
  refine ac<|aa<|rn 1 [4] rfl<|ae<|au<|aA uA (aq rfl) ?_
  intro w hw
  exact⟨(),trivial,rfl,hw.msub ms⟩
 have hq2:cu z=q:=by rw[←hq];unfold et;rw[if_neg (by rw[hr];decide)]
 refine aV ha 8 [3,7,9,15] rfl<|kw rfl rfl rfl (.inr ha) ?_ ay
 refine aV ha 4 [3,19,20] rfl<|an rfl (ai fc fF rfl rfl (by rfl)) rfl rfl ha ?_
 refine aV ha 2 [3,19,23] rfl<|lM (t:=23) rfl (fun h2=>?_) (fun h2=>?_)
 ·refine aV ha 1 [19,23,24] rfl<|an rfl (ai fc ar rfl rfl (by rfl)) rfl rfl ha ?_
  refine aB rfl (bK rfl rfl rfl Gf ((fun w hw=>fe ((fun w hw=>m7 z w) w hw)))) rfl rfl (.inr fun _=>ha) (fun _ _=>?_) ay
  refine aV ha 3 [29] rfl<|cJ ?_
  rw[hq2]
  refine cH rfl (fun h4=>?_) (fun h4=>?_)
  ·have hq3:q=false:=by simpa using h4
   subst hq3
   refine ac<|aa<|rn 1 [4] rfl<|ae<|au (ak ?_)
   refine aA uA (aq rfl) ?_
   intro w hw
   exact⟨(),trivial,rfl,hw.msub ms⟩
  have hq3:q=true:=by simpa using h4
  subst hq3
  refine ax (ap ?_)
  refine ac<|aa<|rn 1 [4] rfl<|ae<|au<|aA uA (aq rfl) ?_
  intro w hw
  exact⟨(),trivial,rfl,hw.msub ms⟩
 rw[hr] at h2
 cases h2
end
end
section
def FQ (pc:Int) (es:List fU):Option Nat:=es.findIdx? fun x=>decide (x.pc=pc)
def hent (l:List fU) (k:Nat):fU:=l.getD k ⟨0,.slice none 0 0⟩
theorem SF.hent {B:Nat} {w0:World} {H:List bj} {A:Option Addr} {xs:List fU} {m c k:Nat} (hs:SF B w0 H A m c xs) (hk:k<m):∀w,Cw B w0 H w→∀j v,([.int .i64 (hent xs k).pc,(hent xs k).v]:List Value)[j]? =some v→w.cell? ⟨ab A,ao A+k*2+j,none⟩=some v:=fun w hw _ _ hv=>SF.cell hs hk _ hv w hw
set_option maxRecDepth 100000 in
theorem AW (g:Nat) (pc q:Int) (v:Value) (w:World) (hlt:g<w.heap.size) (hc:w.cell? ⟨g,0,none⟩=some (.int .i64 pc)) :
  Calls Tryz.prog 232 #[.agg #[.int .i64 q,v],.pointer (some ⟨g,0,none⟩)] w fun e w'=>e= .returned (.bool (decide (q=pc)))∧Below w.heap.size w w':=by
 refine enter Tryz.func232 rfl Tryz.ntmps232 rfl ?_
 refine ac<|aa<|ag (bF rfl rfl rfl) rfl rfl (fun g1 _=>?_)
 refine rn 1 [1,2] rfl<|ae<|ac<|aa<|rn 1 [1,4] rfl<|af (ai fc ar rfl rfl (by rfl)) rfl rfl ?_
 refine af (a8 (fun w' hw=>(hw.below.cell hlt).trans hc) rfl rfl ar) rfl rfl ?_
 refine rn 2 [3] rfl<|ae<|au<|aA Tryz.results232 (aq rfl) ?_
 intro w hw
 exact⟨rfl,hw.below⟩
set_option maxRecDepth 100000 in
theorem Ck (A:Option Addr) (c:Nat) (es:List fU) (g:Nat) (pc:Int) (w:World) (hs:Sl w (.slice A es.length c) es) (hlt:g<w.heap.size) (hc:w.cell? ⟨g,0,none⟩=some (.int .i64 pc)) :
  Calls Tryz.prog 231 #[.slice A es.length c,.func (.func 232) #[] #[.pointer (some ⟨g,0,none⟩)]] w fun e w'=> ∃r:Int,((r= -1∧∀i,i<es.length→(hent es i).pc≠pc)∨∃i:Nat,r=i∧i<es.length∧(hent es i).pc=pc∧∀j,j<i→(hent es j).pc≠pc)∧e= .returned (.int .i64 r)∧Cw w.heap.size w [] w':=by
 have b1:=bO hs
 refine enter Tryz.func231 rfl Tryz.ntmps231 rfl ?_
 refine ac<|aa<|rn 1 [0,1] rfl<|ae<|ac<|ac<|aa<|rn 1 [0,1,6] rfl<|af (aN fH rfl rfl) rfl rfl<|rn 1 [0,1,7,8] rfl<|ae<|aL (b8 (fun k:Nat=>k≤es.length∧∀j,j<k→(hent es j).pc≠pc) (fun k=>es.length - k) (fun k=> [(0,.slice A es.length c),(1,.func (.func 232) #[] #[.pointer (some ⟨g,0,none⟩)]),(7,.int .i64 (es.length:Int)),(8,.int .i64 (k:Int))]) (fun _=> []) 0 (⟨Nat.zero_le _,fun _ h=>absurd h (Nat.not_lt_zero _)⟩) ⟨rfl,rfl,rfl,rfl,trivial⟩ me ?_)
 rintro k hk'
 obtain⟨hk,hno⟩:k≤es.length∧∀j,j<k→(hent es j).pc≠pc:=hk'
 refine ac<|aa<|rn 1 [0,1,7,8,9] rfl<|ae<|ac<|aw rfl (fun hlt'=>?_) (fun hlt'=>?_)
 ·have hkl:k<es.length:=by omega
  refine ax (ap ?_)
  refine ac<|aL<|ac<|aa<|rn 2 [0,1,5,7,8] rfl<|ae<|ac<|aa<|rn 3 [0,1,5,7,8,11,12,13] rfl<|af (aO fH lc (.ro hs) (by omega) rfl rfl rfl) rfl rfl<|af (cr (SF.hent (SF.ro hs) hkl) rfl rfl Tryz.isAgg155 lc) rfl rfl<|ag (hJ rfl rfl rfl Tryz.call232 (fun w hw=>AW g pc _ _ w (Nat.lt_of_lt_of_le hlt hw.le) ((hw.below.cell hlt).trans hc))) rfl rfl (fun _ _=>?_)
  refine ae<|aw rfl (fun hp=>?_) (fun hp=>?_)
  ·refine ac<|aa<|rn 2 [4] rfl<|ae<|au (aG (ak (ak (aG (ak ?_)))))
   refine aA Tryz.results231 (aq rfl) ?_
   intro w hw
   exact⟨(k:Int),.inr ⟨k,rfl,hkl,hp,hno⟩,rfl,hw⟩
  refine ax (aK (ap ?_))
  refine aa<|af (bH rfl rfl rfl (by omega)) rfl rfl<|rn 1 [0,1,7,8] rfl<|br (k+1) (⟨by show k+1≤_;omega,fun j hj=>(Nat.lt_or_ge j k).elim (hno j) (fun h=>by obtain rfl:j=k:=(by omega);exact hp)⟩) (by show _ - _<_ - _;omega) ⟨rfl,rfl,rfl,rfl,trivial⟩ me
 obtain rfl:k=es.length:=by omega
 refine bN (aM (aM (cc (ap ?_))))
 refine ac<|aa<|rn 1 [4] rfl<|ae<|au<|aA Tryz.results231 (aq rfl) ?_
 intro w hw
 exact⟨-1,.inl ⟨rfl,hno⟩,rfl,hw⟩
section
variable {B:Nat} {w0:World} {H:List bj}
theorem pQ {L:List (Value×List Int)} {v:Value} {xs:List Int} {w:World} (hi:ij L v xs) (h:Cw B w0 (eV L::H) w):Cw B w0 (gM v xs::H) w:=by
 rcases hi with ⟨rfl,rfl⟩ | hi
 ·exact h.upd fun F ho _=>⟨fun _=>False,⟨fun _ h=>h.elim,fun _ _=>Sl.nil_⟩,rfl,rfl,rfl,Nat.le_refl _,fun _ _ _=>rfl,fun b hb=>hb.elim⟩
 refine h.upd fun F ho _=>?_
 obtain⟨F',h5,h6⟩:=Hs.mem (List.mem_map_of_mem (f:=fun p:Value×List Int=>gM p.1 p.2) hi) (show Hs w _ F from ho)
 exact⟨F',h5,rfl,rfl,rfl,Nat.le_refl _,fun _ _ _=>rfl,fun b hb=> .inl (h6 b hb)⟩
theorem BX {A:Option Addr} {m c k:Nat} {xs:List Int} {w:World} (hk:k≤m) (h:Cw B w0 (gM (.slice A m c) xs::H) w):Cw B w0 (gM (.slice A k c) (xs.take k)::H) w:=by
 refine h.upd fun F ho _=>⟨F,⟨ho.1,fun w' hw'=>?_⟩,rfl,rfl,rfl,Nat.le_refl _,fun _ _ _=>rfl,fun b hb=> .inl hb⟩
 have:=(ho.2 w' hw').cut 0 k (Nat.zero_le _) hk
 rw[t8,Nat.sub_zero,Nat.sub_zero,List.drop_zero] at this
 exact this
theorem lN {w:World} (h:Cw B w0 H w):Cw B w0 (gM (.slice none 0 0) ([]:List Int)::H) w:=pQ ij.nil_ (jE h)
end
theorem vW {xs:List gT} {pc:Int} {i:Nat} (hi:i<xs.length) (h1:xs[i].pc=pc) (h2:∀j (_:j<i) (h:j<xs.length),xs[j].pc≠pc):(xs.find? fun e=>decide (e.pc=pc))=some xs[i]:=by
 induction xs generalizing i with
 | nil=>simp at hi
 | cons x xs ih=>
  cases i with
  | zero=>rw[List.find?_cons_of_pos (by simpa using h1)];rfl
  | succ i=>
   rw[List.find?_cons_of_neg (by have h3:=h2 0 (by omega) (by simp);rw[List.getElem_cons_zero] at h3;simpa using h3)]
   exact ih (by simpa using hi) h1 fun j hj h=>h2 (j+1) (by omega) (by simpa using h)
theorem vV {xs:List gT} {pc:Int} (h2:∀j (h:j<xs.length),xs[j].pc≠pc):(xs.find? fun e=>decide (e.pc=pc))=none:=by
 rw[List.find?_eq_none]
 intro e he
 obtain⟨j,hj,rfl⟩:=List.getElem_of_mem he
 simpa using h2 j hj
theorem jN {es:List fU} {i:Nat} (h:i<es.length):hent es i=es[i]:=by
 unfold hent
 rw[List.getD_eq_getElem?_getD,List.getElem?_eq_getElem h]
 rfl
set_option maxRecDepth 100000 in
set_option maxHeartbeats 1000000 in
theorem r9 (Ap:Option Addr) (cp:Nat) (fs:List aC) (k:Nat) (pc:Int) (q:Option (List Int)) (hq:eu fs (av fs k) pc=q) (w:World) (hs:Sl w (.slice Ap fs.length cp) fs) (hk:k<fs.length) (hok:jp fs (av fs k)) (hn0:0<(av fs k).code.length) :
  Calls Tryz.prog 229 #[.agg #[.slice Ap fs.length cp],.int .i64 (k:Int),.int .i64 pc] w fun e w'=> ∃g:Option Addr×Nat,True∧e= .returned (.tuple #[.slice g.1 (q.getD []).length g.2,.bool q.isSome])∧
   Cw w.heap.size w [gM (.slice g.1 (q.getD []).length g.2) (q.getD [])] w':=by
 refine enter Tryz.func229 rfl Tryz.ntmps229 rfl ?_
 refine ac<|aa<|ag (bF rfl rfl rfl) rfl rfl (fun g1 _=>?_)
 refine ag (bF rfl rfl rfl) rfl rfl (fun g2 _=>?_)
 refine rn 2 [1,3,5] rfl<|ae<|ac<|aa<|af (aQ (vs:= [_]) fc cE cg rfl rfl (by rfl) rfl) rfl rfl ?_
 refine rn 1 [5,12,13] rfl<|ag (cO rfl rfl rfl Tryz.call103 (fun w hw=>pw Ap cp fs k w (hw.ro hs) hk hok hn0)) rfl rfl (fun⟨⟨A1,c1⟩,es,L⟩ hre=>?_)
 try dsimp only
 refine rn 5 [5,8] rfl<|ae<|ac<|aa<|rn 2 [8,17,18] rfl<|ag (cO rfl rfl rfl Tryz.call231 (fun w hw=>Ck A1 c1 es g2 pc w (SF.at_ (SF.own rfl fc) hw) (iZ hw fc) (fJ fc rfl w hw))) rfl rfl (fun r hr=>?_)
 refine rn 1 [8,10] rfl<|ae<|ac<|ac<|aa<|rn 2 [8,10,21] rfl<|ae ?_
 have hre:j9 es L (cD fs (av fs k)).1:=hre
 have hl:=hre.len
 refine aw rfl (fun h0=>?_) (fun h0=>?_)
 ·have hq2:q=none:=by
   rcases hr with ⟨_,h⟩ | ⟨i,h,_⟩
   ·rw[←hq]
    unfold eu
    rw[vV (fun j hj=>by
     have hj':j<es.length:=by omega
     have:=h j hj'
     rw[jN hj',(hre.el j hj' hj).1] at this
     exact this)]
    rfl
   omega
  subst hq2
  refine ac<|aa<|rn 2 [6,7] rfl<|ae<|au (ak ?_)
  refine bD Tryz.results229 (aq rfl) (aq rfl) ?_
  intro w hw
  exact⟨(none,0),trivial,rfl,(lN hw).msub ms⟩
 obtain⟨i,hi,hlt,hpc,hno⟩:∃i:Nat,r=i∧i<es.length∧(hent es i).pc=pc∧∀j,j<i→(hent es j).pc≠pc:=hr.elim (fun h=>by omega) id
 subst hi
 have hlt2:i<(cD fs (av fs k)).1.length:=by omega
 obtain⟨e1,e2⟩:=hre.el i hlt hlt2
 have hq2:q=some (cD fs (av fs k)).1[i].stack:=by
  rw[←hq]
  unfold eu
  rw[vW hlt2 (by rw[←e1,←jN hlt];exact hpc) (fun j hj h=>by
   have hj':j<es.length:=by omega
   have:=hno j hj
   rw[jN hj',(hre.el j hj' h).1] at this
   exact this)]
  rfl
 subst hq2
 rw[←jN hlt] at e2
 refine ax (ap ?_)
 refine ac<|aa<|rn 2 [22,23] rfl<|af (aO (k:=i) fH lc (SF.own (xs:=es) rfl fc) (by omega) rfl rfl rfl) rfl rfl ?_
 refine rn 1 [25] rfl<|af (a8 (fun w hw=>SF.hent (SF.own (xs:=es) rfl fc) hlt w hw 1 _ rfl) rfl rfl a5) rfl rfl ?_
 refine rn 2 [6,7] rfl<|ae<|au<|bD Tryz.results229 (aq rfl) (aq rfl) ?_
 intro w hw
 obtain⟨A5,c5,e5⟩:=e2.form hw fc
 rw[e5] at e2⊢
 exact⟨(A5,c5),trivial,rfl,(pQ e2 (hw.msub (T:=eV L:: []) ms)).msub ms⟩
end
section
theorem vn {fs:List aC} (hF:eS fs) {k:Nat} (hk:k<fs.length) {pc to_:Int} {t0 t:List Int} (hc:ff (av fs k) pc to_=true) (h0:eu fs (av fs k) (pc - 1)=some t0) (h1:eu fs (av fs k) pc=some t) (hr:(av fs to_.toNat).result≠0):1≤t.length:=by
 unfold ff at hc
 simp only[Bool.and_eq_true,decide_eq_true_eq] at hc
 obtain⟨_,hcc,hca⟩:=hc
 obtain⟨_,_,_,_,v0,hv0,hn0⟩:=(hF.e _ hk).at_ _ _ h0
 generalize bB (av fs k).code (pc - 1).toNat=oz at hcc hca hv0 hn0
 obtain⟨t',ht',hle⟩:=hn0 pc (by simp[di,hcc])
 rw[h1] at ht'
 have ht':=Option.some.inj ht'
 subst ht'
 obtain⟨T0,V0,e0,_,_,_,rfl⟩:=gG.1 hv0
 simp[tl,hcc] at e0
 obtain⟨rfl,rfl⟩:=e0
 rw[hca] at hle
 unfold bU at hle
 rw[if_neg hr] at hle
 have:=(pd hle).2.1
 omega
theorem mx {f:aC} {pc to_:Int} :ff f pc to_=(bL pc 1 f.code.length && (decide ((bB f.code (pc - 1).toNat).c=12) && decide ((bB f.code (pc - 1).toNat).a=to_))):=rfl
section
variable {B:Nat} {w0:World} {H:List bj}
set_option maxRecDepth 100000 in
set_option maxHeartbeats 4000000 in
theorem y9 (gc:Nat) (a:MA) (m:aD) (Ap:Option Addr) (cp:Nat) (fs:List aC) (hs:bX w0 B (.slice Ap fs.length cp) fs) (hm:gk B w0 a m) (hF:eS fs) (i:Nat) (hi:i<m.frames.length) (hfn:∀x∈m.frames,0≤x.func∧x.func<fs.length) (q:Option (List Int)) (hq:gu fs m.frames i=q) (w:World) (hw:Cw B w0 (am gc [.slice a.Af m.frames.length a.cf,.slice a.Ab m.blocks.length a.cb,.slice a.Ai m.inn.length a.ci,.slice a.Ao m.out.length a.co,.int .i64 m.status,.int .i64 m.trap,.slice Ap fs.length cp] 147::H) w) :
  Calls Tryz.prog 216 #[.pointer (some ⟨gc,0,none⟩),.int .i64 (i:Int)] w fun e w'=> ∃g:Option Addr×Nat,True∧e= .returned (.tuple #[.slice g.1 (q.getD []).length g.2,.bool q.isSome])∧Cw B w0 (gM (.slice g.1 (q.getD []).length g.2) (q.getD [])::am gc [.slice a.Af m.frames.length a.cf,.slice a.Ab m.blocks.length a.cb,.slice a.Ai m.inn.length a.ci,.slice a.Ao m.out.length a.co,.int .i64 m.status,.int .i64 m.trap,.slice Ap fs.length cp] 147::H) w':=by
 have bf:=bO hm.f
 have bp:=bO hs
 obtain⟨A1,c1,A2,c2,hl,hst,hI,hcell⟩:=hm.f.fr hi
 have hx:=hfn _ (ft hi)
 obtain⟨kf,hkf⟩:∃kf:Nat,(bg m.frames i).func=kf:=⟨(bg m.frames i).func.toNat,by omega⟩
 have hkl:kf<fs.length:=by omega
 obtain⟨hok,hn0⟩:=gY hF.p hkl
 obtain⟨F1,d1,F2,d2,hfl,hfc,hfi,hfcell⟩:=hs.fn hkl
 have bc:=bO hfc
 have hff:gL fs m.frames i=av fs kf:=by unfold gL;rw[hkf,Int.toNat_natCast]
 obtain⟨pc,hpc⟩:∃pc,(bg m.frames i).pc=pc:=⟨_,rfl⟩
 unfold gu at hq
 rw[hff,hpc] at hq
 rw[hkf,hpc] at hcell
 rw[hpc] at hI
 obtain⟨q1,hq1⟩:∃q1,eu fs (av fs kf) pc=q1:=⟨_,rfl⟩
 rw[hq1] at hq
 refine db Tryz.func216 rfl Tryz.ntmps216 rfl hw ?_
 refine ac<|aa<|rn 2 [0,1] rfl<|ae<|ac<|aa<|rn 4 [0,1,16] rfl<|af (ai fc cd rfl rfl (by rfl)) rfl rfl ?_
 refine rn 1 [0,1,17,18] rfl<|af (aO (k:=i) a6 bG (.ro hm.f) (by omega) rfl rfl rfl) rfl rfl<|af (cr (hcell _) rfl rfl gJ bG) rfl rfl<|ag (aZ df rfl rfl) rfl rfl (fun g1 _=>?_)
 refine ag (aH _ fc bG rfl rfl rfl rfl rfl (by rfl) rfl (by rfl)) rfl rfl (fun _ _=>?_)
 refine ae<|ac<|bQ (.still 0 (.still 1 (.still 2 (.still 3 (.still 4 (.still 5 (.still 6 (.still 7 (.pick 8 (.still 9 (.still 10 (.still 11 (.still 12 (.still 13 .done))))) .stop))))))))) [] rfl (by kernel_rfl) (by kernel_rfl) ?_
 refine aV ha 3 [0,1,6,24] rfl<|an rfl (aQ (vs:= [_]) fc cE cg rfl rfl (by rfl) rfl) rfl rfl ha ?_
 refine aV ha 1 [0,1,6,25,26] rfl<|an rfl (ai fc ar rfl rfl (by rfl)) rfl rfl ha ?_
 refine aV ha 1 [0,1,6,25,27,28] rfl<|an rfl (ai fc ar rfl rfl (by rfl)) rfl rfl ha ?_
 refine aB rfl (cO rfl rfl rfl Tryz.call229 (fun w hw=>r9 Ap cp fs kf pc q1 hq1 w (hw.ro hs) hkl hok hn0)) rfl rfl (.inr fun _=>ha) (fun⟨A5,c5⟩ _=>?_) ay
 try dsimp only
 refine aV ha 5 [0,1,6,7,8] rfl<|cJ<|ac<|ac<|aa<|rn 5 [0,1,6,7,8,33,37] rfl<|af (ai fc cd rfl rfl (by rfl)) rfl rfl ?_
 refine af (aN a6 rfl rfl) rfl rfl<|af (bx rfl rfl rfl (by omega)) rfl rfl<|rn 1 [0,1,6,7,8,41] rfl<|ae<|aw rfl (fun h1=>?_) (fun h1=>?_)
 ·rw[if_pos (show i+1=m.frames.length by omega)] at hq
  subst hq
  refine ac<|aa<|rn 4 [4,5] rfl<|ae<|au (ak ?_)
  refine bD i7 (aq rfl) (aq rfl) ?_
  intro w hw
  exact⟨(A5,c5),trivial,rfl,hw.msub ms⟩
 rw[if_neg (show¬i+1=m.frames.length by omega)] at hq
 have hi2:i+1<m.frames.length:=by omega
 obtain⟨A3,c3,A4,c4,hl2,hst2,hI2,hcell2⟩:=hm.f.fr hi2
 have hy:=hfn _ (ft hi2)
 obtain⟨ky,hky⟩:∃ky:Nat,(bg m.frames (i+1)).func=ky:=⟨(bg m.frames (i+1)).func.toNat,by omega⟩
 have hkyl:ky<fs.length:=by omega
 have hfy:gL fs m.frames (i+1)=av fs ky:=by unfold gL;rw[hky,Int.toNat_natCast]
 rw[hky] at hcell2
 rw[hfy,hky] at hq
 refine ax (ap ?_)
 refine ac<|aa<|rn 4 [0,1,6,7,8,47] rfl<|af (ai fc cd rfl rfl (by rfl)) rfl rfl ?_
 refine rn 1 [0,6,7,8,48,49] rfl<|af (bH rfl rfl rfl (by omega)) rfl rfl<|af (aO (k:=(i+1)) a6 bG (.ro hm.f) (by omega) rfl rfl rfl) rfl rfl<|rn 1 [0,6,7,8,52] rfl<|af (a8 (fun w hw=>hcell2 _ w hw 0 _ rfl) rfl rfl ar) rfl rfl ?_
 refine rn 1 [0,6,7,8,9] rfl<|ae<|ac<|bQ (.still 0 (.still 1 (.still 2 (.still 3 (.still 4 (.still 5 (.still 6 (.still 7 (.still 8 (.still 9 (.still 10 .done))))))))))) [] rfl (by kernel_rfl) (by kernel_rfl) ?_
 refine aV ha 4 [0,6,7,8,9,57] rfl<|an rfl (ai fc cQ rfl rfl (by rfl)) rfl rfl ha ?_
 refine aV ha 1 [0,6,7,8,9,58,59] rfl<|an rfl (ai fc ar rfl rfl (by rfl)) rfl rfl ha ?_
 refine an rfl (aO (k:=kf) bI bq (.ro hs) (by omega) rfl rfl rfl) rfl rfl ha ?_
 refine aV ha 1 [0,6,7,8,9,62] rfl<|an rfl (a8 (fun w hw=>hfcell _ w hw 3 _ rfl) rfl rfl dE) rfl rfl ha ?_
 refine aV ha 1 [0,6,7,8,9,10] rfl<|cJ<|ac<|ac<|aa<|rn 1 [0,6,7,8,9,10,64] rfl<|af (ai fc ar rfl rfl (by rfl)) rfl rfl ?_
 refine rn 1 [0,6,7,8,9,10,65,66] rfl<|af (aN bz rfl rfl) rfl rfl<|ag (bK rfl rfl rfl uK (fun w hw=>js pc 1 (av fs kf).code.length w)) rfl rfl (fun _ _=>?_)
 refine rn 2 [0,6,7,8,9,10,70] rfl<|bw (t:=70) rfl (fun h2=>?_) (fun h2=>?_)
 ·have hc:ff (av fs kf) pc ky=false:=by
   rw[mx,show bL pc 1 (av fs kf).code.length=false from by simpa using h2]
   rfl
  rw[if_pos hc] at hq
  subst hq
  refine rn 20 [0,6,7,8,9,90] rfl<|ae<|bR rfl<|ac<|aa<|rn 2 [4,5] rfl<|ae<|au (ak ?_)
  refine bD i7 (aq rfl) (aq rfl) ?_
  intro w hw
  exact⟨(none,0),trivial,rfl,(lN hw).msub ms⟩
 have hw1:bL pc 1 (av fs kf).code.length=true:=by simpa using h2
 have hw2:=dJ.1 hw1
 refine rn 2 [0,6,7,8,9,10,70,71,72] rfl<|af (ai fc ar rfl rfl (by rfl)) rfl rfl ?_
 refine af (bx rfl rfl rfl (by omega)) rfl rfl<|af (fw bz cG (.ro hfc) (by omega) rfl rfl rfl) rfl rfl<|rn 1 [0,6,7,8,9,10,70,76] rfl<|af (a8 (SF.opc (.ro hfc) (by omega)) rfl rfl ar) rfl rfl<|rn 3 [0,6,7,8,9,10,80] rfl<|bw (t:=80) rfl (fun h3=>?_) (fun h3=>?_)
 ·have hc:ff (av fs kf) pc ky=false:=by
   have h3:decide ((bB (av fs kf).code (pc - 1).toNat).c=12)=false:=by simpa using h3
   rw[mx,h3]
   simp
  rw[if_pos hc] at hq
  subst hq
  refine rn 10 [0,6,7,8,9,90] rfl<|ae<|bR rfl<|ac<|aa<|rn 2 [4,5] rfl<|ae<|au (ak ?_)
  refine bD i7 (aq rfl) (aq rfl) ?_
  intro w hw
  exact⟨(none,0),trivial,rfl,(lN hw).msub ms⟩
 have h3:decide ((bB (av fs kf).code (pc - 1).toNat).c=12)=true:=by simpa using h3
 refine rn 2 [0,6,7,8,9,80,81,82] rfl<|af (ai fc ar rfl rfl (by rfl)) rfl rfl ?_
 refine af (bx rfl rfl rfl (by omega)) rfl rfl<|af (fw bz cG (.ro hfc) (by omega) rfl rfl rfl) rfl rfl<|rn 1 [0,6,7,8,9,80,86] rfl<|af (a8 (SF.opa (.ro hfc) (by omega)) rfl rfl ar) rfl rfl<|rn 3 [0,6,7,8,9,90] rfl<|ae<|b9 rfl (fun h4=>?_) (fun h4=>?_)
 ·have hc:ff (av fs kf) pc ky=false:=by
   rw[mx,decide_eq_false (p:=(bB (av fs kf).code (pc - 1).toNat).a=ky) h4]
   simp
  rw[if_pos hc] at hq
  subst hq
  refine ac<|aa<|rn 2 [4,5] rfl<|ae<|au (ak ?_)
  refine bD i7 (aq rfl) (aq rfl) ?_
  intro w hw
  exact⟨(none,0),trivial,rfl,(lN hw).msub ms⟩
 have hc:ff (av fs kf) pc ky=true:=by
  rw[mx,hw1,h3,decide_eq_true (p:=(bB (av fs kf).code (pc - 1).toNat).a=ky) h4]
  rfl
 rw[if_neg (by rw[hc];decide)] at hq
 obtain⟨q0,hq0⟩:∃q0,eu fs (av fs kf) (pc - 1)=q0:=⟨_,rfl⟩
 rw[hq0] at hq
 refine ax (ap ?_)
 refine ac<|ac<|bQ (.still 0 (.still 1 (.still 2 (.still 3 (.still 4 (.still 5 (.still 6 (.still 7 (.still 8 (.pick 9 (.still 10 (.still 11 (.still 12 (.still 13 (.still 14 .done))))) .stop)))))))))) [] rfl (by kernel_rfl) (by kernel_rfl) ?_
 refine aV ha 3 [0,6,7,8,9,94] rfl<|an rfl (aQ (vs:= [_]) fc cE cg rfl rfl (by rfl) rfl) rfl rfl ha ?_
 refine aV ha 1 [0,6,7,8,9,95,96] rfl<|an rfl (ai fc ar rfl rfl (by rfl)) rfl rfl ha ?_
 refine aV ha 1 [0,7,8,9,95,97,98] rfl<|an rfl (ai fc ar rfl rfl (by rfl)) rfl rfl ha ?_
 refine an rfl (bx rfl rfl rfl (by omega)) rfl rfl ha ?_
 refine aB rfl (cO rfl rfl rfl Tryz.call229 (fun w hw=>r9 Ap cp fs kf (pc - 1) q0 hq0 w (hw.ro hs) hkl hok hn0)) rfl rfl (.inr fun _=>ha) (fun⟨A6,c6⟩ _=>?_) ay
 try dsimp only
 refine aV ha 5 [0,7,8,9,12] rfl<|cJ<|ac<|aa<|rn 3 [0,7,8,9,106] rfl<|bw (t:=106) rfl (fun h5=>?_) (fun h5=>?_)
 ·have h5:q0.isSome=false:=by simpa using h5
  rw[if_pos h5] at hq
  subst hq
  refine rn 3 [0,7,9,109] rfl<|ae<|bR rfl<|ac<|aa<|rn 2 [4,5] rfl<|ae<|au (ak ?_)
  refine bD i7 (aq rfl) (aq rfl) ?_
  intro w hw
  exact⟨(none,0),trivial,rfl,(lN hw).msub ms⟩
 have h5:q0.isSome=true:=by simpa using h5
 rw[if_neg (by rw[h5];decide)] at hq
 refine rn 3 [0,7,9,109] rfl<|ae<|cH rfl (fun h6=>?_) (fun h6=>?_)
 ·have h6:q1=none:=by simpa using h6
  subst h6
  have hq:none=q:=hq
  subst hq
  refine ac<|aa<|rn 2 [4,5] rfl<|ae<|au (ak ?_)
  refine bD i7 (aq rfl) (aq rfl) ?_
  intro w hw
  exact⟨(none,0),trivial,rfl,(lN hw).msub ms⟩
 obtain⟨t,rfl⟩:∃t,q1=some t:=by cases q1 with
  | none=>simp at h6
  | some t=>exact⟨t,rfl⟩
 obtain⟨t0,rfl⟩:∃t0,q0=some t0:=by cases q0 with
  | none=>simp at h5
  | some t0=>exact⟨t0,rfl⟩
 obtain⟨G1,b1,G2,b2,hgl,hgc,hgi,hgcell⟩:=hs.fn hkyl
 have hq:some (if (av fs ky).result≠0 then t.dropLast else t)=q:=hq
 subst hq
 refine ax (ap ?_)
 refine ac<|ac<|aa<|rn 4 [7,9,113] rfl<|af (ai fc cQ rfl rfl (by rfl)) rfl rfl ?_
 refine rn 1 [7,114,115] rfl<|af (aO (k:=ky) bI bq (.ro hs) (by omega) rfl rfl rfl) rfl rfl<|rn 1 [7,117] rfl<|af (a8 (fun w hw=>hgcell _ w hw 2 _ rfl) rfl rfl ar) rfl rfl ?_
 refine rn 1 [7,119] rfl<|ae<|b9 rfl (fun h7=>?_) (fun h7=>?_)
 ·have hone:=vn hF hkl hc hq0 hq1 (by rw[Int.toNat_natCast];exact h7)
  rw[if_pos h7,List.dropLast_eq_take]
  refine dD (fun w hw=>(hw.rdSl (v:= .slice A5 t.length c5) (xs:=t) fc).form) ?_
  rintro⟨_,_,e,hle,_⟩
  injection e with _ _ e
  have ht8:=((hF.e _ hkl).at_ _ _ hq1).2.2.1
  refine cP (t:=7) (v':= .slice A5 t.length c5) rfl (rfl) ?_
  refine aa<|rn 2 [120,121] rfl<|af (aN ah rfl rfl) rfl rfl<|af (bx rfl rfl rfl (by omega)) rfl rfl<|bA (t:=123) (v':= .int .i64 ((t.length - 1:Nat):Int)) rfl (by show Value.int _ ((t.length:Int) - 1)=_;congr 1;omega) ?_
  refine af (fC (k:=t.length - 1) ah aI (by omega) rfl rfl rfl) rfl rfl<|rn 1 [7] rfl<|ae<|ac<|aa<|rn 3 [4,5] rfl<|ae<|au<|bD i7 (aq rfl) (aq rfl) ?_
  intro w hw
  have hlt:(t.take (t.length - 1)).length=t.length - 1:=by rw[List.length_take];omega
  refine⟨(A5,c5),trivial,by show _=Ending.returned (.tuple #[.slice A5 (t.take (t.length - 1)).length c5,.bool true]);rw[hlt],?_⟩
  show Cw B w0 (gM (.slice A5 (t.take (t.length - 1)).length c5) (t.take (t.length - 1))::_::H) w
  rw[hlt]
  exact(BX (k:=t.length - 1) (by omega) (hw.msub (T:=gM (.slice A5 t.length c5) t::am gc [.slice a.Af m.frames.length a.cf,.slice a.Ab m.blocks.length a.cb,.slice a.Ai m.inn.length a.ci,.slice a.Ao m.out.length a.co,.int .i64 m.status,.int .i64 m.trap,.slice Ap fs.length cp] 147::H) ms)).msub ms
 rw[if_neg (fun h=>h h7)]
 refine ax (ap ?_)
 refine ac<|aa<|rn 3 [4,5] rfl<|ae<|au<|bD i7 (aq rfl) (aq rfl) ?_
 intro w hw
 exact⟨(A5,c5),trivial,rfl,hw.msub ms⟩
end
end
section
theorem r7 {α:Type} {L:List (List α)} {k:Nat} (hk:k<L.length):(L.take (k+1)).flatten=(L.take k).flatten++L.getD k []:=by
 rw[e9 L k [] hk,List.flatten_append]
 simp
theorem uY {α:Type} (L:List (List α)) (k:Nat):(L.take k).flatten.length≤L.flatten.length:=by
 rw[←congrArg List.length (congrArg List.flatten (List.take_append_drop k L)),List.flatten_append,List.length_append]
 omega
set_option maxRecDepth 100000 in
set_option maxHeartbeats 1000000 in
theorem xc (g n:Nat) (hd:Nat→Option Addr×Nat) (L:List (List aS)) (hn:L.length=n) (w:World) (hlt:g<w.heap.size) (hc:∀k,k<n→w.cell? ⟨g,0+k*1,none⟩=some (.slice (hd k).1 (L.getD k []).length (hd k).2))
  (hs:∀k,k<n→Sl w (.slice (hd k).1 (L.getD k []).length (hd k).2) (L.getD k [])) (hb:L.flatten.length*16≤140737488355328) (hn':n≤1000) :
  Calls Tryz.prog 213 #[.slice (some ⟨g,0,none⟩) n n] w fun e w'=> ∃u,e= .returned u∧Below w.heap.size w w'∧dT w' w.heap.size u L.flatten:=by
 subst hn
 have hfl:=uY L
 refine enter Tryz.func213 rfl Tryz.ntmps213 rfl ?_
 refine ac<|aa<|rn 1 [0] rfl<|ae<|ac<|aa<|rn 1 [0,3] rfl<|ae<|ac<|ac<|aa<|rn 1 [0,3,9] rfl<|af (aN l7 rfl rfl) rfl rfl<|rn 1 [0,3,9,10,11] rfl<|ae<|aL (b8 (fun k:Nat=>k≤L.length) (fun k=>L.length - k) (fun k=> [(0,.slice (some ⟨g,0,none⟩) L.length L.length),(3,.int .i64 ((L.take k).flatten.length:Int)),(9,.slice (some ⟨g,0,none⟩) L.length L.length),(10,.int .i64 (L.length:Int)),(11,.int .i64 (k:Int))]) (fun _=> []) 0 (Nat.zero_le _) ⟨rfl,rfl,rfl,rfl,rfl,trivial⟩ me ?_)
 rintro k hk
 have hk:k≤L.length:=hk
 refine ac<|aa<|rn 1 [0,3,9,10,11,12] rfl<|ae<|ac<|aw rfl (fun h1=>?_) (fun h1=>?_)
 ·have hkn:k<L.length:=by omega
  have hft:=congrArg List.length (r7 (L:=L) (k:=k) (by omega))
  rw[List.length_append] at hft
  have hfk:=hfl (k+1)
  refine ax (ap ?_)
  refine ac<|aL<|ac<|aa<|af (jJ (k:=k) l7 dd rfl hkn rfl rfl rfl) rfl rfl<|af (a8 (fun w' hw=>(hw.below.cell hlt).trans (hc k hkn)) rfl rfl a9) rfl rfl ?_
  refine rn 1 [0,3,5,9,10,11] rfl<|ae<|ac<|aa<|rn 2 [0,9,10,11,15,16] rfl<|af (aN az rfl rfl) rfl rfl<|af (bH rfl rfl rfl (by omega)) rfl rfl<|rn 1 [0,3,9,10,11] rfl<|ae<|ac<|aa<|rn 2 [0,3,9,10,11,20] rfl<|ae<|aw rfl (fun h2=>?_) (fun h2=>?_)
  ·exact absurd h2 (by omega)
  refine cP (t:=3) (v':= .int .i64 ((L.take (k+1)).flatten.length:Int)) rfl (by congr 1;omega) ?_
  refine ax (aK (ap ?_))
  refine aa<|af (bH rfl rfl rfl (by omega)) rfl rfl<|rn 1 [0,3,9,10,11] rfl<|br (k+1) (by show k+1≤_;omega) (by show _ - _<_ - _;omega) ⟨rfl,rfl,rfl,rfl,rfl,trivial⟩ me
 obtain rfl:k=L.length:=by omega
 rw[List.take_length]
 refine bN (aM (aM (cc (ap ?_))))
 refine ac<|aa<|rn 1 [0,23] rfl<|ag (cO rfl rfl rfl Tryz.call228 (fun w hw=>yO L.flatten.length hb w)) rfl rfl (fun⟨A2,c2⟩ _=>?_)
 try dsimp only
 refine rn 1 [0,6] rfl<|ae<|ac<|ac<|aa<|rn 1 [6,25] rfl<|af (aN l7 rfl rfl) rfl rfl<|rn 1 [6,25,26,27] rfl<|ae<|aL (b8 (fun g:Nat×Option Addr×Nat=>g.1≤L.length) (fun g=>L.length - g.1) (fun q=> [(6,.slice q.2.1 (L.take q.1).flatten.length q.2.2),(25,.slice (some ⟨g,0,none⟩) L.length L.length),(26,.int .i64 (L.length:Int)),(27,.int .i64 (q.1:Int))]) (fun q=> [aj (.slice q.2.1 (L.take q.1).flatten.length q.2.2) (L.take q.1).flatten]) (0,A2,c2) (Nat.zero_le _) ⟨rfl,rfl,rfl,rfl,trivial⟩ me ?_)
 rintro⟨k,A3,c3⟩ hk
 try dsimp only
 have hk:k≤L.length:=hk
 refine ac<|aa<|rn 1 [6,25,26,27,28] rfl<|ae<|ac<|aw rfl (fun h1=>?_) (fun h1=>?_)
 ·have hkn:k<L.length:=by omega
  have hft:=r7 (L:=L) (k:=k) (by omega)
  have hft2:=congrArg List.length hft
  rw[List.length_append] at hft2
  have hfk:=hfl (k+1)
  refine ax (ap ?_)
  refine ac<|aL<|ac<|aa<|af (jJ (k:=k) l7 dd rfl hkn rfl rfl rfl) rfl rfl<|af (a8 (fun w' hw=>(hw.below.cell hlt).trans (hc k hkn)) rfl rfl a9) rfl rfl ?_
  refine rn 1 [6,8,25,26,27] rfl<|ae<|aa<|rn 2 [25,26,27,31,32] rfl<|ag (dy (α:=aS) (bytes:=16) (xs:=(L.take k).flatten) (ys:=L.getD k []) hft az (bM dk) rfl fc (.ro (hs k hkn)) (by omega) (by omega) rfl rfl rfl) rfl rfl (fun⟨A5,c5⟩ _=>?_)
  try dsimp only
  refine rn 1 [6,25,26,27] rfl<|bE (aK (ap ?_))
  refine aa<|af (bH rfl rfl rfl (by omega)) rfl rfl<|rn 1 [6,25,26,27] rfl<|br (k+1,A5,c5) (by show k+1≤_;omega) (by show _ - _<_ - _;omega) ⟨rfl,rfl,rfl,rfl,trivial⟩ me
 obtain rfl:k=L.length:=by omega
 rw[List.take_length]
 refine bN (aM (aM (cc (ap ?_))))
 refine ac<|aa<|rn 2 [2] rfl<|ae<|au<|aA Tryz.results213 (aq rfl) ?_
 intro w hw
 exact⟨_,rfl,jL hw⟩
end
section
theorem wi {nb:Nat} {l:List aS} {k:Nat} (hk:k<l.length) (h:et nb (l.getD k default)=false):l.any (fun v=>!et nb v)=true:=List.any_eq_true.2 ⟨_,cN hk,by rw[h];rfl⟩
theorem uo {nb:Nat} {l:List aS} (h:∀j,j<l.length→et nb (l.getD j default)=true):¬l.any (fun v=>!et nb v)=true:=fun ha=>by
 obtain⟨v,hv,h2⟩:=List.any_eq_true.1 ha
 obtain⟨j,hj,rfl⟩:=List.getElem_of_mem hv
 have:=h j hj
 rw[List.getD_eq_getElem?_getD,List.getElem?_eq_getElem hj,Option.getD_some] at this
 rw[this] at h2
 cases h2
theorem pj {s:List aS} {t:List Int} {n k:Nat} (hk:k<n) (h:eP (s.getD k default) (t.getD k 0)=false):we s t n=false:=by
 cases e:we s t n with
 | false=>rfl
 | true=>rw[jj.1 e k hk] at h;cases h
section
variable {B:Nat} {w0:World} {H:List bj}
set_option maxRecDepth 100000 in
set_option maxHeartbeats 4000000 in
theorem qS (gc:Nat) (a:MA) (m:aD) (Ap:Option Addr) (cp:Nat) (fs:List aC) (hs:bX w0 B (.slice Ap fs.length cp) fs) (hm:gk B w0 a m) (hF:eS fs) (hfit:l6 m.frames) (i:Nat) (hi:i<m.frames.length) (hfn:∀x∈m.frames,0≤x.func∧x.func<fs.length) (E:Int) (hE:eG fs m.blocks.length m.frames i=E) (w:World) (hw:Cw B w0 (am gc [.slice a.Af m.frames.length a.cf,.slice a.Ab m.blocks.length a.cb,.slice a.Ai m.inn.length a.ci,.slice a.Ao m.out.length a.co,.int .i64 m.status,.int .i64 m.trap,.slice Ap fs.length cp] 147::H) w) :
  Calls Tryz.prog 180 #[.pointer (some ⟨gc,0,none⟩),.int .i64 (i:Int)] w fun e w'=> ∃_:Unit,True∧e= .returned (.int .i64 E)∧Cw B w0 (am gc [.slice a.Af m.frames.length a.cf,.slice a.Ab m.blocks.length a.cb,.slice a.Ai m.inn.length a.ci,.slice a.Ao m.out.length a.co,.int .i64 m.status,.int .i64 m.trap,.slice Ap fs.length cp] 147::H) w':=by
 have bf:=bO hm.f
 have bp:=bO hs
 obtain⟨A1,c1,A2,c2,hl,hst,hI,hcell⟩:=hm.f.fr hi
 obtain⟨hb1,hb2⟩:=hfit.2 (bg m.frames i) (ft hi)
 have hx:=hfn _ (ft hi)
 obtain⟨kf,hkf⟩:∃kf:Nat,(bg m.frames i).func=kf:=⟨(bg m.frames i).func.toNat,by omega⟩
 have hkl:kf<fs.length:=by omega
 obtain⟨hok,hn0⟩:=gY hF.p hkl
 obtain⟨F1,d1,F2,d2,hfl,hfc,hfi,hfcell⟩:=hs.fn hkl
 have hfl6:(av fs kf).locals.length≤6:=(hok.op 0 hn0).par kf hkl |>.2
 have hff:gL fs m.frames i=av fs kf:=by unfold gL;rw[hkf,Int.toNat_natCast]
 unfold eG at hE
 rw[hff] at hE
 rw[hkf] at hcell
 obtain⟨q,hq⟩:∃q,gu fs m.frames i=q:=⟨_,rfl⟩
 rw[hq] at hE
 generalize av fs kf=f at hE hfl hfc hfi hfcell hfl6
 generalize bg m.frames i=x at hE hl hst hI hcell hb1 hb2
 have bx1:=bO hl
 have bx2:=bO hst
 refine db Tryz.func180 rfl Tryz.ntmps180 rfl hw ?_
 refine ac<|aa<|rn 1 [0,1] rfl<|ae<|ac<|aa<|rn 4 [0,1,19] rfl<|af (ai fc cd rfl rfl (by rfl)) rfl rfl ?_
 refine rn 1 [0,1,20,21] rfl<|af (aO (k:=i) a6 bG (.ro hm.f) (by omega) rfl rfl rfl) rfl rfl<|af (cr (hcell _) rfl rfl gJ bG) rfl rfl<|ag (aZ df rfl rfl) rfl rfl (fun g1 _=>?_)
 refine ag (aH _ fc bG rfl rfl rfl rfl rfl (by rfl) rfl (by rfl)) rfl rfl (fun _ _=>?_)
 refine ae<|ac<|bQ (.still 0 (.still 1 (.still 2 (.still 3 (.still 4 (.still 5 (.still 6 (.still 7 (.still 8 (.pick 9 (.pick 10 .done .stop) .stop)))))))))) [10] rfl (by kernel_rfl) (by kernel_rfl) ?_
 refine aV ha 4 [0,1,5,27] rfl<|an rfl (ai fc cQ rfl rfl (by rfl)) rfl rfl ha ?_
 refine aV ha 1 [0,1,5,28,29] rfl<|an rfl (ai fc ar rfl rfl (by rfl)) rfl rfl ha ?_
 refine an rfl (aO (k:=kf) bI bq (.ro hs) (by omega) rfl rfl rfl) rfl rfl ha ?_
 refine an rfl (cr (hfcell _) rfl rfl d8 bq) rfl rfl ha ?_
 refine aB rfl (aZ ey rfl rfl) rfl rfl (.inr fun _=>ha) (fun g2 _=>?_) ay
 refine aB rfl (aH _ fc bq rfl rfl rfl rfl rfl (by rfl) rfl (by rfl)) rfl rfl (.inl rfl) (fun _ _=>?_) ay
 refine cJ<|ac<|ac<|aa<|rn 1 [0,1,5,6,33] rfl<|af (ai fc a9 rfl rfl (by rfl)) rfl rfl ?_
 refine af (aN az rfl rfl) rfl rfl<|rn 1 [0,1,5,6,35,36] rfl<|af (ai fc a5 rfl rfl (by rfl)) rfl rfl ?_
 refine af (aN ah rfl rfl) rfl rfl<|rn 1 [0,1,5,6,39] rfl<|ae<|b9 rfl (fun h1=>?_) (fun h1=>?_)
 ·rw[if_pos (show x.locals.length≠f.locals.length from fun e=>h1 (by rw[e]))] at hE
  subst hE
  refine ac<|aa<|rn 1 [4] rfl<|ae<|au (ak ?_)
  refine aA kg (aq rfl) ?_
  intro w hw
  exact⟨(),trivial,rfl,hw.msub ms⟩
 have h1:x.locals.length=f.locals.length:=by omega
 rw[if_neg (fun h=>h h1)] at hE
 have hcat: [x.locals,x.stack].flatten.length*16≤140737488355328:=by simp only[List.flatten_cons,List.flatten_nil,List.length_append,List.length_nil];omega
 refine ax (ap ?_)
 refine ac<|ac<|aa<|rn 1 [0,1,5,6,40] rfl<|af (ai fc a9 rfl rfl (by rfl)) rfl rfl ?_
 refine rn 1 [0,1,5,6,41,42] rfl<|af (ai fc a9 rfl rfl (by rfl)) rfl rfl ?_
 refine ag (bh (cs:= [_,_]) l7 dd Tryz.zeroValue95 rfl rfl rfl rfl rfl) rfl rfl (fun g3 _=>?_)
 refine ag (eL rfl rfl rfl Tryz.call213 (fun w hw=>xc g3 2 (fun k=>if k=0 then (A1,c1) else (A2,c2)) [x.locals,x.stack] rfl w (iZ hw fc) (fun k hk=>by rcases(show k=0∨k=1 by omega) with rfl | rfl;exact fJ fc rfl w hw;exact fJ fc rfl w hw) (fun k hk=>by rcases(show k=0∨k=1 by omega) with rfl | rfl;exact hw.ro hl;exact hw.ro hst) hcat (by decide))) rfl rfl (fun⟨A5,c5⟩ _=>?_)
 try dsimp only
 refine af (aN az rfl rfl) rfl rfl<|rn 1 [0,1,5,6,45,46,47] rfl<|ae ?_
 have hfe: [x.locals,x.stack].flatten=x.locals++x.stack:=by simp
 rw[hfe]
 rw[hfe] at hcat
 refine aL (b8 (fun k:Nat=>k≤(x.locals++x.stack).length∧∀j,j<k→et m.blocks.length ((x.locals++x.stack).getD j default)=true) (fun k=>(x.locals++x.stack).length - k) (fun k=> [(0,.pointer (some ⟨gc,0,none⟩)),(1,.int .i64 (i:Int)),(5,.pointer (some ⟨g1,0,none⟩)),(6,.pointer (some ⟨g2,0,none⟩)),(45,.slice A5 (x.locals++x.stack).length c5),(46,.int .i64 ((x.locals++x.stack).length:Int)),(47,.int .i64 (k:Int))]) (fun _=>aj (.slice A5 (x.locals++x.stack).length c5) (x.locals++x.stack)::am g1 [.int .i64 (kf:Int),.int .i64 x.pc,.slice A1 x.locals.length c1,.slice A2 x.stack.length c2] 97::am g2 [.int .i64 f.params,.slice F1 f.locals.length d1,.int .i64 f.result,.slice F2 f.code.length d2] 110::am gc [.slice a.Af m.frames.length a.cf,.slice a.Ab m.blocks.length a.cb,.slice a.Ai m.inn.length a.ci,.slice a.Ao m.out.length a.co,.int .i64 m.status,.int .i64 m.trap,.slice Ap fs.length cp] 147::H) 0 (⟨Nat.zero_le _,fun _ h=>absurd h (Nat.not_lt_zero _)⟩) ⟨rfl,rfl,rfl,rfl,rfl,rfl,rfl,trivial⟩ (fun w h=>h.msub ms) ?_)
 rintro k hk'
 obtain⟨hk,hno⟩:k≤(x.locals++x.stack).length∧∀j,j<k→et m.blocks.length ((x.locals++x.stack).getD j default)=true:=hk'
 refine ac<|aa<|rn 1 [0,1,5,6,45,46,47,48] rfl<|ae<|ac<|aw rfl (fun hlt=>?_) (fun hlt=>?_)
 ·have hkl2:k<(x.locals++x.stack).length:=by omega
  refine ax (ap ?_)
  refine ac<|aL<|ac<|aa<|af (aO az aE (SF.own rfl fc) (by omega) rfl rfl rfl) rfl rfl ?_
  refine af (cr (SF.val (SF.own rfl fc) hkl2 default) rfl rfl dr aE) rfl rfl ?_
  refine ag (aZ bu rfl rfl) rfl rfl (fun g4 _=>?_)
  refine ag (aH _ fc aE rfl rfl rfl rfl rfl (by rfl) rfl (by rfl)) rfl rfl (fun _ _=>?_)
  refine ae<|ac<|aa<|rn 1 [0,1,5,6,8,45,46,47,51] rfl<|af (aQ (vs:= [_,_]) fc dr aE rfl rfl (by rfl) rfl) rfl rfl ?_
  refine ag (bC rfl rfl rfl Tryz.call214 (fun w hw=>xa gc a m (.slice Ap fs.length cp) ((x.locals++x.stack).getD k default) w (hw.msub (.s fc .r)))) rfl rfl (fun _ _=>?_)
  refine rn 1 [0,1,5,6,9,45,46,47] rfl<|ae<|ac<|aa<|rn 2 [0,1,5,6,9,45,46,47,55] rfl<|ae ?_
  obtain⟨vb,hvb⟩:∃b,et m.blocks.length ((x.locals++x.stack).getD k default)=b:=⟨_,rfl⟩
  rw[hvb]
  cases vb
  ·rw[if_pos (wi hkl2 hvb)] at hE
   subst hE
   rw[if_neg (by decide)]
   refine b9 rfl (fun hz=>?_) (fun hz=>?_)
   ·refine ac<|aa<|rn 2 [4] rfl<|ae<|au (aG (ak (ak (aG (ak ?_)))))
    refine aA kg (aq rfl) ?_
    intro w hw
    exact⟨(),trivial,rfl,hw.msub ms⟩
   exact absurd hz (by decide)
  rw[if_pos rfl]
  refine b9 rfl (fun hz=>?_) (fun hz=>?_)
  ·exact absurd rfl hz
  refine ax (aK (ap ?_))
  refine aa<|af (bH rfl rfl rfl (by omega)) rfl rfl<|rn 1 [0,1,5,6,45,46,47] rfl<|br (k+1) (⟨by show k+1≤_;omega,fun j hj=>(Nat.lt_or_ge j k).elim (hno j) (fun h=>by obtain rfl:j=k:=(by omega);exact hvb)⟩) (by show _ - _<_ - _;omega) ⟨rfl,rfl,rfl,rfl,rfl,rfl,rfl,trivial⟩ (fun w h=>h.msub ms)
 obtain rfl:k=(x.locals++x.stack).length:=by omega
 rw[if_neg (uo hno)] at hE
 refine bN (aM (aM (cc (ap ?_))))
 refine ac<|ac<|aa<|rn 1 [0,1,5,6,58] rfl<|af (ai fc a9 rfl rfl (by rfl)) rfl rfl ?_
 refine af (aN az rfl rfl) rfl rfl<|rn 1 [0,1,5,6,59,60,61] rfl<|ae<|aL (b8 (fun k:Nat=>k≤x.locals.length∧∀j,j<k→eP (x.locals.getD j default) (f.locals.getD j 0)=true) (fun k=>x.locals.length - k) (fun k=> [(0,.pointer (some ⟨gc,0,none⟩)),(1,.int .i64 (i:Int)),(5,.pointer (some ⟨g1,0,none⟩)),(6,.pointer (some ⟨g2,0,none⟩)),(59,.slice A1 x.locals.length c1),(60,.int .i64 (x.locals.length:Int)),(61,.int .i64 (k:Int))]) (fun _=>am g1 [.int .i64 (kf:Int),.int .i64 x.pc,.slice A1 x.locals.length c1,.slice A2 x.stack.length c2] 97::am g2 [.int .i64 f.params,.slice F1 f.locals.length d1,.int .i64 f.result,.slice F2 f.code.length d2] 110::am gc [.slice a.Af m.frames.length a.cf,.slice a.Ab m.blocks.length a.cb,.slice a.Ai m.inn.length a.ci,.slice a.Ao m.out.length a.co,.int .i64 m.status,.int .i64 m.trap,.slice Ap fs.length cp] 147::H) 0 (⟨Nat.zero_le _,fun _ h=>absurd h (Nat.not_lt_zero _)⟩) ⟨rfl,rfl,rfl,rfl,rfl,rfl,rfl,trivial⟩ (fun w h=>h.msub ms) ?_)
 rintro k hk'
 obtain⟨hk,hno2⟩:k≤x.locals.length∧∀j,j<k→eP (x.locals.getD j default) (f.locals.getD j 0)=true:=hk'
 refine ac<|aa<|rn 1 [0,1,5,6,59,60,61,62] rfl<|ae<|ac<|aw rfl (fun hlt=>?_) (fun hlt=>?_)
 ·have hkl2:k<x.locals.length:=by omega
  refine ax (ap ?_)
  refine ac<|aL<|ac<|aa<|rn 1 [0,1,5,6,59,60,61,63] rfl<|af (aO az aE (.ro hl) (by omega) rfl rfl rfl) rfl rfl<|af (cr (SF.val (SF.ro hl) hkl2 default) rfl rfl dr aE) rfl rfl<|ag (aZ bu rfl rfl) rfl rfl (fun g5 _=>?_)
  refine rn 1 [0,1,5,6,10,11,59,60,61,65] rfl<|ag (aH _ fc aE rfl rfl rfl rfl rfl (by rfl) rfl (by rfl)) rfl rfl (fun _ _=>?_)
  refine ae<|ac<|bQ (.still 0 (.still 1 (.still 2 (.still 3 (.still 4 (.still 5 (.pick 6 (.still 7 .done) .stop))))))) [] rfl (by kernel_rfl) (by kernel_rfl) ?_
  refine an rfl (aQ (vs:= [_,_]) fc dr aE rfl rfl (by rfl) rfl) rfl rfl ha ?_
  refine aV ha 1 [0,1,5,6,10,59,60,61,66,67] rfl<|an rfl (ai fc a5 rfl rfl (by rfl)) rfl rfl ha ?_
  refine aV ha 1 [0,1,5,6,59,60,61,66,68,69] rfl<|an rfl (aO (k:=k) ah aI (.ro hfl) (by omega) rfl rfl rfl) rfl rfl ha ?_
  refine an rfl (a8 (SF.int (.ro hfl) (by omega)) rfl rfl ar) rfl rfl ha ?_
  refine aB rfl (bK rfl rfl rfl Tryz.call215 (fun w hw=>vO (x.locals.getD k default) (f.locals.getD k 0) w)) rfl rfl (.inr fun _=>ha) (fun _ _=>?_) ay
  refine aV ha 1 [0,1,5,6,59,60,61,73] rfl<|cJ<|cH rfl (fun hb=>?_) (fun hb=>?_)
  ·have hb:eP (x.locals.getD k default) (f.locals.getD k 0)=false:=by simpa using hb
   rw[if_pos (pj hkl2 hb)] at hE
   subst hE
   refine ac<|aa<|rn 1 [4] rfl<|ae<|au (aG (ak (ak (aG (ak ?_)))))
   refine aA kg (aq rfl) ?_
   intro w hw
   exact⟨(),trivial,rfl,hw.msub ms⟩
  have hb:eP (x.locals.getD k default) (f.locals.getD k 0)=true:=by simpa using hb
  refine ax (aK (ap ?_))
  refine aa<|af (bH rfl rfl rfl (by omega)) rfl rfl<|rn 1 [0,1,5,6,59,60,61] rfl<|br (k+1) (⟨by show k+1≤_;omega,fun j hj=>(Nat.lt_or_ge j k).elim (hno2 j) (fun h=>by obtain rfl:j=k:=(by omega);exact hb)⟩) (by show _ - _<_ - _;omega) ⟨rfl,rfl,rfl,rfl,rfl,rfl,rfl,trivial⟩ (fun w h=>h.msub ms)
 obtain rfl:k=x.locals.length:=by omega
 rw[if_neg (by rw[jj.2 hno2];decide)] at hE
 refine bN (aM (aM (cc (ap ?_))))
 refine ac<|aa<|rn 2 [5,76,77] rfl<|ag (bC rfl rfl rfl Tryz.call216 (fun w hw=>y9 (H:=am g1 [.int .i64 (kf:Int),.int .i64 x.pc,.slice A1 x.locals.length c1,.slice A2 x.stack.length c2] 97::am g2 [.int .i64 f.params,.slice F1 f.locals.length d1,.int .i64 f.result,.slice F2 f.code.length d2] 110::H) gc a m Ap cp fs hs hm hF i hi hfn q hq w (hw.msub ms))) rfl rfl (fun⟨A6,c6⟩ _=>?_)
 try dsimp only
 refine rn 5 [5,12,13] rfl<|ae<|ac<|ac<|aa<|rn 2 [5,12,82] rfl<|ae<|cH rfl (fun hn=>?_) (fun hn=>?_)
 ·have hn:q=none:=by simpa using hn
  subst hn
  subst hE
  refine ac<|aa<|rn 1 [4] rfl<|ae<|au (ak ?_)
  refine aA kg (aq rfl) ?_
  intro w hw
  exact⟨(),trivial,rfl,hw.msub ms⟩
 obtain⟨t,rfl⟩:∃t,q=some t:=by cases q with
  | none=>simp at hn
  | some t=>exact⟨t,rfl⟩
 dsimp only[Option.getD_some] at hE⊢
 refine ax (ap ?_)
 refine ac<|ac<|aa<|rn 1 [5,12,83] rfl<|af (aN ah rfl rfl) rfl rfl<|rn 1 [5,12,84,85] rfl<|af (ai fc a9 rfl rfl (by rfl)) rfl rfl ?_
 refine af (aN az rfl rfl) rfl rfl<|rn 1 [5,12,88] rfl<|ae<|b9 rfl (fun h2=>?_) (fun h2=>?_)
 ·rw[if_pos (show t.length≠x.stack.length from fun e=>h2 (by rw[e]))] at hE
  subst hE
  refine ac<|aa<|rn 1 [4] rfl<|ae<|au (ak ?_)
  refine aA kg (aq rfl) ?_
  intro w hw
  exact⟨(),trivial,rfl,hw.msub ms⟩
 have h2:t.length=x.stack.length:=by omega
 rw[if_neg (fun h=>h h2)] at hE
 refine ax (ap ?_)
 refine ac<|ac<|aa<|rn 1 [12,89] rfl<|af (ai fc a9 rfl rfl (by rfl)) rfl rfl ?_
 refine af (aN az rfl rfl) rfl rfl<|rn 1 [12,90,91,92] rfl<|ae<|aL (b8 (fun k:Nat=>k≤x.stack.length∧∀j,j<k→eP (x.stack.getD j default) (t.getD j 0)=true) (fun k=>x.stack.length - k) (fun k=> [(12,.slice A6 t.length c6),(90,.slice A2 x.stack.length c2),(91,.int .i64 (x.stack.length:Int)),(92,.int .i64 (k:Int))]) (fun _=>gM (.slice A6 t.length c6) t::am gc [.slice a.Af m.frames.length a.cf,.slice a.Ab m.blocks.length a.cb,.slice a.Ai m.inn.length a.ci,.slice a.Ao m.out.length a.co,.int .i64 m.status,.int .i64 m.trap,.slice Ap fs.length cp] 147::H) 0 (⟨Nat.zero_le _,fun _ h=>absurd h (Nat.not_lt_zero _)⟩) ⟨rfl,rfl,rfl,rfl,trivial⟩ (fun w h=>h.msub ms) ?_)
 rintro k hk'
 obtain⟨hk,hno3⟩:k≤x.stack.length∧∀j,j<k→eP (x.stack.getD j default) (t.getD j 0)=true:=hk'
 refine ac<|aa<|rn 1 [12,90,91,92,93] rfl<|ae<|ac<|aw rfl (fun hlt=>?_) (fun hlt=>?_)
 ·have hkl2:k<x.stack.length:=by omega
  refine ax (ap ?_)
  refine ac<|aL<|ac<|aa<|rn 1 [12,90,91,92,94] rfl<|af (aO az aE (.ro hst) (by omega) rfl rfl rfl) rfl rfl<|af (cr (SF.val (SF.ro hst) hkl2 default) rfl rfl dr aE) rfl rfl<|ag (aZ bu rfl rfl) rfl rfl (fun g6 _=>?_)
  refine rn 1 [12,14,15,90,91,92,96] rfl<|ag (aH _ fc aE rfl rfl rfl rfl rfl (by rfl) rfl (by rfl)) rfl rfl (fun _ _=>?_)
  refine ae<|ac<|bQ (.still 0 (.still 1 (.still 2 (.still 3 (.still 4 (.pick 5 (.still 6 .done) .stop)))))) [] rfl (by kernel_rfl) (by kernel_rfl) ?_
  refine an rfl (aQ (vs:= [_,_]) fc dr aE rfl rfl (by rfl) rfl) rfl rfl ha ?_
  refine aV ha 2 [12,90,91,92,97,98,99] rfl<|an rfl (aO (k:=k) ah aI (SF.rd (xs:=t) rfl fc) (by omega) rfl rfl rfl) rfl rfl ha ?_
  refine an rfl (a8 (SF.int (SF.rd (xs:=t) rfl fc) (by omega)) rfl rfl ar) rfl rfl ha ?_
  refine aB rfl (bK rfl rfl rfl Tryz.call215 (fun w hw=>vO (x.stack.getD k default) (t.getD k 0) w)) rfl rfl (.inr fun _=>ha) (fun _ _=>?_) ay
  refine aV ha 1 [12,90,91,92,103] rfl<|cJ<|cH rfl (fun hb=>?_) (fun hb=>?_)
  ·have hb:eP (x.stack.getD k default) (t.getD k 0)=false:=by simpa using hb
   rw[if_pos (pj (by omega) hb)] at hE
   subst hE
   refine ac<|aa<|rn 1 [4] rfl<|ae<|au (aG (ak (ak (aG (ak ?_)))))
   refine aA kg (aq rfl) ?_
   intro w hw
   exact⟨(),trivial,rfl,hw.msub ms⟩
  have hb:eP (x.stack.getD k default) (t.getD k 0)=true:=by simpa using hb
  refine ax (aK (ap ?_))
  refine aa<|af (bH rfl rfl rfl (by omega)) rfl rfl<|rn 1 [12,90,91,92] rfl<|br (k+1) (⟨by show k+1≤_;omega,fun j hj=>(Nat.lt_or_ge j k).elim (hno3 j) (fun h=>by obtain rfl:j=k:=(by omega);exact hb)⟩) (by show _ - _<_ - _;omega) ⟨rfl,rfl,rfl,rfl,trivial⟩ (fun w h=>h.msub ms)
 obtain rfl:k=x.stack.length:=by omega
 rw[if_neg (by rw[h2,jj.2 hno3];decide)] at hE
 subst hE
 refine bN (aM (aM (cc (ap ?_))))
 refine ac<|aa<|rn 1 [4] rfl<|ae<|au<|aA kg (aq rfl) ?_
 intro w hw
 exact⟨(),trivial,rfl,hw.msub ms⟩
end
end
section
theorem jY {n k:Nat} (hk:k<n):(List.range n).getD k 0=k:=by
 rw[List.getD_eq_getElem?_getD,List.getElem?_range hk]
 rfl
theorem yT {l:List aW} {k n:Nat} (hk:k<l.length) (h:bL (bg l k).func 0 ((n:Int) - 1)=false):l.any (fun x=>!bL x.func 0 ((n:Int) - 1))=true:=List.any_eq_true.2 ⟨_,ft hk,by rw[h];rfl⟩
theorem vT {l:List aW} {n:Nat} (h:∀j,j<l.length→bL (bg l j).func 0 ((n:Int) - 1)=true):(¬l.any (fun x=>!bL x.func 0 ((n:Int) - 1))=true)∧∀x∈l,0≤x.func∧x.func<n:=by
 have h2:∀x∈l,bL x.func 0 ((n:Int) - 1)=true:=fun x hx=>by
  obtain⟨j,hj,rfl⟩:=List.getElem_of_mem hx
  have:=h j hj
  unfold bg at this
  rwa [List.getD_eq_getElem?_getD,List.getElem?_eq_getElem hj] at this
 refine⟨fun ha=>?_,fun x hx=>?_⟩
 ·obtain⟨x,hx,h3⟩:=List.any_eq_true.1 ha
  rw[h2 x hx] at h3
  cases h3
 have:=dJ.1 (h2 x hx)
 omega
section
variable {B:Nat} {w0:World} {H:List bj}
set_option maxRecDepth 100000 in
set_option maxHeartbeats 4000000 in
theorem vg (gc:Nat) (a:MA) (m:aD) (Ap:Option Addr) (cp:Nat) (fs:List aC) (hs:bX w0 B (.slice Ap fs.length cp) fs) (hm:gk B w0 a m) (hF:eS fs) (hfit:l6 m.frames) (E:Int) (hE:jg fs m=E) (w:World) (hw:Cw B w0 (am gc [.slice a.Af m.frames.length a.cf,.slice a.Ab m.blocks.length a.cb,.slice a.Ai m.inn.length a.ci,.slice a.Ao m.out.length a.co,.int .i64 m.status,.int .i64 m.trap,.slice Ap fs.length cp] 147::H) w) :
  Calls Tryz.prog 142 #[.pointer (some ⟨gc,0,none⟩)] w fun e w'=> ∃_:Unit,True∧e= .returned (.int .i64 E)∧Cw B w0 (am gc [.slice a.Af m.frames.length a.cf,.slice a.Ab m.blocks.length a.cb,.slice a.Ai m.inn.length a.ci,.slice a.Ao m.out.length a.co,.int .i64 m.status,.int .i64 m.trap,.slice Ap fs.length cp] 147::H) w':=by
 have bf:=bO hm.f
 have bp:=bO hs
 unfold jg at hE
 refine db Tryz.func142 rfl Tryz.ntmps142 rfl hw ?_
 refine ac<|aa<|rn 1 [0] rfl<|ae<|dF (fun _:Unit=> ¬6<m.frames.length∧¬(m.frames.length=0∧m.status≠2)∧¬(0<m.frames.length∧m.status=2)) (fun _=> [(0,.pointer (some ⟨gc,0,none⟩))]) (fun _=>am gc [.slice a.Af m.frames.length a.cf,.slice a.Ab m.blocks.length a.cb,.slice a.Ai m.inn.length a.ci,.slice a.Ao m.out.length a.co,.int .i64 m.status,.int .i64 m.trap,.slice Ap fs.length cp] 147::H) ?_ ?_
 ·refine ac<|aa<|rn 4 [0,12] rfl<|af (ai fc cd rfl rfl (by rfl)) rfl rfl ?_
  refine af (aN a6 rfl rfl) rfl rfl<|rn 1 [0,3] rfl<|ae<|aL<|ac<|aa<|rn 3 [0,3,15] rfl<|ae<|aw rfl (fun h6=>?_) (fun h6=>?_)
  ·rw[if_pos (by omega)] at hE
   subst hE
   refine ac<|aa<|rn 1 [2] rfl<|ae<|au (aG (ak ?_))
   refine aA i9 (aq rfl) ?_
   intro w hw
   exact⟨(),trivial,rfl,hw.msub ms⟩
  have h6:¬6<m.frames.length:=by omega
  rw[if_neg h6] at hE
  refine ac<|aa<|rn 3 [0,3,21] rfl<|bw (t:=21) rfl (fun h0=>?_) (fun h0=>?_)
  ·have h0:=of_decide_eq_true h0
   have h0:m.frames.length=0:=by omega
   refine rn 4 [0,3,21,25] rfl<|af (ai fc ar rfl rfl (by rfl)) rfl rfl ?_
   refine rn 3 [0,3,18] rfl<|ae<|b9 rfl (fun h2=>?_) (fun h2=>?_)
   ·rw[if_pos ⟨h0,h2⟩] at hE
    subst hE
    refine ac<|aa<|rn 1 [2] rfl<|ae<|au (aG (ak ?_))
    refine aA i9 (aq rfl) ?_
    intro w hw
    exact⟨(),trivial,rfl,hw.msub ms⟩
   refine ac<|aa<|rn 3 [0,32] rfl<|bw (t:=32) rfl (fun h3=>?_) (fun h3=>?_)
   ·have h3:=of_decide_eq_true h3
    exact absurd h3 (by omega)
   refine rn 8 [0,29] rfl<|ae<|dg rfl<|ax (aK ?_)
   refine aY () (⟨h6,fun h=>h.2 h2,fun h=>by omega⟩) ⟨rfl,trivial⟩ (fun _ h=>h.msub ms)
  have h0:=of_decide_eq_false h0
  have h0:¬m.frames.length=0:=by omega
  rw[if_neg (fun h=>h0 h.1)] at hE
  refine rn 8 [0,3,18] rfl<|ae<|dg rfl<|ac<|aa<|rn 3 [0,32] rfl<|bw (t:=32) rfl (fun h3=>?_) (fun h3=>?_)
  ·refine rn 4 [0,32,36] rfl<|af (ai fc ar rfl rfl (by rfl)) rfl rfl ?_
   refine rn 3 [0,29] rfl<|ae<|aw rfl (fun h2=>?_) (fun h2=>?_)
   ·rw[if_pos ⟨by omega,h2⟩] at hE
    subst hE
    refine ac<|aa<|rn 1 [2] rfl<|ae<|au (aG (ak ?_))
    refine aA i9 (aq rfl) ?_
    intro w hw
    exact⟨(),trivial,rfl,hw.msub ms⟩
   refine ax (aK ?_)
   refine aY () (⟨h6,fun h=>h0 h.1,fun h=>h2 h.2⟩) ⟨rfl,trivial⟩ (fun _ h=>h.msub ms)
  have h3:=of_decide_eq_false h3
  exact absurd h3 (by omega)
 rintro⟨⟩ ⟨h1,h2,h3⟩
 rw[if_neg h1,if_neg h2,if_neg h3] at hE
 refine ac<|ac<|aa<|rn 4 [0,43] rfl<|af (ai fc cd rfl rfl (by rfl)) rfl rfl ?_
 refine af (aN a6 rfl rfl) rfl rfl<|rn 1 [0,44,45,46] rfl<|ae<|aL (b8 (fun k:Nat=>k≤m.frames.length∧∀j,j<k→bL (bg m.frames j).func 0 ((fs.length:Int) - 1)=true) (fun k=>m.frames.length - k) (fun k=> [(0,.pointer (some ⟨gc,0,none⟩)),(44,.slice a.Af m.frames.length a.cf),(45,.int .i64 (m.frames.length:Int)),(46,.int .i64 (k:Int))]) (fun _=>am gc [.slice a.Af m.frames.length a.cf,.slice a.Ab m.blocks.length a.cb,.slice a.Ai m.inn.length a.ci,.slice a.Ao m.out.length a.co,.int .i64 m.status,.int .i64 m.trap,.slice Ap fs.length cp] 147::H) 0 (⟨Nat.zero_le _,fun _ h=>absurd h (Nat.not_lt_zero _)⟩) ⟨rfl,rfl,rfl,rfl,trivial⟩ (fun w h=>h.msub ms) ?_)
 rintro k hk'
 obtain⟨hk,hno⟩:k≤m.frames.length∧∀j,j<k→bL (bg m.frames j).func 0 ((fs.length:Int) - 1)=true:=hk'
 refine ac<|aa<|rn 1 [0,44,45,46,47] rfl<|ae<|ac<|aw rfl (fun hlt=>?_) (fun hlt=>?_)
 ·have hkl:k<m.frames.length:=by omega
  obtain⟨A1,c1,A2,c2,hl,hst,hI,hcell⟩:=hm.f.fr hkl
  refine ax (ap ?_)
  refine ac<|aL<|ac<|aa<|af (aO a6 bG (.ro hm.f) (by omega) rfl rfl rfl) rfl rfl<|af (cr (hcell _) rfl rfl gJ bG) rfl rfl<|ag (aZ df rfl rfl) rfl rfl (fun g1 _=>?_)
  refine ag (aH _ fc bG rfl rfl rfl rfl rfl (by rfl) rfl (by rfl)) rfl rfl (fun _ _=>?_)
  refine ae<|ac<|bQ (.still 0 (.still 1 (.still 2 (.still 3 (.still 4 (.still 5 (.still 6 (.still 7 (.still 8 (.pick 9 (.still 10 .done) .stop)))))))))) [] rfl (by kernel_rfl) (by kernel_rfl) ?_
  refine aV ha 1 [0,44,45,46,50] rfl<|an rfl (ai fc ar rfl rfl (by rfl)) rfl rfl ha ?_
  refine aV ha 4 [0,44,45,46,51,55] rfl<|an rfl (ai fc cQ rfl rfl (by rfl)) rfl rfl ha ?_
  refine an rfl (aN bI rfl rfl) rfl rfl ha ?_
  refine an rfl (bx rfl rfl rfl (by omega)) rfl rfl ha ?_
  refine aB rfl (bK rfl rfl rfl uK (fun w hw=>js (bg m.frames k).func 0 ((fs.length:Int) - 1) w)) rfl rfl (.inr fun _=>ha) (fun _ _=>?_) ay
  refine aV ha 1 [0,44,45,46,60] rfl<|cJ<|cH rfl (fun hb=>?_) (fun hb=>?_)
  ·have hb:bL (bg m.frames k).func 0 ((fs.length:Int) - 1)=false:=by simpa using hb
   rw[if_pos (yT hkl hb)] at hE
   subst hE
   refine ac<|aa<|rn 1 [2] rfl<|ae<|au (aG (ak (ak (aG (ak ?_)))))
   refine aA i9 (aq rfl) ?_
   intro w hw
   exact⟨(),trivial,rfl,hw.msub ms⟩
  have hb:bL (bg m.frames k).func 0 ((fs.length:Int) - 1)=true:=by simpa using hb
  refine ax (aK (ap ?_))
  refine aa<|af (bH rfl rfl rfl (by omega)) rfl rfl<|rn 1 [0,44,45,46] rfl<|br (k+1) (⟨by show k+1≤_;omega,fun j hj=>(Nat.lt_or_ge j k).elim (hno j) (fun h=>by obtain rfl:j=k:=(by omega);exact hb)⟩) (by show _ - _<_ - _;omega) ⟨rfl,rfl,rfl,rfl,trivial⟩ (fun w h=>h.msub ms)
 obtain rfl:k=m.frames.length:=by omega
 obtain⟨hany,hfn⟩:=vT hno
 rw[if_neg hany] at hE
 refine bN (aM (aM (cc (ap ?_))))
 refine ac<|ac<|aa<|rn 4 [0,65] rfl<|af (ai fc cd rfl rfl (by rfl)) rfl rfl ?_
 refine af (aN a6 rfl rfl) rfl rfl<|rn 1 [0,66,67,68] rfl<|ae<|aL (b8 (fun k:Nat=>k≤m.frames.length∧(0<k→¬(0<m.frames.length∧(bg m.frames 0).func≠0))∧dw (eG fs m.blocks.length m.frames) ((List.range m.frames.length).take k)=0) (fun k=>m.frames.length - k) (fun k=> [(0,.pointer (some ⟨gc,0,none⟩)),(66,.slice a.Af m.frames.length a.cf),(67,.int .i64 (m.frames.length:Int)),(68,.int .i64 (k:Int))]) (fun _=>am gc [.slice a.Af m.frames.length a.cf,.slice a.Ab m.blocks.length a.cb,.slice a.Ai m.inn.length a.ci,.slice a.Ao m.out.length a.co,.int .i64 m.status,.int .i64 m.trap,.slice Ap fs.length cp] 147::H) 0 (⟨Nat.zero_le _,fun h=>absurd h (Nat.not_lt_zero _),rfl⟩) ⟨rfl,rfl,rfl,rfl,trivial⟩ (fun w h=>h.msub ms) ?_)
 rintro k hk'
 obtain⟨hk,hz0,hno2⟩:k≤m.frames.length∧(0<k→¬(0<m.frames.length∧(bg m.frames 0).func≠0))∧dw (eG fs m.blocks.length m.frames) ((List.range m.frames.length).take k)=0:=hk'
 refine ac<|aa<|rn 1 [0,66,67,68,69] rfl<|ae<|ac<|aw rfl (fun hlt=>?_) (fun hlt=>?_)
 ·have hkl:k<m.frames.length:=by omega
  obtain⟨A1,c1,A2,c2,hl,hst,hI,hcell⟩:=hm.f.fr hkl
  refine ax (ap ?_)
  refine ac<|aL<|ac<|aa<|rn 1 [0,66,67,68,70] rfl<|af (aO a6 bG (.ro hm.f) (by omega) rfl rfl rfl) rfl rfl<|af (cr (hcell _) rfl rfl gJ bG) rfl rfl<|ag (aZ df rfl rfl) rfl rfl (fun g2 _=>?_)
  refine rn 1 [0,6,7,66,67,68,72] rfl<|ag (aH _ fc bG rfl rfl rfl rfl rfl (by rfl) rfl (by rfl)) rfl rfl (fun _ _=>?_)
  refine ae<|ac<|ac<|aa<|rn 3 [0,6,7,66,67,68,75] rfl<|bw (t:=75) rfl (fun hz=>?_) (fun hz=>?_)
  ·have hz:=of_decide_eq_true hz
   obtain rfl:k=0:=by omega
   refine rn 1 [0,6,66,67,68,75,76] rfl<|af (ai fc ar rfl rfl (by rfl)) rfl rfl ?_
   refine rn 2 [0,6,66,67,68,79] rfl<|ae<|b9 rfl (fun hf=>?_) (fun hf=>?_)
   ·rw[if_pos ⟨hkl,hf⟩] at hE
    subst hE
    refine ac<|aa<|rn 1 [2] rfl<|ae<|au (ak (aG (ak (ak (aG (ak ?_))))))
    refine aA i9 (aq rfl) ?_
    intro w hw
    exact⟨(),trivial,rfl,hw.msub ms⟩
   have h0:¬(0<m.frames.length∧(bg m.frames 0).func≠0):=fun h=>h.2 hf
   refine ax (ap ?_)
   refine ac<|aa<|rn 2 [0,66,67,68,80,81] rfl<|ag (bC rfl rfl rfl Tryz.call180 (fun w hw=>qS gc a m Ap cp fs hs hm hF hfit 0 hkl hfn _ rfl w (hw.msub (.s fc .r)))) rfl rfl (fun _ _=>?_)
   refine rn 1 [0,8,66,67,68] rfl<|ae<|ac<|aa<|rn 2 [0,8,66,67,68,84] rfl<|ae<|b9 rfl (fun he=>?_) (fun he=>?_)
   ·have he:eG fs m.blocks.length m.frames 0≠0:=he
    have hsn:=fM (g:=eG fs m.blocks.length m.frames) (l:=List.range m.frames.length) 0 (by rw[List.length_range];exact hkl) hno2
    rw[jY hkl] at hsn
    rw[if_neg h0,iX (k:=0+1) (by rw[hsn];exact he),hsn] at hE
    subst hE
    refine ac<|aa<|rn 2 [2] rfl<|ae<|au (aG (ak (ak (aG (ak ?_)))))
    refine aA i9 (aq rfl) ?_
    intro w hw
    exact⟨(),trivial,rfl,hw.msub ms⟩
   have he:eG fs m.blocks.length m.frames 0=0:=he
   have hsn:=fM (g:=eG fs m.blocks.length m.frames) (l:=List.range m.frames.length) 0 (by rw[List.length_range];exact hkl) hno2
   rw[jY hkl,he] at hsn
   refine ax (aK (ap ?_))
   refine aa<|af (bH rfl rfl rfl (by omega)) rfl rfl<|rn 1 [0,66,67,68] rfl<|br 1 (⟨by show 1≤_;omega,fun _=>h0,hsn⟩) (by show _ - _<_ - _;omega) ⟨rfl,rfl,rfl,rfl,trivial⟩ (fun w h=>h.msub ms)
  have hz:=of_decide_eq_false hz
  have h0:=hz0 (by omega)
  refine rn 4 [0,6,66,67,68,79] rfl<|ae<|dg rfl<|ax (ap ?_)
  refine ac<|aa<|rn 2 [0,66,67,68,80,81] rfl<|ag (bC rfl rfl rfl Tryz.call180 (fun w hw=>qS gc a m Ap cp fs hs hm hF hfit k hkl hfn _ rfl w (hw.msub (.s fc .r)))) rfl rfl (fun _ _=>?_)
  refine rn 1 [0,8,66,67,68] rfl<|ae<|ac<|aa<|rn 2 [0,8,66,67,68,84] rfl<|ae<|b9 rfl (fun he=>?_) (fun he=>?_)
  ·have he:eG fs m.blocks.length m.frames k≠0:=he
   have hsn:=fM (g:=eG fs m.blocks.length m.frames) (l:=List.range m.frames.length) 0 (by rw[List.length_range];exact hkl) hno2
   rw[jY hkl] at hsn
   rw[if_neg h0,iX (k:=k+1) (by rw[hsn];exact he),hsn] at hE
   subst hE
   refine ac<|aa<|rn 2 [2] rfl<|ae<|au (aG (ak (ak (aG (ak ?_)))))
   refine aA i9 (aq rfl) ?_
   intro w hw
   exact⟨(),trivial,rfl,hw.msub ms⟩
  have he:eG fs m.blocks.length m.frames k=0:=he
  have hsn:=fM (g:=eG fs m.blocks.length m.frames) (l:=List.range m.frames.length) 0 (by rw[List.length_range];exact hkl) hno2
  rw[jY hkl,he] at hsn
  refine ax (aK (ap ?_))
  refine aa<|af (bH rfl rfl rfl (by omega)) rfl rfl<|rn 1 [0,66,67,68] rfl<|br (k+1) (⟨by show k+1≤_;omega,fun _=>h0,hsn⟩) (by show _ - _<_ - _;omega) ⟨rfl,rfl,rfl,rfl,trivial⟩ (fun w h=>h.msub ms)
 obtain rfl:k=m.frames.length:=by omega
 rw[List.take_of_length_le (by rw[List.length_range];exact Nat.le_refl _)] at hno2
 have h0:¬(0<m.frames.length∧(bg m.frames 0).func≠0):=fun h=>hz0 h.1 h
 rw[if_neg h0,hno2] at hE
 subst hE
 refine bN (aM (aM (cc (ap ?_))))
 refine ac<|aa<|rn 1 [2] rfl<|ae<|au<|aA i9 (aq rfl) ?_
 intro w hw
 exact⟨(),trivial,rfl,hw.msub ms⟩
end
end
section
set_option maxRecDepth 100000 in
theorem yB (n:Int) (w:World):Calls Tryz.prog 179 #[.int .i64 n] w fun e w'=>e= .returned (.bool (!cu n))∧Below w.heap.size w w':=by
 refine enter Tryz.func179 rfl Tryz.ntmps179 rfl ?_
 refine ac<|aa<|rn 1 [0] rfl<|ae<|ac<|aa<|rn 1 [3] rfl<|ag (bK rfl rfl rfl Gf ((fun w hw=>fe ((fun w hw=>m7 n w) w hw)))) rfl rfl (fun _ _=>?_)
 refine rn 2 [2] rfl<|ae<|au<|aA Tryz.results179 (aq rfl) ?_
 intro w hw
 exact⟨rfl,hw.below⟩
set_option maxRecDepth 100000 in
theorem tH (A:Option Addr) (c:Nat) (l:List Int) (w:World) (hs:Sl w (.slice A l.length c) l):Calls Tryz.prog 141 #[.slice A l.length c] w fun e w'=>e= .returned (.bool (dz l))∧Below w.heap.size w w':=by
 refine enter Tryz.func141 rfl Tryz.ntmps141 rfl ?_
 refine ac<|aa<|rn 1 [0] rfl<|ae<|ac<|aa<|rn 1 [3] rfl<|ag (bK rfl rfl rfl FY (fun w hw=>oJ A c l 179 #[] (fun n=>!cu n) w (hw.ro hs) Tryz.call179 (fun w1 _ x _=>yB x w1))) rfl rfl (fun _ _=>?_)
 refine rn 1 [2] rfl<|ae<|au<|aA Tryz.results141 (aq rfl) ?_
 intro w hw
 exact⟨rfl,hw.below⟩
theorem AL (m:aD):fE m=bg m.frames (m.frames.length - 1):=by
 unfold fE bg
 rw[List.getLastD_eq_getLast?,List.getLast?_eq_getElem?,List.getD_eq_getElem?_getD]
section
variable {B:Nat} {w0:World} {H:List bj}
set_option maxRecDepth 100000 in
set_option maxHeartbeats 4000000 in
theorem uj (gc:Nat) (a:MA) (m:aD) (Ap:Option Addr) (cp:Nat) (fs:List aC) (hs:bX w0 B (.slice Ap fs.length cp) fs) (hm:gk B w0 a m) (hF:eS fs) (hfit:l6 m.frames) (E:Int) (hE:ed fs m=E) (w:World) (hw:Cw B w0 (am gc [.slice a.Af m.frames.length a.cf,.slice a.Ab m.blocks.length a.cb,.slice a.Ai m.inn.length a.ci,.slice a.Ao m.out.length a.co,.int .i64 m.status,.int .i64 m.trap,.slice Ap fs.length cp] 147::H) w) :
  Calls Tryz.prog 106 #[.pointer (some ⟨gc,0,none⟩)] w fun e w'=> ∃_:Unit,True∧e= .returned (.int .i64 E)∧Cw B w0 (am gc [.slice a.Af m.frames.length a.cf,.slice a.Ab m.blocks.length a.cb,.slice a.Ai m.inn.length a.ci,.slice a.Ao m.out.length a.co,.int .i64 m.status,.int .i64 m.trap,.slice Ap fs.length cp] 147::H) w':=by
 have bf:=bO hm.f
 have bp:=bO hs
 unfold ed at hE
 refine db Tryz.func106 rfl Tryz.ntmps106 rfl hw ?_
 refine ac<|aa<|rn 1 [0] rfl<|ae<|ac<|aa<|rn 2 [0,3,4] rfl<|ae<|dF (fun _:Unit=>True) (fun _=> [(0,.pointer (some ⟨gc,0,none⟩)),(3,.int .i64 (if m.status=3 then 1 else 0)),(4,.int .i64 (if m.status=3 then 5 else 0))]) (fun _=>am gc [.slice a.Af m.frames.length a.cf,.slice a.Ab m.blocks.length a.cb,.slice a.Ai m.inn.length a.ci,.slice a.Ao m.out.length a.co,.int .i64 m.status,.int .i64 m.trap,.slice Ap fs.length cp] 147::H) ?_ ?_
 ·refine ac<|aa<|rn 4 [0,3,4,11] rfl<|af (ai fc ar rfl rfl (by rfl)) rfl rfl ?_
  refine rn 1 [0,3,4,13] rfl<|ae<|aw rfl (fun h3=>?_) (fun h3=>?_)
  ·rw[if_pos h3,if_pos h3]
   refine aa<|rn 2 [0,3,4] rfl<|fa () (trivial) ⟨rfl,rfl,rfl,trivial⟩ (fun _ h=>h.msub ms)
  rw[if_neg h3,if_neg h3]
  refine ax<|aY () (trivial) ⟨rfl,rfl,rfl,trivial⟩ (fun _ h=>h.msub ms)
 rintro⟨⟩ _
 refine ac<|aL<|ac<|aa<|rn 4 [0,3,4,18] rfl<|af (ai fc ar rfl rfl (by rfl)) rfl rfl ?_
 refine ag (bK rfl rfl rfl uK (fun w hw=>js m.status 0 3 w)) rfl rfl (fun _ _=>?_)
 refine rn 2 [0,3,4,14] rfl<|ae<|cH rfl (fun h1=>?_) (fun h1=>?_)
 ·rw[if_pos (by simpa using h1)] at hE
  subst hE
  refine ac<|aa<|rn 1 [2] rfl<|ae<|au (aG (ak ?_))
  refine aA fy (aq rfl) ?_
  intro w hw
  exact⟨(),trivial,rfl,hw.msub ms⟩
 rw[if_neg (by simpa using h1)] at hE
 refine ac<|aa<|rn 4 [0,3,4,26] rfl<|af (ai fc ar rfl rfl (by rfl)) rfl rfl ?_
 refine rn 2 [0,27,28,29] rfl<|ag (bK rfl rfl rfl uK (fun w hw=>js m.trap _ _ w)) rfl rfl (fun _ _=>?_)
 refine rn 2 [0,22] rfl<|ae<|cH rfl (fun h2=>?_) (fun h2=>?_)
 ·rw[if_pos (by simpa using h2)] at hE
  subst hE
  refine ac<|aa<|rn 1 [2] rfl<|ae<|au (aG (ak ?_))
  refine aA fy (aq rfl) ?_
  intro w hw
  exact⟨(),trivial,rfl,hw.msub ms⟩
 rw[if_neg (by simpa using h2)] at hE
 refine ax (aK (ap ?_))
 refine ac<|ac<|aa<|rn 4 [0,35] rfl<|af (ai fc ew rfl rfl (by rfl)) rfl rfl ?_
 refine ag (bK rfl rfl rfl Tryz.call140 (fun w hw=>xh _ m.blocks w (hw.ro hm.b))) rfl rfl (fun _ _=>?_)
 refine rn 1 [0,5] rfl<|ae<|ac<|aa<|rn 2 [0,5,39] rfl<|ae<|b9 rfl (fun h3=>?_) (fun h3=>?_)
 ·rw[if_pos h3] at hE
  subst hE
  refine ac<|aa<|rn 2 [2] rfl<|ae<|au (ak ?_)
  refine aA fy (aq rfl) ?_
  intro w hw
  exact⟨(),trivial,rfl,hw.msub ms⟩
 rw[if_neg (fun h=>h h3)] at hE
 refine ax (ap ?_)
 refine dF (fun _:Unit=>(¬(10<m.inn.length∨10<m.out.length))∧¬(dz m.inn=true∨dz m.out=true)) (fun _=> [(0,.pointer (some ⟨gc,0,none⟩))]) (fun _=>am gc [.slice a.Af m.frames.length a.cf,.slice a.Ab m.blocks.length a.cb,.slice a.Ai m.inn.length a.ci,.slice a.Ao m.out.length a.co,.int .i64 m.status,.int .i64 m.trap,.slice Ap fs.length cp] 147::H) ?_ ?_
 ·refine aL<|ac<|aa<|rn 4 [0,45] rfl<|af (ai fc a5 rfl rfl (by rfl)) rfl rfl ?_
  refine af (aN ah rfl rfl) rfl rfl<|rn 2 [0,49] rfl<|bw (t:=49) rfl (fun h4=>?_) (fun h4=>?_)
  ·have h4:=of_decide_eq_true h4
   rw[if_pos (.inl (by omega))] at hE
   subst hE
   refine rn 9 [0,41] rfl<|ae<|bR rfl<|ac<|aa<|rn 1 [2] rfl<|ae<|au (aG (ak ?_))
   refine aA fy (aq rfl) ?_
   intro w hw
   exact⟨(),trivial,rfl,hw.msub ms⟩
  have h4:=of_decide_eq_false h4
  refine rn 4 [0,49,53] rfl<|af (ai fc a5 rfl rfl (by rfl)) rfl rfl ?_
  refine af (aN ah rfl rfl) rfl rfl<|rn 3 [0,41] rfl<|ae<|aw rfl (fun h5=>?_) (fun h5=>?_)
  ·rw[if_pos (.inr (by omega))] at hE
   subst hE
   refine ac<|aa<|rn 1 [2] rfl<|ae<|au (aG (ak ?_))
   refine aA fy (aq rfl) ?_
   intro w hw
   exact⟨(),trivial,rfl,hw.msub ms⟩
  have h45:¬(10<m.inn.length∨10<m.out.length):=by omega
  rw[if_neg h45] at hE
  refine ac<|aa<|rn 4 [0,62] rfl<|af (ai fc a5 rfl rfl (by rfl)) rfl rfl ?_
  refine ag (bK rfl rfl rfl Tryz.call141 (fun w hw=>tH a.Ai a.ci m.inn w (hw.ro hm.i))) rfl rfl (fun _ _=>?_)
  refine rn 1 [0,65] rfl<|bw (t:=65) rfl (fun h6=>?_) (fun h6=>?_)
  ·rw[if_pos (.inl h6)] at hE
   subst hE
   refine rn 8 [0,58] rfl<|ae<|bR rfl<|ac<|aa<|rn 1 [2] rfl<|ae<|au (aG (ak ?_))
   refine aA fy (aq rfl) ?_
   intro w hw
   exact⟨(),trivial,rfl,hw.msub ms⟩
  refine rn 4 [0,65,69] rfl<|af (ai fc a5 rfl rfl (by rfl)) rfl rfl ?_
  refine ag (bK rfl rfl rfl Tryz.call141 (fun w hw=>tH a.Ao a.co m.out w (hw.ro hm.o))) rfl rfl (fun _ _=>?_)
  refine rn 2 [0,58] rfl<|ae<|cH rfl (fun h7=>?_) (fun h7=>?_)
  ·rw[if_pos (.inr h7)] at hE
   subst hE
   refine ac<|aa<|rn 1 [2] rfl<|ae<|au (aG (ak ?_))
   refine aA fy (aq rfl) ?_
   intro w hw
   exact⟨(),trivial,rfl,hw.msub ms⟩
  have h67:¬(dz m.inn=true∨dz m.out=true):=by rw[h6,h7];simp
  refine ax (aK ?_)
  refine aY () (⟨h45,h67⟩) ⟨rfl,trivial⟩ (fun _ h=>h.msub ms)
 rintro⟨⟩ ⟨h4,h5⟩
 rw[if_neg h4,if_neg h5] at hE
 refine ac<|ac<|aa<|rn 1 [0,73] rfl<|ag (bC rfl rfl rfl Tryz.call142 (fun w hw=>vg gc a m Ap cp fs hs hm hF hfit _ rfl w (hw.msub (.s fc .r)))) rfl rfl (fun _ _=>?_)
 refine rn 1 [0,6] rfl<|ae<|ac<|aa<|rn 2 [0,6,76] rfl<|ae<|b9 rfl (fun h6=>?_) (fun h6=>?_)
 ·rw[if_pos h6] at hE
  subst hE
  refine ac<|aa<|rn 2 [2] rfl<|ae<|au (ak ?_)
  refine aA fy (aq rfl) ?_
  intro w hw
  exact⟨(),trivial,rfl,hw.msub ms⟩
 rw[if_neg (fun h=>h h6)] at hE
 refine ax (ap ?_)
 refine ac<|ac<|aa<|rn 4 [0,81] rfl<|af (ai fc ar rfl rfl (by rfl)) rfl rfl ?_
 refine rn 1 [0,83] rfl<|ae<|b9 rfl (fun h7=>?_) (fun h7=>?_)
 ·rw[if_pos h7] at hE
  subst hE
  refine ac<|aa<|rn 1 [2] rfl<|ae<|au (ak ?_)
  refine aA fy (aq rfl) ?_
  intro w hw
  exact⟨(),trivial,rfl,hw.msub ms⟩
 rw[if_neg (fun h=>h h7)] at hE
 obtain⟨_,hdn,hfn,_,hfr⟩:=mG.1 h6
 have hne:m.frames.length≠0:=fun h=>by
  have:=hdn.1 (List.eq_nil_of_length_eq_zero h)
  omega
 obtain⟨k,hk⟩:∃k,m.frames.length=k+1:=⟨m.frames.length - 1,by omega⟩
 have hkl:k<m.frames.length:=by omega
 obtain⟨A1,c1,A2,c2,hl,hst,hI,hcell⟩:=hm.f.fr hkl
 have hx:=hfn _ (ft hkl)
 obtain⟨kf,hkf⟩:∃kf:Nat,(bg m.frames k).func=kf:=⟨(bg m.frames k).func.toNat,by omega⟩
 have hkfl:kf<fs.length:=by omega
 obtain⟨F1,d1,F2,d2,hfl,hfc,hfi,hfcell⟩:=hs.fn hkfl
 obtain⟨t,ht,_⟩:=hfr k hkl
 unfold gu gL at ht
 rw[if_pos hk.symm,hkf,Int.toNat_natCast] at ht
 obtain⟨hp0,hp1,_⟩:=(hF.e _ hkfl).at_ _ _ ht
 have hop:be fs m=bB (av fs kf).code (bg m.frames k).pc.toNat:=by
  unfold be
  rw[AL,hk,Nat.add_sub_cancel,hkf,Int.toNat_natCast]
 rw[hop] at hE
 rw[hkf] at hcell
 refine ax (ap ?_)
 refine ac<|bQ (.still 0 (.still 1 (.still 2 (.still 3 (.still 4 (.still 5 (.still 6 (.still 7 (.still 8 (.still 9 (.still 10 (.still 11 (.still 12 (.still 13 (.pick 14 (.pick 15 .done .stop) .stop))))))))))))))) [15] rfl (by kernel_rfl) (by kernel_rfl) ?_
 refine aV ha 4 [0,87] rfl<|an rfl (ai fc cd rfl rfl (by rfl)) rfl rfl ha ?_
 refine aV ha 4 [0,88,92] rfl<|an rfl (ai fc cd rfl rfl (by rfl)) rfl rfl ha ?_
 refine an rfl (aN a6 rfl rfl) rfl rfl ha ?_
 refine an rfl (bx rfl rfl rfl (by omega)) rfl rfl ha ?_
 refine dh (t:=95) (v':= .int .i64 (k:Int)) rfl (by rw[hk];congr 1;omega) ?_
 refine an rfl (aO (k:=k) a6 bG (.ro hm.f) hkl rfl rfl rfl) rfl rfl ha ?_
 refine an rfl (cr (hcell _) rfl rfl gJ bG) rfl rfl ha ?_
 refine aB rfl (aZ df rfl rfl) rfl rfl (.inr fun _=>ha) (fun g1 _=>?_) ay
 refine aB rfl (aH _ fc bG rfl rfl rfl rfl rfl (by rfl) rfl (by rfl)) rfl rfl (.inl rfl) (fun _ _=>?_) ay
 refine cJ<|ac<|ac<|bQ (.still 0 (.still 1 (.still 2 (.still 3 (.still 4 (.still 5 (.still 6 (.still 7 (.still 8 (.still 9 (.still 10 (.still 11 (.still 12 (.still 13 (.still 14 (.still 15 (.still 16 (.still 17 (.still 18 (.still 19 (.still 20 (.still 21 (.still 22 (.still 23 (.still 24 .done))))))))))))))))))))))))) [] rfl (by kernel_rfl) (by kernel_rfl) ?_
 refine aV ha 4 [0,7,101] rfl<|an rfl (ai fc a5 rfl rfl (by rfl)) rfl rfl ha ?_
 refine an rfl (aN ah rfl rfl) rfl rfl ha ?_
 refine aV ha 2 [0,7,105] rfl<|lM (t:=105) rfl (fun h8=>?_) (fun h8=>?_)
 ·have h8:=of_decide_eq_true h8
  rw[if_pos (.inl (by omega))] at hE
  subst hE
  refine aV ha 17 [122] rfl<|cJ<|bR rfl<|ac<|aa<|rn 1 [2] rfl<|ae<|au (ak ?_)
  refine aA fy (aq rfl) ?_
  intro w hw
  exact⟨(),trivial,rfl,hw.msub ms⟩
 have h8:=of_decide_eq_false h8
 refine aV ha 4 [7,105,109] rfl<|an rfl (ai fc cQ rfl rfl (by rfl)) rfl rfl ha ?_
 refine aV ha 1 [7,105,110,111] rfl<|an rfl (ai fc ar rfl rfl (by rfl)) rfl rfl ha ?_
 refine an rfl (aO (k:=kf) bI bq (.ro hs) (by omega) rfl rfl rfl) rfl rfl ha ?_
 refine aV ha 1 [7,105,114] rfl<|an rfl (a8 (fun w hw=>hfcell _ w hw 3 _ rfl) rfl rfl dE) rfl rfl ha ?_
 refine aV ha 1 [105,115,116] rfl<|an rfl (ai fc ar rfl rfl (by rfl)) rfl rfl ha ?_
 refine an rfl (fw bz cG (.ro hfc) (by omega) rfl rfl rfl) rfl rfl ha ?_
 refine aV ha 1 [105,119] rfl<|an rfl (a8 (SF.opc (.ro hfc) (by omega)) rfl rfl ar) rfl rfl ha ?_
 refine aV ha 2 [122] rfl<|cJ<|b9 rfl (fun h9=>?_) (fun h9=>?_)
 ·rw[if_pos (.inr h9)] at hE
  subst hE
  refine ac<|aa<|rn 1 [2] rfl<|ae<|au (ak ?_)
  refine aA fy (aq rfl) ?_
  intro w hw
  exact⟨(),trivial,rfl,hw.msub ms⟩
 have h9:(bB (av fs kf).code (bg m.frames k).pc.toNat).c=21:=h9
 rw[if_neg (fun h=>h.elim (fun h=>h8 (by omega)) (fun h=>h h9))] at hE
 subst hE
 refine ax (ap ?_)
 refine ac<|aa<|rn 1 [2] rfl<|ae<|au<|aA fy (aq rfl) ?_
 intro w hw
 exact⟨(),trivial,rfl,hw.msub ms⟩
end
set_option maxRecDepth 100000 in
set_option maxHeartbeats 1000000 in
theorem wN (Ap:Option Addr) (cp:Nat) (fs:List aC) (a:MA) (m:aD) (w:World) (hs:Sl w (.slice Ap fs.length cp) fs) (hm:gk w.heap.size w a m) (hF:eS fs) (hfit:l6 m.frames) :
  Calls Tryz.prog 57 #[.agg #[.slice Ap fs.length cp],.agg #[.slice a.Af m.frames.length a.cf,.slice a.Ab m.blocks.length a.cb,.slice a.Ai m.inn.length a.ci,.slice a.Ao m.out.length a.co,.int .i64 m.status,.int .i64 m.trap]] w fun e w'=>e= .returned (.int .i64 (ed fs m))∧Below w.heap.size w w':=by
 refine enter Tryz.func57 rfl Tryz.ntmps57 rfl ?_
 refine ac<|aa<|ag (bF rfl rfl rfl) rfl rfl (fun g1 _=>?_)
 refine ag (bF rfl rfl rfl) rfl rfl (fun g2 _=>?_)
 refine rn 1 [2,3] rfl<|ae<|ac<|aa<|af (aQ (vs:= [_,_,_,_,_,_]) fc bd aF rfl rfl (by rfl) rfl) rfl rfl ?_
 refine af (aQ (vs:= [_]) fc cE cg rfl rfl (by rfl) rfl) rfl rfl ?_
 refine af (cT (cs:= [_,_,_,_,_,_,_]) Dh Tryz.zeroValue147 rfl rfl (by rfl)) rfl rfl ?_
 refine ag (bF rfl rfl rfl) rfl rfl (fun g3 _=>?_)
 refine rn 1 [5] rfl<|ae<|ac<|aa<|rn 1 [10] rfl<|ag (bC rfl rfl rfl Tryz.call106 (fun w hw=>uj g3 a m Ap cp fs hs hm hF hfit _ rfl w (hw.msub (.s fc .r)))) rfl rfl (fun _ _=>?_)
 refine rn 1 [4] rfl<|ae<|au<|aA Tryz.results57 (aq rfl) ?_
 intro w hw
 exact⟨rfl,hw.below⟩
end
section
theorem rN {B:Nat} {w:World} {Ap:Option Addr} {cp:Nat} {fs:List aC} (hs:bX w B (.slice Ap fs.length cp) fs) (hF:eS fs) {m:aD} (hR:cI fs m) (hst:¬(m.status=2∨m.status=3)):∃li x kf,ux fs m li x kf:=by
 have hne:m.frames≠[]:=fun e=>hst (.inl (hR.dn.1 e))
 obtain⟨li,x,e⟩:∃li x,m.frames=li++ [x]:=by
  rcases List.eq_nil_or_concat m.frames with h1 | ⟨l,z,h1⟩
  ·exact absurd h1 hne
  exact⟨l,z,by rw[h1];simp⟩
 obtain⟨hfn,hloc,t,he,hts⟩:=hR.top e
 obtain⟨kf,hkf⟩:∃kf:Nat,x.func=kf:=⟨x.func.toNat,by omega⟩
 rw[hkf,Int.toNat_natCast] at he hloc
 have hkl:kf<fs.length:=by omega
 obtain⟨hp0,hp1,ht8,_⟩:=(hF.e _ hkl).at_ _ _ he
 obtain⟨hok,_⟩:=gY hF.p hkl
 obtain⟨F1,d1,F2,d2,hfl,hfc,hfi,hfcell⟩:=hs.fn hkl
 have hn6:=hR.n6
 rw[e,List.length_append,List.length_singleton] at hn6
 refine⟨li,x,kf,e,hkf,hkl,⟨hp0,hp1⟩,AA hF hkl (x:= {x with pc:=x.pc+1}) hkf he hts hloc.len,hR.bl,by rw[hts.len];omega,fun y hy=>?_,by have:=hR.ob;omega,by omega,(tB hfc (by omega)).2,by have:=hok.n40;omega⟩
 obtain⟨i,hi,rfl⟩:=List.getElem_of_mem hy
 obtain⟨u,hu,_,hus⟩:=hR.fr i (by rw[e,List.length_append];omega)
 have hfi2:bg m.frames i=li[i]:=by
  rw[e,fL hi]
  unfold bg
  rw[List.getD_eq_getElem?_getD,List.getElem?_eq_getElem hi]
  rfl
 rw[hfi2] at hus
 rw[hus.len]
 have hz:=hR.fn _ (ft (l:=m.frames) (k:=i) (by rw[e,List.length_append];omega))
 have hkz:(bg m.frames i).func.toNat<fs.length:=by omega
 unfold gu gL at hu
 split at hu
 ·have:=((hF.e _ hkz).at_ _ _ hu).2.2.1
  omega
 split at hu
 ·cases hu
 split at hu
 ·cases hu
 cases h5:eu fs (av fs (bg m.frames i).func.toNat) (bg m.frames i).pc with
 | none=>rw[h5] at hu;cases hu
 | some t2=>
  rw[h5] at hu
  have hu:(if (av fs (bg m.frames (i+1)).func.toNat).result≠0 then t2.dropLast else t2)=u:=Option.some.inj hu
  have:=((hF.e _ hkz).at_ _ _ h5).2.2.1
  rw[←hu]
  split
  ·rw[List.length_dropLast];omega
  omega
theorem ox {fs:List aC} (hF:eS fs):0<fs.length:=by
 have:=(gA hF.p).1
 omega
theorem tP {fs:List aC} (hF:eS fs) {m:aD} (hR:cI fs m) {i:Nat} (hi:i<m.frames.length):(bg m.frames i).stack.length≤8∧(bg m.frames i).locals.length≤1000:=by
 obtain⟨u,hu,hul,hus⟩:=hR.fr i hi
 have hz:=hR.fn _ (ft hi)
 have hkz:(bg m.frames i).func.toNat<fs.length:=by omega
 rw[hus.len,hul.len]
 have hn40:=((gY hF.p (ox hF)).1.op 0 (gY hF.p (ox hF)).2).par _ hkz |>.2
 refine⟨?_,by unfold gL;omega⟩
 unfold gu gL at hu
 split at hu
 ·have:=((hF.e _ hkz).at_ _ _ hu).2.2.1
  omega
 split at hu
 ·cases hu
 split at hu
 ·cases hu
 cases h5:eu fs (av fs (bg m.frames i).func.toNat) (bg m.frames i).pc with
 | none=>rw[h5] at hu;cases hu
 | some t2=>
  rw[h5] at hu
  have hu:(if (av fs (bg m.frames (i+1)).func.toNat).result≠0 then t2.dropLast else t2)=u:=Option.some.inj hu
  have:=((hF.e _ hkz).at_ _ _ h5).2.2.1
  rw[←hu]
  split
  ·rw[List.length_dropLast];omega
  omega
theorem kK {fs:List aC} (hF:eS fs) {m:aD} (hR:cI fs m):rC m:=by
 refine⟨⟨by have:=hR.n6;omega,fun x hx=>?_⟩,qZ.of_check hR.bl,by have:=hR.ib;omega,by have:=hR.ob;omega⟩
 obtain⟨i,hi,rfl⟩:=List.getElem_of_mem hx
 have h:=tP hF hR hi
 have e:bg m.frames i=m.frames[i]:=by
  unfold bg
  rw[List.getD_eq_getElem?_getD,List.getElem?_eq_getElem hi]
  rfl
 rw[e] at h
 omega
def jo (fs:List aC):aD:=⟨[⟨0,0,cV (av fs 0).locals,[]⟩],[],[],[],0,0⟩
def n8 (fs:List aC):aD:=if dU fs=0 then jo fs else default
def Bs (fs:List aC) (m:aD):aD:=if o9 fs m=0 then dK fs m else default
theorem nw {fs:List aC} (h:dU fs=0):0<fs.length:=by
 have:=(gA (rA h).p).1
 omega
set_option maxRecDepth 100000 in
set_option maxHeartbeats 1000000 in
theorem AE (Ap:Option Addr) (cp:Nat) (fs:List aC) (w:World) (hs:Sl w (.slice Ap fs.length cp) fs) (h0:0<fs.length) (hl6:(av fs 0).locals.length≤1000) :
  Calls Tryz.prog 72 #[.agg #[.slice Ap fs.length cp]] w fun e w'=> ∃g:MA,True∧
   e= .returned (.agg #[.slice g.Af (jo fs).frames.length g.cf,.slice g.Ab (jo fs).blocks.length g.cb,.slice g.Ai (jo fs).inn.length g.ci,.slice g.Ao (jo fs).out.length g.co,.int .i64 (jo fs).status,.int .i64 (jo fs).trap])∧
   Cw w.heap.size w [aj (.slice g.Af (jo fs).frames.length g.cf) (jo fs).frames,aj (.slice g.Ab (jo fs).blocks.length g.cb) (jo fs).blocks,aj (.slice g.Ai (jo fs).inn.length g.ci) (jo fs).inn,aj (.slice g.Ao (jo fs).out.length g.co) (jo fs).out] w':=by
 obtain⟨A1,c1,A2,c2,hl,hc,hi,hcell⟩:=hs.fn h0
 have hF:(cV (av fs 0).locals).length=(av fs 0).locals.length:=ix _
 refine enter Tryz.func72 rfl Tryz.ntmps72 rfl ?_
 refine ac<|aa<|ag (bF rfl rfl rfl) rfl rfl (fun g1 _=>?_)
 refine ag (aZ bW rfl rfl) rfl rfl (fun g2 _=>?_)
 refine ae<|ac<|aa<|rn 1 [2,3] rfl<|af (ai fc cQ rfl rfl (by rfl)) rfl rfl ?_
 refine af (aO (k:=0) bI bq (.ro hs) (by omega) rfl rfl rfl) rfl rfl<|af (cr (hcell _) rfl rfl d8 bq) rfl rfl<|ag (eL rfl rfl rfl Tryz.call114 (fun w hw=>r5 (av fs 0).params (av fs 0).result A1 A2 c1 c2 _ (av fs 0).locals w (hw.ro hl) (by omega))) rfl rfl (fun⟨A3,c3⟩ _=>?_)
 try dsimp only
 refine af (cT (cs:= [_,_,_,_]) sJ df rfl rfl (by rfl)) rfl rfl ?_
 refine ag (bh (cs:= [_,_,_,_]) a6 bG df rfl rfl rfl rfl rfl) rfl rfl (fun g3 _=>?_)
 refine af (cT (cs:= [_,_,_,_,_,_]) o5 bW rfl rfl (by rfl)) rfl rfl ?_
 refine ag (aH _ fc aF rfl rfl rfl rfl rfl (by rfl) rfl (by rfl)) rfl rfl (fun _ _=>?_)
 refine ae<|au<|aA Tryz.results72 (dp (cs:= [_,_,_,_,_,_]) fc bd aF rfl) ?_
 intro w hw
 refine⟨⟨some ⟨g3,0,none⟩,1,none,0,none,0,none,0⟩,trivial,rfl,?_⟩
 have h1:=rk (H:= []) (xs:=(jo fs).frames) (g:=g3) (mA.cons (Hel:= [aj (.slice A3 (cV (av fs 0).locals).length c3) (cV (av fs 0).locals),aj (.slice none 0 0) ([]:List aS)]) (cs:= [_,_,_,_]) (tO (x:=⟨0,0,cV (av fs 0).locals,[]⟩) (by show aX 0∧aX 0;decide)) mA.nil_) rfl (by show 1≤_;decide) ((Cw.nilO aS hw).msub (T:= [am g3 _ _,aj (.slice A3 (cV (av fs 0).locals).length c3) (cV (av fs 0).locals),aj (.slice none 0 0) ([]:List aS)]) ms)
 exact(Cw.nilO (List Int) (Cw.nilO Int (Cw.nilO Int h1))).msub ms
theorem Ay {B:Nat} {w0 w:World} {H:List bj} (h:Cw B w0 H w):Cw B w0 (aj (α:=aW) (.slice none 0 0) []::aj (α:=List Int) (.slice none 0 0) []::aj (α:=Int) (.slice none 0 0) []::aj (α:=Int) (.slice none 0 0) []::H) w:=Cw.nilO aW (Cw.nilO (List Int) (Cw.nilO Int (Cw.nilO Int h)))
set_option maxRecDepth 100000 in
set_option maxHeartbeats 1000000 in
theorem wM (Ap:Option Addr) (cp:Nat) (fs:List aC) (m:aD) (hmm:n8 fs=m) (w:World) (hs:Sl w (.slice Ap fs.length cp) fs) :
  Calls Tryz.prog 22 #[.agg #[.slice Ap fs.length cp]] w fun e w'=> ∃g:MA,True∧
   e= .returned (.tuple #[.agg #[.slice g.Af m.frames.length g.cf,.slice g.Ab m.blocks.length g.cb,.slice g.Ai m.inn.length g.ci,.slice g.Ao m.out.length g.co,.int .i64 m.status,.int .i64 m.trap],.int .i64 (dU fs)])∧Cw w.heap.size w [aj (.slice g.Af m.frames.length g.cf) m.frames,aj (.slice g.Ab m.blocks.length g.cb) m.blocks,aj (.slice g.Ai m.inn.length g.ci) m.inn,aj (.slice g.Ao m.out.length g.co) m.out] w':=by
 refine enter Tryz.func22 rfl Tryz.ntmps22 rfl ?_
 refine ac<|aa<|ag (bF rfl rfl rfl) rfl rfl (fun g1 _=>?_)
 refine ag (aZ bW rfl rfl) rfl rfl (fun g2 _=>?_)
 refine rn 1 [1,2] rfl<|ae<|ac<|ac<|aa<|af (aQ (vs:= [_]) fc cE cg rfl rfl (by rfl) rfl) rfl rfl ?_
 refine ag (bK rfl rfl rfl Tryz.call55 (fun w hw=>rL Ap cp fs w (hw.ro hs))) rfl rfl (fun _ _=>?_)
 refine rn 1 [1,2,4] rfl<|ae<|ac<|aa<|rn 2 [1,2,4,8] rfl<|ae ?_
 unfold n8 at hmm
 refine b9 rfl (fun h=>?_) (fun h=>?_)
 ·rw[if_neg h] at hmm
  subst hmm
  refine ac<|aa<|af (cT (cs:= [_,_,_,_,_,_]) o5 bW rfl rfl (by rfl)) rfl rfl ?_
  refine rn 1 [2,9,10] rfl<|ag (aH _ fc aF rfl rfl rfl rfl rfl (by rfl) rfl (by rfl)) rfl rfl (fun _ _=>?_)
  refine rn 1 [2,3] rfl<|ae<|au (ak ?_)
  refine bD Tryz.results22 (dp (cs:= [_,_,_,_,_,_]) fc bd aF rfl) (aq rfl) ?_
  intro w hw
  exact⟨⟨none,0,none,0,none,0,none,0⟩,trivial,rfl,(Ay hw).msub ms⟩
 have h:dU fs=0:=h
 rw[if_pos h] at hmm
 subst hmm
 refine ax (ap ?_)
 refine ac<|aa<|af (aQ (vs:= [_]) fc cE cg rfl rfl (by rfl) rfl) rfl rfl ?_
 refine ag (cO rfl rfl rfl Tryz.call72 (fun w hw=>AE Ap cp fs w (hw.ro hs) (nw h) (by have:=((gY (rA h).p (nw h)).1.op 0 (gY (rA h).p (nw h)).2).par 0 (nw h) |>.2;omega))) rfl rfl (fun g _=>?_)
 refine ag (aH _ fc aF rfl rfl rfl rfl rfl (by rfl) rfl (by rfl)) rfl rfl (fun _ _=>?_)
 refine rn 1 [2,3] rfl<|ae<|au<|bD Tryz.results22 (dp (cs:= [_,_,_,_,_,_]) fc bd aF rfl) (aq rfl) ?_
 intro w hw
 exact⟨g,trivial,by rw[h],hw.msub ms⟩
end
section
theorem pK {α:Type} :∀(l:List α) (k:Nat) (d:α),l.set k (l.getD k d)=l
 | [],_,_=>rfl
 | _::_,0,_=>rfl
 | x::l,k+1,d=>congrArg (x:: ·) (pK l k d)
def hZ (a:MA) (m:aD):ec:=⟨.slice a.Af m.frames.length a.cf,.slice a.Ab m.blocks.length a.cb,.slice a.Ai m.inn.length a.ci,.slice a.Ao m.out.length a.co,m.status,m.trap⟩
theorem m9 {a:MA} {m:aD} (h:aX m.status∧aX m.trap):ec.wf (hZ a m):=⟨h,rfl,rfl,rfl,rfl⟩
section
variable {P:Program} {n:NF} {B:Nat} {w0:World} {H H':List bj} {Q:Exit→Act→World→Prop} {env:de} {x:Code} {ops:Array Oper} {os:List Oper}
theorem o6 {α:Type} [Ow α] {w:World} {F:Nat→Prop} {v:Value} {xs:List α} (h:cS w F v xs):∃A c,v= .slice A xs.length c:=by
 obtain⟨A,c,e,_⟩:=(cS.sl h).form
 exact⟨A,c,e⟩
theorem xZ {l:List (ec×aD)} (hok:fu l) {i:Nat} (hi:i<l.length) {w:World} (h:Cw B w0 (cR l::H) w):∃a:MA,l[i].1=hZ a l[i].2:=by
 have h1:Cw B w0 (aj l[i].1.fv l[i].2.frames::aj l[i].1.bv l[i].2.blocks::aj l[i].1.iv l[i].2.inn::aj l[i].1.ov l[i].2.out::(cR (l.eraseIdx i)::H)) w:=th hi h
 obtain⟨F1,k1,_⟩:=h1.rd cC.a
 obtain⟨F2,k2,_⟩:=h1.rd (cC.s cC.a)
 obtain⟨F3,k3,_⟩:=h1.rd (cC.s (cC.s cC.a))
 obtain⟨F4,k4,_⟩:=h1.rd (cC.s (cC.s (cC.s cC.a)))
 obtain⟨Af,cf,e1⟩:=o6 k1
 obtain⟨Ab,cb,e2⟩:=o6 k2
 obtain⟨Ai,ci,e3⟩:=o6 k3
 obtain⟨Ao,co,e4⟩:=o6 k4
 obtain⟨s1,s2⟩:=hok l[i] (List.getElem_mem hi)
 refine⟨⟨Af,cf,Ab,cb,Ai,ci,Ao,co⟩,?_⟩
 cases h:l[i] with
 | mk a b=>
  rw[h] at e1 e2 e3 e4 s1 s2
  cases a
  simp only at e1 e2 e3 e4 s1 s2
  subst e1 e2 e3 e4 s1 s2
  rfl
theorem C2 {l:List (ec×aD)} {i:Nat} (hi:i<l.length) {w:World} (h:Cw B w0 (cR l::H) w):Sl w l[i].1.fv l[i].2.frames∧Sl w l[i].1.bv l[i].2.blocks∧Sl w l[i].1.iv l[i].2.inn∧Sl w l[i].1.ov l[i].2.out:=by
 have h1:Cw B w0 (aj l[i].1.fv l[i].2.frames::aj l[i].1.bv l[i].2.blocks::aj l[i].1.iv l[i].2.inn::aj l[i].1.ov l[i].2.out::(cR (l.eraseIdx i)::H)) w:=th hi h
 obtain⟨F1,k1,_⟩:=h1.rd cC.a
 obtain⟨F2,k2,_⟩:=h1.rd (cC.s cC.a)
 obtain⟨F3,k3,_⟩:=h1.rd (cC.s (cC.s cC.a))
 obtain⟨F4,k4,_⟩:=h1.rd (cC.s (cC.s (cC.s cC.a)))
 exact⟨cS.sl k1,cS.sl k2,cS.sl k3,cS.sl k4⟩
theorem yA {l:List (ec×aD)} {i:Nat} (hi:i<l.length):aJ (l.map Prod.snd) i=l[i].2:=by
 unfold aJ
 rw[List.getD_eq_getElem?_getD,List.getElem?_map,List.getElem?_eq_getElem hi]
 rfl
theorem yN {l:List (ec×aD)} {i:Nat} (hi:i<l.length) (d:ec):(l.map Prod.fst).getD i d=l[i].1:=by
 rw[List.getD_eq_getElem?_getD,List.getElem?_map,List.getElem?_eq_getElem hi]
 rfl
abbrev RM (a:MA) (m:aD) (H:List bj):List bj:=aj (.slice a.Af m.frames.length a.cf) m.frames::aj (.slice a.Ab m.blocks.length a.cb) m.blocks::aj (.slice a.Ai m.inn.length a.ci) m.inn::aj (.slice a.Ao m.out.length a.co) m.out::H
structure zy (B:Nat) (w0:World) (X:bj) (L:List aD) (k:Nat) (hs:List ec) (a:MA):Prop where
 len:hs.length=L.length
 hd:hs.getD k default=hZ a (aJ L k)
 i64:aX (aJ L k).status∧aX (aJ L k).trap
 back:∀(v:Value) (g:MA) (m:aD) H w,Cw B w0 (aj v (hs.set k (hZ g m))::RM g m (X::H)) w→Cw B w0 (aj v (L.set k m)::H) w
theorem zk {v:Value} {L:List aD} {k:Nat} (hk:k<L.length) (hp:cC H (aj v L) H') {w:World} (hw:Cw B w0 H w) :
  ∃X hs a,zy B w0 X L k hs a∧Cw B w0 (aj v hs::RM a (aJ L k) (X::H')) w:=by
 obtain⟨l,hl,hok,h3⟩:=tA (hw.perm hp)
 have hkl:k<l.length:=by rw[←List.length_map (f:=Prod.snd),hl];exact hk
 have h4:=h3.perm (List.Perm.swap ..)
 obtain⟨a,ea⟩:=xZ hok hkl h4
 have em:aJ L k=l[k].2:=by rw[←hl];exact yA hkl
 have h5:Cw B w0 (aj l[k].1.fv l[k].2.frames::aj l[k].1.bv l[k].2.blocks::aj l[k].1.iv l[k].2.inn::aj l[k].1.ov l[k].2.out::(cR (l.eraseIdx k)::aj v (l.map Prod.fst)::H')) w:=th hkl h4
 rw[ea,←em] at h5
 have hwf:ec.wf l[k].1:=jV h3 .a (List.mem_map_of_mem (List.getElem_mem hkl))
 have hI:aX (aJ L k).status∧aX (aJ L k).trap:=by
  rw[ea,←em] at hwf
  exact hwf.1
 refine⟨cR (l.eraseIdx k),l.map Prod.fst,a,⟨by rw[←hl,List.length_map,List.length_map],by rw[yN hkl,ea,em],hI,fun u g m H1 w1 h=>?_⟩,h5.msub ms⟩
 have hq:fu (l.set k (hZ g m,m)):=hok.set (q:=(hZ g m,m)) ⟨rfl,rfl⟩
 have h6:Cw B w0 (fY.parts (hZ g m,m).1 (hZ g m,m).2++cR (l.eraseIdx k)::aj u ((l.map Prod.fst).set k (hZ g m))::H1) w1:=h.msub (T:=RM g m (cR (l.eraseIdx k)::aj u ((l.map Prod.fst).set k (hZ g m))::H1)) ms
 have h7:=BS hkl h6
 have e1:(l.map Prod.fst).set k (hZ g m)=(l.set k (hZ g m,m)).map Prod.fst:=by rw[List.map_set]
 rw[e1] at h7
 have h8:=oN hq (h7.perm (List.Perm.swap ..))
 rw[List.map_set,hl] at h8
 exact h8
theorem oI {v:Value} {L:List aD} {k:Nat} (hk:k<L.length) (hp:cC H (aj v L) H') (h:∀X hs a,zy B w0 X L k hs a→CW P n B w0 x Q env (aj v hs::RM a (aJ L k) (X::H'))):CW P n B w0 x Q env H:=fun a w hf hw=>by
 obtain⟨X,hs,g,h1,h2⟩:=zk hk hp hw
 exact h X hs g h1 a w hf h2
theorem C1 {v:Value} {L:List aD} {k:Nat} (hk:k<L.length) (hp:cC H (aj v L) H') (h:∀X hs a,zy B w0 X L k hs a→RW P n B w0 ops Q os env (aj v hs::RM a (aJ L k) (X::H'))):RW P n B w0 ops Q os env H:=fun a w hf hw=>by
 obtain⟨X,hs,g,h1,h2⟩:=zk hk hp hw
 exact h X hs g h1 a w hf h2
theorem zy.same {X:bj} {L:List aD} {k:Nat} {hs:List ec} {a:MA} (h:zy B w0 X L k hs a) (_:k<L.length) {v:Value} {w:World} (hw:Cw B w0 (aj v hs::RM a (aJ L k) (X::H)) w):Cw B w0 (aj v L::H) w:=by
 have e1:hs.set k (hZ a (aJ L k))=hs:=by
  rw[←h.hd]
  exact pK hs k default
 have e2:L.set k (aJ L k)=L:=pK L k default
 have:=h.back v a (aJ L k) H w (by rw[e1];exact hw)
 rwa [e2] at this
structure EL (B:Nat) (w0:World) (X:bj) (L:List aD) (hs:List ec):Prop where
 el:∀i,i<L.length→∃a:MA,hs.getD i default=hZ a (aJ L i)∧(aX (aJ L i).status∧aX (aJ L i).trap)∧
  ∀H H',cC H X H'→SF B w0 H a.Af (aJ L i).frames.length a.cf (aJ L i).frames∧SF B w0 H a.Ab (aJ L i).blocks.length a.cb (aJ L i).blocks∧SF B w0 H a.Ai (aJ L i).inn.length a.ci (aJ L i).inn∧SF B w0 H a.Ao (aJ L i).out.length a.co (aJ L i).out
 len:hs.length=L.length
 back:∀H H' H'' v w,cC H (aj v hs) H'→cC H' X H''→Cw B w0 H w→Cw B w0 (aj v L::H'') w
theorem C9 {v:Value} {L:List aD} (hp:cC H (aj v L) H') {w:World} (hw:Cw B w0 H w):∃X hs,EL B w0 X L hs∧Cw B w0 (aj v hs::X::H') w:=by
 obtain⟨l,hl,hok,h3⟩:=tA (hw.perm hp)
 have hll:l.length=L.length:=by rw[←hl,List.length_map]
 refine⟨cR l,l.map Prod.fst,⟨fun i hi=>?_,by rw[List.length_map,hll],fun H1 H2 H3 v w f1 f2 hw=>?_⟩,h3⟩
 ·have hi':i<l.length:=by omega
  have h4:=h3.perm (List.Perm.swap ..)
  obtain⟨a,ea⟩:=xZ hok hi' h4
  have em:aJ L i=l[i].2:=by rw[←hl];exact yA hi'
  have hwf:ec.wf l[i].1:=jV h3 .a (List.mem_map_of_mem (List.getElem_mem hi'))
  have hI:aX (aJ L i).status∧aX (aJ L i).trap:=by
   rw[ea,←em] at hwf
   exact hwf.1
  refine⟨a,by rw[yN hi',ea,em],hI,fun H1 H2 f=>?_⟩
  have key:∀w,Cw B w0 H1 w→Sl w (.slice a.Af (aJ L i).frames.length a.cf) (aJ L i).frames∧Sl w (.slice a.Ab (aJ L i).blocks.length a.cb) (aJ L i).blocks∧Sl w (.slice a.Ai (aJ L i).inn.length a.ci) (aJ L i).inn∧Sl w (.slice a.Ao (aJ L i).out.length a.co) (aJ L i).out:=fun w hw=>by
   have:=C2 hi' (hw.perm f)
   rw[ea,←em] at this
   exact this
  exact⟨⟨rfl,fun w hw=>(key w hw).1⟩,⟨rfl,fun w hw=>(key w hw).2.1⟩,⟨rfl,fun w hw=>(key w hw).2.2.1⟩,⟨rfl,fun w hw=>(key w hw).2.2.2⟩⟩
 have:=oN (v:=v) (H:=H3) hok ((hw.perm f1).perm (List.Perm.cons _ f2))
 rw[hl] at this
 exact this
theorem zb {v:Value} {L:List aD} (hp:cC H (aj v L) H') (h:∀X hs,EL B w0 X L hs→CW P n B w0 x Q env (aj v hs::X::H')):CW P n B w0 x Q env H:=fun a w hf hw=>by
 obtain⟨X,hs,h1,h2⟩:=C9 hp hw
 exact h X hs h1 a w hf h2
theorem SF.hmc {A:Option Addr} {xs:List ec} {m c k:Nat} {a:MA} {y:aD} (hs:SF B w0 H A m c xs) (hk:k<m) (e:xs.getD k default=hZ a y) :
  ∀w,Cw B w0 H w→∀j v,([.slice a.Af y.frames.length a.cf,.slice a.Ab y.blocks.length a.cb,.slice a.Ai y.inn.length a.ci,.slice a.Ao y.out.length a.co,.int .i64 y.status,.int .i64 y.trap]:List Value)[j]? =some v→w.cell? ⟨ab A,ao A+k*6+j,none⟩=some v:=
 fun w hw j v hv=>SF.cell hs hk default (by rw[e];exact hv) w hw
theorem SF.min {a:MA} {m:aD} {w:World} (h:SF B w0 H a.Af m.frames.length a.cf m.frames∧SF B w0 H a.Ab m.blocks.length a.cb m.blocks∧SF B w0 H a.Ai m.inn.length a.ci m.inn∧SF B w0 H a.Ao m.out.length a.co m.out) (hi:aX m.status∧aX m.trap) (hw:Cw B w0 H w):gk w.heap.size w a m:=
 ⟨SF.at_ h.1 hw,SF.at_ h.2.1 hw,SF.at_ h.2.2.1 hw,SF.at_ h.2.2.2 hw,hi.1,hi.2⟩
theorem sK {R1 R2 R3 R4 R5 R6:bj} {H1 H2 H3 H4 H5 H6:List bj} (h1:cC H R1 H1) (h2:cC H1 R2 H2) (h3:cC H2 R3 H3) (h4:cC H3 R4 H4) (h5:cC H4 R5 H5) (h6:cC H5 R6 H6):H.Perm ((R1::R2:: [R3,R4,R5,R6])++H6):=
 h1.trans (.cons _ (h2.trans (.cons _ (h3.trans (.cons _ (h4.trans (.cons _ (h5.trans (.cons _ h6)))))))))
theorem m8 {v1 v2 v3 v4:Value} {m:aD} (hi:aX m.status∧aX m.trap):∀(w:World) (F:Nat→Prop),Hs w [aj v1 m.frames,aj v2 m.blocks,aj v3 m.inn,aj v4 m.out] F→Ow.own w F [v1,v2,v3,v4,.int .i64 m.status,.int .i64 m.trap] m:=
 fun _ _ h=>⟨v1,v2,v3,v4,rfl,hi,h⟩
end
end
section
theorem AU:Tryz.prog.eqGuardType Tryz.prog.depth 103=false:=by kernel_rfl
theorem Et:Tryz.prog.stoodInHeld 103=false:=by kernel_rfl
theorem Em (w : World) (a c : Bool) (b d : Int) : (binOp .neq 103 (.agg #[.bool a, .int .i64 b]) (.agg #[.bool c, .int .i64 d])).run Tryz.prog w = .ok (.bool (!(a == c && b == d))) w := by
  have h := Et
  by_cases h1 : a = c <;> by_cases h2 : b = d <;> simp [go_sem, h, h1, h2]
theorem Eo (x y : Operand) (u v : Array Value) (w : World) : (eqGuard .neq 103 x y (.agg u) (.agg v)).run Tryz.prog w = .ok () w := by
  have h := AU
  simp [eqGuard, go_sem, h]
theorem Dl {v u:aS} :(v.ref == u.ref && v.n == u.n)=decide (v=u):=by
 obtain⟨a,b⟩:=v
 obtain⟨c,d⟩:=u
 by_cases h1:a=c <;> by_cases h2:b=d <;> simp[h1,h2]
theorem nn {α:Type} {a b:List α} {i:Nat} (d:α) (h1:i<a.length) (h2:i<b.length) (h:a.take i=b.take i) (e:a.getD i d=b.getD i d):a.take (i+1)=b.take (i+1):=by
 rw[e9 a i d h1,e9 b i d h2,h,e]
theorem sU {α:Type} {a b:List α} {i:Nat} (d:α) (e:¬a.getD i d=b.getD i d):¬a=b:=fun h=>e (by rw[h])
set_option maxRecDepth 100000 in
theorem mR (A1 A2:Option Addr) (c1 c2:Nat) (a b:List aS) (w:World) (h1:Sl w (.slice A1 a.length c1) a) (h2:Sl w (.slice A2 b.length c2) b) :
  Calls Tryz.prog 98 #[.slice A1 a.length c1,.slice A2 b.length c2] w fun e w'=>e= .returned (.bool (decide (a=b)))∧Below w.heap.size w w':=by
 have b1:=bO h1
 refine enter Tryz.func98 rfl Tryz.ntmps98 rfl ?_
 refine ac<|aa<|rn 1 [0,1] rfl<|ae<|ac<|ac<|aa<|rn 1 [0,1,6] rfl<|af (aN az rfl rfl) rfl rfl<|rn 1 [0,1,7,8] rfl<|af (aN az rfl rfl) rfl rfl<|rn 1 [0,1,10] rfl<|ae<|b9 rfl (fun hl=>?_) (fun hl=>?_)
 ·refine ac<|aa<|rn 1 [4] rfl<|ae<|au (ak ?_)
  refine aA EO (aq rfl) ?_
  intro w hw
  exact⟨bt (by rw[decide_eq_false (fun e=>hl (by rw[e]))]),hw.below⟩
 have hl:a.length=b.length:=by omega
 refine ax (ap ?_)
 refine ac<|ac<|aa<|rn 1 [0,1,5] rfl<|ae<|aL (b8 (fun i:Nat=>i≤a.length∧a.take i=b.take i) (fun i=>a.length - i) (fun i=> [(0,.slice A1 a.length c1),(1,.slice A2 b.length c2),(5,.int .i64 (i:Int))]) (fun _=> []) 0 (⟨Nat.zero_le _,rfl⟩) ⟨rfl,rfl,rfl,trivial⟩ me ?_)
 rintro i hi'
 obtain⟨hi,hj⟩:i≤a.length∧a.take i=b.take i:=hi'
 refine ac<|ac<|aa<|rn 2 [0,1,5,11,12] rfl<|af (aN az rfl rfl) rfl rfl<|rn 1 [0,1,5,14] rfl<|ae<|aw rfl (fun hlt=>?_) (fun hlt=>?_)
 ·have hil:i<a.length:=by omega
  have hil2:i<b.length:=by omega
  refine ax (ap ?_)
  refine ac<|aL<|ac<|bQ (.still 0 (.still 1 (.still 2 (.still 3 (.still 4 (.still 5 (.still 6 (.still 7 (.still 8 .done))))))))) [] rfl (by kernel_rfl) (by kernel_rfl) ?_
  refine aV ha 2 [0,1,5,17,18] rfl<|an rfl (aO (k:=i) az aE (.ro h1) (by omega) rfl rfl rfl) rfl rfl ha ?_
  refine an rfl (cr (SF.val (SF.ro h1) hil default) rfl rfl dr aE) rfl rfl ha ?_
  refine aV ha 2 [0,1,5,20,21,22] rfl<|an rfl (aO (k:=i) az aE (.ro h2) (by omega) rfl rfl rfl) rfl rfl ha ?_
  refine an rfl (cr (SF.val (SF.ro h2) hil2 default) rfl rfl dr aE) rfl rfl ha ?_
  refine an rfl (nu rfl rfl rfl (fun w=>Em w _ _ _ _) (fun w=>Eo _ _ _ _ w)) rfl rfl ha ?_
  refine cJ ?_
  rw[Dl]
  refine b9 rfl (fun he=>?_) (fun he=>?_)
  ·refine ac<|aa<|rn 1 [4] rfl<|ae<|au (aG (ak (ak (aG (ak ?_)))))
   refine aA EO (aq rfl) ?_
   intro w hw
   exact⟨bt (by rw[decide_eq_false (sU default he)]),hw.below⟩
  refine ax (aK (ap ?_))
  refine aa<|rn 1 [0,1,15] rfl<|af (bH rfl rfl rfl (by omega)) rfl rfl<|rn 1 [0,1,5] rfl<|br (i+1) (⟨by show i+1≤_;omega,nn default hil hil2 hj he⟩) (by show _ - _<_ - _;omega) ⟨rfl,rfl,rfl,trivial⟩ me
 obtain rfl:i=a.length:=by omega
 rw[List.take_length,hl,List.take_length] at hj
 refine bN (aM (aM (cc (ap ?_))))
 refine ac<|aa<|rn 1 [4] rfl<|ae<|au<|aA EO (aq rfl) ?_
 intro w hw
 exact⟨bt (by rw[decide_eq_true hj]),hw.below⟩
set_option maxRecDepth 100000 in
theorem ri (A1 A2:Option Addr) (c1 c2:Nat) (a b:List (List Int)) (w:World) (h1:Sl w (.slice A1 a.length c1) a) (h2:Sl w (.slice A2 b.length c2) b) :
  Calls Tryz.prog 97 #[.slice A1 a.length c1,.slice A2 b.length c2] w fun e w'=>e= .returned (.bool (decide (a=b)))∧Below w.heap.size w w':=by
 have b1:=bO h1
 refine enter Tryz.func97 rfl Tryz.ntmps97 rfl ?_
 refine ac<|aa<|rn 1 [0,1] rfl<|ae<|ac<|ac<|aa<|rn 1 [0,1,6] rfl<|af (aN cy rfl rfl) rfl rfl<|rn 1 [0,1,7,8] rfl<|af (aN cy rfl rfl) rfl rfl<|rn 1 [0,1,10] rfl<|ae<|b9 rfl (fun hl=>?_) (fun hl=>?_)
 ·refine ac<|aa<|rn 1 [4] rfl<|ae<|au (ak ?_)
  refine aA EP (aq rfl) ?_
  intro w hw
  exact⟨bt (by rw[decide_eq_false (fun e=>hl (by rw[e]))]),hw.below⟩
 have hl:a.length=b.length:=by omega
 refine ax (ap ?_)
 refine ac<|ac<|aa<|rn 1 [0,1,5] rfl<|ae<|aL (b8 (fun i:Nat=>i≤a.length∧a.take i=b.take i) (fun i=>a.length - i) (fun i=> [(0,.slice A1 a.length c1),(1,.slice A2 b.length c2),(5,.int .i64 (i:Int))]) (fun _=> []) 0 (⟨Nat.zero_le _,rfl⟩) ⟨rfl,rfl,rfl,trivial⟩ me ?_)
 rintro i hi'
 obtain⟨hi,hj⟩:i≤a.length∧a.take i=b.take i:=hi'
 refine ac<|ac<|aa<|rn 2 [0,1,5,11,12] rfl<|af (aN cy rfl rfl) rfl rfl<|rn 1 [0,1,5,14] rfl<|ae<|aw rfl (fun hlt=>?_) (fun hlt=>?_)
 ·have hil:i<a.length:=by omega
  have hil2:i<b.length:=by omega
  obtain⟨A3,c3,hb1,hc1⟩:=h1.sub hil
  obtain⟨A4,c4,hb2,hc2⟩:=h2.sub hil2
  refine ax (ap ?_)
  refine ac<|aL<|ac<|bQ (.still 0 (.still 1 (.still 2 (.still 3 (.still 4 (.still 5 (.still 6 (.still 7 (.pick 8 (.still 9 .done) .stop))))))))) [] rfl (by kernel_rfl) (by kernel_rfl) ?_
  refine aV ha 2 [0,1,5,17,18] rfl<|an rfl (aO (k:=i) cy bV (.ro h1) (by omega) rfl rfl rfl) rfl rfl ha ?_
  refine an rfl (a8 (hc1 _) rfl rfl a5) rfl rfl ha ?_
  refine aV ha 2 [0,1,5,20,21,22] rfl<|an rfl (aO (k:=i) cy bV (.ro h2) (by omega) rfl rfl rfl) rfl rfl ha ?_
  refine an rfl (a8 (hc2 _) rfl rfl a5) rfl rfl ha ?_
  refine aB rfl (bK rfl rfl rfl sm (fun w hw=>jT _ _ _ _ (a.getD i []) (b.getD i []) w (hw.ro hb1) (hw.ro hb2))) rfl rfl (.inr fun _=>ha) (fun _ _=>?_) ay
  refine aV ha 1 [0,1,5,26] rfl<|cJ<|b9 rfl (fun he=>?_) (fun he=>?_)
  ·refine ac<|aa<|rn 1 [4] rfl<|ae<|au (aG (ak (ak (aG (ak ?_)))))
   refine aA EP (aq rfl) ?_
   intro w hw
   exact⟨bt (by rw[decide_eq_false (sU [] he)]),hw.below⟩
  refine ax (aK (ap ?_))
  refine aa<|rn 1 [0,1,15] rfl<|af (bH rfl rfl rfl (by omega)) rfl rfl<|rn 1 [0,1,5] rfl<|br (i+1) (⟨by show i+1≤_;omega,nn [] hil hil2 hj he⟩) (by show _ - _<_ - _;omega) ⟨rfl,rfl,rfl,trivial⟩ me
 obtain rfl:i=a.length:=by omega
 rw[List.take_length,hl,List.take_length] at hj
 refine bN (aM (aM (cc (ap ?_))))
 refine ac<|aa<|rn 1 [4] rfl<|ae<|au<|aA EP (aq rfl) ?_
 intro w hw
 exact⟨bt (by rw[decide_eq_true hj]),hw.below⟩
theorem fj {α:Type} {f:aD→α} {m1 m2:aD} (h:¬f m1=f m2):¬m1=m2:=fun e=>h (by rw[e])
theorem Ci {m1 m2:aD} (h1:m1.status=m2.status) (h2:m1.trap=m2.trap) (h3:m1.blocks=m2.blocks) (h4:m1.inn=m2.inn) (h5:m1.out=m2.out) (h6:m1.frames=m2.frames):m1=m2:=by
 cases m1;cases m2;simp_all
theorem sM {l1 l2:List aW} {i:Nat} {α:Type} {f:aW→α} (h:¬f (bg l1 i)=f (bg l2 i)):¬l1=l2:=fun e=>h (by rw[e])
theorem Du {x y:aW} (h1:x.func=y.func) (h2:x.pc=y.pc) (h3:x.locals=y.locals) (h4:x.stack=y.stack):x=y:=by
 cases x;cases y;simp_all
theorem jd {p:Prop} [Decidable p] (h:(!decide p)=true):¬p:=by simpa using h
theorem it {p:Prop} [Decidable p] (h:(!decide p)=false):p:=by simpa using h
set_option maxRecDepth 100000 in
set_option maxHeartbeats 4000000 in
theorem s8 (a b:MA) (m1 m2:aD) (w:World) (h1:gk w.heap.size w a m1) (h2:gk w.heap.size w b m2) :
  Calls Tryz.prog 53 #[.agg #[.slice a.Af m1.frames.length a.cf,.slice a.Ab m1.blocks.length a.cb,.slice a.Ai m1.inn.length a.ci,.slice a.Ao m1.out.length a.co,.int .i64 m1.status,.int .i64 m1.trap],
   .agg #[.slice b.Af m2.frames.length b.cf,.slice b.Ab m2.blocks.length b.cb,.slice b.Ai m2.inn.length b.ci,.slice b.Ao m2.out.length b.co,.int .i64 m2.status,.int .i64 m2.trap]] w fun e w'=>e= .returned (.bool (decide (m1=m2)))∧Below w.heap.size w w':=by
 have b1:=bO h1.f
 refine enter Tryz.func53 rfl Tryz.ntmps53 rfl ?_
 refine ac<|aa<|ag (bF rfl rfl rfl) rfl rfl (fun g1 _=>?_)
 refine ag (bF rfl rfl rfl) rfl rfl (fun g2 _=>?_)
 refine rn 1 [2,3] rfl<|ae<|ac<|ac<|aa<|rn 1 [2,3,8] rfl<|af (ai fc ar rfl rfl (by rfl)) rfl rfl ?_
 refine rn 1 [2,3,9,10] rfl<|af (ai fc ar rfl rfl (by rfl)) rfl rfl ?_
 refine rn 2 [2,3,13] rfl<|bw (t:=13) rfl (fun e1=>?_) (fun e1=>?_)
 ·refine rn 39 [2,3,52] rfl<|ae<|bR rfl<|ac<|aa<|rn 1 [4] rfl<|ae<|au (ak ?_)
  refine aA gD (aq rfl) ?_
  intro w hw
  exact⟨bt (by rw[decide_eq_false (fj (f:=aD.status) (jd e1))]),hw.below⟩
 have e1:=it e1
 refine rn 1 [2,3,13,14] rfl<|af (ai fc ar rfl rfl (by rfl)) rfl rfl ?_
 refine rn 1 [2,3,13,15,16] rfl<|af (ai fc ar rfl rfl (by rfl)) rfl rfl ?_
 refine rn 3 [2,3,20] rfl<|bw (t:=20) rfl (fun e2=>?_) (fun e2=>?_)
 ·refine rn 32 [2,3,52] rfl<|ae<|bR rfl<|ac<|aa<|rn 1 [4] rfl<|ae<|au (ak ?_)
  refine aA gD (aq rfl) ?_
  intro w hw
  exact⟨bt (by rw[decide_eq_false (fj (f:=aD.trap) (jd e2))]),hw.below⟩
 have e2:=it e2
 refine rn 1 [2,3,20,21] rfl<|af (ai fc ew rfl rfl (by rfl)) rfl rfl ?_
 refine rn 1 [2,3,20,22,23] rfl<|af (ai fc ew rfl rfl (by rfl)) rfl rfl ?_
 refine ag (bK rfl rfl rfl Tryz.call97 (fun w hw=>ri _ _ _ _ m1.blocks m2.blocks w (hw.ro h1.b) (hw.ro h2.b))) rfl rfl (fun _ _=>?_)
 refine rn 3 [2,3,28] rfl<|bw (t:=28) rfl (fun e3=>?_) (fun e3=>?_)
 ·refine rn 24 [2,3,52] rfl<|ae<|bR rfl<|ac<|aa<|rn 1 [4] rfl<|ae<|au (ak ?_)
  refine aA gD (aq rfl) ?_
  intro w hw
  exact⟨bt (by rw[decide_eq_false (fj (f:=aD.blocks) (jd e3))]),hw.below⟩
 have e3:=it e3
 refine rn 1 [2,3,28,29] rfl<|af (ai fc a5 rfl rfl (by rfl)) rfl rfl ?_
 refine rn 1 [2,3,28,30,31] rfl<|af (ai fc a5 rfl rfl (by rfl)) rfl rfl ?_
 refine ag (bK rfl rfl rfl sm (fun w hw=>jT _ _ _ _ m1.inn m2.inn w (hw.ro h1.i) (hw.ro h2.i))) rfl rfl (fun _ _=>?_)
 refine rn 3 [2,3,36] rfl<|bw (t:=36) rfl (fun e4=>?_) (fun e4=>?_)
 ·refine rn 16 [2,3,52] rfl<|ae<|bR rfl<|ac<|aa<|rn 1 [4] rfl<|ae<|au (ak ?_)
  refine aA gD (aq rfl) ?_
  intro w hw
  exact⟨bt (by rw[decide_eq_false (fj (f:=aD.inn) (jd e4))]),hw.below⟩
 have e4:=it e4
 refine rn 1 [2,3,36,37] rfl<|af (ai fc a5 rfl rfl (by rfl)) rfl rfl ?_
 refine rn 1 [2,3,36,38,39] rfl<|af (ai fc a5 rfl rfl (by rfl)) rfl rfl ?_
 refine ag (bK rfl rfl rfl sm (fun w hw=>jT _ _ _ _ m1.out m2.out w (hw.ro h1.o) (hw.ro h2.o))) rfl rfl (fun _ _=>?_)
 refine rn 3 [2,3,44] rfl<|bw (t:=44) rfl (fun e5=>?_) (fun e5=>?_)
 ·refine rn 8 [2,3,52] rfl<|ae<|bR rfl<|ac<|aa<|rn 1 [4] rfl<|ae<|au (ak ?_)
  refine aA gD (aq rfl) ?_
  intro w hw
  exact⟨bt (by rw[decide_eq_false (fj (f:=aD.out) (jd e5))]),hw.below⟩
 have e5:=it e5
 refine rn 1 [2,3,44,45] rfl<|af (ai fc cd rfl rfl (by rfl)) rfl rfl ?_
 refine af (aN a6 rfl rfl) rfl rfl<|rn 1 [2,3,44,47,48] rfl<|af (ai fc cd rfl rfl (by rfl)) rfl rfl ?_
 refine af (aN a6 rfl rfl) rfl rfl<|rn 2 [2,3,52] rfl<|ae<|b9 rfl (fun e6=>?_) (fun e6=>?_)
 ·refine ac<|aa<|rn 1 [4] rfl<|ae<|au (ak ?_)
  refine aA gD (aq rfl) ?_
  intro w hw
  exact⟨bt (by rw[decide_eq_false (fj (f:=fun m=>m.frames.length) (fun h=>e6 (by rw[show m1.frames.length=m2.frames.length from h])))]),hw.below⟩
 have e6:m1.frames.length=m2.frames.length:=by omega
 refine ax (ap ?_)
 refine ac<|ac<|aa<|rn 1 [2,3,5] rfl<|ae<|aL (b8 (fun i:Nat=>i≤m1.frames.length∧m1.frames.take i=m2.frames.take i) (fun i=>m1.frames.length - i) (fun i=> [(2,.pointer (some ⟨g1,0,none⟩)),(3,.pointer (some ⟨g2,0,none⟩)),(5,.int .i64 (i:Int))]) (fun _=> [am g1 [.slice a.Af m1.frames.length a.cf,.slice a.Ab m1.blocks.length a.cb,.slice a.Ai m1.inn.length a.ci,.slice a.Ao m1.out.length a.co,.int .i64 m1.status,.int .i64 m1.trap] 29,am g2 [.slice b.Af m2.frames.length b.cf,.slice b.Ab m2.blocks.length b.cb,.slice b.Ai m2.inn.length b.ci,.slice b.Ao m2.out.length b.co,.int .i64 m2.status,.int .i64 m2.trap] 29]) 0 (⟨Nat.zero_le _,rfl⟩) ⟨rfl,rfl,rfl,trivial⟩ me ?_)
 rintro i hi'
 obtain⟨hi,hj⟩:i≤m1.frames.length∧m1.frames.take i=m2.frames.take i:=hi'
 refine ac<|ac<|aa<|rn 2 [2,3,5,53,54] rfl<|af (ai fc cd rfl rfl (by rfl)) rfl rfl ?_
 refine af (aN a6 rfl rfl) rfl rfl<|rn 1 [2,3,5,57] rfl<|ae<|aw rfl (fun hlt=>?_) (fun hlt=>?_)
 ·have hil:i<m1.frames.length:=by omega
  have hil2:i<m2.frames.length:=by omega
  obtain⟨A1,c1,A2,c2,hl1,hs1,hI1,hc1⟩:=h1.f.fr hil
  obtain⟨A3,c3,A4,c4,hl2,hs2,hI2,hc2⟩:=h2.f.fr hil2
  refine ax (ap ?_)
  refine ac<|aL<|dF (fun _:Nat×Nat=>True) (fun g=> [(2,.pointer (some ⟨g1,0,none⟩)),(3,.pointer (some ⟨g2,0,none⟩)),(5,.int .i64 (i:Int)),(6,.pointer (some ⟨g.1,0,none⟩)),(7,.pointer (some ⟨g.2,0,none⟩))]) (fun g=> [am g1 [.slice a.Af m1.frames.length a.cf,.slice a.Ab m1.blocks.length a.cb,.slice a.Ai m1.inn.length a.ci,.slice a.Ao m1.out.length a.co,.int .i64 m1.status,.int .i64 m1.trap] 29,am g2 [.slice b.Af m2.frames.length b.cf,.slice b.Ab m2.blocks.length b.cb,.slice b.Ai m2.inn.length b.ci,.slice b.Ao m2.out.length b.co,.int .i64 m2.status,.int .i64 m2.trap] 29,am g.1 [.int .i64 (bg m1.frames i).func,.int .i64 (bg m1.frames i).pc,.slice A1 (bg m1.frames i).locals.length c1,.slice A2 (bg m1.frames i).stack.length c2] 97,am g.2 [.int .i64 (bg m2.frames i).func,.int .i64 (bg m2.frames i).pc,.slice A3 (bg m2.frames i).locals.length c3,.slice A4 (bg m2.frames i).stack.length c4] 97]) ?_ ?_
  ·refine e8 (.still 0 (.still 1 (.still 2 (.still 3 (.still 4 (.still 5 (.still 6 (.still 7 (.still 8 (.still 9 (.pick 10 (.pick 11 (.pick 12 (.pick 13 .done .stop) .stop) .stop) (.pick 11 (.pick 10 (.pick 12 (.pick 13 .done .stop) .stop) .stop) .stop)))))))))))) [13] rfl (by kernel_rfl) (by kernel_rfl) [am g1 [.slice a.Af m1.frames.length a.cf,.slice a.Ab m1.blocks.length a.cb,.slice a.Ai m1.inn.length a.ci,.slice a.Ao m1.out.length a.co,.int .i64 m1.status,.int .i64 m1.trap] 29,am g2 [.slice b.Af m2.frames.length b.cf,.slice b.Ab m2.blocks.length b.cb,.slice b.Ai m2.inn.length b.ci,.slice b.Ao m2.out.length b.co,.int .i64 m2.status,.int .i64 m2.trap] 29] ?_
   refine aV ha 1 [2,3,5,60] rfl<|an rfl (ai fc cd rfl rfl (by rfl)) rfl rfl ha ?_
   refine aV ha 1 [2,3,5,61,62] rfl<|an rfl (aO (k:=i) a6 bG (.ro h1.f) (by omega) rfl rfl rfl) rfl rfl ha ?_
   refine an rfl (cr (hc1 _) rfl rfl gJ bG) rfl rfl ha ?_
   refine aV ha 1 [2,3,5,64,65] rfl<|an rfl (ai fc cd rfl rfl (by rfl)) rfl rfl ha ?_
   refine aV ha 1 [2,3,5,64,66,67] rfl<|an rfl (aO (k:=i) a6 bG (.ro h2.f) (by omega) rfl rfl rfl) rfl rfl ha ?_
   refine an rfl (cr (hc2 _) rfl rfl gJ bG) rfl rfl ha ?_
   refine aB rfl (aZ df rfl rfl) rfl rfl (.inr fun _=>ha) (fun q1 _=>?_) ?_
   ·refine aB rfl (aZ df rfl rfl) rfl rfl (.inr fun _=>ha) (fun q2 _=>?_) ay
    refine aB rfl (aH [_,_,_,_] fc bG rfl rfl rfl rfl rfl (by rfl) rfl (by rfl)) rfl rfl (.inr fun _=>ha) (fun _ _=>?_) ay
    refine aB rfl (aH [_,_,_,_] fc bG rfl rfl rfl rfl rfl (by rfl) rfl (by rfl)) rfl rfl (.inl rfl) (fun _ _=>?_) ay
    refine ck<|aY (q1,q2) (trivial) ⟨rfl,rfl,rfl,rfl,rfl,trivial⟩ (fun _ h=>h.msub ms)
   refine aB rfl (aZ df rfl rfl) rfl rfl (.inr fun _=>ha) (fun q2 _=>?_) ay
   refine aB rfl (aZ df rfl rfl) rfl rfl (.inr fun _=>ha) (fun q1 _=>?_) ay
   refine aB rfl (aH [_,_,_,_] fc bG rfl rfl rfl rfl rfl (by rfl) rfl (by rfl)) rfl rfl (.inr fun _=>ha) (fun _ _=>?_) ay
   refine aB rfl (aH [_,_,_,_] fc bG rfl rfl rfl rfl rfl (by rfl) rfl (by rfl)) rfl rfl (.inl rfl) (fun _ _=>?_) ay
   refine ck<|aY (q1,q2) (trivial) ⟨rfl,rfl,rfl,rfl,rfl,trivial⟩ (fun _ h=>h.msub ms)
  rintro⟨q1,q2⟩ _
  dsimp only
  refine ac<|aa<|rn 1 [2,3,5,6,7,70] rfl<|af (ai fc ar rfl rfl (by rfl)) rfl rfl ?_
  refine rn 1 [2,3,5,6,7,71,72] rfl<|af (ai fc ar rfl rfl (by rfl)) rfl rfl ?_
  refine rn 2 [2,3,5,6,7,75] rfl<|bw (t:=75) rfl (fun f1=>?_) (fun f1=>?_)
  ·refine rn 22 [2,3,5,97] rfl<|ae<|bR rfl<|ac<|aa<|rn 1 [4] rfl<|ae<|au (aG (ak (ak (aG (ak ?_)))))
   refine aA gD (aq rfl) ?_
   intro w hw
   exact⟨bt (by rw[decide_eq_false (fj (f:=aD.frames) (sM (i:=i) (f:=aW.func) (jd f1)))]),hw.below⟩
  have f1:=it f1
  refine rn 1 [2,3,5,6,7,75,76] rfl<|af (ai fc ar rfl rfl (by rfl)) rfl rfl ?_
  refine rn 1 [2,3,5,6,7,75,77,78] rfl<|af (ai fc ar rfl rfl (by rfl)) rfl rfl ?_
  refine rn 3 [2,3,5,6,7,82] rfl<|bw (t:=82) rfl (fun f2=>?_) (fun f2=>?_)
  ·refine rn 15 [2,3,5,97] rfl<|ae<|bR rfl<|ac<|aa<|rn 1 [4] rfl<|ae<|au (aG (ak (ak (aG (ak ?_)))))
   refine aA gD (aq rfl) ?_
   intro w hw
   exact⟨bt (by rw[decide_eq_false (fj (f:=aD.frames) (sM (i:=i) (f:=aW.pc) (jd f2)))]),hw.below⟩
  have f2:=it f2
  refine rn 1 [2,3,5,6,7,82,83] rfl<|af (ai fc a9 rfl rfl (by rfl)) rfl rfl ?_
  refine rn 1 [2,3,5,6,7,82,84,85] rfl<|af (ai fc a9 rfl rfl (by rfl)) rfl rfl ?_
  refine ag (bK rfl rfl rfl Tryz.call98 (fun w hw=>mR _ _ _ _ (bg m1.frames i).locals (bg m2.frames i).locals w (hw.ro hl1) (hw.ro hl2))) rfl rfl (fun _ _=>?_)
  refine rn 3 [2,3,5,6,7,90] rfl<|bw (t:=90) rfl (fun f3=>?_) (fun f3=>?_)
  ·refine rn 7 [2,3,5,97] rfl<|ae<|bR rfl<|ac<|aa<|rn 1 [4] rfl<|ae<|au (aG (ak (ak (aG (ak ?_)))))
   refine aA gD (aq rfl) ?_
   intro w hw
   exact⟨bt (by rw[decide_eq_false (fj (f:=aD.frames) (sM (i:=i) (f:=aW.locals) (jd f3)))]),hw.below⟩
  have f3:=it f3
  refine rn 1 [2,3,5,7,90,91] rfl<|af (ai fc a9 rfl rfl (by rfl)) rfl rfl ?_
  refine rn 1 [2,3,5,90,92,93] rfl<|af (ai fc a9 rfl rfl (by rfl)) rfl rfl ?_
  refine ag (bK rfl rfl rfl Tryz.call98 (fun w hw=>mR _ _ _ _ (bg m1.frames i).stack (bg m2.frames i).stack w (hw.ro hs1) (hw.ro hs2))) rfl rfl (fun _ _=>?_)
  refine rn 2 [2,3,5,97] rfl<|ae<|b9 rfl (fun f4=>?_) (fun f4=>?_)
  ·refine ac<|aa<|rn 1 [4] rfl<|ae<|au (aG (ak (ak (aG (ak ?_)))))
   refine aA gD (aq rfl) ?_
   intro w hw
   exact⟨bt (by rw[decide_eq_false (fj (f:=aD.frames) (sM (i:=i) (f:=aW.stack) f4))]),hw.below⟩
  refine ax (aK (ap ?_))
  refine aa<|rn 1 [2,3,58] rfl<|af (bH rfl rfl rfl (by omega)) rfl rfl<|rn 1 [2,3,5] rfl<|br (i+1) (⟨by show i+1≤_;omega,nn default hil hil2 hj (Du f1 f2 f3 f4)⟩) (by show _ - _<_ - _;omega) ⟨rfl,rfl,rfl,trivial⟩ (fun w h=>h.msub ms)
 obtain rfl:i=m1.frames.length:=by omega
 rw[List.take_length,e6,List.take_length] at hj
 refine bN (aM (aM (cc (ap ?_))))
 refine ac<|aa<|rn 1 [4] rfl<|ae<|au<|aA gD (aq rfl) ?_
 intro w hw
 exact⟨bt (by rw[decide_eq_true (Ci e1 e2 e3 e4 e5 hj)]),hw.below⟩
end
section
def gX:aD:=⟨[⟨0,0,[],[]⟩],[],[],[],0,0⟩
def EG:aD:=⟨[⟨0,1,[],[⟨false,3⟩]⟩],[],[],[],0,0⟩
def Ft:aD:=⟨[⟨0,0,[],[]⟩],[],[],[],1,0⟩
set_option maxRecDepth 100000 in
theorem wR:dU lW=0∧n8 lW=gX∧o9 lW gX=0∧Bs lW gX=EG∧o9 lW EG=0∧dU dW=0∧n8 dW=gX∧o9 dW gX=0∧Bs dW gX=Ft:=by
 refine⟨?_,?_,?_,?_,?_,?_,?_,?_,?_⟩ <;> kernel_rfl
theorem vU:l6 gX.frames:=by
 refine⟨by decide,fun x hx=>?_⟩
 have:x=⟨0,0,[],[]⟩:=by simpa [gX] using hx
 subst this
 decide
section
variable {fs:List aC} {m:aD} {n:Nat}
theorem py (hp:dU fs=0) (hm:n8 fs=gX) (hn:fs.length=n) (A:Option Addr) (c:Nat) (w:World) (hs:Sl w (.slice A n c) fs) :
  Calls Tryz.prog 22 #[.agg #[.slice A n c]] w fun e w'=> ∃g:MA,True∧
   e= .returned (.tuple #[.agg #[.slice g.Af 1 g.cf,.slice g.Ab 0 g.cb,.slice g.Ai 0 g.ci,.slice g.Ao 0 g.co,.int .i64 0,.int .i64 0],.int .i64 0])∧Cw w.heap.size w [aj (.slice g.Af 1 g.cf) gX.frames,aj (.slice g.Ab 0 g.cb) gX.blocks,aj (.slice g.Ai 0 g.ci) gX.inn,aj (.slice g.Ao 0 g.co) gX.out] w':=by
 subst hn
 have:=wM A c fs gX hm w hs
 rw[hp] at this
 exact this
end
section
variable {B:Nat} {w0 w:World} {H H1 H2 H3 H4:List bj}
theorem o8 {g:MA} {m:aD} {nf nb ni no:Nat} (hw:Cw B w0 H w) (hf:cC H (aj (.slice g.Af nf g.cf) m.frames) H1) (hb:cC H (aj (.slice g.Ab nb g.cb) m.blocks) H2) (hi:cC H (aj (.slice g.Ai ni g.ci) m.inn) H3) (ho:cC H (aj (.slice g.Ao no g.co) m.out) H4) (e1:m.frames.length=nf) (e2:m.blocks.length=nb) (e3:m.inn.length=ni) (e4:m.out.length=no) (hs:aX m.status) (ht:aX m.trap):gk w.heap.size w g m:=by
 subst e1 e2 e3 e4
 exact⟨SF.at_ (SF.own rfl hf) hw,SF.at_ (SF.own rfl hb) hw,SF.at_ (SF.own rfl hi) hw,SF.at_ (SF.own rfl ho) hw,hs,ht⟩
end
section
variable {P:Program} {n:NF} {B:Nat} {w0:World} {H H':List bj} {Q:Exit→Act→World→Prop} {env:de} {x:Code}
structure Gd (B:Nat) (w0:World) (X:bj) (k:Nat) (A:Option Addr) (c:Nat) (fr:List aW) (hs:List aT):Prop where
 el:∀i,i<k→∃Al cl As cs,hs.getD i default=⟨(bg fr i).func,(bg fr i).pc,.slice Al (bg fr i).locals.length cl,.slice As (bg fr i).stack.length cs⟩∧
  (∀H H',cC H X H'→SF B w0 H Al (bg fr i).locals.length cl (bg fr i).locals∧SF B w0 H As (bg fr i).stack.length cs (bg fr i).stack)
 len:hs.length=k
 back:∀H H' H'' w,cC H (aj (.slice A k c) hs) H'→cC H' X H''→Cw B w0 H w→Cw B w0 (aj (.slice A k c) fr::H'') w
end
end
section
theorem yu (a b:Int) (w:World):(Instr.field 49 (.agg #[.int .i64 a,.int .i64 b]) 0).run Tryz.prog w= .ok (.int .i64 a) w:=by kernel_rfl
theorem sT {fs:List aC} {m:aD} {li:List aW} {x:aW} (e:m.frames=li++ [x]):bg m.frames li.length=x∧m.frames.length=li.length+1∧be fs m=bB (av fs x.func.toNat).code x.pc.toNat:=by
 refine⟨by rw[e,jh],by rw[e];simp,?_⟩
 unfold be fE
 rw[e,su]
set_option maxRecDepth 100000 in
theorem tC (Ap:Option Addr) (cp:Nat) (fs:List aC) (a:MA) (m:aD) (w:World) (hs:Sl w (.slice Ap fs.length cp) fs) (hm:gk w.heap.size w a m) (hF:eS fs) (hR:cI fs m) (hne:m.frames≠[]) :
  Calls Tryz.prog 76 #[.agg #[.slice Ap fs.length cp],.agg #[.slice a.Af m.frames.length a.cf,.slice a.Ab m.blocks.length a.cb,.slice a.Ai m.inn.length a.ci,.slice a.Ao m.out.length a.co,.int .i64 m.status,.int .i64 m.trap]] w fun e w'=>e= .returned (.agg #[.int .i64 (be fs m).c,.int .i64 (be fs m).a])∧Below w.heap.size w w':=by
 have b1:=bO hm.f
 obtain⟨li,x,e⟩:∃li x,m.frames=li++ [x]:=by
  rcases List.eq_nil_or_concat m.frames with h1 | ⟨l,z,h1⟩
  ·exact absurd h1 hne
  exact⟨l,z,by rw[h1];simp⟩
 obtain⟨hx,hk,hop⟩:=sT (fs:=fs) e
 obtain⟨k,hkl⟩:∃k,li.length=k:=⟨_,rfl⟩
 rw[hkl] at hx hk
 obtain⟨hfn,hloc,t,he,hts⟩:=hR.top e
 obtain⟨hp0,hp1,_⟩:=(hF.e x.func.toNat (by omega)).at_ _ _ he
 obtain⟨A1,c1,A2,c2,h1,h2,hi,hc⟩:=hm.f.fr (k:=k) (by omega)
 rw[hx] at h1 h2 hi hc
 obtain⟨kf,hkf⟩:∃kf:Nat,x.func=kf:=⟨x.func.toNat,by omega⟩
 obtain⟨kp,hkp⟩:∃kp:Nat,x.pc=kp:=⟨x.pc.toNat,by omega⟩
 rw[hkf,Int.toNat_natCast] at hp1 hop
 rw[hkp,Int.toNat_natCast] at hop
 rw[hkp] at hp1
 have hkfl:kf<fs.length:=by omega
 have hkpl:kp<(av fs kf).code.length:=by omega
 obtain⟨F1,d1,F2,d2,hfl,hfc,hfi,hfcell⟩:=hs.fn hkfl
 have bp:=bO hs
 have bc:=bO hfc
 rw[hop]
 refine enter Tryz.func76 rfl Tryz.ntmps76 rfl ?_
 refine ac<|aa<|ag (bF rfl rfl rfl) rfl rfl (fun g1 _=>?_)
 refine ag (bF rfl rfl rfl) rfl rfl (fun g2 _=>?_)
 refine ag (aZ dP rfl rfl) rfl rfl (fun g3 _=>?_)
 refine ae<|ac<|aa<|rn 1 [2,3,4,6] rfl<|af (ai fc cd rfl rfl (by rfl)) rfl rfl ?_
 refine rn 1 [2,4,7,8] rfl<|af (ai fc cd rfl rfl (by rfl)) rfl rfl ?_
 refine af (aN a6 rfl rfl) rfl rfl<|af (bx rfl rfl rfl (by omega)) rfl rfl<|bA (t:=11) (v':= .int .i64 (k:Int)) rfl (congrArg (Value.int .i64) (by omega)) ?_
 refine af (aO (k:=k) a6 bG (.ro hm.f) (by omega) rfl rfl rfl) rfl rfl<|af (cr (hc _) rfl rfl gJ bG) rfl rfl<|ag (aZ df rfl rfl) rfl rfl (fun g4 _=>?_)
 refine ag (aH _ fc bG rfl rfl rfl rfl rfl (by rfl) rfl (by rfl)) rfl rfl (fun _ _=>?_)
 refine ae<|ac<|bQ (.still 0 (.still 1 (.still 2 (.still 3 (.still 4 (.still 5 (.still 6 (.still 7 (.still 8 (.still 9 (.still 10 (.pick 11 .done .stop)))))))))))) [11] rfl (by kernel_rfl) (by kernel_rfl) ?_
 refine aV ha 1 [4,5,14] rfl<|an rfl (ai fc cQ rfl rfl (by rfl)) rfl rfl ha ?_
 refine aV ha 1 [4,5,15,16] rfl<|an rfl (ai fc ar rfl rfl (by rfl)) rfl rfl ha ?_
 refine dh (t:=17) (v':= .int .i64 (kf:Int)) rfl (congrArg (Value.int .i64) hkf) ?_
 refine an rfl (aO (k:=kf) bI bq (.ro hs) (by omega) rfl rfl rfl) rfl rfl ha ?_
 refine aV ha 1 [4,5,19] rfl<|an rfl (a8 (fun w hw=>hfcell _ w hw 3 _ rfl) rfl rfl dE) rfl rfl ha ?_
 refine aV ha 1 [4,20,21] rfl<|an rfl (ai fc ar rfl rfl (by rfl)) rfl rfl ha ?_
 refine dh (t:=22) (v':= .int .i64 (kp:Int)) rfl (congrArg (Value.int .i64) hkp) ?_
 refine an rfl (aO (k:=kp) bz cG (.ro hfc) (by omega) rfl rfl rfl) rfl rfl ha ?_
 refine an rfl (cr (cs:= [_,_]) (SF.op (.ro hfc) (by omega)) rfl rfl gK cG) rfl rfl ha ?_
 refine aB rfl (aH _ fc cG rfl rfl rfl rfl rfl (by rfl) rfl (by rfl)) rfl rfl (.inl rfl) (fun _ _=>?_) ay
 refine cJ<|au<|aA Tryz.results76 (dp (cs:= [_,_]) fc gK cG rfl) ?_
 intro w hw
 exact⟨rfl,hw.below⟩
end
section
theorem xb (c:Int) (w:World):Calls Tryz.prog 86 #[.int .i64 c] w fun e w'=>e= .returned (.int .i64 (dH c))∧Below w.heap.size w w':=by
 refine enter Tryz.func86 rfl Tryz.ntmps86 rfl ?_
 refine ac<|aa<|rn 1 [0] rfl<|ae<|ac<|ac<|aa<|rn 1 [3] rfl<|ae<|aL<|ac<|aa<|rn 2 [3,4] rfl<|ae<|aw rfl (fun h1=>?_) (fun h1=>?_)
 ·have h1:c=14:=h1
  refine ac<|aa<|rn 1 [2] rfl<|ae<|au (aG (ak ?_))
  refine aA ER (aq rfl) ?_
  intro w hw
  exact⟨by rw[h1];rfl,hw.below⟩
 have h1:¬c=14:=h1
 refine ac<|aa<|rn 2 [6] rfl<|ae<|aw rfl (fun h2=>?_) (fun h2=>?_)
 ·have h2:c=12:=h2
  refine ac<|aa<|rn 1 [2] rfl<|ae<|au (aG (ak ?_))
  refine aA ER (aq rfl) ?_
  intro w hw
  exact⟨by rw[h2];rfl,hw.below⟩
 have h2:¬c=12:=h2
 refine ax (aK (ap ?_))
 refine ac<|aa<|rn 1 [2] rfl<|ae<|au<|aA ER (aq rfl) ?_
 intro w hw
 exact⟨by unfold dH;rw[if_neg h1,if_neg h2],hw.below⟩
set_option maxRecDepth 100000 in
theorem Az (Ap:Option Addr) (cp:Nat) (fs:List aC) (a:MA) (m:aD) (w:World) (hs:Sl w (.slice Ap fs.length cp) fs) (hm:gk w.heap.size w a m) (hF:eS fs) (hR:cI fs m) (hne:m.frames≠[]) :
  Calls Tryz.prog 154 #[.agg #[.slice Ap fs.length cp],.agg #[.slice a.Af m.frames.length a.cf,.slice a.Ab m.blocks.length a.cb,.slice a.Ai m.inn.length a.ci,.slice a.Ao m.out.length a.co,.int .i64 m.status,.int .i64 m.trap]] w fun e w'=>e= .returned (.agg #[.int .i64 (be fs m).c,.int .i64 (be fs m).a])∧Below w.heap.size w w':=by
 have b1:=bO hm.f
 obtain⟨li,x,e⟩:∃li x,m.frames=li++ [x]:=by
  rcases List.eq_nil_or_concat m.frames with h1 | ⟨l,z,h1⟩
  ·exact absurd h1 hne
  exact⟨l,z,by rw[h1];simp⟩
 obtain⟨hx,hk,hop⟩:=sT (fs:=fs) e
 obtain⟨k,hkl⟩:∃k,li.length=k:=⟨_,rfl⟩
 rw[hkl] at hx hk
 obtain⟨hfn,hloc,t,he,hts⟩:=hR.top e
 obtain⟨hp0,hp1,_⟩:=(hF.e x.func.toNat (by omega)).at_ _ _ he
 obtain⟨A1,c1,A2,c2,h1,h2,hi,hc⟩:=hm.f.fr (k:=k) (by omega)
 rw[hx] at h1 h2 hi hc
 obtain⟨kf,hkf⟩:∃kf:Nat,x.func=kf:=⟨x.func.toNat,by omega⟩
 obtain⟨kp,hkp⟩:∃kp:Nat,x.pc=kp:=⟨x.pc.toNat,by omega⟩
 rw[hkf,Int.toNat_natCast] at hp1 hop
 rw[hkp,Int.toNat_natCast] at hop
 rw[hkp] at hp1
 have hkfl:kf<fs.length:=by omega
 have hkpl:kp<(av fs kf).code.length:=by omega
 obtain⟨F1,d1,F2,d2,hfl,hfc,hfi,hfcell⟩:=hs.fn hkfl
 have bp:=bO hs
 have bc:=bO hfc
 rw[hop]
 refine enter Tryz.func154 rfl Tryz.ntmps154 rfl ?_
 refine ac<|aa<|ag (bF rfl rfl rfl) rfl rfl (fun g1 _=>?_)
 refine ag (bF rfl rfl rfl) rfl rfl (fun g2 _=>?_)
 refine ag (aZ dP rfl rfl) rfl rfl (fun g3 _=>?_)
 refine ae<|ac<|aa<|rn 1 [2,3,4,6] rfl<|af (ai fc cd rfl rfl (by rfl)) rfl rfl ?_
 refine rn 1 [2,4,7,8] rfl<|af (ai fc cd rfl rfl (by rfl)) rfl rfl ?_
 refine af (aN a6 rfl rfl) rfl rfl<|af (bx rfl rfl rfl (by omega)) rfl rfl<|bA (t:=11) (v':= .int .i64 (k:Int)) rfl (congrArg (Value.int .i64) (by omega)) ?_
 refine af (aO (k:=k) a6 bG (.ro hm.f) (by omega) rfl rfl rfl) rfl rfl<|af (cr (hc _) rfl rfl gJ bG) rfl rfl<|ag (aZ df rfl rfl) rfl rfl (fun g4 _=>?_)
 refine ag (aH _ fc bG rfl rfl rfl rfl rfl (by rfl) rfl (by rfl)) rfl rfl (fun _ _=>?_)
 refine ae<|ac<|bQ (.still 0 (.still 1 (.still 2 (.still 3 (.still 4 (.still 5 (.still 6 (.still 7 (.still 8 (.still 9 (.still 10 (.pick 11 .done .stop)))))))))))) [11] rfl (by kernel_rfl) (by kernel_rfl) ?_
 refine aV ha 1 [4,5,14] rfl<|an rfl (ai fc cQ rfl rfl (by rfl)) rfl rfl ha ?_
 refine aV ha 1 [4,5,15,16] rfl<|an rfl (ai fc ar rfl rfl (by rfl)) rfl rfl ha ?_
 refine dh (t:=17) (v':= .int .i64 (kf:Int)) rfl (congrArg (Value.int .i64) hkf) ?_
 refine an rfl (aO (k:=kf) bI bq (.ro hs) (by omega) rfl rfl rfl) rfl rfl ha ?_
 refine aV ha 1 [4,5,19] rfl<|an rfl (a8 (fun w hw=>hfcell _ w hw 3 _ rfl) rfl rfl dE) rfl rfl ha ?_
 refine aV ha 1 [4,20,21] rfl<|an rfl (ai fc ar rfl rfl (by rfl)) rfl rfl ha ?_
 refine dh (t:=22) (v':= .int .i64 (kp:Int)) rfl (congrArg (Value.int .i64) hkp) ?_
 refine an rfl (aO (k:=kp) bz cG (.ro hfc) (by omega) rfl rfl rfl) rfl rfl ha ?_
 refine an rfl (cr (cs:= [_,_]) (SF.op (.ro hfc) (by omega)) rfl rfl gK cG) rfl rfl ha ?_
 refine aB rfl (aH _ fc cG rfl rfl rfl rfl rfl (by rfl) rfl (by rfl)) rfl rfl (.inl rfl) (fun _ _=>?_) ay
 refine cJ<|au<|aA Tryz.results154 (dp (cs:= [_,_]) fc gK cG rfl) ?_
 intro w hw
 exact⟨rfl,hw.below⟩
def FR (o:cn):Int:=if eE o=0 then dH o.c else 0
def nE (fs:List aC) (m:aD) (k:Int):aD×Int:=if fp m then (m,k) else if k<dH (be fs m).c then (m,k) else (dK fs m,k - dH (be fs m).c)
def mY (fs:List aC) (m:aD) (k:Int):Prop:= ¬fp m∧dH (be fs m).c≤k∧(dK fs m).status=0
instance (fs:List aC) (m:aD) (k:Int):Decidable (mY fs m k):=by unfold mY;infer_instance
theorem pU {fs:List aC} {m:aD} {k:Int} (h:fp m):nE fs m k=(m,k):=if_pos h
theorem tE {fs:List aC} {m:aD} {k:Int} (h:¬fp m) (h2:k<dH (be fs m).c):nE fs m k=(m,k):=(if_neg h).trans (if_pos h2)
theorem pT {fs:List aC} {m:aD} {k:Int} (h:¬fp m) (h2:¬k<dH (be fs m).c):nE fs m k=(dK fs m,k - dH (be fs m).c):=(if_neg h).trans (if_neg h2)
theorem vB (fs:List aC) (m:aD) (k:Int):eo fs m k=if mY fs m k then eo fs (nE fs m k).1 (nE fs m k).2 else nE fs m k:=by
 rw[lG]
 by_cases h1:fp m
 ·rw[if_pos h1,if_neg (show¬mY fs m k from fun h=>h.1 h1),pU h1]
 rw[if_neg h1]
 by_cases h2:k<dH (be fs m).c
 ·rw[if_pos h2,if_neg (show¬mY fs m k from fun h=>by have:=h.2.1;omega),tE h1 h2]
 rw[if_neg h2,pT h1 h2]
 by_cases h3:(dK fs m).status=0
 ·rw[if_pos h3,if_pos (show mY fs m k from⟨h1,by omega,h3⟩)]
 rw[if_neg h3,if_neg (show¬mY fs m k from fun h=>h3 h.2.2)]
section
variable {B:Nat} {w0:World} {H:List bj}
set_option maxRecDepth 100000 in
set_option maxHeartbeats 4000000 in
theorem xY (gd:Nat) (a:MA) (m:aD) (k:Int) (Ap:Option Addr) (cp:Nat) (fs:List aC) (hs:bX w0 B (.slice Ap fs.length cp) fs) (hF:eS fs) (hR:cI fs m) (hk:0≤k∧k≤10000) (p:aD×Int) (hpe:nE fs m k=p) (w:World)
  (hw:Cw B w0 (am gd [.slice a.Af m.frames.length a.cf,.slice a.Ab m.blocks.length a.cb,.slice a.Ai m.inn.length a.ci,.slice a.Ao m.out.length a.co,.int .i64 m.status,.int .i64 m.trap,.int .i64 k] 166::aj (.slice a.Af m.frames.length a.cf) m.frames::aj (.slice a.Ab m.blocks.length a.cb) m.blocks::aj (.slice a.Ai m.inn.length a.ci) m.inn::aj (.slice a.Ao m.out.length a.co) m.out::H) w) :
  Calls Tryz.prog 119 #[.pointer (some ⟨gd,0,none⟩),.agg #[.slice Ap fs.length cp]] w fun e w'=> ∃g:MA,True∧e= .returned (.bool (decide (mY fs m k)))∧
   Cw B w0 (am gd [.slice g.Af p.1.frames.length g.cf,.slice g.Ab p.1.blocks.length g.cb,.slice g.Ai p.1.inn.length g.ci,.slice g.Ao p.1.out.length g.co,.int .i64 p.1.status,.int .i64 p.1.trap,.int .i64 p.2] 166::aj (.slice g.Af p.1.frames.length g.cf) p.1.frames::aj (.slice g.Ab p.1.blocks.length g.cb) p.1.blocks::aj (.slice g.Ai p.1.inn.length g.ci) p.1.inn::aj (.slice g.Ao p.1.out.length g.co) p.1.out::H) w':=by
 have hp:=iz (be fs m).c
 have hst:=hR.st
 have hst2:aX m.status:=⟨by omega,by omega⟩
 have htr2:aX m.trap:=by
  rcases Decidable.em (m.status=3) with h3 | h3
  ·have:=hR.t3 h3;exact⟨by omega,by omega⟩
  have:=hR.t0 h3;exact⟨by omega,by omega⟩
 refine db Tryz.func119 rfl Tryz.ntmps119 rfl hw ?_
 refine ac<|aa<|ag (bF rfl rfl rfl) rfl rfl (fun g1 _=>?_)
 refine rn 1 [0,3] rfl<|ae<|ac<|ac<|aa<|rn 4 [0,3,9] rfl<|af (ai fc cd rfl rfl (by rfl)) rfl rfl ?_
 refine af (aN a6 rfl rfl) rfl rfl<|rn 2 [0,3,13] rfl<|bw (t:=13) rfl (fun q1=>?_) (fun q1=>?_)
 ·have hh:fp m:= .inl (List.eq_nil_of_length_eq_zero (by have:=of_decide_eq_true q1;omega))
  have e:p=(m,k):=by rw[←hpe,pU hh]
  subst e
  refine rn 7 [0,3,20] rfl<|ae<|bR rfl<|ac<|aa<|rn 1 [4] rfl<|ae<|au (ak ?_)
  refine aA uE (aq rfl) ?_
  intro w hw
  exact⟨a,trivial,bt (decide_eq_false (fun h=>h.1 hh)).symm,hw.msub ms⟩
 have hne:m.frames≠[]:=fun e=>by have:=of_decide_eq_false q1;rw[e] at this;simp at this
 refine rn 4 [0,3,13,17] rfl<|af (ai fc ar rfl rfl (by rfl)) rfl rfl ?_
 refine rn 2 [0,3,20] rfl<|ae<|aw rfl (fun q2=>?_) (fun q2=>?_)
 ·have hh:fp m:= .inr q2
  have e:p=(m,k):=by rw[←hpe,pU hh]
  subst e
  refine ac<|aa<|rn 1 [4] rfl<|ae<|au (ak ?_)
  refine aA uE (aq rfl) ?_
  intro w hw
  exact⟨a,trivial,bt (decide_eq_false (fun h=>h.1 hh)).symm,hw.msub ms⟩
 have q2:¬m.status=3:=q2
 have hh:¬fp m:=fun h=>h.elim hne q2
 have hst3:¬(m.status=2∨m.status=3):=(not_congr (pY hR)).1 hh
 obtain⟨c,hc⟩:∃c,dH (be fs m).c=c:=⟨_,rfl⟩
 refine ax (ap ?_)
 refine ac<|bQ (.still 0 (.still 1 (.still 2 (.still 3 (.still 4 (.pick 5 (.still 6 (.pick 7 (.still 8 .done) .stop)) .stop)))))) [] rfl (by kernel_rfl) (by kernel_rfl) ?_
 refine an rfl (aQ (vs:= [_]) fc cE cg rfl rfl (by rfl) rfl) rfl rfl ha ?_
 refine aV ha 3 [0,3,21,24] rfl<|an rfl (aQ (vs:= [_,_,_,_,_,_]) fc bd aF rfl rfl (by rfl) rfl) rfl rfl ha ?_
 refine aB rfl (bK rfl rfl rfl Tryz.call154 (fun w hw=>Az Ap cp fs a m w (hw.ro hs) (o8 hw fc fc fc fc rfl rfl rfl rfl hst2 htr2) hF hR hne)) rfl rfl (.inr fun _=>ha) (fun _ _=>?_) ay
 refine an rfl (gH (yu _ _) rfl rfl) rfl rfl ha ?_
 refine aB rfl (bK rfl rfl rfl Tryz.call86 (fun w hw=>xb _ w)) rfl rfl (.inr fun _=>ha) (fun _ _=>?_) ay
 refine aV ha 1 [0,3,5] rfl<|cJ<|ac<|ac<|aa<|rn 4 [0,3,5,29,32] rfl<|af (ai fc ar rfl rfl (by rfl)) rfl rfl ?_
 refine rn 1 [0,3,5,34] rfl<|ae ?_
 rw[hc] at hp
 rw[hc]
 have hc3:=v9 (be fs m).c
 refine aw rfl (fun q3=>?_) (fun q3=>?_)
 ·have q3:k<c:=q3
  have e:p=(m,k):=by rw[←hpe,tE hh (by rw[hc];exact q3)]
  subst e
  refine ac<|aa<|rn 1 [4] rfl<|ae<|au (ak ?_)
  refine aA uE (aq rfl) ?_
  intro w hw
  exact⟨a,trivial,bt (decide_eq_false (fun h=>by have:=h.2.1;omega)).symm,hw.msub ms⟩
 have q3:¬k<c:=q3
 obtain⟨m2,hm2⟩:∃m2,dK fs m=m2:=⟨_,rfl⟩
 have e:p=(m2,k - c):=by rw[←hpe,pT hh (by rw[hc];exact q3),hm2,hc]
 subst e
 have hon:mY fs m k↔m2.status=0:=by
  unfold mY
  rw[hm2,hc]
  exact⟨fun h=>h.2.2,fun h=>⟨hh,by omega,h⟩⟩
 refine ax (ap ?_)
 refine ac<|aa<|rn 3 [0,3,5,35,37] rfl<|af (ai fc ar rfl rfl (by rfl)) rfl rfl ?_
 refine rn 1 [0,3,35,38,39] rfl<|af (bx rfl rfl rfl (by omega)) rfl rfl<|rn 2 [0,3,40,42] rfl<|ag (aH _ fc aI rfl rfl rfl rfl rfl (by rfl) rfl (by rfl)) rfl rfl (fun _ _=>?_)
 refine ae<|ac<|bQ (.still 0 (.still 1 (.still 2 (.still 3 (.still 4 (.still 5 (.pick 6 (.still 7 (.still 8 (.pick 9 .done .stop))) .stop))))))) [9] rfl (by kernel_rfl) (by kernel_rfl) ?_
 refine aV ha 1 [0,3,43] rfl<|an rfl (aQ (vs:= [_]) fc cE cg rfl rfl (by rfl) rfl) rfl rfl ha ?_
 refine aV ha 3 [0,43,44,47] rfl<|an rfl (aQ (vs:= [_,_,_,_,_,_]) fc bd aF rfl rfl (by rfl) rfl) rfl rfl ha ?_
 refine aB rfl (cO rfl rfl rfl Tryz.call73 (fun w hw=>B6 Ap cp fs a m m2 hm2 w (hw.ro hs) (o8 hw fc fc fc fc rfl rfl rfl rfl hst2 htr2) (kK hF hR) (fun hst=>rN hs hF hR hst))) rfl rfl (.inr fun _=>ha) (fun g5 _=>?_) ay
 refine aV ha 2 [0,49,51] rfl<|aB rfl (aH _ fc aF rfl rfl rfl rfl rfl (by rfl) rfl (by rfl)) rfl rfl (.inl rfl) (fun _ _=>?_) ay
 refine cJ<|ac<|aa<|rn 4 [55] rfl<|af (ai fc ar rfl rfl (by rfl)) rfl rfl ?_
 refine rn 2 [4] rfl<|ae<|au<|aA uE (aq rfl) ?_
 intro w hw
 exact⟨g5,trivial,bt (decide_eq_decide.2 hon).symm,hw.msub ms⟩
end
end
section
theorem yq {fs:List aC} (_:eS fs) {m:aD} (_:cI fs m) {k:Int} (hon:mY fs m k):nE fs m k=(dK fs m,k - dH (be fs m).c):=by
 exact pT hon.1 (by have:=hon.2.1;omega)
set_option maxRecDepth 100000 in
set_option maxHeartbeats 4000000 in
theorem AB (Ap:Option Addr) (cp:Nat) (fs:List aC) (a:MA) (m:aD) (k:Int) (r:aD×Int) (hr:eo fs m k=r) (w:World) (hs:Sl w (.slice Ap fs.length cp) fs) (hm:gk w.heap.size w a m) (hF:eS fs) (hR:cI fs m) (hk:0≤k∧k≤10000) :
  Calls Tryz.prog 84 #[.agg #[.slice Ap fs.length cp],.agg #[.slice a.Af m.frames.length a.cf,.slice a.Ab m.blocks.length a.cb,.slice a.Ai m.inn.length a.ci,.slice a.Ao m.out.length a.co,.int .i64 m.status,.int .i64 m.trap],.int .i64 k] w fun e w'=> ∃g:MA,True∧
   e= .returned (.tuple #[.agg #[.slice g.Af r.1.frames.length g.cf,.slice g.Ab r.1.blocks.length g.cb,.slice g.Ai r.1.inn.length g.ci,.slice g.Ao r.1.out.length g.co,.int .i64 r.1.status,.int .i64 r.1.trap],.int .i64 r.2])∧Cw w.heap.size w [aj (.slice g.Af r.1.frames.length g.cf) r.1.frames,aj (.slice g.Ab r.1.blocks.length g.cb) r.1.blocks,aj (.slice g.Ai r.1.inn.length g.ci) r.1.inn,aj (.slice g.Ao r.1.out.length g.co) r.1.out] w':=by
 refine enter Tryz.func84 rfl Tryz.ntmps84 rfl ?_
 refine ac<|aa<|ag (bF rfl rfl rfl) rfl rfl (fun g1 _=>?_)
 refine ag (bF rfl rfl rfl) rfl rfl (fun g2 _=>?_)
 refine ag (aZ bW rfl rfl) rfl rfl (fun g3 _=>?_)
 refine rn 1 [2,3,4,6] rfl<|ae<|ac<|aa<|af (aQ (vs:= [_,_,_,_,_,_]) fc bd aF rfl rfl (by rfl) rfl) rfl rfl ?_
 refine ag (cO rfl rfl rfl qb (fun w hw=>kC a m w (gk.ro hw hm) (kK hF hR))) rfl rfl (fun g0 _=>?_)
 refine rn 1 [3,6,10,11] rfl<|af (cT (cs:= [_,_,_,_,_,_,_]) Df Tryz.zeroValue166 rfl rfl (by rfl)) rfl rfl ?_
 refine ag (bF rfl rfl rfl) rfl rfl (fun g4 _=>?_)
 refine rn 1 [3,6,8] rfl<|ae<|ac<|aL (b8 (fun g:(aD×Int)×MA=>(cI fs g.1.1∧0≤g.1.2∧g.1.2≤10000)∧eo fs g.1.1 g.1.2=r) (fun g=>g.1.2.toNat) (fun _=> [(3,.pointer (some ⟨g1,0,none⟩)),(6,.pointer (some ⟨g3,0,none⟩)),(8,.pointer (some ⟨g4,0,none⟩))]) (fun g=> [am g4 [.slice g.2.Af g.1.1.frames.length g.2.cf,.slice g.2.Ab g.1.1.blocks.length g.2.cb,.slice g.2.Ai g.1.1.inn.length g.2.ci,.slice g.2.Ao g.1.1.out.length g.2.co,.int .i64 g.1.1.status,.int .i64 g.1.1.trap,.int .i64 g.1.2] 166,aj (.slice g.2.Af g.1.1.frames.length g.2.cf) g.1.1.frames,aj (.slice g.2.Ab g.1.1.blocks.length g.2.cb) g.1.1.blocks,aj (.slice g.2.Ai g.1.1.inn.length g.2.ci) g.1.1.inn,aj (.slice g.2.Ao g.1.1.out.length g.2.co) g.1.1.out,am g1 [.slice Ap fs.length cp] 24,am g3 [.slice none 0 0,.slice none 0 0,.slice none 0 0,.slice none 0 0,.int .i64 0,.int .i64 0] 29]) ((m,k),g0) (⟨⟨hR,hk⟩,hr⟩) ⟨rfl,rfl,rfl,trivial⟩ me ?_)
 rintro⟨⟨q,z⟩,g⟩ hq
 try dsimp only
 obtain⟨⟨hRq,hz⟩,hrq⟩:(cI fs q∧0≤z∧z≤10000)∧eo fs q z=r:=hq
 obtain⟨p,hpe⟩:∃p,nE fs q z=p:=⟨_,rfl⟩
 refine ac<|ac<|aa<|rn 1 [3,6,8,14] rfl<|af (aQ (vs:= [_]) fc cE cg rfl rfl (by rfl) rfl) rfl rfl ?_
 refine ag (bC rfl rfl rfl Tryz.call119 (fun w hw=>xY g4 g q z Ap cp fs hs hF hRq hz p hpe w (hw.msub (.s fc (.s fc (.s fc (.s fc (.s fc .r)))))))) rfl rfl (fun g5 _=>?_)
 refine ae<|aw rfl (fun hon=>?_) (fun hon=>?_)
 ·have hon:mY fs q z:=hon
  have e1:=(yq hF hRq hon).symm.trans hpe
  have hp:=iz (be fs q).c
  have h2:=hon.2.1
  refine ax (ap ?_)
  refine aL<|ax (aK ?_)
  refine iQ (p,g5) (by rw[←e1];exact⟨⟨ln hF hRq,by show 0≤z - _;omega,by show z - _≤_;omega⟩,by show eo fs (dK fs q) _=r;rw[←hrq,vB fs q z,if_pos hon,hpe,←e1]⟩) (by rw[←e1];show (z - _).toNat<z.toNat;omega) ⟨rfl,rfl,rfl,trivial⟩ me
 have hon:¬mY fs q z:=hon
 have e1:p=r:=by rw[←hrq,vB fs q z,if_neg hon,hpe]
 subst e1
 refine bN (aM (aM (cc (ap ?_))))
 refine ac<|e8 (.still 0 (.still 1 (.still 2 (.still 3 (.still 4 (.still 5 (.still 6 (.still 7 (.pick 8 (.still 9 .done) .stop))))))))) [] rfl (by kernel_rfl) (by kernel_rfl) [am g4 [.slice g5.Af p.1.frames.length g5.cf,.slice g5.Ab p.1.blocks.length g5.cb,.slice g5.Ai p.1.inn.length g5.ci,.slice g5.Ao p.1.out.length g5.co,.int .i64 p.1.status,.int .i64 p.1.trap,.int .i64 p.2] 166] ?_
 refine aV ha 3 [6,8,19] rfl<|an rfl (aQ (vs:= [_,_,_,_,_,_]) fc bd aF rfl rfl (by rfl) rfl) rfl rfl ha ?_
 refine aV ha 3 [6,20,23] rfl<|an rfl (ai fc ar rfl rfl (by rfl)) rfl rfl ha ?_
 refine aB rfl (aH _ fc aF rfl rfl rfl rfl rfl (by rfl) rfl (by rfl)) rfl rfl (.inr fun _=>ha) (fun _ _=>?_) ay
 refine aV ha 1 [6,7] rfl<|cJ<|au<|bD Tryz.results84 (dp (cs:= [_,_,_,_,_,_]) fc bd aF rfl) (aq rfl) ?_
 intro w hw
 exact⟨g5,trivial,rfl,hw.msub ms⟩
def EZ (fs:List aC) (m:aD) (k:Int):Int:=if o9 fs m≠0 then o9 fs m else if k<0∨10000<k then 3 else 0
def F0 (fs:List aC) (m:aD) (k:Int):aD×Int:=if EZ fs m k=0 then eo fs m k else (default,0)
end
section
theorem kV {fs:List aC} {m:aD} (h:cI fs m):aX m.status∧aX m.trap:=by
 have hs:=h.st
 refine⟨⟨by omega,by omega⟩,?_⟩
 rcases Decidable.em (m.status=3) with h3 | h3
 ·have:=h.t3 h3;exact⟨by omega,by omega⟩
 have:=h.t0 h3;exact⟨by omega,by omega⟩
end
section
def kc (l:List aD):Prop:=l.length*112≤140737488355328∧∀m∈l,l6 m.frames
def cz (fs:List aC) (l:List aD):Int:=
 if dU fs≠0 then dU fs else if l.length=0 then 5 else if 4<l.length then 2 else dw (ed fs) l
structure mz (fs:List aC) (l:List aD):Prop where
 p:dU fs=0
 f:eS fs
 r:∀m∈l,cI fs m
 n0:1≤l.length
 n4:l.length≤4
theorem km {fs:List aC} {l:List aD} (h:cz fs l=0):mz fs l:=by
 unfold cz at h
 split at h
 ·exact absurd h (by assumption)
 rename_i h1
 have hp:dU fs=0:=Classical.byContradiction h1
 split at h
 ·cases h
 split at h
 ·cases h
 exact⟨hp,rA hp,fun m hm=>x9.1 (j4 h m hm),by omega,by omega⟩
theorem mz.i64 {fs:List aC} {l:List aD} (h:mz fs l) {k:Nat} (hk:k<l.length):aX (aJ l k).status∧aX (aJ l k).trap:=kV (h.r _ (fG hk))
theorem oY {l:List aD} {k:Nat} (hk:k<l.length):l.take (k+1)=l.take k++ [aJ l k]:=e9 l k default hk
set_option maxRecDepth 100000 in
set_option maxHeartbeats 2000000 in
theorem jQ (Ap Aw:Option Addr) (cp cw:Nat) (fs:List aC) (l:List aD) (w:World) (hs:Sl w (.slice Ap fs.length cp) fs) (hl:Sl w (.slice Aw l.length cw) l) (hfit:kc l) :
  Calls Tryz.prog 49 #[.agg #[.slice Ap fs.length cp],.agg #[.slice Aw l.length cw]] w fun e w'=>e= .returned (.int .i64 (cz fs l))∧Below w.heap.size w w':=by
 have bl:=bO hl
 refine enter Tryz.func49 rfl Tryz.ntmps49 rfl ?_
 refine ac<|aa<|ag (bF rfl rfl rfl) rfl rfl (fun g1 _=>?_)
 refine ag (bF rfl rfl rfl) rfl rfl (fun g2 _=>?_)
 refine rn 1 [2,3] rfl<|ae<|ac<|ac<|aa<|af (aQ (vs:= [_]) fc cE cg rfl rfl (by rfl) rfl) rfl rfl ?_
 refine ag (bK rfl rfl rfl Tryz.call55 (fun w hw=>rL Ap cp fs w (hw.ro hs))) rfl rfl (fun _ _=>?_)
 refine rn 1 [2,3,5] rfl<|ae<|ac<|aa<|rn 2 [2,3,5,13] rfl<|ae<|b9 rfl (fun hp=>?_) (fun hp=>?_)
 ·have hp:¬dU fs=0:=hp
  refine ac<|aa<|rn 2 [4] rfl<|ae<|au (ak ?_)
  refine aA qc (aq rfl) ?_
  intro w hw
  exact⟨dV (by unfold cz;rw[if_pos hp]),hw.below⟩
 have hp:dU fs=0:=hp
 have hF:=rA hp
 refine ax (ap ?_)
 refine ac<|ac<|aa<|rn 1 [2,3,15] rfl<|af (ai fc cM rfl rfl (by rfl)) rfl rfl ?_
 refine af (aN bn rfl rfl) rfl rfl<|rn 1 [2,3,6] rfl<|ae<|aL<|ac<|aa<|rn 3 [2,3,6,18] rfl<|ae<|aw rfl (fun h0=>?_) (fun h0=>?_)
 ·have h0:l.length=0:=by have h0:(l.length:Int)=0:=h0;omega
  refine ac<|aa<|rn 1 [4] rfl<|ae<|au (aG (ak ?_))
  refine aA qc (aq rfl) ?_
  intro w hw
  exact⟨dV (by unfold cz;rw[if_neg (fun h=>h hp),if_pos h0]),hw.below⟩
 have h0:¬l.length=0:=by have h0:¬(l.length:Int)=0:=h0;omega
 refine ac<|aa<|rn 3 [2,3,21] rfl<|ae<|aw rfl (fun h4=>?_) (fun h4=>?_)
 ·have h4:4<l.length:=by have h4:(4:Int)<l.length:=h4;omega
  refine ac<|aa<|rn 1 [4] rfl<|ae<|au (aG (ak ?_))
  refine aA qc (aq rfl) ?_
  intro w hw
  exact⟨dV (by unfold cz;rw[if_neg (fun h=>h hp),if_neg h0,if_pos h4]),hw.below⟩
 have h4:¬4<l.length:=by have h4:¬(4:Int)<l.length:=h4;omega
 have hE:cz fs l=dw (ed fs) l:=by unfold cz;rw[if_neg (fun h=>h hp),if_neg h0,if_neg h4]
 refine ax (aK (ap ?_))
 refine ac<|ac<|aa<|rn 1 [2,24] rfl<|af (ai fc cM rfl rfl (by rfl)) rfl rfl ?_
 refine af (aN bn rfl rfl) rfl rfl<|rn 1 [2,25,26,27] rfl<|ae<|aL (b8 (fun k:Nat=>k≤l.length∧dw (ed fs) (l.take k)=0) (fun k=>l.length - k) (fun k=> [(2,.pointer (some ⟨g1,0,none⟩)),(25,.slice Aw l.length cw),(26,.int .i64 (l.length:Int)),(27,.int .i64 (k:Int))]) (fun _=> [am g1 [.slice Ap fs.length cp] 24]) 0 (⟨Nat.zero_le _,rfl⟩) ⟨rfl,rfl,rfl,rfl,trivial⟩ me ?_)
 rintro k hk'
 obtain⟨hk,hz⟩:k≤l.length∧dw (ed fs) (l.take k)=0:=hk'
 refine ac<|aa<|rn 1 [2,25,26,27,28] rfl<|ae<|ac<|aw rfl (fun hlt=>?_) (fun hlt=>?_)
 ·have hkl:k<l.length:=by omega
  obtain⟨a,hm,hcell⟩:=hl.mc hkl
  have hq:=fM (g:=ed fs) default hkl hz
  refine ax (ap ?_)
  refine ac<|aL<|ac<|aa<|af (aO (k:=k) bn aF (.ro hl) (by omega) rfl rfl rfl) rfl rfl<|af (cr (hcell _) rfl rfl bd aF) rfl rfl<|ag (aZ bW rfl rfl) rfl rfl (fun g3 _=>?_)
  refine ag (aH _ fc aF rfl rfl rfl rfl rfl (by rfl) rfl (by rfl)) rfl rfl (fun _ _=>?_)
  refine ae<|ac<|aa<|af (aQ (vs:= [_]) fc cE cg rfl rfl (by rfl) rfl) rfl rfl ?_
  refine af (aQ (vs:= [_,_,_,_,_,_]) fc bd aF rfl rfl (by rfl) rfl) rfl rfl ?_
  refine ag (bK rfl rfl rfl Tryz.call57 (fun w hw=>wN Ap cp fs a (aJ l k) w (hw.ro hs) (hm.ro hw) hF (hfit.2 _ (fG hkl)))) rfl rfl (fun _ _=>?_)
  refine rn 1 [2,9,25,26,27] rfl<|ae<|ac<|aa<|rn 2 [2,9,25,26,27,35] rfl<|ae<|b9 rfl (fun he=>?_) (fun he=>?_)
  ·have he:¬ed fs (aJ l k)=0:=he
   have hq:dw (ed fs) (l.take (k+1))=ed fs (aJ l k):=hq
   refine ac<|aa<|rn 2 [4] rfl<|ae<|au (aG (ak (ak (aG (ak ?_)))))
   refine aA qc (aq rfl) ?_
   intro w hw
   exact⟨dV (by rw[hE,iX (k:=k+1) (by rw[hq];exact he),hq]),hw.below⟩
  have he:ed fs (aJ l k)=0:=he
  have hq:dw (ed fs) (l.take (k+1))=ed fs (aJ l k):=hq
  refine ax (aK (ap ?_))
  refine aa<|af (bH rfl rfl rfl (by omega)) rfl rfl<|rn 1 [2,25,26,27] rfl<|br (k+1) (⟨by show k+1≤_;omega,hq.trans he⟩) (by show _ - _<_ - _;omega) ⟨rfl,rfl,rfl,rfl,trivial⟩ me
 obtain rfl:k=l.length:=by omega
 rw[List.take_length] at hz
 refine bN (aM (aM (cc (ap ?_))))
 refine ac<|aa<|rn 1 [4] rfl<|ae<|au<|aA qc (aq rfl) ?_
 intro w hw
 exact⟨dV (by rw[hE,hz]),hw.below⟩
set_option maxRecDepth 100000 in
set_option maxHeartbeats 2000000 in
theorem sP (Aw:Option Addr) (cw:Nat) (fs:List aC) (l:List aD) (w:World) (hl:Sl w (.slice Aw l.length cw) l) (hW:mz fs l) :
  Calls Tryz.prog 91 #[.agg #[.slice Aw l.length cw]] w fun e w'=> ∃g:Nat×Option Addr×Nat,True∧e= .returned (.pointer (some ⟨g.1,0,none⟩))∧Cw w.heap.size w [am g.1 [.slice g.2.1 l.length g.2.2] 124,aj (.slice g.2.1 l.length g.2.2) l] w':=by
 have bl:=bO hl
 have h4:=hW.n4
 refine enter Tryz.func91 rfl Tryz.ntmps91 rfl ?_
 refine ac<|aa<|ag (bF rfl rfl rfl) rfl rfl (fun g1 _=>?_)
 refine rn 1 [1] rfl<|ae<|ac<|aa<|af (cT (cs:= [_]) yl Gk rfl rfl (by rfl)) rfl rfl ?_
 refine ag (bF rfl rfl rfl) rfl rfl (fun g2 _=>?_)
 refine rn 1 [1,3] rfl<|ae<|ac<|ac<|aa<|rn 1 [3,8] rfl<|af (ai fc cM rfl rfl (by rfl)) rfl rfl ?_
 refine af (aN bn rfl rfl) rfl rfl<|rn 1 [3,9,10,11] rfl<|ae<|dO (fun w h=>Cw.nilO aD h) ?_
 refine aL (b8 (fun g:Nat×Option Addr×Nat=>g.1≤l.length) (fun g=>l.length - g.1) (fun g=> [(3,.pointer (some ⟨g2,0,none⟩)),(9,.slice Aw l.length cw),(10,.int .i64 (l.length:Int)),(11,.int .i64 (g.1:Int))]) (fun g=> [am g2 [.slice g.2.1 (l.take g.1).length g.2.2] 124,aj (.slice g.2.1 (l.take g.1).length g.2.2) (l.take g.1)]) (0,none,0) (Nat.zero_le _) ⟨rfl,rfl,rfl,rfl,trivial⟩ me ?_)
 rintro⟨k,A',c'⟩ hk
 try dsimp only
 have hk:k≤l.length:=hk
 have htl:(l.take k).length=k:=by rw[List.length_take];omega
 refine ac<|aa<|rn 1 [3,9,10,11,12] rfl<|ae<|ac<|aw rfl (fun hlt=>?_) (fun hlt=>?_)
 ·have hkl:k<l.length:=by omega
  obtain⟨a,hm,hcell⟩:=hl.mc hkl
  have hI:=hW.i64 hkl
  have htk:=oY hkl
  refine ax (ap ?_)
  refine ac<|aL<|ac<|aa<|af (aO (k:=k) bn aF (.ro hl) (by omega) rfl rfl rfl) rfl rfl<|af (cr (hcell _) rfl rfl bd aF) rfl rfl<|ag (aZ bW rfl rfl) rfl rfl (fun g3 _=>?_)
  refine ag (aH _ fc aF rfl rfl rfl rfl rfl (by rfl) rfl (by rfl)) rfl rfl (fun _ _=>?_)
  refine ae<|e8 (.still 0 (.still 1 (.still 2 (.still 3 (.still 4 (.still 5 (.still 6 (.pick 7 (.pick 8 (.pick 9 (.still 10 (.still 11 (.still 12 (.pick 13 .done .stop)))) .stop) .stop) .stop)))))))) [13] rfl (by kernel_rfl) (by kernel_rfl) [am g2 [.slice A' (l.take k).length c'] 124,am g3 [.slice a.Af (aJ l k).frames.length a.cf,.slice a.Ab (aJ l k).blocks.length a.cb,.slice a.Ai (aJ l k).inn.length a.ci,.slice a.Ao (aJ l k).out.length a.co,.int .i64 (aJ l k).status,.int .i64 (aJ l k).trap] 29] ?_
  refine aV ha 5 [3,5,9,10,11,15,19] rfl<|an rfl (ai fc cM rfl rfl (by rfl)) rfl rfl ha ?_
  refine an rfl (aQ (vs:= [_,_,_,_,_,_]) fc bd aF rfl rfl (by rfl) rfl) rfl rfl ha ?_
  refine aB rfl (cO rfl rfl rfl qb (fun w hw=>kC a (aJ l k) w (hm.ro hw) (kK hW.f (hW.r _ (fG hkl))))) rfl rfl (.inr fun _=>ha) (fun ga _=>?_) ay
  refine aB rfl (bh (cs:= [_,_,_,_,_,_]) bn aF bW rfl rfl rfl rfl rfl) rfl rfl (.inr fun _=>ha) (fun g4 _=>?_) ay
  refine aB rfl (dm (α:=aD) (bytes:=112) (aJ l k) [aj (.slice ga.Af (aJ l k).frames.length ga.cf) (aJ l k).frames,aj (.slice ga.Ab (aJ l k).blocks.length ga.cb) (aJ l k).blocks,aj (.slice ga.Ai (aJ l k).inn.length ga.ci) (aJ l k).inn,aj (.slice ga.Ao (aJ l k).out.length ga.co) (aJ l k).out] htk bn (bM kR) rfl (sK fc fc fc fc fc fc) (m8 hI) (by omega) (by omega) rfl rfl rfl) rfl rfl (.inr fun _=>ha) (fun⟨A5,c5⟩ _=>?_) ay
  try dsimp only
  refine aV ha 3 [3,9,10,11,24,27] rfl<|aB rfl (aH _ fc zz rfl rfl rfl rfl rfl (by rfl) rfl (by rfl)) rfl rfl (.inl rfl) (fun _ _=>?_) ay
  refine ck (aK (ap ?_))
  refine aa<|af (bH rfl rfl rfl (by omega)) rfl rfl<|rn 1 [3,9,10,11] rfl<|br (k+1,A5,c5) (by show k+1≤_;omega) (by show _ - _<_ - _;omega) ⟨rfl,rfl,rfl,rfl,trivial⟩ me
 obtain rfl:k=l.length:=by omega
 rw[List.take_length]
 refine bN (aM (aM (cc (ap ?_))))
 refine ac<|aa<|rn 2 [2] rfl<|ae<|au<|aA Tryz.results91 (aq rfl) ?_
 intro w hw
 exact⟨(g2,A',c'),trivial,rfl,hw.msub ms⟩
end
section
theorem CQ {r:Bool} {n t:Int} (h:1≤t∧t≤3):eP ⟨r,n⟩ t=if t=1 then !r else (r && (decide (t=2) || decide (n=0))):=by
 unfold eP
 rcases(show t=1∨t=2∨t=3 by omega) with rfl | rfl | rfl <;> cases r <;> simp
set_option maxRecDepth 100000 in
theorem rS (v:aS) (t:Int) (ht:1≤t∧t≤3) (w:World):Calls Tryz.prog 112 #[.agg #[.bool v.ref,.int .i64 v.n],.int .i64 t] w fun e w'=>e= .returned (.bool (eP v t))∧Below w.heap.size w w':=by
 obtain⟨r,n⟩:=v
 have h2:=CQ (r:=r) (n:=n) ht
 refine enter Tryz.func112 rfl Tryz.ntmps112 rfl ?_
 refine ac<|aa<|ag (bF rfl rfl rfl) rfl rfl (fun g1 _=>?_)
 refine rn 1 [1,2] rfl<|ae<|ac<|ac<|aa<|rn 2 [1,2,6] rfl<|ae<|aw rfl (fun h1=>?_) (fun h1=>?_)
 ·have h1:t=1:=h1
  rw[if_pos h1] at h2
  refine ac<|aa<|rn 1 [7] rfl<|af (ai fc fF rfl rfl (by rfl)) rfl rfl ?_
  refine rn 2 [4] rfl<|ae<|au (ak ?_)
  refine aA uG (aq rfl) ?_
  intro w hw
  exact⟨bt h2.symm,hw.below⟩
 have h1:¬t=1:=h1
 rw[if_neg h1] at h2
 refine ax (ap ?_)
 refine ac<|aa<|rn 1 [1,2,10] rfl<|af (ai fc fF rfl rfl (by rfl)) rfl rfl ?_
 refine rn 1 [1,2,12] rfl ?_
 cases r with
 | false=>
  refine bA (t:=12) (v':= .bool false) rfl (rfl) ?_
  refine rn 9 [4] rfl<|ae<|au<|aA uG (aq rfl) ?_
  intro w hw
  exact⟨bt (by rw[h2];rfl),hw.below⟩
 | true=>
  refine bA (t:=12) (v':= .bool true) rfl (rfl) ?_
  refine rn 3 [2,12,15] rfl<|bw (t:=15) rfl (fun q=>?_) (fun q=>?_)
  ·have q:t=2:=of_decide_eq_true q
   refine rn 6 [4] rfl<|ae<|au<|aA uG (aq rfl) ?_
   intro w hw
   exact⟨bt (by rw[h2];simp[q]),hw.below⟩
  have q:¬t=2:=of_decide_eq_false q
  refine rn 1 [12,15,16] rfl<|af (ai fc ar rfl rfl (by rfl)) rfl rfl ?_
  refine rn 4 [4] rfl<|ae<|au<|aA uG (aq rfl) ?_
  intro w hw
  exact⟨bt (by rw[h2];simp[q]),hw.below⟩
set_option maxRecDepth 100000 in
set_option maxHeartbeats 1000000 in
theorem wC (Ap:Option Addr) (cp:Nat) (fs:List aC) (k:Nat) (pc:Int) (q:Option (List Int)) (hq:eu fs (av fs k) pc=q) (w:World) (hs:Sl w (.slice Ap fs.length cp) fs) (hk:k<fs.length) (hok:jp fs (av fs k)) (hty:l4 fs (av fs k)) (hn0:0<(av fs k).code.length) :
  Calls Tryz.prog 113 #[.agg #[.slice Ap fs.length cp],.int .i64 (k:Int),.int .i64 pc] w fun e w'=> ∃g:Option Addr×Nat,True∧e= .returned (.tuple #[.slice g.1 (q.getD []).length g.2,.bool q.isSome])∧
   Cw w.heap.size w [gM (.slice g.1 (q.getD []).length g.2) (q.getD [])] w':=by
 refine enter Tryz.func113 rfl Tryz.ntmps113 rfl ?_
 refine ac<|aa<|ag (bF rfl rfl rfl) rfl rfl (fun g1 _=>?_)
 refine rn 2 [1,2,3] rfl<|ae<|ac<|aa<|af (aQ (vs:= [_]) fc cE cg rfl rfl (by rfl) rfl) rfl rfl ?_
 refine rn 1 [2,12,13] rfl<|ag (cO rfl rfl rfl Tryz.call59 (fun w hw=>ou Ap cp fs k w (hw.ro hs) hk hok hty hn0)) rfl rfl (fun⟨⟨A1,c1⟩,es,L⟩ hre=>?_)
 try dsimp only
 refine rn 5 [2,8] rfl<|ae<|ac<|ac<|aa<|rn 1 [2,8,10] rfl<|ae ?_
 have hre:j9 es L (cD fs (av fs k)).1:=hre
 have hl:=hre.len
 refine dD (p:=es.length≤140737488355328) (fun w hw=>bO (SF.at_ (SF.own (α:=fU) (xs:=es) rfl fc) hw)) fun b1=>?_
 refine aL (b8 (fun i:Nat=>i≤es.length∧∀j,j<i→(hent es j).pc≠pc) (fun i=>es.length - i) (fun i=> [(2,.int .i64 pc),(8,.slice A1 es.length c1),(10,.int .i64 (i:Int))]) (fun _=> [aj (.slice A1 es.length c1) es,eV L]) 0 (⟨Nat.zero_le _,fun _ h=>absurd h (Nat.not_lt_zero _)⟩) ⟨rfl,rfl,rfl,trivial⟩ me ?_)
 rintro i hi'
 obtain⟨hi,hno⟩:i≤es.length∧∀j,j<i→(hent es j).pc≠pc:=hi'
 refine ac<|ac<|aa<|rn 2 [2,8,10,17,18] rfl<|af (aN fH rfl rfl) rfl rfl<|rn 1 [2,8,10,20] rfl<|ae<|aw rfl (fun hlt'=>?_) (fun hlt'=>?_)
 ·have hlt:i<es.length:=by omega
  have hlt2:i<(cD fs (av fs k)).1.length:=by omega
  obtain⟨e1,e2⟩:=hre.el i hlt hlt2
  refine ax (ap ?_)
  refine ac<|aL<|ac<|aa<|rn 2 [2,8,10,23,24] rfl<|af (aO (k:=i) fH lc (SF.own (xs:=es) rfl fc) (by omega) rfl rfl rfl) rfl rfl ?_
  refine rn 1 [2,8,10,26] rfl<|af (a8 (fun w hw=>SF.hent (SF.own (xs:=es) rfl fc) hlt w hw 0 _ rfl) rfl rfl ar) rfl rfl ?_
  refine rn 2 [2,8,10,29] rfl<|ae<|aw rfl (fun hp=>?_) (fun hp=>?_)
  ·have hp:(hent es i).pc=pc:=hp
   have hq2:q=some (cD fs (av fs k)).1[i].stack:=by
    rw[←hq]
    unfold eu
    rw[vW hlt2 (by rw[←e1,←jN hlt];exact hp) (fun j hj h=>by
     have hj':j<es.length:=by omega
     have:=hno j hj
     rw[jN hj',(hre.el j hj' h).1] at this
     exact this)]
    rfl
   subst hq2
   rw[←jN hlt] at e2
   refine ac<|aa<|rn 2 [30,31] rfl<|af (aO (k:=i) fH lc (SF.own (xs:=es) rfl fc) (by omega) rfl rfl rfl) rfl rfl ?_
   refine rn 1 [33] rfl<|af (a8 (fun w hw=>SF.hent (SF.own (xs:=es) rfl fc) hlt w hw 1 _ rfl) rfl rfl a5) rfl rfl ?_
   refine rn 2 [6,7] rfl<|ae<|au (aG (ak (ak (aG (ak ?_)))))
   refine bD Tryz.results113 (aq rfl) (aq rfl) ?_
   intro w hw
   obtain⟨A5,c5,e5⟩:=e2.form hw fc
   rw[e5] at e2⊢
   exact⟨(A5,c5),trivial,rfl,(pQ e2 (hw.msub (T:=eV L:: []) ms)).msub ms⟩
  have hp:¬(hent es i).pc=pc:=hp
  refine ax (aK (ap ?_))
  refine aa<|rn 1 [2,8,21] rfl<|af (bH rfl rfl rfl (by omega)) rfl rfl<|rn 1 [2,8,10] rfl<|br (i+1) (⟨by show i+1≤_;omega,fun j hj=>(Nat.lt_or_ge j i).elim (hno j) (fun h=>by obtain rfl:j=i:=(by omega);exact hp)⟩) (by show _ - _<_ - _;omega) ⟨rfl,rfl,rfl,trivial⟩ me
 obtain rfl:i=es.length:=by omega
 have hq2:q=none:=by
  rw[←hq]
  unfold eu
  rw[vV (fun j hj=>by
   have hj':j<es.length:=by omega
   have:=hno j hj'
   rw[jN hj',(hre.el j hj' hj).1] at this
   exact this)]
  rfl
 subst hq2
 refine bN (aM (aM (cc (ap ?_))))
 refine ac<|aa<|rn 2 [6,7] rfl<|ae<|au<|bD Tryz.results113 (aq rfl) (aq rfl) ?_
 intro w hw
 exact⟨(none,0),trivial,rfl,(lN hw).msub ms⟩
end
section
theorem AV:Tryz.prog.eqGuardType Tryz.prog.depth 49=false:=by kernel_rfl
theorem Eu:Tryz.prog.stoodInHeld 49=false:=by kernel_rfl
theorem En (w : World) (a b c d : Int) : (binOp .neq 49 (.agg #[.int .i64 a, .int .i64 b]) (.agg #[.int .i64 c, .int .i64 d])).run Tryz.prog w = .ok (.bool (!(a == c && b == d))) w := by
  have h := Eu
  by_cases h1 : a = c <;> by_cases h2 : b = d <;> simp [go_sem, h, h1, h2]
theorem Dk (x y : Operand) (u v : Array Value) (w : World) : (eqGuard .neq 49 x y (.agg u) (.agg v)).run Tryz.prog w = .ok () w := by
  have h := AV
  simp [eqGuard, go_sem, h]
theorem zj {fs:List aC} (hF:eS fs) {kf:Nat} (hk:kf<fs.length) {pc to_:Int} (hc:ff (av fs kf) pc to_=true) {t0:List Int} (h0:eu fs (av fs kf) (pc - 1)=some t0) :
  (0≤to_∧to_<fs.length)∧∃t,eu fs (av fs kf) pc=some t∧((av fs to_.toNat).result≠0→1≤t.length):=by
 unfold ff at hc
 simp only[Bool.and_eq_true,decide_eq_true_eq] at hc
 obtain⟨hw,hcc,hca⟩:=hc
 have hw:=dJ.1 hw
 obtain⟨_,h1,_,_,v0,hv0,hn0⟩:=(hF.e _ hk).at_ _ _ h0
 have hop:=(gY hF.p hk).1.op (pc - 1).toNat (by omega)
 generalize bB (av fs kf).code (pc - 1).toNat=oz at hcc hca hv0 hn0 hop
 have h2:=hop.call hcc
 rw[hca] at h2
 obtain⟨t,ht,hle⟩:=hn0 pc (by simp[di,hcc])
 obtain⟨T0,V0,e0,_,_,_,rfl⟩:=gG.1 hv0
 simp[tl,hcc] at e0
 obtain⟨rfl,rfl⟩:=e0
 rw[hca] at hle
 refine⟨h2,t,ht,fun hr=>?_⟩
 unfold bU at hle
 rw[if_neg hr] at hle
 have:=(pd hle).2.1
 omega
theorem C8 {A:Option Addr} {m c k:Nat} {xs:List Int} {B:Nat} {w0 w:World} {H:List bj} (hk:k≤m) (h:Cw B w0 (gM (.slice A m c) xs::H) w):Cw B w0 (gM (.slice (fB A 0 c 1) k (c - 0)) (xs.take k)::H) w:=by
 refine h.upd fun F ho _=>⟨F,⟨ho.1,fun w' hw'=>?_⟩,rfl,rfl,rfl,Nat.le_refl _,fun _ _ _=>rfl,fun b hb=> .inl hb⟩
 have:=(ho.2 w' hw').cut 0 k (Nat.zero_le _) hk
 rw[Nat.sub_zero,List.drop_zero] at this
 exact this
theorem B4 {A:Option Addr} {c:Nat} {xs:List Int} {B:Nat} {w0 w:World} {H:List bj} (h:Cw B w0 (gM (.slice A xs.length c) xs::H) w):Cw B w0 (gM (.slice (fB A 0 c 1) xs.dropLast.length (c - 0)) xs.dropLast::H) w:=by
 have:=C8 (k:=xs.length - 1) (by omega) h
 rw[←List.dropLast_eq_take,←List.length_dropLast] at this
 exact this
set_option maxRecDepth 100000 in
set_option maxHeartbeats 4000000 in
theorem wB (a:MA) (m:aD) (Ap:Option Addr) (cp:Nat) (fs:List aC) (i:Nat) (w:World) (hs:Sl w (.slice Ap fs.length cp) fs) (hm:gk w.heap.size w a m) (hF:eS fs) (hfit:l6 m.frames) (hi:i<m.frames.length) (hfn:∀x∈m.frames,0≤x.func∧x.func<fs.length) (E:Int) (hE:eG fs m.blocks.length m.frames i=E) :
  Calls Tryz.prog 70 #[.agg #[.slice Ap fs.length cp],.agg #[.slice a.Af m.frames.length a.cf,.slice a.Ab m.blocks.length a.cb,.slice a.Ai m.inn.length a.ci,.slice a.Ao m.out.length a.co,.int .i64 m.status,.int .i64 m.trap],.int .i64 (i:Int)] w fun e w'=>e= .returned (.int .i64 E)∧Below w.heap.size w w':=by
 have bf:=bO hm.f
 have bp:=bO hs
 have bb:=bO hm.b
 obtain⟨A1,c1,A2,c2,hl,hst,hI,hcell⟩:=hm.f.fr hi
 obtain⟨hb1,hb2⟩:=hfit.2 (bg m.frames i) (ft hi)
 have hx:=hfn _ (ft hi)
 obtain⟨kf,hkf⟩:∃kf:Nat,(bg m.frames i).func=kf:=⟨(bg m.frames i).func.toNat,by omega⟩
 have hkl:kf<fs.length:=by omega
 obtain⟨hok,hn0⟩:=gY hF.p hkl
 have hty:=w3 hF.p hkl
 obtain⟨F1,d1,F2,d2,hfl,hfc,hfi,hfcell⟩:=hs.fn hkl
 have hfl6:(av fs kf).locals.length≤6:=(hok.op 0 hn0).par kf hkl |>.2
 have hlt2:=(ir ((gA hF.p).2.2 _ (gV hkl))).2.2.2.1
 have hff:gL fs m.frames i=av fs kf:=by unfold gL;rw[hkf,Int.toNat_natCast]
 have hent:∀pc t,eu fs (av fs kf) pc=some t→Ty t:=fun pc t h=>((hF.e kf hkl).at_ pc t h).2.2.2.1
 have hbeh:∀{pc to_:Int} (_:ff (av fs kf) pc to_=true) {t0:List Int},eu fs (av fs kf) (pc - 1)=some t0→(0≤to_∧to_<fs.length)∧∃t,eu fs (av fs kf) pc=some t∧((av fs to_.toNat).result≠0→1≤t.length):=fun hc _ h0=>zj hF hkl hc h0
 unfold eG at hE
 obtain⟨q,hq⟩:∃q,gu fs m.frames i=q:=⟨_,rfl⟩
 rw[hff,hq] at hE
 unfold gu at hq
 rw[hff] at hq
 rw[hkf] at hcell
 have hrent:∀pc q0,eu fs (av fs kf) pc=q0→∀w1,Sl w1 (.slice Ap fs.length cp) fs→Calls Tryz.prog 113 #[.agg #[.slice Ap fs.length cp],.int .i64 (kf:Int),.int .i64 pc] w1 fun e w'=> ∃g:Option Addr×Nat,True∧e= .returned (.tuple #[.slice g.1 (q0.getD []).length g.2,.bool q0.isSome])∧
   Cw w1.heap.size w1 [gM (.slice g.1 (q0.getD []).length g.2) (q0.getD [])] w':=fun pc q0 h w1 h1=>wC Ap cp fs kf pc q0 h w1 h1 hkl hok hty hn0
 generalize av fs kf=f at hE hfl hfc hfi hfcell hfl6 hlt2 hent hbeh hq hrent
 obtain⟨l,hlm⟩:∃l,m.frames=l:=⟨_,rfl⟩
 generalize hxx:bg m.frames i=x at hE hl hst hI hcell hb1 hb2 hq
 have bx1:=bO hl
 have bx2:=bO hst
 have bc:=bO hfc
 refine enter Tryz.func70 rfl Tryz.ntmps70 rfl ?_
 refine ac<|aa<|ag (bF rfl rfl rfl) rfl rfl (fun g1 _=>?_)
 refine ag (bF rfl rfl rfl) rfl rfl (fun g2 _=>?_)
 refine rn 1 [2,3,4] rfl<|ae<|ac<|aa<|rn 1 [2,3,4,18] rfl<|af (ai fc cd rfl rfl (by rfl)) rfl rfl ?_
 refine rn 1 [2,3,4,19,20] rfl<|af (aO (k:=i) a6 bG (.ro hm.f) (by omega) rfl rfl rfl) rfl rfl<|af (cr (hcell _) rfl rfl gJ bG) rfl rfl<|ag (aZ df rfl rfl) rfl rfl (fun g3 _=>?_)
 refine ag (aH _ fc bG rfl rfl rfl rfl rfl (by rfl) rfl (by rfl)) rfl rfl (fun _ _=>?_)
 refine ae<|ac<|aa<|rn 1 [2,3,4,7,23] rfl<|af (ai fc cQ rfl rfl (by rfl)) rfl rfl ?_
 refine rn 1 [2,3,4,7,24,25] rfl<|af (ai fc ar rfl rfl (by rfl)) rfl rfl ?_
 refine af (aO (k:=kf) bI bq (.ro hs) (by omega) rfl rfl rfl) rfl rfl<|af (cr (hfcell _) rfl rfl d8 bq) rfl rfl<|ag (aZ ey rfl rfl) rfl rfl (fun g4 _=>?_)
 refine ag (aH _ fc bq rfl rfl rfl rfl rfl (by rfl) rfl (by rfl)) rfl rfl (fun _ _=>?_)
 refine ae<|ac<|ac<|aa<|rn 1 [2,3,4,7,8,29] rfl<|af (ai fc a9 rfl rfl (by rfl)) rfl rfl ?_
 refine af (aN az rfl rfl) rfl rfl<|rn 1 [2,3,4,7,8,31,32] rfl<|af (ai fc a5 rfl rfl (by rfl)) rfl rfl ?_
 refine af (aN ah rfl rfl) rfl rfl<|rn 1 [2,3,4,7,8,35] rfl<|ae<|b9 rfl (fun h1=>?_) (fun h1=>?_)
 ·rw[if_pos (show x.locals.length≠f.locals.length from fun e=>h1 (by rw[e]))] at hE
  subst hE
  refine ac<|aa<|rn 1 [6] rfl<|ae<|au (ak ?_)
  refine aA fV (aq rfl) ?_
  intro w hw
  exact⟨rfl,hw.below⟩
 have h1:x.locals.length=f.locals.length:=by omega
 rw[if_neg (fun h=>h h1)] at hE
 have hal:(x.locals++x.stack).length=x.locals.length+x.stack.length:=List.length_append
 refine ax (ap ?_)
 refine dF (fun _:Option Addr×Nat=>True) (fun g=> [(2,.int .i64 (i:Int)),(3,.pointer (some ⟨g1,0,none⟩)),(4,.pointer (some ⟨g2,0,none⟩)),(7,.pointer (some ⟨g3,0,none⟩)),(8,.pointer (some ⟨g4,0,none⟩)),(9,.slice g.1 (x.locals++x.stack).length g.2)]) (fun g=> [aj (.slice g.1 (x.locals++x.stack).length g.2) (x.locals++x.stack),am g3 [.int .i64 (kf:Int),.int .i64 x.pc,.slice A1 x.locals.length c1,.slice A2 x.stack.length c2] 97,am g4 [.int .i64 f.params,.slice F1 f.locals.length d1,.int .i64 f.result,.slice F2 f.code.length d2] 110,am g2 [.slice a.Af m.frames.length a.cf,.slice a.Ab m.blocks.length a.cb,.slice a.Ai m.inn.length a.ci,.slice a.Ao m.out.length a.co,.int .i64 m.status,.int .i64 m.trap] 29,am g1 [.slice Ap fs.length cp] 24]) ?_ ?_
 ·refine bQ (.still 1 (.still 2 (.still 4 (.still 5 (.pick 0 (.pick 3 (.pick 6 (.calm 7 .done) .stop) .stop) .stop))))) [6,7] rfl (by kernel_rfl) (by kernel_rfl) ?_
  refine aV ha 1 [2,3,4,7,8,37] rfl<|an rfl (ai fc a9 rfl rfl (by rfl)) rfl rfl ha ?_
  refine aV ha 1 [2,3,4,7,8,38,40] rfl<|an rfl (ai fc a9 rfl rfl (by rfl)) rfl rfl ha ?_
  refine aB rfl ((bh (cs:= []) az aE bu rfl rfl rfl rfl rfl).mem (H'':=fun g=>aj (.slice (some ⟨g,0,none⟩) 0 0) ([]:List aS)::_) fun g w h=>cA (α:=aS) (m:=0) [] rfl (by simp) rfl (by decide) h) rfl rfl (.inr fun _=>ha) (fun ge _=>?_) ay
  refine aB rfl (dy (α:=aS) (bytes:=16) (xs:= []) (ys:=x.locals) (List.nil_append x.locals).symm az (bM dk) rfl fc (.ro hl) (by simp only[List.length_nil];omega) (by simp only[List.length_nil];omega) rfl rfl rfl) rfl rfl (.inr fun _=>ha) (fun⟨A5,c5⟩ _=>?_) ay
  try dsimp only
  refine aB rfl (dy (α:=aS) (bytes:=16) (xs:=x.locals) (ys:=x.stack) rfl az (bM dk) rfl fc (.ro hst) (by omega) (by omega) rfl rfl rfl) rfl rfl (.inl rfl) (fun⟨A6,c6⟩ _=>?_) ay
  try dsimp only
  refine dZ 1 [2,3,4,7,8,9] rfl<|ck<|aY (A6,c6) (trivial) ⟨rfl,rfl,rfl,rfl,rfl,rfl,trivial⟩ (fun _ h=>h.msub ms)
 rintro⟨A6,c6⟩ _
 try dsimp only
 refine ac<|ac<|aa<|rn 1 [2,3,4,7,8,9,10] rfl<|ae<|aL (b8 (fun k:Nat=>k≤(x.locals++x.stack).length∧∀j,j<k→et m.blocks.length ((x.locals++x.stack).getD j default)=true) (fun k=>(x.locals++x.stack).length - k) (fun k=> [(2,.int .i64 (i:Int)),(3,.pointer (some ⟨g1,0,none⟩)),(4,.pointer (some ⟨g2,0,none⟩)),(7,.pointer (some ⟨g3,0,none⟩)),(8,.pointer (some ⟨g4,0,none⟩)),(9,.slice A6 (x.locals++x.stack).length c6),(10,.int .i64 (k:Int))]) (fun _=> [aj (.slice A6 (x.locals++x.stack).length c6) (x.locals++x.stack),am g3 [.int .i64 (kf:Int),.int .i64 x.pc,.slice A1 x.locals.length c1,.slice A2 x.stack.length c2] 97,am g4 [.int .i64 f.params,.slice F1 f.locals.length d1,.int .i64 f.result,.slice F2 f.code.length d2] 110,am g2 [.slice a.Af m.frames.length a.cf,.slice a.Ab m.blocks.length a.cb,.slice a.Ai m.inn.length a.ci,.slice a.Ao m.out.length a.co,.int .i64 m.status,.int .i64 m.trap] 29,am g1 [.slice Ap fs.length cp] 24]) 0 (⟨Nat.zero_le _,fun _ h=>absurd h (Nat.not_lt_zero _)⟩) ⟨rfl,rfl,rfl,rfl,rfl,rfl,rfl,trivial⟩ me ?_)
 rintro k hk'
 obtain⟨hk,hno⟩:k≤(x.locals++x.stack).length∧∀j,j<k→et m.blocks.length ((x.locals++x.stack).getD j default)=true:=hk'
 refine ac<|ac<|aa<|rn 2 [2,3,4,7,8,9,10,43,44] rfl<|af (aN az rfl rfl) rfl rfl<|rn 1 [2,3,4,7,8,9,10,46] rfl<|ae<|aw rfl (fun hlt=>?_) (fun hlt=>?_)
 ·have hkl2:k<(x.locals++x.stack).length:=by omega
  obtain⟨vb,hvb⟩:∃b,et m.blocks.length ((x.locals++x.stack).getD k default)=b:=⟨_,rfl⟩
  have hbad:vb=false→E=3:=fun e=>by rw[e] at hvb;rw[if_pos (wi hkl2 hvb)] at hE;exact hE.symm
  have hgood:vb=true→∀j,j<k+1→et m.blocks.length ((x.locals++x.stack).getD j default)=true:=fun e j hj=>(Nat.lt_or_ge j k).elim (hno j) (fun h=>by obtain rfl:j=k:=(by omega);rw[hvb,e])
  refine ax (ap ?_)
  refine ac<|aL<|ac<|bQ (.still 0 (.still 1 (.still 2 (.still 3 (.still 4 (.still 5 (.still 6 (.still 7 (.still 8 (.still 9 (.still 10 (.still 11 (.still 12 (.still 13 (.pick 14 (.still 15 (.still 16 (.still 17 (.still 18 (.still 19 (.still 20 (.still 21 (.still 22 (.still 23 (.still 24 (.still 25 (.still 26 (.still 27 (.still 28 (.still 29 (.pick 30 (.still 31 (.still 32 (.still 33 .done))) .stop)))))))))))))))) .stop))))))))))))))) [] rfl (by kernel_rfl) (by kernel_rfl) ?_
  refine aV ha 2 [2,3,4,7,8,9,10,49,50] rfl<|an rfl (aO (k:=k) az aE (SF.own rfl fc) (by omega) rfl rfl rfl) rfl rfl ha ?_
  refine aV ha 1 [2,3,4,7,8,9,10,52] rfl<|an rfl (a8 (fun w hw=>(SF.val (SF.own rfl fc) hkl2 default) w hw 0 _ rfl) rfl rfl fF) rfl rfl ha ?_
  refine aV ha 1 [2,3,4,7,8,9,10,54] rfl ?_
  rcases Bool.eq_false_or_eq_true ((x.locals++x.stack).getD k default).ref with hr | hr
  ·have hvb2:bL ((x.locals++x.stack).getD k default).n 0 m.blocks.length=vb:=by rw[←hvb];unfold et;rw[if_pos hr]
   rw[hr]
   refine dh (t:=54) (v':= .bool true) rfl (rfl) ?_
   refine aV ha 2 [2,3,4,7,8,9,10,54,55,56] rfl<|an rfl (aO (k:=k) az aE (SF.own rfl fc) (by omega) rfl rfl rfl) rfl rfl ha ?_
   refine aV ha 1 [2,3,4,7,8,9,10,54,58] rfl<|an rfl (a8 (fun w hw=>(SF.val (SF.own rfl fc) hkl2 default) w hw 1 _ rfl) rfl rfl ar) rfl rfl ha ?_
   refine aV ha 1 [2,3,4,7,8,9,10,54,59,60] rfl<|an rfl (ai fc ew rfl rfl (by rfl)) rfl rfl ha ?_
   refine an rfl (aN cy rfl rfl) rfl rfl ha ?_
   refine aB rfl (bK rfl rfl rfl gQ ((fun w hw=>fe ((fun w hw=>ek _ _ _ w) w hw)))) rfl rfl (.inr fun _=>ha) (fun _ _=>?_) ay
   refine aV ha 3 [2,3,4,7,8,9,10,66] rfl ?_
   rw[hvb2]
   cases vb
   ·refine dh (t:=66) (v':= .bool true) rfl (rfl) ?_
    refine aV ha 12 [2,3,4,7,8,9,10,66,73,78] rfl<|kw rfl rfl rfl (.inr ha) ?_ ay
    refine aV ha 3 [2,3,4,7,8,9,10,82] rfl<|cJ<|bR rfl<|ac<|aa<|rn 1 [6] rfl<|ae<|au (aG (ak (ak (aG (ak ?_)))))
    refine aA fV (aq rfl) ?_
    intro w hw
    exact⟨by rw[hbad rfl],hw.below⟩
   refine dh (t:=66) (v':= .bool false) rfl (rfl) ?_
   refine aV ha 2 [2,3,4,7,8,9,10,66,67,68] rfl<|an rfl (aO (k:=k) az aE (SF.own rfl fc) (by omega) rfl rfl rfl) rfl rfl ha ?_
   refine aV ha 1 [2,3,4,7,8,9,10,66,70] rfl<|an rfl (a8 (fun w hw=>(SF.val (SF.own rfl fc) hkl2 default) w hw 0 _ rfl) rfl rfl fF) rfl rfl ha ?_
   refine aV ha 2 [2,3,4,7,8,9,10,66,73] rfl ?_
   rw[hr]
   refine dh (t:=73) (v':= .bool false) rfl (rfl) ?_
   refine aV ha 5 [2,3,4,7,8,9,10,66,73,78] rfl<|kw rfl rfl rfl (.inr ha) ?_ ay
   refine aV ha 3 [2,3,4,7,8,9,10,82] rfl<|cJ<|dg rfl<|ax (aK (ap ?_))
   refine aa<|rn 1 [2,3,4,7,8,9,47] rfl<|af (bH rfl rfl rfl (by omega)) rfl rfl<|rn 1 [2,3,4,7,8,9,10] rfl<|br (k+1) (⟨by show k+1≤_;omega,hgood rfl⟩) (by show _ - _<_ - _;omega) ⟨rfl,rfl,rfl,rfl,rfl,rfl,rfl,trivial⟩ me
  have hvb2:cu ((x.locals++x.stack).getD k default).n=vb:=by rw[←hvb];unfold et;rw[if_neg (by rw[hr];decide)]
  rw[hr]
  refine dh (t:=54) (v':= .bool false) rfl (rfl) ?_
  refine aV ha 8 [2,3,4,7,8,9,10,54,59,62] rfl<|kw rfl rfl rfl (.inr ha) ?_ ay
  refine aV ha 5 [2,3,4,7,8,9,10,66,67,68] rfl<|an rfl (aO (k:=k) az aE (SF.own rfl fc) (by omega) rfl rfl rfl) rfl rfl ha ?_
  refine aV ha 1 [2,3,4,7,8,9,10,66,70] rfl<|an rfl (a8 (fun w hw=>(SF.val (SF.own rfl fc) hkl2 default) w hw 0 _ rfl) rfl rfl fF) rfl rfl ha ?_
  refine aV ha 2 [2,3,4,7,8,9,10,66,73] rfl ?_
  rw[hr]
  refine dh (t:=73) (v':= .bool true) rfl (rfl) ?_
  refine aV ha 2 [2,3,4,7,8,9,10,66,73,74,75] rfl<|an rfl (aO (k:=k) az aE (SF.own rfl fc) (by omega) rfl rfl rfl) rfl rfl ha ?_
  refine aV ha 1 [2,3,4,7,8,9,10,66,73,77] rfl<|an rfl (a8 (fun w hw=>(SF.val (SF.own rfl fc) hkl2 default) w hw 1 _ rfl) rfl rfl ar) rfl rfl ha ?_
  refine aB rfl (bK rfl rfl rfl Gi ((fun w hw=>fe ((fun w hw=>jc _ w) w hw)))) rfl rfl (.inr fun _=>ha) (fun _ _=>?_) ay
  refine aV ha 3 [2,3,4,7,8,9,10,82] rfl<|cJ ?_
  rw[hvb2]
  cases vb
  ·refine cP (t:=82) (v':= .bool true) rfl (rfl) ?_
   refine bR rfl<|ac<|aa<|rn 1 [6] rfl<|ae<|au (aG (ak (ak (aG (ak ?_)))))
   refine aA fV (aq rfl) ?_
   intro w hw
   exact⟨by rw[hbad rfl],hw.below⟩
  refine cP (t:=82) (v':= .bool false) rfl (rfl) ?_
  refine dg rfl<|ax (aK (ap ?_))
  refine aa<|rn 1 [2,3,4,7,8,9,47] rfl<|af (bH rfl rfl rfl (by omega)) rfl rfl<|rn 1 [2,3,4,7,8,9,10] rfl<|br (k+1) (⟨by show k+1≤_;omega,hgood rfl⟩) (by show _ - _<_ - _;omega) ⟨rfl,rfl,rfl,rfl,rfl,rfl,rfl,trivial⟩ me
 obtain rfl:k=(x.locals++x.stack).length:=by omega
 rw[if_neg (uo hno)] at hE
 refine bN (aM (aM (cc (ap ?_))))
 refine ac<|ac<|aa<|rn 1 [2,3,4,7,8,11] rfl<|ae<|aL (b8 (fun k:Nat=>k≤x.locals.length∧∀j,j<k→eP (x.locals.getD j default) (f.locals.getD j 0)=true) (fun k=>x.locals.length - k) (fun k=> [(2,.int .i64 (i:Int)),(3,.pointer (some ⟨g1,0,none⟩)),(4,.pointer (some ⟨g2,0,none⟩)),(7,.pointer (some ⟨g3,0,none⟩)),(8,.pointer (some ⟨g4,0,none⟩)),(11,.int .i64 (k:Int))]) (fun _=> [am g3 [.int .i64 (kf:Int),.int .i64 x.pc,.slice A1 x.locals.length c1,.slice A2 x.stack.length c2] 97,am g4 [.int .i64 f.params,.slice F1 f.locals.length d1,.int .i64 f.result,.slice F2 f.code.length d2] 110,am g2 [.slice a.Af m.frames.length a.cf,.slice a.Ab m.blocks.length a.cb,.slice a.Ai m.inn.length a.ci,.slice a.Ao m.out.length a.co,.int .i64 m.status,.int .i64 m.trap] 29,am g1 [.slice Ap fs.length cp] 24]) 0 (⟨Nat.zero_le _,fun _ h=>absurd h (Nat.not_lt_zero _)⟩) ⟨rfl,rfl,rfl,rfl,rfl,rfl,trivial⟩ me ?_)
 rintro k hk'
 obtain⟨hk,hno2⟩:k≤x.locals.length∧∀j,j<k→eP (x.locals.getD j default) (f.locals.getD j 0)=true:=hk'
 refine ac<|ac<|aa<|rn 2 [2,3,4,7,8,11,83,84] rfl<|af (ai fc a9 rfl rfl (by rfl)) rfl rfl ?_
 refine af (aN az rfl rfl) rfl rfl<|rn 1 [2,3,4,7,8,11,87] rfl<|ae<|aw rfl (fun hlt=>?_) (fun hlt=>?_)
 ·have hkl2:k<x.locals.length:=by omega
  have ht2:=hlt2 (f.locals.getD k 0) (cN (d:=0) (by omega))
  refine ax (ap ?_)
  refine ac<|aL<|ac<|bQ (.still 0 (.still 1 (.still 2 (.still 3 (.still 4 (.still 5 (.still 6 (.still 7 (.still 8 (.still 9 (.pick 10 (.still 11 .done) .stop))))))))))) [] rfl (by kernel_rfl) (by kernel_rfl) ?_
  refine aV ha 1 [2,3,4,7,8,11,90] rfl<|an rfl (ai fc a9 rfl rfl (by rfl)) rfl rfl ha ?_
  refine aV ha 1 [2,3,4,7,8,11,91,92] rfl<|an rfl (aO (k:=k) az aE (.ro hl) (by omega) rfl rfl rfl) rfl rfl ha ?_
  refine an rfl (cr (SF.val (SF.ro hl) hkl2 default) rfl rfl dr aE) rfl rfl ha ?_
  refine aV ha 1 [2,3,4,7,8,11,94,95] rfl<|an rfl (ai fc a5 rfl rfl (by rfl)) rfl rfl ha ?_
  refine aV ha 1 [2,3,4,7,8,11,94,96,97] rfl<|an rfl (aO (k:=k) ah aI (.ro hfl) (by omega) rfl rfl rfl) rfl rfl ha ?_
  refine an rfl (a8 (SF.int (.ro hfl) (by omega)) rfl rfl ar) rfl rfl ha ?_
  refine aB rfl (bK rfl rfl rfl Tryz.call112 (fun w hw=>rS (x.locals.getD k default) (f.locals.getD k 0) (by omega) w)) rfl rfl (.inr fun _=>ha) (fun _ _=>?_) ay
  refine aV ha 1 [2,3,4,7,8,11,101] rfl<|cJ<|cH rfl (fun hb=>?_) (fun hb=>?_)
  ·have hb:eP (x.locals.getD k default) (f.locals.getD k 0)=false:=by simpa using hb
   rw[if_pos (pj hkl2 hb)] at hE
   subst hE
   refine ac<|aa<|rn 1 [6] rfl<|ae<|au (aG (ak (ak (aG (ak ?_)))))
   refine aA fV (aq rfl) ?_
   intro w hw
   exact⟨rfl,hw.below⟩
  have hb:eP (x.locals.getD k default) (f.locals.getD k 0)=true:=by simpa using hb
  refine ax (aK (ap ?_))
  refine aa<|rn 1 [2,3,4,7,8,88] rfl<|af (bH rfl rfl rfl (by omega)) rfl rfl<|rn 1 [2,3,4,7,8,11] rfl<|br (k+1) (⟨by show k+1≤_;omega,fun j hj=>(Nat.lt_or_ge j k).elim (hno2 j) (fun h=>by obtain rfl:j=k:=(by omega);exact hb)⟩) (by show _ - _<_ - _;omega) ⟨rfl,rfl,rfl,rfl,rfl,rfl,trivial⟩ me
 obtain rfl:k=x.locals.length:=by omega
 rw[if_neg (by rw[jj.2 hno2];decide)] at hE
 obtain⟨q0,hq0⟩:∃q0,eu fs f x.pc=q0:=⟨_,rfl⟩
 rw[hq0] at hq
 refine bN (aM (aM (cc (ap ?_))))
 refine ac<|aa<|af (aQ (vs:= [_]) fc cE cg rfl rfl (by rfl) rfl) rfl rfl ?_
 refine rn 1 [2,3,4,7,8,103,104] rfl<|af (ai fc ar rfl rfl (by rfl)) rfl rfl ?_
 refine rn 1 [2,3,4,7,8,103,105,106] rfl<|af (ai fc ar rfl rfl (by rfl)) rfl rfl ?_
 refine ag (cO rfl rfl rfl Tryz.call113 (fun w hw=>hrent x.pc q0 hq0 w (hw.ro hs))) rfl rfl (fun⟨A7,c7⟩ _=>?_)
 try dsimp only
 refine rn 5 [2,3,4,7,8,12,13] rfl<|ae<|ac<|ac<|aa<|rn 2 [2,3,4,7,8,12,13,111,112] rfl<|af (ai fc cd rfl rfl (by rfl)) rfl rfl ?_
 refine af (aN a6 rfl rfl) rfl rfl<|af (bx rfl rfl rfl (by omega)) rfl rfl<|rn 1 [2,3,4,7,8,12,13,116] rfl<|ae<|ji (fun g:List Int×(Option Addr×Nat)=>q=some g.1∧Ty g.1) (fun g=> [(7,.pointer (some ⟨g3,0,none⟩)),(12,.slice g.2.1 g.1.length g.2.2)]) (fun g=> [gM (.slice g.2.1 g.1.length g.2.2) g.1,am g3 [.int .i64 (kf:Int),.int .i64 x.pc,.slice A1 x.locals.length c1,.slice A2 x.stack.length c2] 97,am g4 [.int .i64 f.params,.slice F1 f.locals.length d1,.int .i64 f.result,.slice F2 f.code.length d2] 110,am g2 [.slice a.Af m.frames.length a.cf,.slice a.Ab m.blocks.length a.cb,.slice a.Ai m.inn.length a.ci,.slice a.Ao m.out.length a.co,.int .i64 m.status,.int .i64 m.trap] 29,am g1 [.slice Ap fs.length cp] 24]) ?_ ?_
 ·refine aw rfl (fun hi2=>?_) (fun hi2=>?_)
  ·have hi1:i+1<m.frames.length:=by omega
   obtain⟨A3,c3,A4,c4,_,_,hI2,hcell2⟩:=hm.f.fr (k:=i+1) hi1
   obtain⟨to_,hto⟩:∃t,(bg m.frames (i+1)).func=t:=⟨_,rfl⟩
   have hy:=hfn _ (ft hi1)
   rw[hto] at hy hcell2 hq
   rw[if_neg (by omega)] at hq
   obtain⟨cb,hcb⟩:∃b,ff f x.pc to_=b:=⟨_,rfl⟩
   have hbad:cb=false→E=5:=fun e=>by
    rw[hcb,e,if_pos rfl] at hq
    rw[←hq] at hE
    exact hE.symm
   refine ac<|aa<|rn 1 [2,3,7,8,12,117] rfl<|af (ai fc cd rfl rfl (by rfl)) rfl rfl ?_
   refine rn 1 [3,7,8,12,118,119] rfl<|af (bH rfl rfl rfl (by omega)) rfl rfl<|bA (t:=120) (v':= .int .i64 ((i+1:Nat):Int)) rfl (congrArg (Value.int .i64) (by omega)) ?_
   refine af (aO (k:=i+1) a6 bG (.ro hm.f) (by omega) rfl rfl rfl) rfl rfl<|rn 1 [3,7,8,12,122] rfl<|af (a8 (fun w hw=>hcell2 _ w hw 0 _ rfl) rfl rfl ar) rfl rfl ?_
   refine rn 1 [3,7,8,12,14] rfl<|ae<|ac<|ac<|aa<|rn 1 [3,7,8,12,14,124] rfl<|af (ai fc ar rfl rfl (by rfl)) rfl rfl ?_
   refine rn 2 [3,7,8,12,14,127] rfl ?_
   by_cases p1:x.pc<1
   ·have hc0:cb=false:=by rw[←hcb];unfold ff;rw[show bL x.pc 1 f.code.length=false from by rw[Bool.eq_false_iff];exact fun h=>by have:=dJ.1 h;omega];rfl
    refine bA (t:=127) (v':= .bool true) rfl (congrArg Value.bool (decide_eq_true p1)) ?_
    refine rn 19 [3,7,12,14,146] rfl<|ae<|bR rfl<|ac<|aa<|rn 1 [6] rfl<|ae<|au (ak (ak ?_))
    refine aA fV (aq rfl) ?_
    intro w hw
    exact⟨by rw[hbad hc0],hw.below⟩
   refine bA (t:=127) (v':= .bool false) rfl (congrArg Value.bool (decide_eq_false p1)) ?_
   refine rn 1 [3,7,8,12,14,127,128] rfl<|af (ai fc ar rfl rfl (by rfl)) rfl rfl ?_
   refine rn 1 [3,7,8,12,14,127,129,130] rfl<|af (ai fc dE rfl rfl (by rfl)) rfl rfl ?_
   refine af (aN bz rfl rfl) rfl rfl<|rn 3 [3,7,8,12,14,135] rfl ?_
   by_cases p2:(f.code.length:Int)<x.pc
   ·have hc0:cb=false:=by rw[←hcb];unfold ff;rw[show bL x.pc 1 f.code.length=false from by rw[Bool.eq_false_iff];exact fun h=>by have:=dJ.1 h;omega];rfl
    refine bA (t:=135) (v':= .bool true) rfl (congrArg Value.bool (decide_eq_true p2)) ?_
    refine rn 11 [3,7,12,14,146] rfl<|ae<|bR rfl<|ac<|aa<|rn 1 [6] rfl<|ae<|au (ak (ak ?_))
    refine aA fV (aq rfl) ?_
    intro w hw
    exact⟨by rw[hbad hc0],hw.below⟩
   obtain⟨kp,hkp⟩:∃kp:Nat,x.pc - 1=kp:=⟨(x.pc - 1).toNat,by omega⟩
   have hcb2:((bB f.code kp).c == 12 && (bB f.code kp).a == to_)=cb:=by
    rw[←hcb]
    unfold ff
    rw[dJ.2 (by omega),hkp,Int.toNat_natCast,Bool.true_and]
    rfl
   refine bA (t:=135) (v':= .bool false) rfl (congrArg Value.bool (decide_eq_false p2)) ?_
   refine rn 1 [3,7,12,14,135,136] rfl<|af (ai fc dE rfl rfl (by rfl)) rfl rfl ?_
   refine rn 1 [3,7,12,14,135,137,138] rfl<|af (ai fc ar rfl rfl (by rfl)) rfl rfl ?_
   refine af (bx rfl rfl rfl (by omega)) rfl rfl<|bA (t:=140) (v':= .int .i64 (kp:Int)) rfl (congrArg (Value.int .i64) hkp) ?_
   refine af (aO (k:=kp) bz cG (.ro hfc) (by omega) rfl rfl rfl) rfl rfl<|af (cr (cs:= [_,_]) (SF.op (.ro hfc) (by omega)) rfl rfl gK cG) rfl rfl<|rn 1 [3,7,12,14,135,142,143] rfl<|af (cT (cs:= [_,_]) lw dP rfl rfl (by rfl)) rfl rfl ?_
   refine af (nu rfl rfl rfl (fun w=>En w _ _ _ _) (fun w=>Dk _ _ _ _ w)) rfl rfl ?_
   refine rn 1 [3,7,12,14,146] rfl<|ae ?_
   rw[hcb2]
   cases cb
   ·refine cP (t:=146) (v':= .bool true) rfl (rfl) ?_
    refine bR rfl<|ac<|aa<|rn 1 [6] rfl<|ae<|au (ak (ak ?_))
    refine aA fV (aq rfl) ?_
    intro w hw
    exact⟨by rw[hbad rfl],hw.below⟩
   refine cP (t:=146) (v':= .bool false) rfl (rfl) ?_
   refine dg rfl<|ax (ap ?_)
   refine ac<|aa<|af (aQ (vs:= [_]) fc cE cg rfl rfl (by rfl) rfl) rfl rfl ?_
   refine rn 1 [3,7,12,14,148,149] rfl<|af (ai fc ar rfl rfl (by rfl)) rfl rfl ?_
   refine rn 1 [3,7,12,14,148,150,151] rfl<|af (ai fc ar rfl rfl (by rfl)) rfl rfl ?_
   refine af (bx rfl rfl rfl (by omega)) rfl rfl ?_
   rw[hcb,if_neg (by decide)] at hq
   obtain⟨q1,hq1⟩:∃q1,eu fs f (x.pc - 1)=q1:=⟨_,rfl⟩
   rw[hq1] at hq
   refine ag (cO rfl rfl rfl Tryz.call113 (fun w hw=>hrent (x.pc - 1) q1 hq1 w (hw.ro hs))) rfl rfl (fun⟨A9,c9⟩ _=>?_)
   try dsimp only
   refine rn 5 [3,7,12,14,16] rfl<|ae<|ac<|ac<|aa<|rn 2 [3,7,12,14,158] rfl<|ae ?_
   cases q1 with
   | none=>
    rw[if_pos (show (none:Option (List Int)).isSome=false from rfl)] at hq
    rw[←hq] at hE
    refine cP (t:=158) (v':= .bool true) rfl (rfl) ?_
    refine bR rfl<|ac<|aa<|rn 1 [6] rfl<|ae<|au (ak (ak ?_))
    refine aA fV (aq rfl) ?_
    intro w hw
    exact⟨by rw[←hE],hw.below⟩
   | some t0=>
    rw[if_neg (by simp)] at hq
    obtain⟨_,t,ht,htl⟩:=hbeh hcb hq1
    rw[hq0] at ht
    subst ht
    obtain⟨kt,hkt⟩:∃kt:Nat,to_=kt:=⟨to_.toNat,by omega⟩
    have hktl:kt<fs.length:=by omega
    obtain⟨G1,e1,G2,e2,_,_,hGi,hgcell⟩:=hs.fn hktl
    have hres:=(hty.res kt hktl).1
    have hTy:=hent _ _ hq0
    have hq:some (if (av fs kt).result≠0 then t.dropLast else t)=q:=by
     rw[←hq]
     unfold gL
     rw[hto,hkt,Int.toNat_natCast]
     rfl
    rw[hkt,Int.toNat_natCast] at htl
    refine cP (t:=158) (v':= .bool false) rfl (rfl) ?_
    refine dg rfl<|ax (ap ?_)
    refine ac<|aa<|rn 1 [7,12,14,159] rfl<|af (ai fc cQ rfl rfl (by rfl)) rfl rfl ?_
    refine rn 1 [7,12,160,161] rfl<|bA (t:=161) (v':= .int .i64 (kt:Int)) rfl (congrArg (Value.int .i64) hkt) ?_
    refine af (aO (k:=kt) bI bq (.ro hs) (by omega) rfl rfl rfl) rfl rfl<|rn 1 [7,12,163] rfl<|af (a8 (fun w hw=>hgcell _ w hw 2 _ rfl) rfl rfl ar) rfl rfl ?_
    refine rn 1 [7,12,165] rfl<|ae<|aw rfl (fun hr=>?_) (fun hr=>?_)
    ·have hr:0<(av fs kt).result:=hr
     rw[if_pos (by omega)] at hq
     have htl:=htl (by omega)
     have hgl:((some t).getD []).length=t.length:=rfl
     refine dD (p:=t.length≤140737488355328∧t.length≤c7) (fun w hw=>⟨bO (SF.at_ (SF.rd (xs:=t) (m:=t.length) (A:=A7) (c:=c7) rfl fc) hw),(SF.at_ (SF.rd (xs:=t) (m:=t.length) (A:=A7) (c:=c7) rfl fc) hw).cap⟩) fun⟨tb,tc⟩=>?_
     refine aa<|rn 2 [7,166,167] rfl<|af (aN ah rfl rfl) rfl rfl<|af (bx rfl rfl rfl (by omega)) rfl rfl<|bA (t:=169) (v':= .int .i64 ((t.length - 1:Nat):Int)) rfl (congrArg (Value.int .i64) (by omega)) ?_
     refine af (mo (lo:=0) (hi:=t.length - 1) (k:=t.dropLast.length) ah aI ⟨by omega,by omega⟩ (by rw[List.length_dropLast];rfl) rfl rfl rfl rfl) rfl rfl ?_
     refine rn 1 [7,12] rfl<|fa (t.dropLast,(fB A7 0 c7 1,c7 - 0)) (⟨hq.symm,fun y hy=>hTy y (List.dropLast_subset t hy)⟩) ⟨rfl,rfl,trivial⟩ (fun w h=>(B4 (h.msub (T:= [gM (.slice A7 t.length c7) t,am g3 [.int .i64 (kf:Int),.int .i64 x.pc,.slice A1 x.locals.length c1,.slice A2 x.stack.length c2] 97,am g4 [.int .i64 f.params,.slice F1 f.locals.length d1,.int .i64 f.result,.slice F2 f.code.length d2] 110,am g2 [.slice a.Af m.frames.length a.cf,.slice a.Ab m.blocks.length a.cb,.slice a.Ai m.inn.length a.ci,.slice a.Ao m.out.length a.co,.int .i64 m.status,.int .i64 m.trap] 29,am g1 [.slice Ap fs.length cp] 24]) ms)).msub ms)
    rw[if_neg (by omega)] at hq
    refine ax<|aY (t,(A7,c7)) (⟨hq.symm,hTy⟩) ⟨rfl,rfl,trivial⟩ (fun w h=>h.msub ms)
  rw[if_pos (by omega)] at hq
  subst hq
  refine ac<|aa<|rn 2 [7,12,172] rfl<|ae ?_
  cases q0 with
  | none=>
   refine cP (t:=172) (v':= .bool true) rfl (rfl) ?_
   refine bR rfl<|ac<|aa<|rn 1 [6] rfl<|ae<|au (ak ?_)
   refine aA fV (aq rfl) ?_
   intro w hw
   exact⟨by rw[←hE],hw.below⟩
  | some t=>
   refine cP (t:=172) (v':= .bool false) rfl (rfl) ?_
   refine dg rfl<|ax<|aY (t,(A7,c7)) (⟨rfl,hent _ _ hq0⟩) ⟨rfl,rfl,trivial⟩ (fun w h=>h.msub ms)
 rintro⟨t,⟨A8,c8⟩⟩ hqt
 obtain⟨hqt,hTy⟩:q=some t∧Ty t:=hqt
 subst hqt
 dsimp only at hE
 try dsimp only
 refine ac<|ac<|aa<|rn 1 [7,12,173] rfl<|af (aN ah rfl rfl) rfl rfl<|rn 1 [7,12,174,175] rfl<|af (ai fc a9 rfl rfl (by rfl)) rfl rfl ?_
 refine af (aN az rfl rfl) rfl rfl<|rn 1 [7,12,178] rfl<|ae<|b9 rfl (fun h2=>?_) (fun h2=>?_)
 ·rw[if_pos (show t.length≠x.stack.length from fun e=>h2 (by rw[e]))] at hE
  subst hE
  refine ac<|aa<|rn 1 [6] rfl<|ae<|au (ak ?_)
  refine aA fV (aq rfl) ?_
  intro w hw
  exact⟨rfl,hw.below⟩
 have h2:t.length=x.stack.length:=by omega
 rw[if_neg (fun h=>h h2)] at hE
 refine ax (ap ?_)
 refine ac<|ac<|aa<|rn 1 [7,12,17] rfl<|ae<|aL (b8 (fun k:Nat=>k≤t.length∧∀j,j<k→eP (x.stack.getD j default) (t.getD j 0)=true) (fun k=>t.length - k) (fun k=> [(7,.pointer (some ⟨g3,0,none⟩)),(12,.slice A8 t.length c8),(17,.int .i64 (k:Int))]) (fun _=> [gM (.slice A8 t.length c8) t,am g3 [.int .i64 (kf:Int),.int .i64 x.pc,.slice A1 x.locals.length c1,.slice A2 x.stack.length c2] 97]) 0 (⟨Nat.zero_le _,fun _ h=>absurd h (Nat.not_lt_zero _)⟩) ⟨rfl,rfl,rfl,trivial⟩ me ?_)
 rintro k hk'
 obtain⟨hk,hno3⟩:k≤t.length∧∀j,j<k→eP (x.stack.getD j default) (t.getD j 0)=true:=hk'
 refine ac<|ac<|aa<|rn 2 [7,12,17,179,180] rfl<|af (aN ah rfl rfl) rfl rfl<|rn 1 [7,12,17,182] rfl<|ae<|aw rfl (fun hlt=>?_) (fun hlt=>?_)
 ·have hkl2:k<t.length:=by omega
  have hkl3:k<x.stack.length:=by omega
  refine ax (ap ?_)
  refine ac<|aL<|ac<|bQ (.still 0 (.still 1 (.still 2 (.still 3 (.still 4 (.still 5 (.still 6 (.still 7 (.still 8 (.pick 9 (.still 10 .done) .stop)))))))))) [] rfl (by kernel_rfl) (by kernel_rfl) ?_
  refine aV ha 1 [7,12,17,185] rfl<|an rfl (ai fc a9 rfl rfl (by rfl)) rfl rfl ha ?_
  refine aV ha 1 [7,12,17,186,187] rfl<|an rfl (aO (k:=k) az aE (.ro hst) (by omega) rfl rfl rfl) rfl rfl ha ?_
  refine an rfl (cr (SF.val (SF.ro hst) hkl3 default) rfl rfl dr aE) rfl rfl ha ?_
  refine aV ha 2 [7,12,17,189,190,191] rfl<|an rfl (aO (k:=k) ah aI (SF.rd (xs:=t) rfl fc) (by omega) rfl rfl rfl) rfl rfl ha ?_
  refine an rfl (a8 (SF.int (SF.rd (xs:=t) rfl fc) (by omega)) rfl rfl ar) rfl rfl ha ?_
  refine aB rfl (bK rfl rfl rfl Tryz.call112 (fun w hw=>rS (x.stack.getD k default) (t.getD k 0) (hTy _ (cN (d:=0) hkl2)) w)) rfl rfl (.inr fun _=>ha) (fun _ _=>?_) ay
  refine aV ha 1 [7,12,17,195] rfl<|cJ<|cH rfl (fun hb=>?_) (fun hb=>?_)
  ·have hb:eP (x.stack.getD k default) (t.getD k 0)=false:=by simpa using hb
   rw[if_pos (pj hkl2 hb)] at hE
   subst hE
   refine ac<|aa<|rn 1 [6] rfl<|ae<|au (aG (ak (ak (aG (ak ?_)))))
   refine aA fV (aq rfl) ?_
   intro w hw
   exact⟨rfl,hw.below⟩
  have hb:eP (x.stack.getD k default) (t.getD k 0)=true:=by simpa using hb
  refine ax (aK (ap ?_))
  refine aa<|rn 1 [7,12,183] rfl<|af (bH rfl rfl rfl (by omega)) rfl rfl<|rn 1 [7,12,17] rfl<|br (k+1) (⟨by show k+1≤_;omega,fun j hj=>(Nat.lt_or_ge j k).elim (hno3 j) (fun h=>by obtain rfl:j=k:=(by omega);exact hb)⟩) (by show _ - _<_ - _;omega) ⟨rfl,rfl,rfl,trivial⟩ me
 obtain rfl:k=t.length:=by omega
 rw[if_neg (by rw[jj.2 hno3];decide)] at hE
 subst hE
 refine bN (aM (aM (cc (ap ?_))))
 refine ac<|aa<|rn 1 [6] rfl<|ae<|au<|aA fV (aq rfl) ?_
 intro w hw
 exact⟨rfl,hw.below⟩
end
section
theorem wc {l r:List Int} :dz (l++r)=true↔dz l=true∨dz r=true:=by
 unfold dz
 rw[List.any_append,Bool.or_eq_true]
theorem DO {l:List Int} {k:Nat} (hk:k<l.length) (h:cu (l.getD k 0)=false):dz l=true:=List.any_eq_true.2 ⟨_,cN (d:=0) hk,by rw[h];rfl⟩
theorem DN {l:List Int} (h:∀j,j<l.length→cu (l.getD j 0)=true):¬dz l=true:=fun hb=>by
 obtain⟨x,hx,h2⟩:=List.any_eq_true.1 hb
 obtain⟨j,hj,rfl⟩:=List.getElem_of_mem hx
 have:=h j hj
 rw[List.getD_eq_getElem?_getD,List.getElem?_eq_getElem hj] at this
 have this:cu l[j]=true:=this
 rw[this] at h2
 cases h2
set_option maxRecDepth 100000 in
set_option maxHeartbeats 8000000 in
theorem wx (a:MA) (m:aD) (Ap:Option Addr) (cp:Nat) (fs:List aC) (w:World) (hs:Sl w (.slice Ap fs.length cp) fs) (hm:gk w.heap.size w a m) (hF:eS fs) (hfit:l6 m.frames) (E:Int) (hE:ed fs m=E) :
  Calls Tryz.prog 19 #[.agg #[.slice Ap fs.length cp],.agg #[.slice a.Af m.frames.length a.cf,.slice a.Ab m.blocks.length a.cb,.slice a.Ai m.inn.length a.ci,.slice a.Ao m.out.length a.co,.int .i64 m.status,.int .i64 m.trap]] w fun e w'=>e= .returned (.int .i64 E)∧Below w.heap.size w w':=by
 have bf:=bO hm.f
 have bp:=bO hs
 have bi:=bO hm.i
 have bo:=bO hm.o
 have hp1:=ox hF
 obtain⟨sb,hsb⟩:∃b,bL m.status 0 3=b:=⟨_,rfl⟩
 obtain⟨tb,htb⟩:∃b,bL m.trap (if m.status=3 then 1 else 0) (if m.status=3 then 5 else 0)=b:=⟨_,rfl⟩
 unfold ed at hE
 rw[hsb,htb] at hE
 refine enter Tryz.func19 rfl Tryz.ntmps19 rfl ?_
 refine ac<|aa<|ag (bF rfl rfl rfl) rfl rfl (fun g1 _=>?_)
 refine ag (bF rfl rfl rfl) rfl rfl (fun g2 _=>?_)
 refine rn 1 [2,3] rfl<|ae<|ac<|ac<|aa<|rn 1 [2,3,12] rfl<|af (ai fc ar rfl rfl (by rfl)) rfl rfl ?_
 refine ag (bK rfl rfl rfl gQ ((fun w hw=>fe ((fun w hw=>ek _ _ _ w) w hw)))) rfl rfl (fun _ _=>?_)
 refine rn 1 [2,3,15] rfl<|ae ?_
 rw[hsb]
 cases sb
 ·rw[if_pos rfl] at hE
  subst hE
  refine cP (t:=15) (v':= .bool true) rfl (rfl) ?_
  refine bR rfl<|ac<|aa<|rn 1 [4] rfl<|ae<|au (ak ?_)
  refine aA eJ (aq rfl) ?_
  intro w hw
  exact⟨rfl,hw.below⟩
 rw[if_neg (by decide)] at hE
 refine cP (t:=15) (v':= .bool false) rfl (rfl) ?_
 refine dg rfl<|ax (ap ?_)
 refine ac<|ac<|aa<|rn 1 [2,3,16] rfl<|af (ai fc ar rfl rfl (by rfl)) rfl rfl ?_
 refine rn 2 [2,3,19] rfl<|gU 15 rfl [(2,_),(3,_)] [(34,.bool (!tb))] ⟨rfl,rfl,trivial⟩ (fun K=>?_) ?_
 ·refine bw (t:=19) rfl (fun s3=>?_) (fun s3=>?_)
  ·have s3:=of_decide_eq_true s3
   rw[if_pos s3,if_pos s3] at htb
   refine rn 1 [2,3,19,20] rfl<|af (ai fc ar rfl rfl (by rfl)) rfl rfl ?_
   refine ag (bK rfl rfl rfl gQ ((fun w hw=>fe ((fun w hw=>ek _ _ _ w) w hw)))) rfl rfl (fun _ _=>?_)
   refine rn 3 [2,3,25] rfl ?_
   rw[htb]
   cases tb
   ·refine bA (t:=25) (v':= .bool true) rfl (rfl) ?_
    refine rn 9 [2,3,34] rfl<|bA (t:=34) (v':= .bool (!false)) rfl (rfl) ?_
    exact dL K ⟨rfl,rfl,rfl,trivial⟩
   refine bA (t:=25) (v':= .bool false) rfl (rfl) ?_
   refine rn 1 [2,3,25,26] rfl<|af (ai fc ar rfl rfl (by rfl)) rfl rfl ?_
   refine rn 2 [2,3,25,29] rfl<|bA (t:=29) (v':= .bool false) rfl (congrArg Value.bool (by rw[s3];rfl)) ?_
   refine rn 5 [2,3,34] rfl<|bA (t:=34) (v':= .bool (!true)) rfl (rfl) ?_
   exact dL K ⟨rfl,rfl,rfl,trivial⟩
  have s3:=of_decide_eq_false s3
  rw[if_neg s3,if_neg s3] at htb
  refine rn 7 [2,3,25,26] rfl<|af (ai fc ar rfl rfl (by rfl)) rfl rfl ?_
  refine rn 2 [2,3,25,29] rfl<|bA (t:=29) (v':= .bool true) rfl (congrArg Value.bool (by simp[s3])) ?_
  refine rn 1 [2,3,25,29,30] rfl<|af (ai fc ar rfl rfl (by rfl)) rfl rfl ?_
  refine rn 3 [2,3,34] rfl<|bA (t:=34) (v':= .bool (!tb)) rfl (congrArg Value.bool (by rw[←htb];unfold bL;by_cases h0:m.trap=0;rw[h0];rfl;rw[Bool.eq_iff_iff];simp[h0];omega)) ?_
  exact dL K ⟨rfl,rfl,rfl,trivial⟩
 refine ae ?_
 cases tb
 ·rw[if_pos rfl] at hE
  subst hE
  refine cP (t:=34) (v':= .bool true) rfl (rfl) ?_
  refine bR rfl<|ac<|aa<|rn 1 [4] rfl<|ae<|au (ak ?_)
  refine aA eJ (aq rfl) ?_
  intro w hw
  exact⟨rfl,hw.below⟩
 rw[if_neg (by decide)] at hE
 refine cP (t:=34) (v':= .bool false) rfl (rfl) ?_
 refine dg rfl<|ax (ap ?_)
 refine ac<|aa<|rn 1 [2,3,35] rfl<|af (ai fc ew rfl rfl (by rfl)) rfl rfl ?_
 refine ag (bK rfl rfl rfl Tryz.call69 ((fun w hw=>fe ((fun w hw=>pP _ m.blocks w (hw.ro hm.b)) w hw)))) rfl rfl (fun _ _=>?_)
 refine rn 1 [2,3,5] rfl<|ae<|ac<|ac<|aa<|rn 2 [2,3,5,39] rfl<|ae<|b9 rfl (fun hb=>?_) (fun hb=>?_)
 ·have hb:¬cK m.blocks=0:=hb
  rw[if_pos hb] at hE
  refine ac<|aa<|rn 2 [4] rfl<|ae<|au (ak ?_)
  refine aA eJ (aq rfl) ?_
  intro w hw
  exact⟨by rw[←hE],hw.below⟩
 have hb:cK m.blocks=0:=hb
 rw[if_neg (fun h=>h hb)] at hE
 refine ax (ap ?_)
 refine ac<|ac<|aa<|rn 1 [2,3,41] rfl<|af (ai fc a5 rfl rfl (by rfl)) rfl rfl ?_
 refine af (aN ah rfl rfl) rfl rfl<|rn 2 [2,3,45] rfl<|gU 5 rfl [(2,_),(3,_)] [(50,.bool (decide (10<m.inn.length∨10<m.out.length)))] ⟨rfl,rfl,trivial⟩ (fun K=>?_) ?_
 ·refine bw (t:=45) rfl (fun u1=>?_) (fun u1=>?_)
  ·have u1:=of_decide_eq_true u1
   refine rn 5 [2,3,50] rfl<|bA (t:=50) (v':= .bool (decide (10<m.inn.length∨10<m.out.length))) rfl (congrArg Value.bool (decide_eq_true (.inl (by omega))).symm) ?_
   exact dL K ⟨rfl,rfl,rfl,trivial⟩
  have u1:=of_decide_eq_false u1
  refine rn 1 [2,3,45,46] rfl<|af (ai fc a5 rfl rfl (by rfl)) rfl rfl ?_
  refine af (aN ah rfl rfl) rfl rfl<|rn 2 [2,3,50] rfl<|bA (t:=50) (v':= .bool (decide (10<m.inn.length∨10<m.out.length))) rfl (congrArg Value.bool (decide_eq_decide.2 (by omega))) ?_
  exact dL K ⟨rfl,rfl,rfl,trivial⟩
 refine ae<|aw rfl (fun h10=>?_) (fun h10=>?_)
 ·rw[if_pos h10] at hE
  subst hE
  refine ac<|aa<|rn 1 [4] rfl<|ae<|au (ak ?_)
  refine aA eJ (aq rfl) ?_
  intro w hw
  exact⟨rfl,hw.below⟩
 have h10:¬(10<m.inn.length∨10<m.out.length):=h10
 rw[if_neg h10] at hE
 have hal:(m.inn++m.out).length=m.inn.length+m.out.length:=List.length_append
 refine ax (ap ?_)
 refine dF (fun _:Option Addr×Nat=>True) (fun g=> [(2,.pointer (some ⟨g1,0,none⟩)),(3,.pointer (some ⟨g2,0,none⟩)),(6,.slice g.1 (m.inn++m.out).length g.2)]) (fun g=> [aj (.slice g.1 (m.inn++m.out).length g.2) (m.inn++m.out),am g2 [.slice a.Af m.frames.length a.cf,.slice a.Ab m.blocks.length a.cb,.slice a.Ai m.inn.length a.ci,.slice a.Ao m.out.length a.co,.int .i64 m.status,.int .i64 m.trap] 29,am g1 [.slice Ap fs.length cp] 24]) ?_ ?_
 ·refine bQ (.still 1 (.still 2 (.still 4 (.still 5 (.pick 0 (.pick 3 (.pick 6 (.calm 7 .done) .stop) .stop) .stop))))) [6,7] rfl (by kernel_rfl) (by kernel_rfl) ?_
  refine aV ha 1 [2,3,52] rfl<|an rfl (ai fc a5 rfl rfl (by rfl)) rfl rfl ha ?_
  refine aV ha 1 [2,3,53,55] rfl<|an rfl (ai fc a5 rfl rfl (by rfl)) rfl rfl ha ?_
  refine aB rfl ((bh (cs:= []) ah aI a7 rfl rfl rfl rfl rfl).mem (H'':=fun g=>aj (.slice (some ⟨g,0,none⟩) 0 0) ([]:List Int)::_) fun g w h=>cA (α:=Int) (m:=0) [] rfl (by simp) rfl (by decide) h) rfl rfl (.inr fun _=>ha) (fun ge _=>?_) ay
  refine aB rfl (dy (α:=Int) (bytes:=8) (xs:= []) (ys:=m.inn) (List.nil_append m.inn).symm ah (bM da) rfl fc (.ro hm.i) (by simp only[List.length_nil];omega) (by simp only[List.length_nil];omega) rfl rfl rfl) rfl rfl (.inr fun _=>ha) (fun⟨A5,c5⟩ _=>?_) ay
  try dsimp only
  refine aB rfl (dy (α:=Int) (bytes:=8) (xs:=m.inn) (ys:=m.out) rfl ah (bM da) rfl fc (.ro hm.o) (by omega) (by omega) rfl rfl rfl) rfl rfl (.inl rfl) (fun⟨A6,c6⟩ _=>?_) ay
  try dsimp only
  refine dZ 1 [2,3,6] rfl<|ck<|aY (A6,c6) (trivial) ⟨rfl,rfl,rfl,trivial⟩ (fun _ h=>h.msub ms)
 rintro⟨A6,c6⟩ _
 try dsimp only
 refine ac<|ac<|aa<|rn 1 [2,3,6,7] rfl<|ae<|aL (b8 (fun k:Nat=>k≤(m.inn++m.out).length∧∀j,j<k→cu ((m.inn++m.out).getD j 0)=true) (fun k=>(m.inn++m.out).length - k) (fun k=> [(2,.pointer (some ⟨g1,0,none⟩)),(3,.pointer (some ⟨g2,0,none⟩)),(6,.slice A6 (m.inn++m.out).length c6),(7,.int .i64 (k:Int))]) (fun _=> [aj (.slice A6 (m.inn++m.out).length c6) (m.inn++m.out),am g2 [.slice a.Af m.frames.length a.cf,.slice a.Ab m.blocks.length a.cb,.slice a.Ai m.inn.length a.ci,.slice a.Ao m.out.length a.co,.int .i64 m.status,.int .i64 m.trap] 29,am g1 [.slice Ap fs.length cp] 24]) 0 (⟨Nat.zero_le _,fun _ h=>absurd h (Nat.not_lt_zero _)⟩) ⟨rfl,rfl,rfl,rfl,trivial⟩ me ?_)
 rintro k hk'
 obtain⟨hk,hno⟩:k≤(m.inn++m.out).length∧∀j,j<k→cu ((m.inn++m.out).getD j 0)=true:=hk'
 refine ac<|ac<|aa<|rn 2 [2,3,6,7,58,59] rfl<|af (aN ah rfl rfl) rfl rfl<|rn 1 [2,3,6,7,61] rfl<|ae<|aw rfl (fun hlt=>?_) (fun hlt=>?_)
 ·have hkl:k<(m.inn++m.out).length:=by omega
  refine ax (ap ?_)
  refine ac<|aL<|ac<|aa<|rn 2 [2,3,6,7,64,65] rfl<|af (aO (k:=k) ah aI (SF.own rfl fc) (by omega) rfl rfl rfl) rfl rfl ?_
  refine af (a8 (SF.int (SF.own rfl fc) (by omega)) rfl rfl ar) rfl rfl ?_
  refine ag (bK rfl rfl rfl Gi ((fun w hw=>fe ((fun w hw=>jc _ w) w hw)))) rfl rfl (fun _ _=>?_)
  refine rn 1 [2,3,6,7,69] rfl<|ae<|cH rfl (fun hb2=>?_) (fun hb2=>?_)
  ·have hb2:cu ((m.inn++m.out).getD k 0)=false:=by simpa using hb2
   rw[if_pos (wc.1 (DO hkl hb2))] at hE
   subst hE
   refine ac<|aa<|rn 1 [4] rfl<|ae<|au (aG (ak (ak (aG (ak ?_)))))
   refine aA eJ (aq rfl) ?_
   intro w hw
   exact⟨rfl,hw.below⟩
  have hb2:cu ((m.inn++m.out).getD k 0)=true:=by simpa using hb2
  refine ax (aK (ap ?_))
  refine aa<|rn 1 [2,3,6,62] rfl<|af (bH rfl rfl rfl (by omega)) rfl rfl<|rn 1 [2,3,6,7] rfl<|br (k+1) (⟨by show k+1≤_;omega,fun j hj=>(Nat.lt_or_ge j k).elim (hno j) (fun h=>by obtain rfl:j=k:=(by omega);exact hb2)⟩) (by show _ - _<_ - _;omega) ⟨rfl,rfl,rfl,rfl,trivial⟩ me
 obtain rfl:k=(m.inn++m.out).length:=by omega
 rw[if_neg (fun h=>DN hno (wc.2 h))] at hE
 obtain⟨FE,hFE⟩:∃e,jg fs m=e:=⟨_,rfl⟩
 rw[hFE] at hE
 unfold jg at hFE
 have hbadE:FE≠0→E=FE:=fun h=>by rw[if_pos h] at hE;exact hE.symm
 refine bN (aM (aM (cc (ap ?_))))
 refine ac<|aa<|rn 1 [2,3,70] rfl<|af (ai fc cd rfl rfl (by rfl)) rfl rfl ?_
 refine af (aN a6 rfl rfl) rfl rfl<|rn 1 [2,3,8] rfl<|ae<|ac<|ac<|aa<|rn 2 [2,3,8,74] rfl<|ae<|aw rfl (fun h6=>?_) (fun h6=>?_)
 ·rw[if_pos (by omega)] at hFE
  subst hFE
  refine ac<|aa<|rn 1 [4] rfl<|ae<|au (ak ?_)
  refine aA eJ (aq rfl) ?_
  intro w hw
  exact⟨by rw[hbadE (by decide)],hw.below⟩
 have h6:¬6<m.frames.length:=by omega
 rw[if_neg h6] at hFE
 refine ax (ap ?_)
 refine ac<|ac<|aa<|rn 3 [2,3,8,77] rfl<|gU 4 rfl [(2,_),(3,_),(8,_)] [(81,.bool (decide (m.frames.length=0∧m.status≠2)))] ⟨rfl,rfl,rfl,trivial⟩ (fun K=>?_) ?_
 ·refine bw (t:=77) rfl (fun v1=>?_) (fun v1=>?_)
  ·have v1:=of_decide_eq_true v1
   refine rn 1 [2,3,8,77,78] rfl<|af (ai fc ar rfl rfl (by rfl)) rfl rfl ?_
   refine rn 2 [2,3,8,81] rfl<|bA (t:=81) (v':= .bool (decide (m.frames.length=0∧m.status≠2))) rfl (congrArg Value.bool (by rw[←decide_not];exact decide_eq_decide.2 ⟨fun h=>⟨by omega,h⟩,fun h=>h.2⟩)) ?_
   exact dL K ⟨rfl,rfl,rfl,rfl,trivial⟩
  have v1:=of_decide_eq_false v1
  refine rn 4 [2,3,8,81] rfl<|bA (t:=81) (v':= .bool (decide (m.frames.length=0∧m.status≠2))) rfl (congrArg Value.bool (decide_eq_false (by omega)).symm) ?_
  exact dL K ⟨rfl,rfl,rfl,rfl,trivial⟩
 refine ae<|aw rfl (fun v2=>?_) (fun v2=>?_)
 ·rw[if_pos v2] at hFE
  subst hFE
  refine ac<|aa<|rn 1 [4] rfl<|ae<|au (ak ?_)
  refine aA eJ (aq rfl) ?_
  intro w hw
  exact⟨by rw[hbadE (by decide)],hw.below⟩
 rw[if_neg v2] at hFE
 refine ax (ap ?_)
 refine ac<|ac<|aa<|rn 3 [2,3,8,84] rfl<|gU 4 rfl [(2,_),(3,_),(8,_)] [(88,.bool (decide (0<m.frames.length∧m.status=2)))] ⟨rfl,rfl,rfl,trivial⟩ (fun K=>?_) ?_
 ·refine bw (t:=84) rfl (fun v3=>?_) (fun v3=>?_)
  ·have v3:=of_decide_eq_true v3
   refine rn 1 [2,3,8,84,85] rfl<|af (ai fc ar rfl rfl (by rfl)) rfl rfl ?_
   refine rn 2 [2,3,8,88] rfl<|bA (t:=88) (v':= .bool (decide (0<m.frames.length∧m.status=2))) rfl (congrArg Value.bool (decide_eq_decide.2 (by omega))) ?_
   exact dL K ⟨rfl,rfl,rfl,rfl,trivial⟩
  have v3:=of_decide_eq_false v3
  refine rn 4 [2,3,8,88] rfl<|bA (t:=88) (v':= .bool (decide (0<m.frames.length∧m.status=2))) rfl (congrArg Value.bool (decide_eq_false (by omega)).symm) ?_
  exact dL K ⟨rfl,rfl,rfl,rfl,trivial⟩
 refine ae<|aw rfl (fun v4=>?_) (fun v4=>?_)
 ·rw[if_pos v4] at hFE
  subst hFE
  refine ac<|aa<|rn 1 [4] rfl<|ae<|au (ak ?_)
  refine aA eJ (aq rfl) ?_
  intro w hw
  exact⟨by rw[hbadE (by decide)],hw.below⟩
 rw[if_neg v4] at hFE
 refine ax (ap ?_)
 refine ac<|ac<|aa<|rn 1 [2,3,8,9] rfl<|ae<|aL (b8 (fun k:Nat=>k≤m.frames.length∧∀j,j<k→bL (bg m.frames j).func 0 ((fs.length:Int) - 1)=true) (fun k=>m.frames.length - k) (fun k=> [(2,.pointer (some ⟨g1,0,none⟩)),(3,.pointer (some ⟨g2,0,none⟩)),(8,.int .i64 (m.frames.length:Int)),(9,.int .i64 (k:Int))]) (fun _=> [am g2 [.slice a.Af m.frames.length a.cf,.slice a.Ab m.blocks.length a.cb,.slice a.Ai m.inn.length a.ci,.slice a.Ao m.out.length a.co,.int .i64 m.status,.int .i64 m.trap] 29,am g1 [.slice Ap fs.length cp] 24]) 0 (⟨Nat.zero_le _,fun _ h=>absurd h (Nat.not_lt_zero _)⟩) ⟨rfl,rfl,rfl,rfl,trivial⟩ me ?_)
 rintro k hk'
 obtain⟨hk,hno2⟩:k≤m.frames.length∧∀j,j<k→bL (bg m.frames j).func 0 ((fs.length:Int) - 1)=true:=hk'
 refine ac<|ac<|aa<|rn 3 [2,3,8,9,91] rfl<|ae<|aw rfl (fun hlt=>?_) (fun hlt=>?_)
 ·have hkl:k<m.frames.length:=by omega
  obtain⟨A1,c1,A2,c2,hl,hst,hI,hcell⟩:=hm.f.fr hkl
  refine ax (ap ?_)
  refine ac<|aL<|ac<|bQ (.still 0 (.still 1 (.still 2 (.still 3 (.still 4 (.still 5 (.still 6 (.still 7 (.still 8 (.still 9 (.pick 10 (.still 11 .done) .stop))))))))))) [] rfl (by kernel_rfl) (by kernel_rfl) ?_
  refine aV ha 1 [2,3,8,9,94] rfl<|an rfl (ai fc cd rfl rfl (by rfl)) rfl rfl ha ?_
  refine aV ha 1 [2,3,8,9,95,96] rfl<|an rfl (aO (k:=k) a6 bG (.ro hm.f) (by omega) rfl rfl rfl) rfl rfl ha ?_
  refine aV ha 1 [2,3,8,9,98] rfl<|an rfl (a8 (fun w hw=>hcell _ w hw 0 _ rfl) rfl rfl ar) rfl rfl ha ?_
  refine aV ha 1 [2,3,8,9,99,100] rfl<|an rfl (ai fc cQ rfl rfl (by rfl)) rfl rfl ha ?_
  refine an rfl (aN bI rfl rfl) rfl rfl ha ?_
  refine an rfl (bx rfl rfl rfl (by omega)) rfl rfl ha ?_
  refine aB rfl (bK rfl rfl rfl gQ ((fun w hw=>fe ((fun w hw=>ek _ _ _ w) w hw)))) rfl rfl (.inr fun _=>ha) (fun _ _=>?_) ay
  refine aV ha 1 [2,3,8,9,105] rfl<|cJ<|cH rfl (fun hb2=>?_) (fun hb2=>?_)
  ·have hb2:bL (bg m.frames k).func 0 ((fs.length:Int) - 1)=false:=by simpa using hb2
   rw[if_pos (yT hkl hb2)] at hFE
   subst hFE
   refine ac<|aa<|rn 1 [4] rfl<|ae<|au (aG (ak (ak (aG (ak ?_)))))
   refine aA eJ (aq rfl) ?_
   intro w hw
   exact⟨by rw[hbadE (by decide)],hw.below⟩
  have hb2:bL (bg m.frames k).func 0 ((fs.length:Int) - 1)=true:=by simpa using hb2
  refine ax (aK (ap ?_))
  refine aa<|rn 1 [2,3,8,92] rfl<|af (bH rfl rfl rfl (by omega)) rfl rfl<|rn 1 [2,3,8,9] rfl<|br (k+1) (⟨by show k+1≤_;omega,fun j hj=>(Nat.lt_or_ge j k).elim (hno2 j) (fun h=>by obtain rfl:j=k:=(by omega);exact hb2)⟩) (by show _ - _<_ - _;omega) ⟨rfl,rfl,rfl,rfl,trivial⟩ me
 obtain rfl:k=m.frames.length:=by omega
 obtain⟨hany,hfn⟩:=vT hno2
 rw[if_neg hany] at hFE
 refine bN (aM (aM (cc (ap ?_))))
 refine ac<|ac<|aa<|rn 3 [2,3,8,108] rfl<|gU 7 rfl [(2,_),(3,_),(8,_)] [(115,.bool (decide (0<m.frames.length∧(bg m.frames 0).func≠0)))] ⟨rfl,rfl,rfl,trivial⟩ (fun K=>?_) ?_
 ·refine bw (t:=108) rfl (fun w1=>?_) (fun w1=>?_)
  ·have w1:=of_decide_eq_true w1
   obtain⟨A1,c1,A2,c2,hl,hst,hI,hcell⟩:=hm.f.fr (k:=0) (by omega)
   refine rn 1 [2,3,8,108,109] rfl<|af (ai fc cd rfl rfl (by rfl)) rfl rfl ?_
   refine af (aO (k:=0) a6 bG (.ro hm.f) (by omega) rfl rfl rfl) rfl rfl<|rn 1 [2,3,8,108,112] rfl<|af (a8 (fun w hw=>hcell _ w hw 0 _ rfl) rfl rfl ar) rfl rfl ?_
   refine rn 2 [2,3,8,115] rfl<|bA (t:=115) (v':= .bool (decide (0<m.frames.length∧(bg m.frames 0).func≠0))) rfl (congrArg Value.bool (by rw[←decide_not];exact decide_eq_decide.2 ⟨fun h=>⟨by omega,h⟩,fun h=>h.2⟩)) ?_
   exact dL K ⟨rfl,rfl,rfl,rfl,trivial⟩
  have w1:=of_decide_eq_false w1
  refine rn 7 [2,3,8,115] rfl<|bA (t:=115) (v':= .bool (decide (0<m.frames.length∧(bg m.frames 0).func≠0))) rfl (congrArg Value.bool (decide_eq_false (fun h=>by omega)).symm) ?_
  exact dL K ⟨rfl,rfl,rfl,rfl,trivial⟩
 refine ae<|aw rfl (fun w2=>?_) (fun w2=>?_)
 ·rw[if_pos w2] at hFE
  subst hFE
  refine ac<|aa<|rn 1 [4] rfl<|ae<|au (ak ?_)
  refine aA eJ (aq rfl) ?_
  intro w hw
  exact⟨by rw[hbadE (by decide)],hw.below⟩
 rw[if_neg w2] at hFE
 refine ax (ap ?_)
 refine ac<|ac<|aa<|rn 1 [2,3,8,10] rfl<|ae<|aL (b8 (fun k:Nat=>k≤m.frames.length∧dw (eG fs m.blocks.length m.frames) ((List.range m.frames.length).take k)=0) (fun k=>m.frames.length - k) (fun k=> [(2,.pointer (some ⟨g1,0,none⟩)),(3,.pointer (some ⟨g2,0,none⟩)),(8,.int .i64 (m.frames.length:Int)),(10,.int .i64 (k:Int))]) (fun _=> [am g2 [.slice a.Af m.frames.length a.cf,.slice a.Ab m.blocks.length a.cb,.slice a.Ai m.inn.length a.ci,.slice a.Ao m.out.length a.co,.int .i64 m.status,.int .i64 m.trap] 29,am g1 [.slice Ap fs.length cp] 24]) 0 (⟨Nat.zero_le _,rfl⟩) ⟨rfl,rfl,rfl,rfl,trivial⟩ me ?_)
 rintro k hk'
 obtain⟨hk,hno3⟩:k≤m.frames.length∧dw (eG fs m.blocks.length m.frames) ((List.range m.frames.length).take k)=0:=hk'
 refine ac<|ac<|aa<|rn 3 [2,3,8,10,118] rfl<|ae<|aw rfl (fun hlt=>?_) (fun hlt=>?_)
 ·have hkl:k<m.frames.length:=by omega
  have hsn:=fM (g:=eG fs m.blocks.length m.frames) (l:=List.range m.frames.length) 0 (by rw[List.length_range];exact hkl) hno3
  rw[jY hkl] at hsn
  refine ax (ap ?_)
  refine ac<|aL<|ac<|aa<|af (aQ (vs:= [_]) fc cE cg rfl rfl (by rfl) rfl) rfl rfl ?_
  refine af (aQ (vs:= [_,_,_,_,_,_]) fc bd aF rfl rfl (by rfl) rfl) rfl rfl ?_
  refine rn 1 [2,3,8,10,121,122,123] rfl<|ag (bK rfl rfl rfl Tryz.call70 (fun w hw=>wB a m Ap cp fs k w (hw.ro hs) (gk.ro hw hm) hF hfit hkl hfn _ rfl)) rfl rfl (fun _ _=>?_)
  refine rn 1 [2,3,8,10,11] rfl<|ae<|ac<|aa<|rn 2 [2,3,8,10,11,126] rfl<|ae<|b9 rfl (fun he=>?_) (fun he=>?_)
  ·have he:eG fs m.blocks.length m.frames k≠0:=he
   rw[iX (k:=k+1) (by rw[hsn];exact he),hsn] at hFE
   rw[hFE] at he
   refine ac<|aa<|rn 2 [4] rfl<|ae<|au (aG (ak (ak (aG (ak ?_)))))
   refine aA eJ (aq rfl) ?_
   intro w hw
   exact⟨by rw[hbadE he,←hFE],hw.below⟩
  have he:eG fs m.blocks.length m.frames k=0:=he
  rw[he] at hsn
  refine ax (aK (ap ?_))
  refine aa<|rn 1 [2,3,8,119] rfl<|af (bH rfl rfl rfl (by omega)) rfl rfl<|rn 1 [2,3,8,10] rfl<|br (k+1) (⟨by show k+1≤_;omega,hsn⟩) (by show _ - _<_ - _;omega) ⟨rfl,rfl,rfl,rfl,trivial⟩ me
 obtain rfl:k=m.frames.length:=by omega
 rw[List.take_of_length_le (by rw[List.length_range];exact Nat.le_refl _)] at hno3
 rw[hno3] at hFE
 subst hFE
 rw[if_neg (fun h=>h rfl)] at hE
 refine bN (aM (aM (cc (ap ?_))))
 refine ac<|ac<|bQ (.still 0 (.still 1 (.still 2 (.still 3 (.still 4 (.still 5 (.still 6 (.still 7 (.still 8 (.still 9 (.still 10 (.still 11 (.still 12 (.still 13 (.still 14 (.still 15 (.still 16 (.still 17 (.still 18 (.still 19 (.still 20 (.still 21 (.still 22 (.still 23 (.still 24 (.still 25 (.still 26 (.still 27 (.still 28 (.still 29 (.still 30 (.still 31 (.still 32 (.still 33 .done)))))))))))))))))))))))))))))))))) [] rfl (by kernel_rfl) (by kernel_rfl) ?_
 refine aV ha 1 [2,3,8,128] rfl<|an rfl (ai fc ar rfl rfl (by rfl)) rfl rfl ha ?_
 refine aV ha 2 [2,3,8,131] rfl ?_
 by_cases s1:m.status=1
 ·rw[if_neg (fun h=>h s1)] at hE
  refine dh (t:=131) (v':= .bool true) rfl (congrArg Value.bool (by rw[s1];rfl)) ?_
  refine aV ha 1 [2,3,8,131,132] rfl<|an rfl (ai fc a5 rfl rfl (by rfl)) rfl rfl ha ?_
  refine an rfl (aN ah rfl rfl) rfl rfl ha ?_
  refine aV ha 2 [2,3,8,131,136] rfl ?_
  by_cases i0:0<m.inn.length
  ·rw[if_pos (.inl i0)] at hE
   subst hE
   refine dh (t:=136) (v':= .bool true) rfl (congrArg Value.bool (decide_eq_true (by omega))) ?_
   refine aV ha 25 [161] rfl<|cJ<|bR rfl<|ac<|aa<|rn 1 [4] rfl<|ae<|au (ak ?_)
   refine aA eJ (aq rfl) ?_
   intro w hw
   exact⟨rfl,hw.below⟩
  have hne:m.frames≠[]:=fun e=>v2 ⟨by rw[e];rfl,by omega⟩
  obtain⟨li,x,e⟩:∃li x,m.frames=li++ [x]:=by
   rcases List.eq_nil_or_concat m.frames with h1 | ⟨l,z,h1⟩
   ·exact absurd h1 hne
   exact⟨l,z,by rw[h1];simp⟩
  obtain⟨hx,hkk,hop⟩:=sT (fs:=fs) e
  obtain⟨k,hkl⟩:∃k,li.length=k:=⟨_,rfl⟩
  rw[hkl] at hx hkk
  have hfr:=nK.1 (j4 hno3 k (List.mem_range.2 (by omega)))
  have hfx:=hfn x (by rw[e];simp)
  rw[e,←hkl] at hfr
  obtain⟨_,hloc,t,he,hts⟩:=(mO hfx).1 hfr
  obtain⟨hp0,hp1',_⟩:=(hF.e x.func.toNat (by omega)).at_ _ _ he
  obtain⟨A1,c1,A2,c2,h1,h2,hi,hc⟩:=hm.f.fr (k:=k) (by omega)
  rw[hx] at h1 h2 hi hc
  obtain⟨kf,hkf⟩:∃kf:Nat,x.func=kf:=⟨x.func.toNat,by omega⟩
  obtain⟨kp,hkp⟩:∃kp:Nat,x.pc=kp:=⟨x.pc.toNat,by omega⟩
  rw[hkf,Int.toNat_natCast] at hp1' hop
  rw[hkp,Int.toNat_natCast] at hop
  rw[hkp] at hp1'
  have hkfl:kf<fs.length:=by omega
  have hkpl:kp<(av fs kf).code.length:=by omega
  obtain⟨F1,d1,F2,d2,hfl,hfc,hfi,hfcell⟩:=hs.fn hkfl
  have bc:=bO hfc
  rw[hop] at hE
  refine dh (t:=136) (v':= .bool false) rfl (congrArg Value.bool (decide_eq_false (by omega))) ?_
  refine aV ha 1 [3,8,131,136,137] rfl<|an rfl (ai fc cQ rfl rfl (by rfl)) rfl rfl ha ?_
  refine aV ha 1 [3,8,131,136,138,139] rfl<|an rfl (ai fc cd rfl rfl (by rfl)) rfl rfl ha ?_
  refine aV ha 1 [3,8,131,136,138,140,141] rfl<|an rfl (bx rfl rfl rfl (by omega)) rfl rfl ha ?_
  refine dh (t:=142) (v':= .int .i64 (k:Int)) rfl (congrArg (Value.int .i64) (by omega)) ?_
  refine an rfl (aO (k:=k) a6 bG (.ro hm.f) (by omega) rfl rfl rfl) rfl rfl ha ?_
  refine aV ha 1 [3,8,131,136,138,144] rfl<|an rfl (a8 (fun w hw=>hc _ w hw 0 _ rfl) rfl rfl ar) rfl rfl ha ?_
  refine dh (t:=145) (v':= .int .i64 (kf:Int)) rfl (congrArg (Value.int .i64) hkf) ?_
  refine an rfl (aO (k:=kf) bI bq (.ro hs) (by omega) rfl rfl rfl) rfl rfl ha ?_
  refine aV ha 1 [3,8,131,136,147] rfl<|an rfl (a8 (fun w hw=>hfcell _ w hw 3 _ rfl) rfl rfl dE) rfl rfl ha ?_
  refine aV ha 1 [8,131,136,148,149] rfl<|an rfl (ai fc cd rfl rfl (by rfl)) rfl rfl ha ?_
  refine aV ha 1 [131,136,148,150,151] rfl<|an rfl (bx rfl rfl rfl (by omega)) rfl rfl ha ?_
  refine dh (t:=152) (v':= .int .i64 (k:Int)) rfl (congrArg (Value.int .i64) (by omega)) ?_
  refine an rfl (aO (k:=k) a6 bG (.ro hm.f) (by omega) rfl rfl rfl) rfl rfl ha ?_
  refine aV ha 1 [131,136,148,154] rfl<|an rfl (a8 (fun w hw=>hc _ w hw 1 _ rfl) rfl rfl ar) rfl rfl ha ?_
  refine dh (t:=155) (v':= .int .i64 (kp:Int)) rfl (congrArg (Value.int .i64) hkp) ?_
  refine an rfl (aO (k:=kp) bz cG (.ro hfc) (by omega) rfl rfl rfl) rfl rfl ha ?_
  refine aV ha 1 [131,136,157] rfl<|an rfl (a8 (SF.opc (.ro hfc) hkpl) rfl rfl ar) rfl rfl ha ?_
  refine aV ha 3 [161] rfl<|cJ<|b9 rfl (fun c21=>?_) (fun c21=>?_)
  ·rw[if_pos (.inr c21)] at hE
   subst hE
   refine ac<|aa<|rn 1 [4] rfl<|ae<|au (ak ?_)
   refine aA eJ (aq rfl) ?_
   intro w hw
   exact⟨rfl,hw.below⟩
  have c21:(bB (av fs kf).code kp).c=21:=c21
  rw[if_neg (fun h=>h.elim i0 (fun h=>h c21))] at hE
  subst hE
  refine ax (ap ?_)
  refine ac<|aa<|rn 1 [4] rfl<|ae<|au<|aA eJ (aq rfl) ?_
  intro w hw
  exact⟨rfl,hw.below⟩
 rw[if_pos s1] at hE
 subst hE
 refine dh (t:=131) (v':= .bool false) rfl (congrArg Value.bool (decide_eq_false s1)) ?_
 refine aV ha 30 [161] rfl<|cJ<|dg rfl<|ax (ap ?_)
 refine ac<|aa<|rn 1 [4] rfl<|ae<|au<|aA eJ (aq rfl) ?_
 intro w hw
 exact⟨rfl,hw.below⟩
end
end Go.Proofs.YtpacloheigifkaaGreat
