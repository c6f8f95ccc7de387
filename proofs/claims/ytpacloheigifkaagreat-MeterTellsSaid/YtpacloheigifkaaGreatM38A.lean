/- Texts of one proof, one behind the other: lemmas alone. -/
import Derived.Test.YtpacloheigifkaaGreatM0A
import Derived.Deep.QuietTactic
import Derived.BigQuiet
import Derived.Test.YtpacloheigifkaaGreatM35A
import Derived.Test.YtpacloheigifkaaGreatM22A
import Derived.Test.YtpacloheigifkaaGreatM32A
import Derived.Test.YtpacloheigifkaaGreatM17A
import Derived.Test.YtpacloheigifkaaGreatM23A
import Derived.Test.YtpacloheigifkaaGreatM34A
import Derived.Test.YtpacloheigifkaaGreatM25A

namespace Go.Proofs.YtpacloheigifkaaGreat
open Go.RowKit
section
set_option maxRecDepth 100000 in
theorem i6 (n a b:Int) (w:World):Calls Tryz.prog 139 #[.int .i64 n,.int .i64 a,.int .i64 b] w fun e w'=>e= .returned (.bool (bE n a b))∧Below w.heap.size w w':=by
 refine enter Tryz.func139 rfl Tryz.ntmps139 rfl ?_
 refine ac<|aa<|rn 1 [0,1,2] rfl<|ae<|ac<|aa<|rn 4 [0,2,10] rfl<|bK (t:=10) rfl (fun h1=>?_) (fun h1=>?_)
 ·refine rn 5 [6] rfl<|ae<|av<|aB Tryz.results139 (ap rfl) ?_
  intro w hw
  exact⟨bz (by unfold bE;rw[h1];rfl),hw.below⟩
 refine rn 5 [6] rfl<|ae<|av<|aB Tryz.results139 (ap rfl) ?_
 intro w hw
 exact⟨bz (by unfold bE;rw[h1];rfl),hw.below⟩
set_option maxRecDepth 100000 in
theorem xh (n:Nat) (hn:n*16≤140737488355328) (w:World):Calls Tryz.prog 228 #[.slice none 0 0,.int .i64 (n:Int)] w fun e w'=> ∃g:Option Addr×Nat,True∧e= .returned (.slice g.1 0 g.2)∧Cw w.heap.size w [ak (α:=aM) (.slice g.1 0 g.2) []] w':=by
 refine enter Tryz.func228 rfl Tryz.ntmps228 rfl ?_
 refine ac<|aa<|rn 1 [0,1] rfl<|ae<|ac<|ac<|aa<|rn 2 [0,1,6] rfl<|ae<|ay rfl (fun h0=>?_) (fun h0=>?_)
 ·exact absurd h0 (by omega)
 refine az (au ?_)
 refine ac<|ac<|aa<|rn 2 [0,8,9] rfl<|af (wL aw rfl rfl) rfl rfl<|rn 1 [0,8,10,11] rfl<|af (aS aw rfl rfl) rfl rfl<|af (bt rfl rfl rfl (by omega)) rfl rfl<|af (bt rfl rfl rfl (by omega)) rfl rfl<|rn 1 [0,1] rfl<|ae<|ac<|aa<|rn 2 [0,1,16] rfl<|ae<|cJ (t:=1) (v':= .int .i64 (n:Int)) rfl (by congr 1) ?_
 refine ay rfl (fun h1=>?_) (fun h1=>?_)
 ·refine aa<|rn 2 [0,1,17,18] rfl<|af (wL aw rfl rfl) rfl rfl<|af (ff (k:=0) aw aD (Nat.le_refl _) rfl rfl rfl) rfl rfl<|rn 1 [0,20,21] rfl<|ag (Ag (α:=aM) (bytes:=16) aw Tryz.underlying3 cZ rfl (by decide) (by omega) (by omega) rfl rfl rfl) rfl rfl (fun⟨g,c⟩ _=>?_)
  try dsimp only
  refine rn 1 [22,23] rfl<|af (aS aw rfl rfl) rfl rfl<|af (ff (k:=0) aw aD (Nat.zero_le _) rfl rfl rfl) rfl rfl<|rn 1 [0] rfl<|ae<|ac<|aa<|rn 2 [4] rfl<|ae<|av<|aB Tryz.results228 (ap rfl) ?_
  intro w hw
  exact⟨(some ⟨g,0,none⟩,c),trivial,rfl,hw⟩
 refine az (au ?_)
 refine ac<|aa<|rn 2 [4] rfl<|ae<|av<|aB Tryz.results228 (ap rfl) ?_
 intro w hw
 exact⟨(none,0),trivial,rfl,Cw.nilO aM hw⟩
theorem Ci (v:aM) (t:Int):ey v t=((v.ref == !decide (t=1)) && ((!decide (t=3)) || decide (v.n=0))):=by
 unfold ey
 cases v.ref <;> by_cases h1:t=1 <;> simp[h1]
set_option maxRecDepth 100000 in
theorem uC (v:aM) (t:Int) (w:World):Calls Tryz.prog 215 #[.agg #[.bool v.ref,.int .i64 v.n],.int .i64 t] w fun e w'=>e= .returned (.bool (ey v t))∧Below w.heap.size w w':=by
 have ha:=Ci v t
 generalize hq:ey v t=q at ha
 refine enter Tryz.func215 rfl Tryz.ntmps215 rfl ?_
 refine ac<|aa<|ag (bH rfl rfl rfl) rfl rfl (fun g1 _=>?_)
 refine rn 1 [1,2] rfl<|ae<|ac<|aa<|rn 1 [1,2,5] rfl<|af (ai fc fi rfl rfl (by rfl)) rfl rfl ?_
 refine rn 2 [1,2,6,8] rfl<|af (Bz Tryz.underlying4 rfl rfl rfl) rfl rfl<|rn 1 [1,2,10] rfl<|bK (t:=10) rfl (fun h1=>?_) (fun h1=>?_)
 ·rw[h1,Bool.true_and] at ha
  refine rn 3 [2,10,13] rfl<|bK (t:=13) rfl (fun h2=>?_) (fun h2=>?_)
  ·rw[h2,Bool.true_or] at ha
   refine rn 6 [4] rfl<|ae<|av<|aB Co (ap rfl) ?_
   intro w hw
   exact⟨bz ha.symm,hw.below⟩
  rw[h2,Bool.false_or] at ha
  refine rn 1 [10,13,14] rfl<|af (ai fc aq rfl rfl (by rfl)) rfl rfl ?_
  refine rn 4 [4] rfl<|ae<|av<|aB Co (ap rfl) ?_
  intro w hw
  exact⟨bz ha.symm,hw.below⟩
 rw[h1,Bool.false_and] at ha
 refine rn 9 [4] rfl<|ae<|av<|aB Co (ap rfl) ?_
 intro w hw
 exact⟨bz ha.symm,hw.below⟩
def El (a:MA) (m:aO) (pv:Value):List Value:= [.slice a.Af m.frames.length a.cf,.slice a.Ab m.blocks.length a.cb,.slice a.Ai m.inn.length a.ci,.slice a.Ao m.out.length a.co,.int .i64 m.status,.int .i64 m.trap,pv]
section
variable {B:Nat} {w0:World} {H:List bj}
set_option maxRecDepth 100000 in
set_option maxHeartbeats 1000000 in
theorem vL (gc:Nat) (a:MA) (m:aO) (pv:Value) (v:aM) (w:World) (hw:Cw B w0 (am gc [.slice a.Af m.frames.length a.cf,.slice a.Ab m.blocks.length a.cb,.slice a.Ai m.inn.length a.ci,.slice a.Ao m.out.length a.co,.int .i64 m.status,.int .i64 m.trap,pv] 147::H) w) :
  Calls Tryz.prog 214 #[.pointer (some ⟨gc,0,none⟩),.agg #[.bool v.ref,.int .i64 v.n]] w fun e w'=> ∃_:Unit,True∧e= .returned (.int .i64 (if ea m.blocks.length v=true then 0 else 3))∧Cw B w0 (am gc [.slice a.Af m.frames.length a.cf,.slice a.Ab m.blocks.length a.cb,.slice a.Ai m.inn.length a.ci,.slice a.Ao m.out.length a.co,.int .i64 m.status,.int .i64 m.trap,pv] 147::H) w':=by
 obtain⟨q,hq⟩:∃q,ea m.blocks.length v=q:=⟨_,rfl⟩
 rw[hq]
 obtain⟨r,z⟩:=v
 refine cY Tryz.func214 rfl Tryz.ntmps214 rfl hw ?_
 refine ac<|aa<|ag (bH rfl rfl rfl) rfl rfl (fun g1 _=>?_)
 refine rn 1 [0,3] rfl<|ae<|ac<|ac<|bN (.still 0 (.still 1 (.still 2 (.still 3 (.still 4 (.still 5 (.still 6 (.still 7 (.still 8 (.still 9 (.still 10 (.pick 11 (.still 12 (.still 13 (.still 14 (.still 15 (.still 16 (.still 17 (.still 18 (.still 19 (.still 20 (.pick 21 (.still 22 (.still 23 (.still 24 .done))) .stop)))))))))) .stop)))))))))))) [] rfl (by kernel_rfl) (by kernel_rfl) ?_
 refine aW ha 1 [0,3,5] rfl<|an rfl (ai fc fi rfl rfl (by rfl)) rfl rfl ha ?_
 refine aW ha 1 [0,3,7] rfl<|ld (t:=7) rfl (fun hr=>?_) (fun hr=>?_)
 ·have hq2:bE z 0 m.blocks.length=q:=by rw[←hq];unfold ea;rw[if_pos hr]
  refine aW ha 1 [0,3,7,8] rfl<|an rfl (ai fc aq rfl rfl (by rfl)) rfl rfl ha ?_
  refine aW ha 4 [3,7,9,13] rfl<|an rfl (ai fc ed rfl rfl (by rfl)) rfl rfl ha ?_
  refine an rfl (aS b9 rfl rfl) rfl rfl ha ?_
  refine aC rfl (br rfl rfl rfl tC (fun w hw=>i6 z 0 m.blocks.length w)) rfl rfl (.inr fun _=>ha) (fun _ _=>?_) ax
  refine aW ha 3 [3,19] rfl ?_
  rw[hq2]
  refine ld (t:=19) rfl (fun hb=>?_) (fun hb=>?_)
  ·have hq3:q=false:=by simpa using hb
   subst hq3
   refine aW ha 6 [19,23,25] rfl<|jV rfl rfl rfl (.inr ha) ?_ ax
   refine aW ha 3 [29] rfl<|cA<|bA rfl<|ac<|aa<|rn 1 [4] rfl<|ae<|av (aj ?_)
   refine aB tk (ap rfl) ?_
   intro w hw
   exact⟨(),trivial,rfl,hw.msub ms⟩
  have hq3:q=true:=by simpa using hb
  subst hq3
  refine aW ha 1 [3,19,20] rfl<|an rfl (ai fc fi rfl rfl (by rfl)) rfl rfl ha ?_
  refine aW ha 2 [3,19,23] rfl<|ld (t:=23) rfl (fun h3=>?_) (fun h3=>?_)
  ·rw[hr] at h3
   cases h3
  refine aW ha 2 [19,23,25] rfl<|jV rfl rfl rfl (.inr ha) ?_ ax
  refine aW ha 3 [29] rfl<|cA<|dd rfl<|az (au ?_)
  refine ac<|aa<|rn 1 [4] rfl<|ae<|av<|aB tk (ap rfl) ?_
  intro w hw
  exact⟨(),trivial,rfl,hw.msub ms⟩
 have hq2:cH z=q:=by rw[←hq];unfold ea;rw[if_neg (by rw[hr];decide)]
 refine aW ha 8 [3,7,9,15] rfl<|jV rfl rfl rfl (.inr ha) ?_ ax
 refine aW ha 4 [3,19,20] rfl<|an rfl (ai fc fi rfl rfl (by rfl)) rfl rfl ha ?_
 refine aW ha 2 [3,19,23] rfl<|ld (t:=23) rfl (fun h2=>?_) (fun h2=>?_)
 ·refine aW ha 1 [19,23,24] rfl<|an rfl (ai fc aq rfl rfl (by rfl)) rfl rfl ha ?_
  refine aC rfl (br rfl rfl rfl Tryz.call93 ((fun w hw=>fj ((fun w hw=>n8 z w) w hw)))) rfl rfl (.inr fun _=>ha) (fun _ _=>?_) ax
  refine aW ha 3 [29] rfl<|cA ?_
  rw[hq2]
  refine cB rfl (fun h4=>?_) (fun h4=>?_)
  ·have hq3:q=false:=by simpa using h4
   subst hq3
   refine ac<|aa<|rn 1 [4] rfl<|ae<|av (aj ?_)
   refine aB tk (ap rfl) ?_
   intro w hw
   exact⟨(),trivial,rfl,hw.msub ms⟩
  have hq3:q=true:=by simpa using h4
  subst hq3
  refine az (au ?_)
  refine ac<|aa<|rn 1 [4] rfl<|ae<|av<|aB tk (ap rfl) ?_
  intro w hw
  exact⟨(),trivial,rfl,hw.msub ms⟩
 rw[hr] at h2
 cases h2
end
end
section
def D6 (pc:Int) (es:List fD):Option Nat:=es.findIdx? fun x=>decide (x.pc=pc)
def hent (l:List fD) (k:Nat):fD:=l.getD k ⟨0,.slice none 0 0⟩
theorem SF.hent {B:Nat} {w0:World} {H:List bj} {A:Option Addr} {xs:List fD} {m c k:Nat} (hs:SF B w0 H A m c xs) (hk:k<m):∀w,Cw B w0 H w→∀j v,([.int .i64 (hent xs k).pc,(hent xs k).v]:List Value)[j]? =some v→w.cell? ⟨ab A,ao A+k*2+j,none⟩=some v:=fun w hw _ _ hv=>SF.cell hs hk _ hv w hw
set_option maxRecDepth 100000 in
theorem y6 (g:Nat) (pc q:Int) (v:Value) (w:World) (hlt:g<w.heap.size) (hc:w.cell? ⟨g,0,none⟩=some (.int .i64 pc)) :
  Calls Tryz.prog 232 #[.agg #[.int .i64 q,v],.pointer (some ⟨g,0,none⟩)] w fun e w'=>e= .returned (.bool (decide (q=pc)))∧Below w.heap.size w w':=by
 refine enter Tryz.func232 rfl Tryz.ntmps232 rfl ?_
 refine ac<|aa<|ag (bH rfl rfl rfl) rfl rfl (fun g1 _=>?_)
 refine rn 1 [1,2] rfl<|ae<|ac<|aa<|rn 1 [1,4] rfl<|af (ai fc aq rfl rfl (by rfl)) rfl rfl ?_
 refine af (a9 (fun w' hw=>(hw.below.cell hlt).trans hc) rfl rfl aq) rfl rfl ?_
 refine rn 2 [3] rfl<|ae<|av<|aB Tryz.results232 (ap rfl) ?_
 intro w hw
 exact⟨rfl,hw.below⟩
set_option maxRecDepth 100000 in
theorem AB (A:Option Addr) (c:Nat) (es:List fD) (g:Nat) (pc:Int) (w:World) (hs:Sl w (.slice A es.length c) es) (hlt:g<w.heap.size) (hc:w.cell? ⟨g,0,none⟩=some (.int .i64 pc)) :
  Calls Tryz.prog 231 #[.slice A es.length c,.func (.func 232) #[] #[.pointer (some ⟨g,0,none⟩)]] w fun e w'=> ∃r:Int,((r= -1∧∀i,i<es.length→(hent es i).pc≠pc)∨∃i:Nat,r=i∧i<es.length∧(hent es i).pc=pc∧∀j,j<i→(hent es j).pc≠pc)∧e= .returned (.int .i64 r)∧Cw w.heap.size w [] w':=by
 have b1:=bV hs
 refine enter Tryz.func231 rfl Tryz.ntmps231 rfl ?_
 refine ac<|aa<|rn 1 [0,1] rfl<|ae<|ac<|ac<|aa<|rn 1 [0,1,6] rfl<|af (aS fk rfl rfl) rfl rfl<|rn 1 [0,1,7,8] rfl<|ae<|aP (cn (fun k:Nat=>k≤es.length∧∀j,j<k→(hent es j).pc≠pc) (fun k=>es.length - k) (fun k=> [(0,.slice A es.length c),(1,.func (.func 232) #[] #[.pointer (some ⟨g,0,none⟩)]),(7,.int .i64 (es.length:Int)),(8,.int .i64 (k:Int))]) (fun _=> []) 0 (⟨Nat.zero_le _,fun _ h=>absurd h (Nat.not_lt_zero _)⟩) ⟨rfl,rfl,rfl,rfl,trivial⟩ me ?_)
 rintro k hk'
 obtain⟨hk,hno⟩:k≤es.length∧∀j,j<k→(hent es j).pc≠pc:=hk'
 refine ac<|aa<|rn 1 [0,1,7,8,9] rfl<|ae<|ac<|ay rfl (fun hlt'=>?_) (fun hlt'=>?_)
 ·have hkl:k<es.length:=by omega
  refine az (au ?_)
  refine ac<|aP<|ac<|aa<|rn 2 [0,1,5,7,8] rfl<|ae<|ac<|aa<|rn 3 [0,1,5,7,8,11,12,13] rfl<|af (aQ fk kx (.ro hs) (by omega) rfl rfl rfl) rfl rfl<|af (cu (SF.hent (SF.ro hs) hkl) rfl rfl Tryz.isAgg155 kx) rfl rfl<|ag (gN rfl rfl rfl Tryz.call232 (fun w hw=>y6 g pc _ _ w (Nat.lt_of_lt_of_le hlt hw.le) ((hw.below.cell hlt).trans hc))) rfl rfl (fun _ _=>?_)
  refine ae<|ay rfl (fun hp=>?_) (fun hp=>?_)
  ·refine ac<|aa<|rn 2 [4] rfl<|ae<|av (aF (aj (aj (aF (aj ?_)))))
   refine aB Tryz.results231 (ap rfl) ?_
   intro w hw
   exact⟨(k:Int),.inr ⟨k,rfl,hkl,hp,hno⟩,rfl,hw⟩
  refine az (aI (au ?_))
  refine aa<|af (bR rfl rfl rfl (by omega)) rfl rfl<|rn 1 [0,1,7,8] rfl<|bD (k+1) (⟨by show k+1≤_;omega,fun j hj=>(Nat.lt_or_ge j k).elim (hno j) (fun h=>by obtain rfl:j=k:=(by omega);exact hp)⟩) (by show _ - _<_ - _;omega) ⟨rfl,rfl,rfl,rfl,trivial⟩ me
 obtain rfl:k=es.length:=by omega
 refine bY (aU (aU (cz (au ?_))))
 refine ac<|aa<|rn 1 [4] rfl<|ae<|av<|aB Tryz.results231 (ap rfl) ?_
 intro w hw
 exact⟨-1,.inl ⟨rfl,hno⟩,rfl,hw⟩
section
variable {B:Nat} {w0:World} {H:List bj}
theorem oZ {L:List (Value×List Int)} {v:Value} {xs:List Int} {w:World} (hi:gS L v xs) (h:Cw B w0 (eD L::H) w):Cw B w0 (gt v xs::H) w:=by
 rcases hi with ⟨rfl,rfl⟩ | hi
 ·exact h.upd fun F ho _=>⟨fun _=>False,⟨fun _ h=>h.elim,fun _ _=>Sl.nil_⟩,rfl,rfl,rfl,Nat.le_refl _,fun _ _ _=>rfl,fun b hb=>hb.elim⟩
 refine h.upd fun F ho _=>?_
 obtain⟨F',h5,h6⟩:=Hs.mem (List.mem_map_of_mem (f:=fun p:Value×List Int=>gt p.1 p.2) hi) (show Hs w _ F from ho)
 exact⟨F',h5,rfl,rfl,rfl,Nat.le_refl _,fun _ _ _=>rfl,fun b hb=> .inl (h6 b hb)⟩
theorem zY {A:Option Addr} {m c k:Nat} {xs:List Int} {w:World} (hk:k≤m) (h:Cw B w0 (gt (.slice A m c) xs::H) w):Cw B w0 (gt (.slice A k c) (xs.take k)::H) w:=by
 refine h.upd fun F ho _=>⟨F,⟨ho.1,fun w' hw'=>?_⟩,rfl,rfl,rfl,Nat.le_refl _,fun _ _ _=>rfl,fun b hb=> .inl hb⟩
 have:=(ho.2 w' hw').cut 0 k (Nat.zero_le _) hk
 rw[sJ,Nat.sub_zero,Nat.sub_zero,List.drop_zero] at this
 exact this
theorem lf {w:World} (h:Cw B w0 H w):Cw B w0 (gt (.slice none 0 0) ([]:List Int)::H) w:=oZ gS.nil_ (jh h)
end
theorem uK {xs:List gG} {pc:Int} {i:Nat} (hi:i<xs.length) (h1:xs[i].pc=pc) (h2:∀j (_:j<i) (h:j<xs.length),xs[j].pc≠pc):(xs.find? fun e=>decide (e.pc=pc))=some xs[i]:=by
 induction xs generalizing i with
 | nil=>simp at hi
 | cons x xs ih=>
  cases i with
  | zero=>rw[List.find?_cons_of_pos (by simpa using h1)];rfl
  | succ i=>
   rw[List.find?_cons_of_neg (by have h3:=h2 0 (by omega) (by simp);rw[List.getElem_cons_zero] at h3;simpa using h3)]
   exact ih (by simpa using hi) h1 fun j hj h=>h2 (j+1) (by omega) (by simpa using h)
theorem uJ {xs:List gG} {pc:Int} (h2:∀j (h:j<xs.length),xs[j].pc≠pc):(xs.find? fun e=>decide (e.pc=pc))=none:=by
 rw[List.find?_eq_none]
 intro e he
 obtain⟨j,hj,rfl⟩:=List.getElem_of_mem he
 simpa using h2 j hj
theorem jt {es:List fD} {i:Nat} (h:i<es.length):hent es i=es[i]:=by
 unfold hent
 rw[List.getD_eq_getElem?_getD,List.getElem?_eq_getElem h]
 rfl
set_option maxRecDepth 100000 in
set_option maxHeartbeats 1000000 in
theorem q7 (Ap:Option Addr) (cp:Nat) (fs:List aE) (k:Nat) (pc:Int) (q:Option (List Int)) (hq:eb fs (ar fs k) pc=q) (w:World) (hs:Sl w (.slice Ap fs.length cp) fs) (hk:k<fs.length) (hok:iV fs (ar fs k)) (hn0:0<(ar fs k).code.length) :
  Calls Tryz.prog 229 #[.agg #[.slice Ap fs.length cp],.int .i64 (k:Int),.int .i64 pc] w fun e w'=> ∃g:Option Addr×Nat,True∧e= .returned (.tuple #[.slice g.1 (q.getD []).length g.2,.bool q.isSome])∧
   Cw w.heap.size w [gt (.slice g.1 (q.getD []).length g.2) (q.getD [])] w':=by
 refine enter Tryz.func229 rfl Tryz.ntmps229 rfl ?_
 refine ac<|aa<|ag (bH rfl rfl rfl) rfl rfl (fun g1 _=>?_)
 refine ag (bH rfl rfl rfl) rfl rfl (fun g2 _=>?_)
 refine rn 2 [1,3,5] rfl<|ae<|ac<|aa<|af (aL (vs:= [_]) fc bU bI rfl rfl (by rfl) rfl) rfl rfl ?_
 refine rn 1 [5,12,13] rfl<|ag (cI rfl rfl rfl Tryz.call103 (fun w hw=>oE Ap cp fs k w (hw.ro hs) hk hok hn0)) rfl rfl (fun⟨⟨A1,c1⟩,es,L⟩ hre=>?_)
 try dsimp only
 refine rn 5 [5,8] rfl<|ae<|ac<|aa<|rn 2 [8,17,18] rfl<|ag (cI rfl rfl rfl Tryz.call231 (fun w hw=>AB A1 c1 es g2 pc w (SF.at_ (SF.own rfl fc) hw) (iD hw fc) (fp fc rfl w hw))) rfl rfl (fun r hr=>?_)
 refine rn 1 [8,10] rfl<|ae<|ac<|ac<|aa<|rn 2 [8,10,21] rfl<|ae ?_
 have hre:jL es L (ck fs (ar fs k)).1:=hre
 have hl:=hre.len
 refine ay rfl (fun h0=>?_) (fun h0=>?_)
 ·have hq2:q=none:=by
   rcases hr with ⟨_,h⟩ | ⟨i,h,_⟩
   ·rw[←hq]
    unfold eb
    rw[uJ (fun j hj=>by
     have hj':j<es.length:=by omega
     have:=h j hj'
     rw[jt hj',(hre.el j hj' hj).1] at this
     exact this)]
    rfl
   omega
  subst hq2
  refine ac<|aa<|rn 2 [6,7] rfl<|ae<|av (aj ?_)
  refine bF Tryz.results229 (ap rfl) (ap rfl) ?_
  intro w hw
  exact⟨(none,0),trivial,rfl,(lf hw).msub ms⟩
 obtain⟨i,hi,hlt,hpc,hno⟩:∃i:Nat,r=i∧i<es.length∧(hent es i).pc=pc∧∀j,j<i→(hent es j).pc≠pc:=hr.elim (fun h=>by omega) id
 subst hi
 have hlt2:i<(ck fs (ar fs k)).1.length:=by omega
 obtain⟨e1,e2⟩:=hre.el i hlt hlt2
 have hq2:q=some (ck fs (ar fs k)).1[i].stack:=by
  rw[←hq]
  unfold eb
  rw[uK hlt2 (by rw[←e1,←jt hlt];exact hpc) (fun j hj h=>by
   have hj':j<es.length:=by omega
   have:=hno j hj
   rw[jt hj',(hre.el j hj' h).1] at this
   exact this)]
  rfl
 subst hq2
 rw[←jt hlt] at e2
 refine az (au ?_)
 refine ac<|aa<|rn 2 [22,23] rfl<|af (aQ (k:=i) fk kx (SF.own (xs:=es) rfl fc) (by omega) rfl rfl rfl) rfl rfl ?_
 refine rn 1 [25] rfl<|af (a9 (fun w hw=>SF.hent (SF.own (xs:=es) rfl fc) hlt w hw 1 _ rfl) rfl rfl a7) rfl rfl ?_
 refine rn 2 [6,7] rfl<|ae<|av<|bF Tryz.results229 (ap rfl) (ap rfl) ?_
 intro w hw
 obtain⟨A5,c5,e5⟩:=e2.form hw fc
 rw[e5] at e2⊢
 exact⟨(A5,c5),trivial,rfl,(oZ e2 (hw.msub (T:=eD L:: []) ms)).msub ms⟩
end
section
theorem ua {fs:List aE} (hF:ew fs) {k:Nat} (hk:k<fs.length) {pc to_:Int} {t0 t:List Int} (hc:eP (ar fs k) pc to_=true) (h0:eb fs (ar fs k) (pc - 1)=some t0) (h1:eb fs (ar fs k) pc=some t) (hr:(ar fs to_.toNat).result≠0):1≤t.length:=by
 unfold eP at hc
 simp only[Bool.and_eq_true,decide_eq_true_eq] at hc
 obtain⟨_,hcc,hca⟩:=hc
 obtain⟨_,_,_,_,v0,hv0,hn0⟩:=(hF.e _ hk).at_ _ _ h0
 generalize bx (ar fs k).code (pc - 1).toNat=oz at hcc hca hv0 hn0
 obtain⟨t',ht',hle⟩:=hn0 pc (by simp[cW,hcc])
 rw[h1] at ht'
 have ht':=Option.some.inj ht'
 subst ht'
 obtain⟨T0,V0,e0,_,_,_,rfl⟩:=gg.1 hv0
 simp[tl,hcc] at e0
 obtain⟨rfl,rfl⟩:=e0
 rw[hca] at hle
 unfold bM at hle
 rw[if_neg hr] at hle
 have:=(n7 hle).2.1
 omega
theorem lN {f:aE} {pc to_:Int} :eP f pc to_=(bE pc 1 f.code.length && (decide ((bx f.code (pc - 1).toNat).c=12) && decide ((bx f.code (pc - 1).toNat).a=to_))):=rfl
section
variable {B:Nat} {w0:World} {H:List bj}
set_option maxRecDepth 100000 in
set_option maxHeartbeats 4000000 in
theorem xA (gc:Nat) (a:MA) (m:aO) (Ap:Option Addr) (cp:Nat) (fs:List aE) (hs:bS w0 B (.slice Ap fs.length cp) fs) (hm:d9 B w0 a m) (hF:ew fs) (i:Nat) (hi:i<m.frames.length) (hfn:∀x∈m.frames,0≤x.func∧x.func<fs.length) (q:Option (List Int)) (hq:fQ fs m.frames i=q) (w:World) (hw:Cw B w0 (am gc [.slice a.Af m.frames.length a.cf,.slice a.Ab m.blocks.length a.cb,.slice a.Ai m.inn.length a.ci,.slice a.Ao m.out.length a.co,.int .i64 m.status,.int .i64 m.trap,.slice Ap fs.length cp] 147::H) w) :
  Calls Tryz.prog 216 #[.pointer (some ⟨gc,0,none⟩),.int .i64 (i:Int)] w fun e w'=> ∃g:Option Addr×Nat,True∧e= .returned (.tuple #[.slice g.1 (q.getD []).length g.2,.bool q.isSome])∧Cw B w0 (gt (.slice g.1 (q.getD []).length g.2) (q.getD [])::am gc [.slice a.Af m.frames.length a.cf,.slice a.Ab m.blocks.length a.cb,.slice a.Ai m.inn.length a.ci,.slice a.Ao m.out.length a.co,.int .i64 m.status,.int .i64 m.trap,.slice Ap fs.length cp] 147::H) w':=by
 have bf:=bV hm.f
 have bp:=bV hs
 obtain⟨A1,c1,A2,c2,hl,hst,hI,hcell⟩:=hm.f.fr hi
 have hx:=hfn _ (eZ hi)
 obtain⟨kf,hkf⟩:∃kf:Nat,(bd m.frames i).func=kf:=⟨(bd m.frames i).func.toNat,by omega⟩
 have hkl:kf<fs.length:=by omega
 obtain⟨hok,hn0⟩:=gi hF.p hkl
 obtain⟨F1,d1,F2,d2,hfl,hfc,hfi,hfcell⟩:=hs.fn hkl
 have bc:=bV hfc
 have hff:gk fs m.frames i=ar fs kf:=by unfold gk;rw[hkf,Int.toNat_natCast]
 obtain⟨pc,hpc⟩:∃pc,(bd m.frames i).pc=pc:=⟨_,rfl⟩
 unfold fQ at hq
 rw[hff,hpc] at hq
 rw[hkf,hpc] at hcell
 rw[hpc] at hI
 obtain⟨q1,hq1⟩:∃q1,eb fs (ar fs kf) pc=q1:=⟨_,rfl⟩
 rw[hq1] at hq
 refine cY Tryz.func216 rfl Tryz.ntmps216 rfl hw ?_
 refine ac<|aa<|rn 2 [0,1] rfl<|ae<|ac<|aa<|rn 4 [0,1,16] rfl<|af (ai fc bL rfl rfl (by rfl)) rfl rfl ?_
 refine rn 1 [0,1,17,18] rfl<|af (aQ (k:=i) aV bn (.ro hm.f) (by omega) rfl rfl rfl) rfl rfl<|af (cu (hcell _) rfl rfl gj bn) rfl rfl<|ag (aZ cK rfl rfl) rfl rfl (fun g1 _=>?_)
 refine ag (aG _ fc bn rfl rfl rfl rfl rfl (by rfl) rfl (by rfl)) rfl rfl (fun _ _=>?_)
 refine ae<|ac<|bN (.still 0 (.still 1 (.still 2 (.still 3 (.still 4 (.still 5 (.still 6 (.still 7 (.pick 8 (.still 9 (.still 10 (.still 11 (.still 12 (.still 13 .done))))) .stop))))))))) [] rfl (by kernel_rfl) (by kernel_rfl) ?_
 refine aW ha 3 [0,1,6,24] rfl<|an rfl (aL (vs:= [_]) fc bU bI rfl rfl (by rfl) rfl) rfl rfl ha ?_
 refine aW ha 1 [0,1,6,25,26] rfl<|an rfl (ai fc aq rfl rfl (by rfl)) rfl rfl ha ?_
 refine aW ha 1 [0,1,6,25,27,28] rfl<|an rfl (ai fc aq rfl rfl (by rfl)) rfl rfl ha ?_
 refine aC rfl (cI rfl rfl rfl Tryz.call229 (fun w hw=>q7 Ap cp fs kf pc q1 hq1 w (hw.ro hs) hkl hok hn0)) rfl rfl (.inr fun _=>ha) (fun⟨A5,c5⟩ _=>?_) ax
 try dsimp only
 refine aW ha 5 [0,1,6,7,8] rfl<|cA<|ac<|ac<|aa<|rn 5 [0,1,6,7,8,33,37] rfl<|af (ai fc bL rfl rfl (by rfl)) rfl rfl ?_
 refine af (aS aV rfl rfl) rfl rfl<|af (bt rfl rfl rfl (by omega)) rfl rfl<|rn 1 [0,1,6,7,8,41] rfl<|ae<|ay rfl (fun h1=>?_) (fun h1=>?_)
 ·rw[if_pos (show i+1=m.frames.length by omega)] at hq
  subst hq
  refine ac<|aa<|rn 4 [4,5] rfl<|ae<|av (aj ?_)
  refine bF iG (ap rfl) (ap rfl) ?_
  intro w hw
  exact⟨(A5,c5),trivial,rfl,hw.msub ms⟩
 rw[if_neg (show¬i+1=m.frames.length by omega)] at hq
 have hi2:i+1<m.frames.length:=by omega
 obtain⟨A3,c3,A4,c4,hl2,hst2,hI2,hcell2⟩:=hm.f.fr hi2
 have hy:=hfn _ (eZ hi2)
 obtain⟨ky,hky⟩:∃ky:Nat,(bd m.frames (i+1)).func=ky:=⟨(bd m.frames (i+1)).func.toNat,by omega⟩
 have hkyl:ky<fs.length:=by omega
 have hfy:gk fs m.frames (i+1)=ar fs ky:=by unfold gk;rw[hky,Int.toNat_natCast]
 rw[hky] at hcell2
 rw[hfy,hky] at hq
 refine az (au ?_)
 refine ac<|aa<|rn 4 [0,1,6,7,8,47] rfl<|af (ai fc bL rfl rfl (by rfl)) rfl rfl ?_
 refine rn 1 [0,6,7,8,48,49] rfl<|af (bR rfl rfl rfl (by omega)) rfl rfl<|af (aQ (k:=(i+1)) aV bn (.ro hm.f) (by omega) rfl rfl rfl) rfl rfl<|rn 1 [0,6,7,8,52] rfl<|af (a9 (fun w hw=>hcell2 _ w hw 0 _ rfl) rfl rfl aq) rfl rfl ?_
 refine rn 1 [0,6,7,8,9] rfl<|ae<|ac<|bN (.still 0 (.still 1 (.still 2 (.still 3 (.still 4 (.still 5 (.still 6 (.still 7 (.still 8 (.still 9 (.still 10 .done))))))))))) [] rfl (by kernel_rfl) (by kernel_rfl) ?_
 refine aW ha 4 [0,6,7,8,9,57] rfl<|an rfl (ai fc cF rfl rfl (by rfl)) rfl rfl ha ?_
 refine aW ha 1 [0,6,7,8,9,58,59] rfl<|an rfl (ai fc aq rfl rfl (by rfl)) rfl rfl ha ?_
 refine an rfl (aQ (k:=kf) bw bg (.ro hs) (by omega) rfl rfl rfl) rfl rfl ha ?_
 refine aW ha 1 [0,6,7,8,9,62] rfl<|an rfl (a9 (fun w hw=>hfcell _ w hw 3 _ rfl) rfl rfl dw) rfl rfl ha ?_
 refine aW ha 1 [0,6,7,8,9,10] rfl<|cA<|ac<|ac<|aa<|rn 1 [0,6,7,8,9,10,64] rfl<|af (ai fc aq rfl rfl (by rfl)) rfl rfl ?_
 refine rn 1 [0,6,7,8,9,10,65,66] rfl<|af (aS bu rfl rfl) rfl rfl<|ag (br rfl rfl rfl tC (fun w hw=>i6 pc 1 (ar fs kf).code.length w)) rfl rfl (fun _ _=>?_)
 refine rn 2 [0,6,7,8,9,10,70] rfl<|bK (t:=70) rfl (fun h2=>?_) (fun h2=>?_)
 ·have hc:eP (ar fs kf) pc ky=false:=by
   rw[lN,show bE pc 1 (ar fs kf).code.length=false from by simpa using h2]
   rfl
  rw[if_pos hc] at hq
  subst hq
  refine rn 20 [0,6,7,8,9,90] rfl<|ae<|bA rfl<|ac<|aa<|rn 2 [4,5] rfl<|ae<|av (aj ?_)
  refine bF iG (ap rfl) (ap rfl) ?_
  intro w hw
  exact⟨(none,0),trivial,rfl,(lf hw).msub ms⟩
 have hw1:bE pc 1 (ar fs kf).code.length=true:=by simpa using h2
 have hw2:=dC.1 hw1
 refine rn 2 [0,6,7,8,9,10,70,71,72] rfl<|af (ai fc aq rfl rfl (by rfl)) rfl rfl ?_
 refine af (bt rfl rfl rfl (by omega)) rfl rfl<|af (e8 bu b8 (.ro hfc) (by omega) rfl rfl rfl) rfl rfl<|rn 1 [0,6,7,8,9,10,70,76] rfl<|af (a9 (SF.opc (.ro hfc) (by omega)) rfl rfl aq) rfl rfl<|rn 3 [0,6,7,8,9,10,80] rfl<|bK (t:=80) rfl (fun h3=>?_) (fun h3=>?_)
 ·have hc:eP (ar fs kf) pc ky=false:=by
   have h3:decide ((bx (ar fs kf).code (pc - 1).toNat).c=12)=false:=by simpa using h3
   rw[lN,h3]
   simp
  rw[if_pos hc] at hq
  subst hq
  refine rn 10 [0,6,7,8,9,90] rfl<|ae<|bA rfl<|ac<|aa<|rn 2 [4,5] rfl<|ae<|av (aj ?_)
  refine bF iG (ap rfl) (ap rfl) ?_
  intro w hw
  exact⟨(none,0),trivial,rfl,(lf hw).msub ms⟩
 have h3:decide ((bx (ar fs kf).code (pc - 1).toNat).c=12)=true:=by simpa using h3
 refine rn 2 [0,6,7,8,9,80,81,82] rfl<|af (ai fc aq rfl rfl (by rfl)) rfl rfl ?_
 refine af (bt rfl rfl rfl (by omega)) rfl rfl<|af (e8 bu b8 (.ro hfc) (by omega) rfl rfl rfl) rfl rfl<|rn 1 [0,6,7,8,9,80,86] rfl<|af (a9 (SF.opa (.ro hfc) (by omega)) rfl rfl aq) rfl rfl<|rn 3 [0,6,7,8,9,90] rfl<|ae<|bZ rfl (fun h4=>?_) (fun h4=>?_)
 ·have hc:eP (ar fs kf) pc ky=false:=by
   rw[lN,decide_eq_false (p:=(bx (ar fs kf).code (pc - 1).toNat).a=ky) h4]
   simp
  rw[if_pos hc] at hq
  subst hq
  refine ac<|aa<|rn 2 [4,5] rfl<|ae<|av (aj ?_)
  refine bF iG (ap rfl) (ap rfl) ?_
  intro w hw
  exact⟨(none,0),trivial,rfl,(lf hw).msub ms⟩
 have hc:eP (ar fs kf) pc ky=true:=by
  rw[lN,hw1,h3,decide_eq_true (p:=(bx (ar fs kf).code (pc - 1).toNat).a=ky) h4]
  rfl
 rw[if_neg (by rw[hc];decide)] at hq
 obtain⟨q0,hq0⟩:∃q0,eb fs (ar fs kf) (pc - 1)=q0:=⟨_,rfl⟩
 rw[hq0] at hq
 refine az (au ?_)
 refine ac<|ac<|bN (.still 0 (.still 1 (.still 2 (.still 3 (.still 4 (.still 5 (.still 6 (.still 7 (.still 8 (.pick 9 (.still 10 (.still 11 (.still 12 (.still 13 (.still 14 .done))))) .stop)))))))))) [] rfl (by kernel_rfl) (by kernel_rfl) ?_
 refine aW ha 3 [0,6,7,8,9,94] rfl<|an rfl (aL (vs:= [_]) fc bU bI rfl rfl (by rfl) rfl) rfl rfl ha ?_
 refine aW ha 1 [0,6,7,8,9,95,96] rfl<|an rfl (ai fc aq rfl rfl (by rfl)) rfl rfl ha ?_
 refine aW ha 1 [0,7,8,9,95,97,98] rfl<|an rfl (ai fc aq rfl rfl (by rfl)) rfl rfl ha ?_
 refine an rfl (bt rfl rfl rfl (by omega)) rfl rfl ha ?_
 refine aC rfl (cI rfl rfl rfl Tryz.call229 (fun w hw=>q7 Ap cp fs kf (pc - 1) q0 hq0 w (hw.ro hs) hkl hok hn0)) rfl rfl (.inr fun _=>ha) (fun⟨A6,c6⟩ _=>?_) ax
 try dsimp only
 refine aW ha 5 [0,7,8,9,12] rfl<|cA<|ac<|aa<|rn 3 [0,7,8,9,106] rfl<|bK (t:=106) rfl (fun h5=>?_) (fun h5=>?_)
 ·have h5:q0.isSome=false:=by simpa using h5
  rw[if_pos h5] at hq
  subst hq
  refine rn 3 [0,7,9,109] rfl<|ae<|bA rfl<|ac<|aa<|rn 2 [4,5] rfl<|ae<|av (aj ?_)
  refine bF iG (ap rfl) (ap rfl) ?_
  intro w hw
  exact⟨(none,0),trivial,rfl,(lf hw).msub ms⟩
 have h5:q0.isSome=true:=by simpa using h5
 rw[if_neg (by rw[h5];decide)] at hq
 refine rn 3 [0,7,9,109] rfl<|ae<|cB rfl (fun h6=>?_) (fun h6=>?_)
 ·have h6:q1=none:=by simpa using h6
  subst h6
  have hq:none=q:=hq
  subst hq
  refine ac<|aa<|rn 2 [4,5] rfl<|ae<|av (aj ?_)
  refine bF iG (ap rfl) (ap rfl) ?_
  intro w hw
  exact⟨(none,0),trivial,rfl,(lf hw).msub ms⟩
 obtain⟨t,rfl⟩:∃t,q1=some t:=by cases q1 with
  | none=>simp at h6
  | some t=>exact⟨t,rfl⟩
 obtain⟨t0,rfl⟩:∃t0,q0=some t0:=by cases q0 with
  | none=>simp at h5
  | some t0=>exact⟨t0,rfl⟩
 obtain⟨G1,b1,G2,b2,hgl,hgc,hgi,hgcell⟩:=hs.fn hkyl
 have hq:some (if (ar fs ky).result≠0 then t.dropLast else t)=q:=hq
 subst hq
 refine az (au ?_)
 refine ac<|ac<|aa<|rn 4 [7,9,113] rfl<|af (ai fc cF rfl rfl (by rfl)) rfl rfl ?_
 refine rn 1 [7,114,115] rfl<|af (aQ (k:=ky) bw bg (.ro hs) (by omega) rfl rfl rfl) rfl rfl<|rn 1 [7,117] rfl<|af (a9 (fun w hw=>hgcell _ w hw 2 _ rfl) rfl rfl aq) rfl rfl ?_
 refine rn 1 [7,119] rfl<|ae<|bZ rfl (fun h7=>?_) (fun h7=>?_)
 ·have hone:=ua hF hkl hc hq0 hq1 (by rw[Int.toNat_natCast];exact h7)
  rw[if_pos h7,List.dropLast_eq_take]
  refine dz (fun w hw=>(hw.rdSl (v:= .slice A5 t.length c5) (xs:=t) fc).form) ?_
  rintro⟨_,_,e,hle,_⟩
  injection e with _ _ e
  have ht8:=((hF.e _ hkl).at_ _ _ hq1).2.2.1
  refine cJ (t:=7) (v':= .slice A5 t.length c5) rfl (rfl) ?_
  refine aa<|rn 2 [120,121] rfl<|af (aS ah rfl rfl) rfl rfl<|af (bt rfl rfl rfl (by omega)) rfl rfl<|bG (t:=123) (v':= .int .i64 ((t.length - 1:Nat):Int)) rfl (by show Value.int _ ((t.length:Int) - 1)=_;congr 1;omega) ?_
  refine af (ff (k:=t.length - 1) ah aH (by omega) rfl rfl rfl) rfl rfl<|rn 1 [7] rfl<|ae<|ac<|aa<|rn 3 [4,5] rfl<|ae<|av<|bF iG (ap rfl) (ap rfl) ?_
  intro w hw
  have hlt:(t.take (t.length - 1)).length=t.length - 1:=by rw[List.length_take];omega
  refine⟨(A5,c5),trivial,by show _=Ending.returned (.tuple #[.slice A5 (t.take (t.length - 1)).length c5,.bool true]);rw[hlt],?_⟩
  show Cw B w0 (gt (.slice A5 (t.take (t.length - 1)).length c5) (t.take (t.length - 1))::_::H) w
  rw[hlt]
  exact(zY (k:=t.length - 1) (by omega) (hw.msub (T:=gt (.slice A5 t.length c5) t::am gc [.slice a.Af m.frames.length a.cf,.slice a.Ab m.blocks.length a.cb,.slice a.Ai m.inn.length a.ci,.slice a.Ao m.out.length a.co,.int .i64 m.status,.int .i64 m.trap,.slice Ap fs.length cp] 147::H) ms)).msub ms
 rw[if_neg (fun h=>h h7)]
 refine az (au ?_)
 refine ac<|aa<|rn 3 [4,5] rfl<|ae<|av<|bF iG (ap rfl) (ap rfl) ?_
 intro w hw
 exact⟨(A5,c5),trivial,rfl,hw.msub ms⟩
end
end
section
theorem q5 {α:Type} {L:List (List α)} {k:Nat} (hk:k<L.length):(L.take (k+1)).flatten=(L.take k).flatten++L.getD k []:=by
 rw[fb L k [] hk,List.flatten_append]
 simp
theorem tO {α:Type} (L:List (List α)) (k:Nat):(L.take k).flatten.length≤L.flatten.length:=by
 rw[←congrArg List.length (congrArg List.flatten (List.take_append_drop k L)),List.flatten_append,List.length_append]
 omega
set_option maxRecDepth 100000 in
set_option maxHeartbeats 1000000 in
theorem vM (g n:Nat) (hd:Nat→Option Addr×Nat) (L:List (List aM)) (hn:L.length=n) (w:World) (hlt:g<w.heap.size) (hc:∀k,k<n→w.cell? ⟨g,0+k*1,none⟩=some (.slice (hd k).1 (L.getD k []).length (hd k).2))
  (hs:∀k,k<n→Sl w (.slice (hd k).1 (L.getD k []).length (hd k).2) (L.getD k [])) (hb:L.flatten.length*16≤140737488355328) (hn':n≤1000) :
  Calls Tryz.prog 213 #[.slice (some ⟨g,0,none⟩) n n] w fun e w'=> ∃u,e= .returned u∧Below w.heap.size w w'∧dK w' w.heap.size u L.flatten:=by
 subst hn
 have hfl:=tO L
 refine enter Tryz.func213 rfl Tryz.ntmps213 rfl ?_
 refine ac<|aa<|rn 1 [0] rfl<|ae<|ac<|aa<|rn 1 [0,3] rfl<|ae<|ac<|ac<|aa<|rn 1 [0,3,9] rfl<|af (aS lB rfl rfl) rfl rfl<|rn 1 [0,3,9,10,11] rfl<|ae<|aP (cn (fun k:Nat=>k≤L.length) (fun k=>L.length - k) (fun k=> [(0,.slice (some ⟨g,0,none⟩) L.length L.length),(3,.int .i64 ((L.take k).flatten.length:Int)),(9,.slice (some ⟨g,0,none⟩) L.length L.length),(10,.int .i64 (L.length:Int)),(11,.int .i64 (k:Int))]) (fun _=> []) 0 (Nat.zero_le _) ⟨rfl,rfl,rfl,rfl,rfl,trivial⟩ me ?_)
 rintro k hk
 have hk:k≤L.length:=hk
 refine ac<|aa<|rn 1 [0,3,9,10,11,12] rfl<|ae<|ac<|ay rfl (fun h1=>?_) (fun h1=>?_)
 ·have hkn:k<L.length:=by omega
  have hft:=congrArg List.length (q5 (L:=L) (k:=k) (by omega))
  rw[List.length_append] at hft
  have hfk:=hfl (k+1)
  refine az (au ?_)
  refine ac<|aP<|ac<|aa<|af (jm (k:=k) lB cS rfl hkn rfl rfl rfl) rfl rfl<|af (a9 (fun w' hw=>(hw.below.cell hlt).trans (hc k hkn)) rfl rfl a5) rfl rfl ?_
  refine rn 1 [0,3,5,9,10,11] rfl<|ae<|ac<|aa<|rn 2 [0,9,10,11,15,16] rfl<|af (aS aw rfl rfl) rfl rfl<|af (bR rfl rfl rfl (by omega)) rfl rfl<|rn 1 [0,3,9,10,11] rfl<|ae<|ac<|aa<|rn 2 [0,3,9,10,11,20] rfl<|ae<|ay rfl (fun h2=>?_) (fun h2=>?_)
  ·exact absurd h2 (by omega)
  refine cJ (t:=3) (v':= .int .i64 ((L.take (k+1)).flatten.length:Int)) rfl (by congr 1;omega) ?_
  refine az (aI (au ?_))
  refine aa<|af (bR rfl rfl rfl (by omega)) rfl rfl<|rn 1 [0,3,9,10,11] rfl<|bD (k+1) (by show k+1≤_;omega) (by show _ - _<_ - _;omega) ⟨rfl,rfl,rfl,rfl,rfl,trivial⟩ me
 obtain rfl:k=L.length:=by omega
 rw[List.take_length]
 refine bY (aU (aU (cz (au ?_))))
 refine ac<|aa<|rn 1 [0,23] rfl<|ag (cI rfl rfl rfl Tryz.call228 (fun w hw=>xh L.flatten.length hb w)) rfl rfl (fun⟨A2,c2⟩ _=>?_)
 try dsimp only
 refine rn 1 [0,6] rfl<|ae<|ac<|ac<|aa<|rn 1 [6,25] rfl<|af (aS lB rfl rfl) rfl rfl<|rn 1 [6,25,26,27] rfl<|ae<|aP (cn (fun g:Nat×Option Addr×Nat=>g.1≤L.length) (fun g=>L.length - g.1) (fun q=> [(6,.slice q.2.1 (L.take q.1).flatten.length q.2.2),(25,.slice (some ⟨g,0,none⟩) L.length L.length),(26,.int .i64 (L.length:Int)),(27,.int .i64 (q.1:Int))]) (fun q=> [ak (.slice q.2.1 (L.take q.1).flatten.length q.2.2) (L.take q.1).flatten]) (0,A2,c2) (Nat.zero_le _) ⟨rfl,rfl,rfl,rfl,trivial⟩ me ?_)
 rintro⟨k,A3,c3⟩ hk
 try dsimp only
 have hk:k≤L.length:=hk
 refine ac<|aa<|rn 1 [6,25,26,27,28] rfl<|ae<|ac<|ay rfl (fun h1=>?_) (fun h1=>?_)
 ·have hkn:k<L.length:=by omega
  have hft:=q5 (L:=L) (k:=k) (by omega)
  have hft2:=congrArg List.length hft
  rw[List.length_append] at hft2
  have hfk:=hfl (k+1)
  refine az (au ?_)
  refine ac<|aP<|ac<|aa<|af (jm (k:=k) lB cS rfl hkn rfl rfl rfl) rfl rfl<|af (a9 (fun w' hw=>(hw.below.cell hlt).trans (hc k hkn)) rfl rfl a5) rfl rfl ?_
  refine rn 1 [6,8,25,26,27] rfl<|ae<|aa<|rn 2 [25,26,27,31,32] rfl<|ag (di (α:=aM) (bytes:=16) (xs:=(L.take k).flatten) (ys:=L.getD k []) hft aw (bO cZ) rfl fc (.ro (hs k hkn)) (by omega) (by omega) rfl rfl rfl) rfl rfl (fun⟨A5,c5⟩ _=>?_)
  try dsimp only
  refine rn 1 [6,25,26,27] rfl<|bB (aI (au ?_))
  refine aa<|af (bR rfl rfl rfl (by omega)) rfl rfl<|rn 1 [6,25,26,27] rfl<|bD (k+1,A5,c5) (by show k+1≤_;omega) (by show _ - _<_ - _;omega) ⟨rfl,rfl,rfl,rfl,trivial⟩ me
 obtain rfl:k=L.length:=by omega
 rw[List.take_length]
 refine bY (aU (aU (cz (au ?_))))
 refine ac<|aa<|rn 2 [2] rfl<|ae<|av<|aB Tryz.results213 (ap rfl) ?_
 intro w hw
 exact⟨_,rfl,jp hw⟩
end
section
theorem uY {nb:Nat} {l:List aM} {k:Nat} (hk:k<l.length) (h:ea nb (l.getD k default)=false):l.any (fun v=>!ea nb v)=true:=List.any_eq_true.2 ⟨_,cL hk,by rw[h];rfl⟩
theorem sZ {nb:Nat} {l:List aM} (h:∀j,j<l.length→ea nb (l.getD j default)=true):¬l.any (fun v=>!ea nb v)=true:=fun ha=>by
 obtain⟨v,hv,h2⟩:=List.any_eq_true.1 ha
 obtain⟨j,hj,rfl⟩:=List.getElem_of_mem hv
 have:=h j hj
 rw[List.getD_eq_getElem?_getD,List.getElem?_eq_getElem hj,Option.getD_some] at this
 rw[this] at h2
 cases h2
theorem oh {s:List aM} {t:List Int} {n k:Nat} (hk:k<n) (h:ey (s.getD k default) (t.getD k 0)=false):uW s t n=false:=by
 cases e:uW s t n with
 | false=>rfl
 | true=>rw[iS.1 e k hk] at h;cases h
section
variable {B:Nat} {w0:World} {H:List bj}
set_option maxRecDepth 100000 in
set_option maxHeartbeats 4000000 in
theorem qe (gc:Nat) (a:MA) (m:aO) (Ap:Option Addr) (cp:Nat) (fs:List aE) (hs:bS w0 B (.slice Ap fs.length cp) fs) (hm:d9 B w0 a m) (hF:ew fs) (hfit:iE m.frames) (i:Nat) (hi:i<m.frames.length) (hfn:∀x∈m.frames,0≤x.func∧x.func<fs.length) (E:Int) (hE:en fs m.blocks.length m.frames i=E) (w:World) (hw:Cw B w0 (am gc [.slice a.Af m.frames.length a.cf,.slice a.Ab m.blocks.length a.cb,.slice a.Ai m.inn.length a.ci,.slice a.Ao m.out.length a.co,.int .i64 m.status,.int .i64 m.trap,.slice Ap fs.length cp] 147::H) w) :
  Calls Tryz.prog 180 #[.pointer (some ⟨gc,0,none⟩),.int .i64 (i:Int)] w fun e w'=> ∃_:Unit,True∧e= .returned (.int .i64 E)∧Cw B w0 (am gc [.slice a.Af m.frames.length a.cf,.slice a.Ab m.blocks.length a.cb,.slice a.Ai m.inn.length a.ci,.slice a.Ao m.out.length a.co,.int .i64 m.status,.int .i64 m.trap,.slice Ap fs.length cp] 147::H) w':=by
 have bf:=bV hm.f
 have bp:=bV hs
 obtain⟨A1,c1,A2,c2,hl,hst,hI,hcell⟩:=hm.f.fr hi
 obtain⟨hb1,hb2⟩:=hfit.2 (bd m.frames i) (eZ hi)
 have hx:=hfn _ (eZ hi)
 obtain⟨kf,hkf⟩:∃kf:Nat,(bd m.frames i).func=kf:=⟨(bd m.frames i).func.toNat,by omega⟩
 have hkl:kf<fs.length:=by omega
 obtain⟨hok,hn0⟩:=gi hF.p hkl
 obtain⟨F1,d1,F2,d2,hfl,hfc,hfi,hfcell⟩:=hs.fn hkl
 have hfl6:(ar fs kf).locals.length≤6:=(hok.op 0 hn0).par kf hkl |>.2
 have hff:gk fs m.frames i=ar fs kf:=by unfold gk;rw[hkf,Int.toNat_natCast]
 unfold en at hE
 rw[hff] at hE
 rw[hkf] at hcell
 obtain⟨q,hq⟩:∃q,fQ fs m.frames i=q:=⟨_,rfl⟩
 rw[hq] at hE
 generalize ar fs kf=f at hE hfl hfc hfi hfcell hfl6
 generalize bd m.frames i=x at hE hl hst hI hcell hb1 hb2
 have bx1:=bV hl
 have bx2:=bV hst
 refine cY Tryz.func180 rfl Tryz.ntmps180 rfl hw ?_
 refine ac<|aa<|rn 1 [0,1] rfl<|ae<|ac<|aa<|rn 4 [0,1,19] rfl<|af (ai fc bL rfl rfl (by rfl)) rfl rfl ?_
 refine rn 1 [0,1,20,21] rfl<|af (aQ (k:=i) aV bn (.ro hm.f) (by omega) rfl rfl rfl) rfl rfl<|af (cu (hcell _) rfl rfl gj bn) rfl rfl<|ag (aZ cK rfl rfl) rfl rfl (fun g1 _=>?_)
 refine ag (aG _ fc bn rfl rfl rfl rfl rfl (by rfl) rfl (by rfl)) rfl rfl (fun _ _=>?_)
 refine ae<|ac<|bN (.still 0 (.still 1 (.still 2 (.still 3 (.still 4 (.still 5 (.still 6 (.still 7 (.still 8 (.pick 9 (.pick 10 .done .stop) .stop)))))))))) [10] rfl (by kernel_rfl) (by kernel_rfl) ?_
 refine aW ha 4 [0,1,5,27] rfl<|an rfl (ai fc cF rfl rfl (by rfl)) rfl rfl ha ?_
 refine aW ha 1 [0,1,5,28,29] rfl<|an rfl (ai fc aq rfl rfl (by rfl)) rfl rfl ha ?_
 refine an rfl (aQ (k:=kf) bw bg (.ro hs) (by omega) rfl rfl rfl) rfl rfl ha ?_
 refine an rfl (cu (hfcell _) rfl rfl dJ bg) rfl rfl ha ?_
 refine aC rfl (aZ dL rfl rfl) rfl rfl (.inr fun _=>ha) (fun g2 _=>?_) ax
 refine aC rfl (aG _ fc bg rfl rfl rfl rfl rfl (by rfl) rfl (by rfl)) rfl rfl (.inl rfl) (fun _ _=>?_) ax
 refine cA<|ac<|ac<|aa<|rn 1 [0,1,5,6,33] rfl<|af (ai fc a5 rfl rfl (by rfl)) rfl rfl ?_
 refine af (aS aw rfl rfl) rfl rfl<|rn 1 [0,1,5,6,35,36] rfl<|af (ai fc a7 rfl rfl (by rfl)) rfl rfl ?_
 refine af (aS ah rfl rfl) rfl rfl<|rn 1 [0,1,5,6,39] rfl<|ae<|bZ rfl (fun h1=>?_) (fun h1=>?_)
 ·rw[if_pos (show x.locals.length≠f.locals.length from fun e=>h1 (by rw[e]))] at hE
  subst hE
  refine ac<|aa<|rn 1 [4] rfl<|ae<|av (aj ?_)
  refine aB jO (ap rfl) ?_
  intro w hw
  exact⟨(),trivial,rfl,hw.msub ms⟩
 have h1:x.locals.length=f.locals.length:=by omega
 rw[if_neg (fun h=>h h1)] at hE
 have hcat: [x.locals,x.stack].flatten.length*16≤140737488355328:=by simp only[List.flatten_cons,List.flatten_nil,List.length_append,List.length_nil];omega
 refine az (au ?_)
 refine ac<|ac<|aa<|rn 1 [0,1,5,6,40] rfl<|af (ai fc a5 rfl rfl (by rfl)) rfl rfl ?_
 refine rn 1 [0,1,5,6,41,42] rfl<|af (ai fc a5 rfl rfl (by rfl)) rfl rfl ?_
 refine ag (bh (cs:= [_,_]) lB cS Tryz.zeroValue95 rfl rfl rfl rfl rfl) rfl rfl (fun g3 _=>?_)
 refine ag (ej rfl rfl rfl Tryz.call213 (fun w hw=>vM g3 2 (fun k=>if k=0 then (A1,c1) else (A2,c2)) [x.locals,x.stack] rfl w (iD hw fc) (fun k hk=>by rcases(show k=0∨k=1 by omega) with rfl | rfl;exact fp fc rfl w hw;exact fp fc rfl w hw) (fun k hk=>by rcases(show k=0∨k=1 by omega) with rfl | rfl;exact hw.ro hl;exact hw.ro hst) hcat (by decide))) rfl rfl (fun⟨A5,c5⟩ _=>?_)
 try dsimp only
 refine af (aS aw rfl rfl) rfl rfl<|rn 1 [0,1,5,6,45,46,47] rfl<|ae ?_
 have hfe: [x.locals,x.stack].flatten=x.locals++x.stack:=by simp
 rw[hfe]
 rw[hfe] at hcat
 refine aP (cn (fun k:Nat=>k≤(x.locals++x.stack).length∧∀j,j<k→ea m.blocks.length ((x.locals++x.stack).getD j default)=true) (fun k=>(x.locals++x.stack).length - k) (fun k=> [(0,.pointer (some ⟨gc,0,none⟩)),(1,.int .i64 (i:Int)),(5,.pointer (some ⟨g1,0,none⟩)),(6,.pointer (some ⟨g2,0,none⟩)),(45,.slice A5 (x.locals++x.stack).length c5),(46,.int .i64 ((x.locals++x.stack).length:Int)),(47,.int .i64 (k:Int))]) (fun _=>ak (.slice A5 (x.locals++x.stack).length c5) (x.locals++x.stack)::am g1 [.int .i64 (kf:Int),.int .i64 x.pc,.slice A1 x.locals.length c1,.slice A2 x.stack.length c2] 97::am g2 [.int .i64 f.params,.slice F1 f.locals.length d1,.int .i64 f.result,.slice F2 f.code.length d2] 110::am gc [.slice a.Af m.frames.length a.cf,.slice a.Ab m.blocks.length a.cb,.slice a.Ai m.inn.length a.ci,.slice a.Ao m.out.length a.co,.int .i64 m.status,.int .i64 m.trap,.slice Ap fs.length cp] 147::H) 0 (⟨Nat.zero_le _,fun _ h=>absurd h (Nat.not_lt_zero _)⟩) ⟨rfl,rfl,rfl,rfl,rfl,rfl,rfl,trivial⟩ (fun w h=>h.msub ms) ?_)
 rintro k hk'
 obtain⟨hk,hno⟩:k≤(x.locals++x.stack).length∧∀j,j<k→ea m.blocks.length ((x.locals++x.stack).getD j default)=true:=hk'
 refine ac<|aa<|rn 1 [0,1,5,6,45,46,47,48] rfl<|ae<|ac<|ay rfl (fun hlt=>?_) (fun hlt=>?_)
 ·have hkl2:k<(x.locals++x.stack).length:=by omega
  refine az (au ?_)
  refine ac<|aP<|ac<|aa<|af (aQ aw aD (SF.own rfl fc) (by omega) rfl rfl rfl) rfl rfl ?_
  refine af (cu (SF.val (SF.own rfl fc) hkl2 default) rfl rfl db aD) rfl rfl ?_
  refine ag (aZ bq rfl rfl) rfl rfl (fun g4 _=>?_)
  refine ag (aG _ fc aD rfl rfl rfl rfl rfl (by rfl) rfl (by rfl)) rfl rfl (fun _ _=>?_)
  refine ae<|ac<|aa<|rn 1 [0,1,5,6,8,45,46,47,51] rfl<|af (aL (vs:= [_,_]) fc db aD rfl rfl (by rfl) rfl) rfl rfl ?_
  refine ag (bC rfl rfl rfl Tryz.call214 (fun w hw=>vL gc a m (.slice Ap fs.length cp) ((x.locals++x.stack).getD k default) w (hw.msub (.s fc .r)))) rfl rfl (fun _ _=>?_)
  refine rn 1 [0,1,5,6,9,45,46,47] rfl<|ae<|ac<|aa<|rn 2 [0,1,5,6,9,45,46,47,55] rfl<|ae ?_
  obtain⟨vb,hvb⟩:∃b,ea m.blocks.length ((x.locals++x.stack).getD k default)=b:=⟨_,rfl⟩
  rw[hvb]
  cases vb
  ·rw[if_pos (uY hkl2 hvb)] at hE
   subst hE
   rw[if_neg (by decide)]
   refine bZ rfl (fun hz=>?_) (fun hz=>?_)
   ·refine ac<|aa<|rn 2 [4] rfl<|ae<|av (aF (aj (aj (aF (aj ?_)))))
    refine aB jO (ap rfl) ?_
    intro w hw
    exact⟨(),trivial,rfl,hw.msub ms⟩
   exact absurd hz (by decide)
  rw[if_pos rfl]
  refine bZ rfl (fun hz=>?_) (fun hz=>?_)
  ·exact absurd rfl hz
  refine az (aI (au ?_))
  refine aa<|af (bR rfl rfl rfl (by omega)) rfl rfl<|rn 1 [0,1,5,6,45,46,47] rfl<|bD (k+1) (⟨by show k+1≤_;omega,fun j hj=>(Nat.lt_or_ge j k).elim (hno j) (fun h=>by obtain rfl:j=k:=(by omega);exact hvb)⟩) (by show _ - _<_ - _;omega) ⟨rfl,rfl,rfl,rfl,rfl,rfl,rfl,trivial⟩ (fun w h=>h.msub ms)
 obtain rfl:k=(x.locals++x.stack).length:=by omega
 rw[if_neg (sZ hno)] at hE
 refine bY (aU (aU (cz (au ?_))))
 refine ac<|ac<|aa<|rn 1 [0,1,5,6,58] rfl<|af (ai fc a5 rfl rfl (by rfl)) rfl rfl ?_
 refine af (aS aw rfl rfl) rfl rfl<|rn 1 [0,1,5,6,59,60,61] rfl<|ae<|aP (cn (fun k:Nat=>k≤x.locals.length∧∀j,j<k→ey (x.locals.getD j default) (f.locals.getD j 0)=true) (fun k=>x.locals.length - k) (fun k=> [(0,.pointer (some ⟨gc,0,none⟩)),(1,.int .i64 (i:Int)),(5,.pointer (some ⟨g1,0,none⟩)),(6,.pointer (some ⟨g2,0,none⟩)),(59,.slice A1 x.locals.length c1),(60,.int .i64 (x.locals.length:Int)),(61,.int .i64 (k:Int))]) (fun _=>am g1 [.int .i64 (kf:Int),.int .i64 x.pc,.slice A1 x.locals.length c1,.slice A2 x.stack.length c2] 97::am g2 [.int .i64 f.params,.slice F1 f.locals.length d1,.int .i64 f.result,.slice F2 f.code.length d2] 110::am gc [.slice a.Af m.frames.length a.cf,.slice a.Ab m.blocks.length a.cb,.slice a.Ai m.inn.length a.ci,.slice a.Ao m.out.length a.co,.int .i64 m.status,.int .i64 m.trap,.slice Ap fs.length cp] 147::H) 0 (⟨Nat.zero_le _,fun _ h=>absurd h (Nat.not_lt_zero _)⟩) ⟨rfl,rfl,rfl,rfl,rfl,rfl,rfl,trivial⟩ (fun w h=>h.msub ms) ?_)
 rintro k hk'
 obtain⟨hk,hno2⟩:k≤x.locals.length∧∀j,j<k→ey (x.locals.getD j default) (f.locals.getD j 0)=true:=hk'
 refine ac<|aa<|rn 1 [0,1,5,6,59,60,61,62] rfl<|ae<|ac<|ay rfl (fun hlt=>?_) (fun hlt=>?_)
 ·have hkl2:k<x.locals.length:=by omega
  refine az (au ?_)
  refine ac<|aP<|ac<|aa<|rn 1 [0,1,5,6,59,60,61,63] rfl<|af (aQ aw aD (.ro hl) (by omega) rfl rfl rfl) rfl rfl<|af (cu (SF.val (SF.ro hl) hkl2 default) rfl rfl db aD) rfl rfl<|ag (aZ bq rfl rfl) rfl rfl (fun g5 _=>?_)
  refine rn 1 [0,1,5,6,10,11,59,60,61,65] rfl<|ag (aG _ fc aD rfl rfl rfl rfl rfl (by rfl) rfl (by rfl)) rfl rfl (fun _ _=>?_)
  refine ae<|ac<|bN (.still 0 (.still 1 (.still 2 (.still 3 (.still 4 (.still 5 (.pick 6 (.still 7 .done) .stop))))))) [] rfl (by kernel_rfl) (by kernel_rfl) ?_
  refine an rfl (aL (vs:= [_,_]) fc db aD rfl rfl (by rfl) rfl) rfl rfl ha ?_
  refine aW ha 1 [0,1,5,6,10,59,60,61,66,67] rfl<|an rfl (ai fc a7 rfl rfl (by rfl)) rfl rfl ha ?_
  refine aW ha 1 [0,1,5,6,59,60,61,66,68,69] rfl<|an rfl (aQ (k:=k) ah aH (.ro hfl) (by omega) rfl rfl rfl) rfl rfl ha ?_
  refine an rfl (a9 (SF.int (.ro hfl) (by omega)) rfl rfl aq) rfl rfl ha ?_
  refine aC rfl (br rfl rfl rfl Tryz.call215 (fun w hw=>uC (x.locals.getD k default) (f.locals.getD k 0) w)) rfl rfl (.inr fun _=>ha) (fun _ _=>?_) ax
  refine aW ha 1 [0,1,5,6,59,60,61,73] rfl<|cA<|cB rfl (fun hb=>?_) (fun hb=>?_)
  ·have hb:ey (x.locals.getD k default) (f.locals.getD k 0)=false:=by simpa using hb
   rw[if_pos (oh hkl2 hb)] at hE
   subst hE
   refine ac<|aa<|rn 1 [4] rfl<|ae<|av (aF (aj (aj (aF (aj ?_)))))
   refine aB jO (ap rfl) ?_
   intro w hw
   exact⟨(),trivial,rfl,hw.msub ms⟩
  have hb:ey (x.locals.getD k default) (f.locals.getD k 0)=true:=by simpa using hb
  refine az (aI (au ?_))
  refine aa<|af (bR rfl rfl rfl (by omega)) rfl rfl<|rn 1 [0,1,5,6,59,60,61] rfl<|bD (k+1) (⟨by show k+1≤_;omega,fun j hj=>(Nat.lt_or_ge j k).elim (hno2 j) (fun h=>by obtain rfl:j=k:=(by omega);exact hb)⟩) (by show _ - _<_ - _;omega) ⟨rfl,rfl,rfl,rfl,rfl,rfl,rfl,trivial⟩ (fun w h=>h.msub ms)
 obtain rfl:k=x.locals.length:=by omega
 rw[if_neg (by rw[iS.2 hno2];decide)] at hE
 refine bY (aU (aU (cz (au ?_))))
 refine ac<|aa<|rn 2 [5,76,77] rfl<|ag (bC rfl rfl rfl Tryz.call216 (fun w hw=>xA (H:=am g1 [.int .i64 (kf:Int),.int .i64 x.pc,.slice A1 x.locals.length c1,.slice A2 x.stack.length c2] 97::am g2 [.int .i64 f.params,.slice F1 f.locals.length d1,.int .i64 f.result,.slice F2 f.code.length d2] 110::H) gc a m Ap cp fs hs hm hF i hi hfn q hq w (hw.msub ms))) rfl rfl (fun⟨A6,c6⟩ _=>?_)
 try dsimp only
 refine rn 5 [5,12,13] rfl<|ae<|ac<|ac<|aa<|rn 2 [5,12,82] rfl<|ae<|cB rfl (fun hn=>?_) (fun hn=>?_)
 ·have hn:q=none:=by simpa using hn
  subst hn
  subst hE
  refine ac<|aa<|rn 1 [4] rfl<|ae<|av (aj ?_)
  refine aB jO (ap rfl) ?_
  intro w hw
  exact⟨(),trivial,rfl,hw.msub ms⟩
 obtain⟨t,rfl⟩:∃t,q=some t:=by cases q with
  | none=>simp at hn
  | some t=>exact⟨t,rfl⟩
 dsimp only[Option.getD_some] at hE⊢
 refine az (au ?_)
 refine ac<|ac<|aa<|rn 1 [5,12,83] rfl<|af (aS ah rfl rfl) rfl rfl<|rn 1 [5,12,84,85] rfl<|af (ai fc a5 rfl rfl (by rfl)) rfl rfl ?_
 refine af (aS aw rfl rfl) rfl rfl<|rn 1 [5,12,88] rfl<|ae<|bZ rfl (fun h2=>?_) (fun h2=>?_)
 ·rw[if_pos (show t.length≠x.stack.length from fun e=>h2 (by rw[e]))] at hE
  subst hE
  refine ac<|aa<|rn 1 [4] rfl<|ae<|av (aj ?_)
  refine aB jO (ap rfl) ?_
  intro w hw
  exact⟨(),trivial,rfl,hw.msub ms⟩
 have h2:t.length=x.stack.length:=by omega
 rw[if_neg (fun h=>h h2)] at hE
 refine az (au ?_)
 refine ac<|ac<|aa<|rn 1 [12,89] rfl<|af (ai fc a5 rfl rfl (by rfl)) rfl rfl ?_
 refine af (aS aw rfl rfl) rfl rfl<|rn 1 [12,90,91,92] rfl<|ae<|aP (cn (fun k:Nat=>k≤x.stack.length∧∀j,j<k→ey (x.stack.getD j default) (t.getD j 0)=true) (fun k=>x.stack.length - k) (fun k=> [(12,.slice A6 t.length c6),(90,.slice A2 x.stack.length c2),(91,.int .i64 (x.stack.length:Int)),(92,.int .i64 (k:Int))]) (fun _=>gt (.slice A6 t.length c6) t::am gc [.slice a.Af m.frames.length a.cf,.slice a.Ab m.blocks.length a.cb,.slice a.Ai m.inn.length a.ci,.slice a.Ao m.out.length a.co,.int .i64 m.status,.int .i64 m.trap,.slice Ap fs.length cp] 147::H) 0 (⟨Nat.zero_le _,fun _ h=>absurd h (Nat.not_lt_zero _)⟩) ⟨rfl,rfl,rfl,rfl,trivial⟩ (fun w h=>h.msub ms) ?_)
 rintro k hk'
 obtain⟨hk,hno3⟩:k≤x.stack.length∧∀j,j<k→ey (x.stack.getD j default) (t.getD j 0)=true:=hk'
 refine ac<|aa<|rn 1 [12,90,91,92,93] rfl<|ae<|ac<|ay rfl (fun hlt=>?_) (fun hlt=>?_)
 ·have hkl2:k<x.stack.length:=by omega
  refine az (au ?_)
  refine ac<|aP<|ac<|aa<|rn 1 [12,90,91,92,94] rfl<|af (aQ aw aD (.ro hst) (by omega) rfl rfl rfl) rfl rfl<|af (cu (SF.val (SF.ro hst) hkl2 default) rfl rfl db aD) rfl rfl<|ag (aZ bq rfl rfl) rfl rfl (fun g6 _=>?_)
  refine rn 1 [12,14,15,90,91,92,96] rfl<|ag (aG _ fc aD rfl rfl rfl rfl rfl (by rfl) rfl (by rfl)) rfl rfl (fun _ _=>?_)
  refine ae<|ac<|bN (.still 0 (.still 1 (.still 2 (.still 3 (.still 4 (.pick 5 (.still 6 .done) .stop)))))) [] rfl (by kernel_rfl) (by kernel_rfl) ?_
  refine an rfl (aL (vs:= [_,_]) fc db aD rfl rfl (by rfl) rfl) rfl rfl ha ?_
  refine aW ha 2 [12,90,91,92,97,98,99] rfl<|an rfl (aQ (k:=k) ah aH (SF.rd (xs:=t) rfl fc) (by omega) rfl rfl rfl) rfl rfl ha ?_
  refine an rfl (a9 (SF.int (SF.rd (xs:=t) rfl fc) (by omega)) rfl rfl aq) rfl rfl ha ?_
  refine aC rfl (br rfl rfl rfl Tryz.call215 (fun w hw=>uC (x.stack.getD k default) (t.getD k 0) w)) rfl rfl (.inr fun _=>ha) (fun _ _=>?_) ax
  refine aW ha 1 [12,90,91,92,103] rfl<|cA<|cB rfl (fun hb=>?_) (fun hb=>?_)
  ·have hb:ey (x.stack.getD k default) (t.getD k 0)=false:=by simpa using hb
   rw[if_pos (oh (by omega) hb)] at hE
   subst hE
   refine ac<|aa<|rn 1 [4] rfl<|ae<|av (aF (aj (aj (aF (aj ?_)))))
   refine aB jO (ap rfl) ?_
   intro w hw
   exact⟨(),trivial,rfl,hw.msub ms⟩
  have hb:ey (x.stack.getD k default) (t.getD k 0)=true:=by simpa using hb
  refine az (aI (au ?_))
  refine aa<|af (bR rfl rfl rfl (by omega)) rfl rfl<|rn 1 [12,90,91,92] rfl<|bD (k+1) (⟨by show k+1≤_;omega,fun j hj=>(Nat.lt_or_ge j k).elim (hno3 j) (fun h=>by obtain rfl:j=k:=(by omega);exact hb)⟩) (by show _ - _<_ - _;omega) ⟨rfl,rfl,rfl,rfl,trivial⟩ (fun w h=>h.msub ms)
 obtain rfl:k=x.stack.length:=by omega
 rw[if_neg (by rw[h2,iS.2 hno3];decide)] at hE
 subst hE
 refine bY (aU (aU (cz (au ?_))))
 refine ac<|aa<|rn 1 [4] rfl<|ae<|av<|aB jO (ap rfl) ?_
 intro w hw
 exact⟨(),trivial,rfl,hw.msub ms⟩
end
end
section
theorem Bi {r:Bool} {n t:Int} (h:1≤t∧t≤3):ey ⟨r,n⟩ t=if t=1 then !r else (r && (decide (t=2) || decide (n=0))):=by
 unfold ey
 rcases(show t=1∨t=2∨t=3 by omega) with rfl | rfl | rfl <;> cases r <;> simp
set_option maxRecDepth 100000 in
theorem qP (v:aM) (t:Int) (ht:1≤t∧t≤3) (w:World):Calls Tryz.prog 112 #[.agg #[.bool v.ref,.int .i64 v.n],.int .i64 t] w fun e w'=>e= .returned (.bool (ey v t))∧Below w.heap.size w w':=by
 obtain⟨r,n⟩:=v
 have h2:=Bi (r:=r) (n:=n) ht
 refine enter Tryz.func112 rfl Tryz.ntmps112 rfl ?_
 refine ac<|aa<|ag (bH rfl rfl rfl) rfl rfl (fun g1 _=>?_)
 refine rn 1 [1,2] rfl<|ae<|ac<|ac<|aa<|rn 2 [1,2,6] rfl<|ae<|ay rfl (fun h1=>?_) (fun h1=>?_)
 ·have h1:t=1:=h1
  rw[if_pos h1] at h2
  refine ac<|aa<|rn 1 [7] rfl<|af (ai fc fi rfl rfl (by rfl)) rfl rfl ?_
  refine rn 2 [4] rfl<|ae<|av (aj ?_)
  refine aB tw (ap rfl) ?_
  intro w hw
  exact⟨bz h2.symm,hw.below⟩
 have h1:¬t=1:=h1
 rw[if_neg h1] at h2
 refine az (au ?_)
 refine ac<|aa<|rn 1 [1,2,10] rfl<|af (ai fc fi rfl rfl (by rfl)) rfl rfl ?_
 refine rn 1 [1,2,12] rfl ?_
 cases r with
 | false=>
  refine bG (t:=12) (v':= .bool false) rfl (rfl) ?_
  refine rn 9 [4] rfl<|ae<|av<|aB tw (ap rfl) ?_
  intro w hw
  exact⟨bz (by rw[h2];rfl),hw.below⟩
 | true=>
  refine bG (t:=12) (v':= .bool true) rfl (rfl) ?_
  refine rn 3 [2,12,15] rfl<|bK (t:=15) rfl (fun q=>?_) (fun q=>?_)
  ·have q:t=2:=of_decide_eq_true q
   refine rn 6 [4] rfl<|ae<|av<|aB tw (ap rfl) ?_
   intro w hw
   exact⟨bz (by rw[h2];simp[q]),hw.below⟩
  have q:¬t=2:=of_decide_eq_false q
  refine rn 1 [12,15,16] rfl<|af (ai fc aq rfl rfl (by rfl)) rfl rfl ?_
  refine rn 4 [4] rfl<|ae<|av<|aB tw (ap rfl) ?_
  intro w hw
  exact⟨bz (by rw[h2];simp[q]),hw.below⟩
set_option maxRecDepth 100000 in
set_option maxHeartbeats 1000000 in
theorem vg (Ap:Option Addr) (cp:Nat) (fs:List aE) (k:Nat) (pc:Int) (q:Option (List Int)) (hq:eb fs (ar fs k) pc=q) (w:World) (hs:Sl w (.slice Ap fs.length cp) fs) (hk:k<fs.length) (hok:iV fs (ar fs k)) (hty:ly fs (ar fs k)) (hn0:0<(ar fs k).code.length) :
  Calls Tryz.prog 113 #[.agg #[.slice Ap fs.length cp],.int .i64 (k:Int),.int .i64 pc] w fun e w'=> ∃g:Option Addr×Nat,True∧e= .returned (.tuple #[.slice g.1 (q.getD []).length g.2,.bool q.isSome])∧
   Cw w.heap.size w [gt (.slice g.1 (q.getD []).length g.2) (q.getD [])] w':=by
 refine enter Tryz.func113 rfl Tryz.ntmps113 rfl ?_
 refine ac<|aa<|ag (bH rfl rfl rfl) rfl rfl (fun g1 _=>?_)
 refine rn 2 [1,2,3] rfl<|ae<|ac<|aa<|af (aL (vs:= [_]) fc bU bI rfl rfl (by rfl) rfl) rfl rfl ?_
 refine rn 1 [2,12,13] rfl<|ag (cI rfl rfl rfl Tryz.call59 (fun w hw=>nu Ap cp fs k w (hw.ro hs) hk hok hty hn0)) rfl rfl (fun⟨⟨A1,c1⟩,es,L⟩ hre=>?_)
 try dsimp only
 refine rn 5 [2,8] rfl<|ae<|ac<|ac<|aa<|rn 1 [2,8,10] rfl<|ae ?_
 have hre:jL es L (ck fs (ar fs k)).1:=hre
 have hl:=hre.len
 refine dz (p:=es.length≤140737488355328) (fun w hw=>bV (SF.at_ (SF.own (α:=fD) (xs:=es) rfl fc) hw)) fun b1=>?_
 refine aP (cn (fun i:Nat=>i≤es.length∧∀j,j<i→(hent es j).pc≠pc) (fun i=>es.length - i) (fun i=> [(2,.int .i64 pc),(8,.slice A1 es.length c1),(10,.int .i64 (i:Int))]) (fun _=> [ak (.slice A1 es.length c1) es,eD L]) 0 (⟨Nat.zero_le _,fun _ h=>absurd h (Nat.not_lt_zero _)⟩) ⟨rfl,rfl,rfl,trivial⟩ me ?_)
 rintro i hi'
 obtain⟨hi,hno⟩:i≤es.length∧∀j,j<i→(hent es j).pc≠pc:=hi'
 refine ac<|ac<|aa<|rn 2 [2,8,10,17,18] rfl<|af (aS fk rfl rfl) rfl rfl<|rn 1 [2,8,10,20] rfl<|ae<|ay rfl (fun hlt'=>?_) (fun hlt'=>?_)
 ·have hlt:i<es.length:=by omega
  have hlt2:i<(ck fs (ar fs k)).1.length:=by omega
  obtain⟨e1,e2⟩:=hre.el i hlt hlt2
  refine az (au ?_)
  refine ac<|aP<|ac<|aa<|rn 2 [2,8,10,23,24] rfl<|af (aQ (k:=i) fk kx (SF.own (xs:=es) rfl fc) (by omega) rfl rfl rfl) rfl rfl ?_
  refine rn 1 [2,8,10,26] rfl<|af (a9 (fun w hw=>SF.hent (SF.own (xs:=es) rfl fc) hlt w hw 0 _ rfl) rfl rfl aq) rfl rfl ?_
  refine rn 2 [2,8,10,29] rfl<|ae<|ay rfl (fun hp=>?_) (fun hp=>?_)
  ·have hp:(hent es i).pc=pc:=hp
   have hq2:q=some (ck fs (ar fs k)).1[i].stack:=by
    rw[←hq]
    unfold eb
    rw[uK hlt2 (by rw[←e1,←jt hlt];exact hp) (fun j hj h=>by
     have hj':j<es.length:=by omega
     have:=hno j hj
     rw[jt hj',(hre.el j hj' h).1] at this
     exact this)]
    rfl
   subst hq2
   rw[←jt hlt] at e2
   refine ac<|aa<|rn 2 [30,31] rfl<|af (aQ (k:=i) fk kx (SF.own (xs:=es) rfl fc) (by omega) rfl rfl rfl) rfl rfl ?_
   refine rn 1 [33] rfl<|af (a9 (fun w hw=>SF.hent (SF.own (xs:=es) rfl fc) hlt w hw 1 _ rfl) rfl rfl a7) rfl rfl ?_
   refine rn 2 [6,7] rfl<|ae<|av (aF (aj (aj (aF (aj ?_)))))
   refine bF Tryz.results113 (ap rfl) (ap rfl) ?_
   intro w hw
   obtain⟨A5,c5,e5⟩:=e2.form hw fc
   rw[e5] at e2⊢
   exact⟨(A5,c5),trivial,rfl,(oZ e2 (hw.msub (T:=eD L:: []) ms)).msub ms⟩
  have hp:¬(hent es i).pc=pc:=hp
  refine az (aI (au ?_))
  refine aa<|rn 1 [2,8,21] rfl<|af (bR rfl rfl rfl (by omega)) rfl rfl<|rn 1 [2,8,10] rfl<|bD (i+1) (⟨by show i+1≤_;omega,fun j hj=>(Nat.lt_or_ge j i).elim (hno j) (fun h=>by obtain rfl:j=i:=(by omega);exact hp)⟩) (by show _ - _<_ - _;omega) ⟨rfl,rfl,rfl,trivial⟩ me
 obtain rfl:i=es.length:=by omega
 have hq2:q=none:=by
  rw[←hq]
  unfold eb
  rw[uJ (fun j hj=>by
   have hj':j<es.length:=by omega
   have:=hno j hj'
   rw[jt hj',(hre.el j hj' hj).1] at this
   exact this)]
  rfl
 subst hq2
 refine bY (aU (aU (cz (au ?_))))
 refine ac<|aa<|rn 2 [6,7] rfl<|ae<|av<|bF Tryz.results113 (ap rfl) (ap rfl) ?_
 intro w hw
 exact⟨(none,0),trivial,rfl,(lf hw).msub ms⟩
end
section
theorem jE {n k:Nat} (hk:k<n):(List.range n).getD k 0=k:=by
 rw[List.getD_eq_getElem?_getD,List.getElem?_range hk]
 rfl
theorem xn {l:List aT} {k n:Nat} (hk:k<l.length) (h:bE (bd l k).func 0 ((n:Int) - 1)=false):l.any (fun x=>!bE x.func 0 ((n:Int) - 1))=true:=List.any_eq_true.2 ⟨_,eZ hk,by rw[h];rfl⟩
theorem uI {l:List aT} {n:Nat} (h:∀j,j<l.length→bE (bd l j).func 0 ((n:Int) - 1)=true):(¬l.any (fun x=>!bE x.func 0 ((n:Int) - 1))=true)∧∀x∈l,0≤x.func∧x.func<n:=by
 have h2:∀x∈l,bE x.func 0 ((n:Int) - 1)=true:=fun x hx=>by
  obtain⟨j,hj,rfl⟩:=List.getElem_of_mem hx
  have:=h j hj
  unfold bd at this
  rwa [List.getD_eq_getElem?_getD,List.getElem?_eq_getElem hj] at this
 refine⟨fun ha=>?_,fun x hx=>?_⟩
 ·obtain⟨x,hx,h3⟩:=List.any_eq_true.1 ha
  rw[h2 x hx] at h3
  cases h3
 have:=dC.1 (h2 x hx)
 omega
section
variable {B:Nat} {w0:World} {H:List bj}
set_option maxRecDepth 100000 in
set_option maxHeartbeats 4000000 in
theorem t4 (gc:Nat) (a:MA) (m:aO) (Ap:Option Addr) (cp:Nat) (fs:List aE) (hs:bS w0 B (.slice Ap fs.length cp) fs) (hm:d9 B w0 a m) (hF:ew fs) (hfit:iE m.frames) (E:Int) (hE:iO fs m=E) (w:World) (hw:Cw B w0 (am gc [.slice a.Af m.frames.length a.cf,.slice a.Ab m.blocks.length a.cb,.slice a.Ai m.inn.length a.ci,.slice a.Ao m.out.length a.co,.int .i64 m.status,.int .i64 m.trap,.slice Ap fs.length cp] 147::H) w) :
  Calls Tryz.prog 142 #[.pointer (some ⟨gc,0,none⟩)] w fun e w'=> ∃_:Unit,True∧e= .returned (.int .i64 E)∧Cw B w0 (am gc [.slice a.Af m.frames.length a.cf,.slice a.Ab m.blocks.length a.cb,.slice a.Ai m.inn.length a.ci,.slice a.Ao m.out.length a.co,.int .i64 m.status,.int .i64 m.trap,.slice Ap fs.length cp] 147::H) w':=by
 have bf:=bV hm.f
 have bp:=bV hs
 unfold iO at hE
 refine cY Tryz.func142 rfl Tryz.ntmps142 rfl hw ?_
 refine ac<|aa<|rn 1 [0] rfl<|ae<|dS (fun _:Unit=> ¬6<m.frames.length∧¬(m.frames.length=0∧m.status≠2)∧¬(0<m.frames.length∧m.status=2)) (fun _=> [(0,.pointer (some ⟨gc,0,none⟩))]) (fun _=>am gc [.slice a.Af m.frames.length a.cf,.slice a.Ab m.blocks.length a.cb,.slice a.Ai m.inn.length a.ci,.slice a.Ao m.out.length a.co,.int .i64 m.status,.int .i64 m.trap,.slice Ap fs.length cp] 147::H) ?_ ?_
 ·refine ac<|aa<|rn 4 [0,12] rfl<|af (ai fc bL rfl rfl (by rfl)) rfl rfl ?_
  refine af (aS aV rfl rfl) rfl rfl<|rn 1 [0,3] rfl<|ae<|aP<|ac<|aa<|rn 3 [0,3,15] rfl<|ae<|ay rfl (fun h6=>?_) (fun h6=>?_)
  ·rw[if_pos (by omega)] at hE
   subst hE
   refine ac<|aa<|rn 1 [2] rfl<|ae<|av (aF (aj ?_))
   refine aB iI (ap rfl) ?_
   intro w hw
   exact⟨(),trivial,rfl,hw.msub ms⟩
  have h6:¬6<m.frames.length:=by omega
  rw[if_neg h6] at hE
  refine ac<|aa<|rn 3 [0,3,21] rfl<|bK (t:=21) rfl (fun h0=>?_) (fun h0=>?_)
  ·have h0:=of_decide_eq_true h0
   have h0:m.frames.length=0:=by omega
   refine rn 4 [0,3,21,25] rfl<|af (ai fc aq rfl rfl (by rfl)) rfl rfl ?_
   refine rn 3 [0,3,18] rfl<|ae<|bZ rfl (fun h2=>?_) (fun h2=>?_)
   ·rw[if_pos ⟨h0,h2⟩] at hE
    subst hE
    refine ac<|aa<|rn 1 [2] rfl<|ae<|av (aF (aj ?_))
    refine aB iI (ap rfl) ?_
    intro w hw
    exact⟨(),trivial,rfl,hw.msub ms⟩
   refine ac<|aa<|rn 3 [0,32] rfl<|bK (t:=32) rfl (fun h3=>?_) (fun h3=>?_)
   ·have h3:=of_decide_eq_true h3
    exact absurd h3 (by omega)
   refine rn 8 [0,29] rfl<|ae<|dd rfl<|az (aI ?_)
   refine aY () (⟨h6,fun h=>h.2 h2,fun h=>by omega⟩) ⟨rfl,trivial⟩ (fun _ h=>h.msub ms)
  have h0:=of_decide_eq_false h0
  have h0:¬m.frames.length=0:=by omega
  rw[if_neg (fun h=>h0 h.1)] at hE
  refine rn 8 [0,3,18] rfl<|ae<|dd rfl<|ac<|aa<|rn 3 [0,32] rfl<|bK (t:=32) rfl (fun h3=>?_) (fun h3=>?_)
  ·refine rn 4 [0,32,36] rfl<|af (ai fc aq rfl rfl (by rfl)) rfl rfl ?_
   refine rn 3 [0,29] rfl<|ae<|ay rfl (fun h2=>?_) (fun h2=>?_)
   ·rw[if_pos ⟨by omega,h2⟩] at hE
    subst hE
    refine ac<|aa<|rn 1 [2] rfl<|ae<|av (aF (aj ?_))
    refine aB iI (ap rfl) ?_
    intro w hw
    exact⟨(),trivial,rfl,hw.msub ms⟩
   refine az (aI ?_)
   refine aY () (⟨h6,fun h=>h0 h.1,fun h=>h2 h.2⟩) ⟨rfl,trivial⟩ (fun _ h=>h.msub ms)
  have h3:=of_decide_eq_false h3
  exact absurd h3 (by omega)
 rintro⟨⟩ ⟨h1,h2,h3⟩
 rw[if_neg h1,if_neg h2,if_neg h3] at hE
 refine ac<|ac<|aa<|rn 4 [0,43] rfl<|af (ai fc bL rfl rfl (by rfl)) rfl rfl ?_
 refine af (aS aV rfl rfl) rfl rfl<|rn 1 [0,44,45,46] rfl<|ae<|aP (cn (fun k:Nat=>k≤m.frames.length∧∀j,j<k→bE (bd m.frames j).func 0 ((fs.length:Int) - 1)=true) (fun k=>m.frames.length - k) (fun k=> [(0,.pointer (some ⟨gc,0,none⟩)),(44,.slice a.Af m.frames.length a.cf),(45,.int .i64 (m.frames.length:Int)),(46,.int .i64 (k:Int))]) (fun _=>am gc [.slice a.Af m.frames.length a.cf,.slice a.Ab m.blocks.length a.cb,.slice a.Ai m.inn.length a.ci,.slice a.Ao m.out.length a.co,.int .i64 m.status,.int .i64 m.trap,.slice Ap fs.length cp] 147::H) 0 (⟨Nat.zero_le _,fun _ h=>absurd h (Nat.not_lt_zero _)⟩) ⟨rfl,rfl,rfl,rfl,trivial⟩ (fun w h=>h.msub ms) ?_)
 rintro k hk'
 obtain⟨hk,hno⟩:k≤m.frames.length∧∀j,j<k→bE (bd m.frames j).func 0 ((fs.length:Int) - 1)=true:=hk'
 refine ac<|aa<|rn 1 [0,44,45,46,47] rfl<|ae<|ac<|ay rfl (fun hlt=>?_) (fun hlt=>?_)
 ·have hkl:k<m.frames.length:=by omega
  obtain⟨A1,c1,A2,c2,hl,hst,hI,hcell⟩:=hm.f.fr hkl
  refine az (au ?_)
  refine ac<|aP<|ac<|aa<|af (aQ aV bn (.ro hm.f) (by omega) rfl rfl rfl) rfl rfl<|af (cu (hcell _) rfl rfl gj bn) rfl rfl<|ag (aZ cK rfl rfl) rfl rfl (fun g1 _=>?_)
  refine ag (aG _ fc bn rfl rfl rfl rfl rfl (by rfl) rfl (by rfl)) rfl rfl (fun _ _=>?_)
  refine ae<|ac<|bN (.still 0 (.still 1 (.still 2 (.still 3 (.still 4 (.still 5 (.still 6 (.still 7 (.still 8 (.pick 9 (.still 10 .done) .stop)))))))))) [] rfl (by kernel_rfl) (by kernel_rfl) ?_
  refine aW ha 1 [0,44,45,46,50] rfl<|an rfl (ai fc aq rfl rfl (by rfl)) rfl rfl ha ?_
  refine aW ha 4 [0,44,45,46,51,55] rfl<|an rfl (ai fc cF rfl rfl (by rfl)) rfl rfl ha ?_
  refine an rfl (aS bw rfl rfl) rfl rfl ha ?_
  refine an rfl (bt rfl rfl rfl (by omega)) rfl rfl ha ?_
  refine aC rfl (br rfl rfl rfl tC (fun w hw=>i6 (bd m.frames k).func 0 ((fs.length:Int) - 1) w)) rfl rfl (.inr fun _=>ha) (fun _ _=>?_) ax
  refine aW ha 1 [0,44,45,46,60] rfl<|cA<|cB rfl (fun hb=>?_) (fun hb=>?_)
  ·have hb:bE (bd m.frames k).func 0 ((fs.length:Int) - 1)=false:=by simpa using hb
   rw[if_pos (xn hkl hb)] at hE
   subst hE
   refine ac<|aa<|rn 1 [2] rfl<|ae<|av (aF (aj (aj (aF (aj ?_)))))
   refine aB iI (ap rfl) ?_
   intro w hw
   exact⟨(),trivial,rfl,hw.msub ms⟩
  have hb:bE (bd m.frames k).func 0 ((fs.length:Int) - 1)=true:=by simpa using hb
  refine az (aI (au ?_))
  refine aa<|af (bR rfl rfl rfl (by omega)) rfl rfl<|rn 1 [0,44,45,46] rfl<|bD (k+1) (⟨by show k+1≤_;omega,fun j hj=>(Nat.lt_or_ge j k).elim (hno j) (fun h=>by obtain rfl:j=k:=(by omega);exact hb)⟩) (by show _ - _<_ - _;omega) ⟨rfl,rfl,rfl,rfl,trivial⟩ (fun w h=>h.msub ms)
 obtain rfl:k=m.frames.length:=by omega
 obtain⟨hany,hfn⟩:=uI hno
 rw[if_neg hany] at hE
 refine bY (aU (aU (cz (au ?_))))
 refine ac<|ac<|aa<|rn 4 [0,65] rfl<|af (ai fc bL rfl rfl (by rfl)) rfl rfl ?_
 refine af (aS aV rfl rfl) rfl rfl<|rn 1 [0,66,67,68] rfl<|ae<|aP (cn (fun k:Nat=>k≤m.frames.length∧(0<k→¬(0<m.frames.length∧(bd m.frames 0).func≠0))∧dO (en fs m.blocks.length m.frames) ((List.range m.frames.length).take k)=0) (fun k=>m.frames.length - k) (fun k=> [(0,.pointer (some ⟨gc,0,none⟩)),(66,.slice a.Af m.frames.length a.cf),(67,.int .i64 (m.frames.length:Int)),(68,.int .i64 (k:Int))]) (fun _=>am gc [.slice a.Af m.frames.length a.cf,.slice a.Ab m.blocks.length a.cb,.slice a.Ai m.inn.length a.ci,.slice a.Ao m.out.length a.co,.int .i64 m.status,.int .i64 m.trap,.slice Ap fs.length cp] 147::H) 0 (⟨Nat.zero_le _,fun h=>absurd h (Nat.not_lt_zero _),rfl⟩) ⟨rfl,rfl,rfl,rfl,trivial⟩ (fun w h=>h.msub ms) ?_)
 rintro k hk'
 obtain⟨hk,hz0,hno2⟩:k≤m.frames.length∧(0<k→¬(0<m.frames.length∧(bd m.frames 0).func≠0))∧dO (en fs m.blocks.length m.frames) ((List.range m.frames.length).take k)=0:=hk'
 refine ac<|aa<|rn 1 [0,66,67,68,69] rfl<|ae<|ac<|ay rfl (fun hlt=>?_) (fun hlt=>?_)
 ·have hkl:k<m.frames.length:=by omega
  obtain⟨A1,c1,A2,c2,hl,hst,hI,hcell⟩:=hm.f.fr hkl
  refine az (au ?_)
  refine ac<|aP<|ac<|aa<|rn 1 [0,66,67,68,70] rfl<|af (aQ aV bn (.ro hm.f) (by omega) rfl rfl rfl) rfl rfl<|af (cu (hcell _) rfl rfl gj bn) rfl rfl<|ag (aZ cK rfl rfl) rfl rfl (fun g2 _=>?_)
  refine rn 1 [0,6,7,66,67,68,72] rfl<|ag (aG _ fc bn rfl rfl rfl rfl rfl (by rfl) rfl (by rfl)) rfl rfl (fun _ _=>?_)
  refine ae<|ac<|ac<|aa<|rn 3 [0,6,7,66,67,68,75] rfl<|bK (t:=75) rfl (fun hz=>?_) (fun hz=>?_)
  ·have hz:=of_decide_eq_true hz
   obtain rfl:k=0:=by omega
   refine rn 1 [0,6,66,67,68,75,76] rfl<|af (ai fc aq rfl rfl (by rfl)) rfl rfl ?_
   refine rn 2 [0,6,66,67,68,79] rfl<|ae<|bZ rfl (fun hf=>?_) (fun hf=>?_)
   ·rw[if_pos ⟨hkl,hf⟩] at hE
    subst hE
    refine ac<|aa<|rn 1 [2] rfl<|ae<|av (aj (aF (aj (aj (aF (aj ?_))))))
    refine aB iI (ap rfl) ?_
    intro w hw
    exact⟨(),trivial,rfl,hw.msub ms⟩
   have h0:¬(0<m.frames.length∧(bd m.frames 0).func≠0):=fun h=>h.2 hf
   refine az (au ?_)
   refine ac<|aa<|rn 2 [0,66,67,68,80,81] rfl<|ag (bC rfl rfl rfl Tryz.call180 (fun w hw=>qe gc a m Ap cp fs hs hm hF hfit 0 hkl hfn _ rfl w (hw.msub (.s fc .r)))) rfl rfl (fun _ _=>?_)
   refine rn 1 [0,8,66,67,68] rfl<|ae<|ac<|aa<|rn 2 [0,8,66,67,68,84] rfl<|ae<|bZ rfl (fun he=>?_) (fun he=>?_)
   ·have he:en fs m.blocks.length m.frames 0≠0:=he
    have hsn:=gJ (g:=en fs m.blocks.length m.frames) (l:=List.range m.frames.length) 0 (by rw[List.length_range];exact hkl) hno2
    rw[jE hkl] at hsn
    rw[if_neg h0,ku (k:=0+1) (by rw[hsn];exact he),hsn] at hE
    subst hE
    refine ac<|aa<|rn 2 [2] rfl<|ae<|av (aF (aj (aj (aF (aj ?_)))))
    refine aB iI (ap rfl) ?_
    intro w hw
    exact⟨(),trivial,rfl,hw.msub ms⟩
   have he:en fs m.blocks.length m.frames 0=0:=he
   have hsn:=gJ (g:=en fs m.blocks.length m.frames) (l:=List.range m.frames.length) 0 (by rw[List.length_range];exact hkl) hno2
   rw[jE hkl,he] at hsn
   refine az (aI (au ?_))
   refine aa<|af (bR rfl rfl rfl (by omega)) rfl rfl<|rn 1 [0,66,67,68] rfl<|bD 1 (⟨by show 1≤_;omega,fun _=>h0,hsn⟩) (by show _ - _<_ - _;omega) ⟨rfl,rfl,rfl,rfl,trivial⟩ (fun w h=>h.msub ms)
  have hz:=of_decide_eq_false hz
  have h0:=hz0 (by omega)
  refine rn 4 [0,6,66,67,68,79] rfl<|ae<|dd rfl<|az (au ?_)
  refine ac<|aa<|rn 2 [0,66,67,68,80,81] rfl<|ag (bC rfl rfl rfl Tryz.call180 (fun w hw=>qe gc a m Ap cp fs hs hm hF hfit k hkl hfn _ rfl w (hw.msub (.s fc .r)))) rfl rfl (fun _ _=>?_)
  refine rn 1 [0,8,66,67,68] rfl<|ae<|ac<|aa<|rn 2 [0,8,66,67,68,84] rfl<|ae<|bZ rfl (fun he=>?_) (fun he=>?_)
  ·have he:en fs m.blocks.length m.frames k≠0:=he
   have hsn:=gJ (g:=en fs m.blocks.length m.frames) (l:=List.range m.frames.length) 0 (by rw[List.length_range];exact hkl) hno2
   rw[jE hkl] at hsn
   rw[if_neg h0,ku (k:=k+1) (by rw[hsn];exact he),hsn] at hE
   subst hE
   refine ac<|aa<|rn 2 [2] rfl<|ae<|av (aF (aj (aj (aF (aj ?_)))))
   refine aB iI (ap rfl) ?_
   intro w hw
   exact⟨(),trivial,rfl,hw.msub ms⟩
  have he:en fs m.blocks.length m.frames k=0:=he
  have hsn:=gJ (g:=en fs m.blocks.length m.frames) (l:=List.range m.frames.length) 0 (by rw[List.length_range];exact hkl) hno2
  rw[jE hkl,he] at hsn
  refine az (aI (au ?_))
  refine aa<|af (bR rfl rfl rfl (by omega)) rfl rfl<|rn 1 [0,66,67,68] rfl<|bD (k+1) (⟨by show k+1≤_;omega,fun _=>h0,hsn⟩) (by show _ - _<_ - _;omega) ⟨rfl,rfl,rfl,rfl,trivial⟩ (fun w h=>h.msub ms)
 obtain rfl:k=m.frames.length:=by omega
 rw[List.take_of_length_le (by rw[List.length_range];exact Nat.le_refl _)] at hno2
 have h0:¬(0<m.frames.length∧(bd m.frames 0).func≠0):=fun h=>hz0 h.1 h
 rw[if_neg h0,hno2] at hE
 subst hE
 refine bY (aU (aU (cz (au ?_))))
 refine ac<|aa<|rn 1 [2] rfl<|ae<|av<|aB iI (ap rfl) ?_
 intro w hw
 exact⟨(),trivial,rfl,hw.msub ms⟩
end
end
section
set_option maxRecDepth 100000 in
theorem w5 (n:Int) (w:World):Calls Tryz.prog 179 #[.int .i64 n] w fun e w'=>e= .returned (.bool (!cH n))∧Below w.heap.size w w':=by
 refine enter Tryz.func179 rfl Tryz.ntmps179 rfl ?_
 refine ac<|aa<|rn 1 [0] rfl<|ae<|ac<|aa<|rn 1 [3] rfl<|ag (br rfl rfl rfl Tryz.call93 ((fun w hw=>fj ((fun w hw=>n8 n w) w hw)))) rfl rfl (fun _ _=>?_)
 refine rn 2 [2] rfl<|ae<|av<|aB Tryz.results179 (ap rfl) ?_
 intro w hw
 exact⟨rfl,hw.below⟩
set_option maxRecDepth 100000 in
theorem sg (A:Option Addr) (c:Nat) (l:List Int) (w:World) (hs:Sl w (.slice A l.length c) l):Calls Tryz.prog 141 #[.slice A l.length c] w fun e w'=>e= .returned (.bool (dk l))∧Below w.heap.size w w':=by
 refine enter Tryz.func141 rfl Tryz.ntmps141 rfl ?_
 refine ac<|aa<|rn 1 [0] rfl<|ae<|ac<|aa<|rn 1 [3] rfl<|ag (br rfl rfl rfl Ec (fun w hw=>nH A c l 179 #[] (fun n=>!cH n) w (hw.ro hs) Tryz.call179 (fun w1 _ x _=>w5 x w1))) rfl rfl (fun _ _=>?_)
 refine rn 1 [2] rfl<|ae<|av<|aB Tryz.results141 (ap rfl) ?_
 intro w hw
 exact⟨rfl,hw.below⟩
theorem yP (m:aO):fh m=bd m.frames (m.frames.length - 1):=by
 unfold fh bd
 rw[List.getLastD_eq_getLast?,List.getLast?_eq_getElem?,List.getD_eq_getElem?_getD]
section
variable {B:Nat} {w0:World} {H:List bj}
set_option maxRecDepth 100000 in
set_option maxHeartbeats 4000000 in
theorem sU (gc:Nat) (a:MA) (m:aO) (Ap:Option Addr) (cp:Nat) (fs:List aE) (hs:bS w0 B (.slice Ap fs.length cp) fs) (hm:d9 B w0 a m) (hF:ew fs) (hfit:iE m.frames) (E:Int) (hE:iY fs m=E) (w:World) (hw:Cw B w0 (am gc [.slice a.Af m.frames.length a.cf,.slice a.Ab m.blocks.length a.cb,.slice a.Ai m.inn.length a.ci,.slice a.Ao m.out.length a.co,.int .i64 m.status,.int .i64 m.trap,.slice Ap fs.length cp] 147::H) w) :
  Calls Tryz.prog 106 #[.pointer (some ⟨gc,0,none⟩)] w fun e w'=> ∃_:Unit,True∧e= .returned (.int .i64 E)∧Cw B w0 (am gc [.slice a.Af m.frames.length a.cf,.slice a.Ab m.blocks.length a.cb,.slice a.Ai m.inn.length a.ci,.slice a.Ao m.out.length a.co,.int .i64 m.status,.int .i64 m.trap,.slice Ap fs.length cp] 147::H) w':=by
 have bf:=bV hm.f
 have bp:=bV hs
 unfold iY at hE
 refine cY Tryz.func106 rfl Tryz.ntmps106 rfl hw ?_
 refine ac<|aa<|rn 1 [0] rfl<|ae<|ac<|aa<|rn 2 [0,3,4] rfl<|ae<|dS (fun _:Unit=>True) (fun _=> [(0,.pointer (some ⟨gc,0,none⟩)),(3,.int .i64 (if m.status=3 then 1 else 0)),(4,.int .i64 (if m.status=3 then 5 else 0))]) (fun _=>am gc [.slice a.Af m.frames.length a.cf,.slice a.Ab m.blocks.length a.cb,.slice a.Ai m.inn.length a.ci,.slice a.Ao m.out.length a.co,.int .i64 m.status,.int .i64 m.trap,.slice Ap fs.length cp] 147::H) ?_ ?_
 ·refine ac<|aa<|rn 4 [0,3,4,11] rfl<|af (ai fc aq rfl rfl (by rfl)) rfl rfl ?_
  refine rn 1 [0,3,4,13] rfl<|ae<|ay rfl (fun h3=>?_) (fun h3=>?_)
  ·rw[if_pos h3,if_pos h3]
   refine aa<|rn 2 [0,3,4] rfl<|gM () (trivial) ⟨rfl,rfl,rfl,trivial⟩ (fun _ h=>h.msub ms)
  rw[if_neg h3,if_neg h3]
  refine az<|aY () (trivial) ⟨rfl,rfl,rfl,trivial⟩ (fun _ h=>h.msub ms)
 rintro⟨⟩ _
 refine ac<|aP<|ac<|aa<|rn 4 [0,3,4,18] rfl<|af (ai fc aq rfl rfl (by rfl)) rfl rfl ?_
 refine ag (br rfl rfl rfl tC (fun w hw=>i6 m.status 0 3 w)) rfl rfl (fun _ _=>?_)
 refine rn 2 [0,3,4,14] rfl<|ae<|cB rfl (fun h1=>?_) (fun h1=>?_)
 ·rw[if_pos (by simpa using h1)] at hE
  subst hE
  refine ac<|aa<|rn 1 [2] rfl<|ae<|av (aF (aj ?_))
  refine aB fa (ap rfl) ?_
  intro w hw
  exact⟨(),trivial,rfl,hw.msub ms⟩
 rw[if_neg (by simpa using h1)] at hE
 refine ac<|aa<|rn 4 [0,3,4,26] rfl<|af (ai fc aq rfl rfl (by rfl)) rfl rfl ?_
 refine rn 2 [0,27,28,29] rfl<|ag (br rfl rfl rfl tC (fun w hw=>i6 m.trap _ _ w)) rfl rfl (fun _ _=>?_)
 refine rn 2 [0,22] rfl<|ae<|cB rfl (fun h2=>?_) (fun h2=>?_)
 ·rw[if_pos (by simpa using h2)] at hE
  subst hE
  refine ac<|aa<|rn 1 [2] rfl<|ae<|av (aF (aj ?_))
  refine aB fa (ap rfl) ?_
  intro w hw
  exact⟨(),trivial,rfl,hw.msub ms⟩
 rw[if_neg (by simpa using h2)] at hE
 refine az (aI (au ?_))
 refine ac<|ac<|aa<|rn 4 [0,35] rfl<|af (ai fc ed rfl rfl (by rfl)) rfl rfl ?_
 refine ag (br rfl rfl rfl Tryz.call140 (fun w hw=>vQ _ m.blocks w (hw.ro hm.b))) rfl rfl (fun _ _=>?_)
 refine rn 1 [0,5] rfl<|ae<|ac<|aa<|rn 2 [0,5,39] rfl<|ae<|bZ rfl (fun h3=>?_) (fun h3=>?_)
 ·rw[if_pos h3] at hE
  subst hE
  refine ac<|aa<|rn 2 [2] rfl<|ae<|av (aj ?_)
  refine aB fa (ap rfl) ?_
  intro w hw
  exact⟨(),trivial,rfl,hw.msub ms⟩
 rw[if_neg (fun h=>h h3)] at hE
 refine az (au ?_)
 refine dS (fun _:Unit=>(¬(10<m.inn.length∨10<m.out.length))∧¬(dk m.inn=true∨dk m.out=true)) (fun _=> [(0,.pointer (some ⟨gc,0,none⟩))]) (fun _=>am gc [.slice a.Af m.frames.length a.cf,.slice a.Ab m.blocks.length a.cb,.slice a.Ai m.inn.length a.ci,.slice a.Ao m.out.length a.co,.int .i64 m.status,.int .i64 m.trap,.slice Ap fs.length cp] 147::H) ?_ ?_
 ·refine aP<|ac<|aa<|rn 4 [0,45] rfl<|af (ai fc a7 rfl rfl (by rfl)) rfl rfl ?_
  refine af (aS ah rfl rfl) rfl rfl<|rn 2 [0,49] rfl<|bK (t:=49) rfl (fun h4=>?_) (fun h4=>?_)
  ·have h4:=of_decide_eq_true h4
   rw[if_pos (.inl (by omega))] at hE
   subst hE
   refine rn 9 [0,41] rfl<|ae<|bA rfl<|ac<|aa<|rn 1 [2] rfl<|ae<|av (aF (aj ?_))
   refine aB fa (ap rfl) ?_
   intro w hw
   exact⟨(),trivial,rfl,hw.msub ms⟩
  have h4:=of_decide_eq_false h4
  refine rn 4 [0,49,53] rfl<|af (ai fc a7 rfl rfl (by rfl)) rfl rfl ?_
  refine af (aS ah rfl rfl) rfl rfl<|rn 3 [0,41] rfl<|ae<|ay rfl (fun h5=>?_) (fun h5=>?_)
  ·rw[if_pos (.inr (by omega))] at hE
   subst hE
   refine ac<|aa<|rn 1 [2] rfl<|ae<|av (aF (aj ?_))
   refine aB fa (ap rfl) ?_
   intro w hw
   exact⟨(),trivial,rfl,hw.msub ms⟩
  have h45:¬(10<m.inn.length∨10<m.out.length):=by omega
  rw[if_neg h45] at hE
  refine ac<|aa<|rn 4 [0,62] rfl<|af (ai fc a7 rfl rfl (by rfl)) rfl rfl ?_
  refine ag (br rfl rfl rfl Tryz.call141 (fun w hw=>sg a.Ai a.ci m.inn w (hw.ro hm.i))) rfl rfl (fun _ _=>?_)
  refine rn 1 [0,65] rfl<|bK (t:=65) rfl (fun h6=>?_) (fun h6=>?_)
  ·rw[if_pos (.inl h6)] at hE
   subst hE
   refine rn 8 [0,58] rfl<|ae<|bA rfl<|ac<|aa<|rn 1 [2] rfl<|ae<|av (aF (aj ?_))
   refine aB fa (ap rfl) ?_
   intro w hw
   exact⟨(),trivial,rfl,hw.msub ms⟩
  refine rn 4 [0,65,69] rfl<|af (ai fc a7 rfl rfl (by rfl)) rfl rfl ?_
  refine ag (br rfl rfl rfl Tryz.call141 (fun w hw=>sg a.Ao a.co m.out w (hw.ro hm.o))) rfl rfl (fun _ _=>?_)
  refine rn 2 [0,58] rfl<|ae<|cB rfl (fun h7=>?_) (fun h7=>?_)
  ·rw[if_pos (.inr h7)] at hE
   subst hE
   refine ac<|aa<|rn 1 [2] rfl<|ae<|av (aF (aj ?_))
   refine aB fa (ap rfl) ?_
   intro w hw
   exact⟨(),trivial,rfl,hw.msub ms⟩
  have h67:¬(dk m.inn=true∨dk m.out=true):=by rw[h6,h7];simp
  refine az (aI ?_)
  refine aY () (⟨h45,h67⟩) ⟨rfl,trivial⟩ (fun _ h=>h.msub ms)
 rintro⟨⟩ ⟨h4,h5⟩
 rw[if_neg h4,if_neg h5] at hE
 refine ac<|ac<|aa<|rn 1 [0,73] rfl<|ag (bC rfl rfl rfl Tryz.call142 (fun w hw=>t4 gc a m Ap cp fs hs hm hF hfit _ rfl w (hw.msub (.s fc .r)))) rfl rfl (fun _ _=>?_)
 refine rn 1 [0,6] rfl<|ae<|ac<|aa<|rn 2 [0,6,76] rfl<|ae<|bZ rfl (fun h6=>?_) (fun h6=>?_)
 ·rw[if_pos h6] at hE
  subst hE
  refine ac<|aa<|rn 2 [2] rfl<|ae<|av (aj ?_)
  refine aB fa (ap rfl) ?_
  intro w hw
  exact⟨(),trivial,rfl,hw.msub ms⟩
 rw[if_neg (fun h=>h h6)] at hE
 refine az (au ?_)
 refine ac<|ac<|aa<|rn 4 [0,81] rfl<|af (ai fc aq rfl rfl (by rfl)) rfl rfl ?_
 refine rn 1 [0,83] rfl<|ae<|bZ rfl (fun h7=>?_) (fun h7=>?_)
 ·rw[if_pos h7] at hE
  subst hE
  refine ac<|aa<|rn 1 [2] rfl<|ae<|av (aj ?_)
  refine aB fa (ap rfl) ?_
  intro w hw
  exact⟨(),trivial,rfl,hw.msub ms⟩
 rw[if_neg (fun h=>h h7)] at hE
 obtain⟨_,hdn,hfn,_,hfr⟩:=lT.1 h6
 have hne:m.frames.length≠0:=fun h=>by
  have:=hdn.1 (List.eq_nil_of_length_eq_zero h)
  omega
 obtain⟨k,hk⟩:∃k,m.frames.length=k+1:=⟨m.frames.length - 1,by omega⟩
 have hkl:k<m.frames.length:=by omega
 obtain⟨A1,c1,A2,c2,hl,hst,hI,hcell⟩:=hm.f.fr hkl
 have hx:=hfn _ (eZ hkl)
 obtain⟨kf,hkf⟩:∃kf:Nat,(bd m.frames k).func=kf:=⟨(bd m.frames k).func.toNat,by omega⟩
 have hkfl:kf<fs.length:=by omega
 obtain⟨F1,d1,F2,d2,hfl,hfc,hfi,hfcell⟩:=hs.fn hkfl
 obtain⟨t,ht,_⟩:=hfr k hkl
 unfold fQ gk at ht
 rw[if_pos hk.symm,hkf,Int.toNat_natCast] at ht
 obtain⟨hp0,hp1,_⟩:=(hF.e _ hkfl).at_ _ _ ht
 have hop:be fs m=bx (ar fs kf).code (bd m.frames k).pc.toNat:=by
  unfold be
  rw[yP,hk,Nat.add_sub_cancel,hkf,Int.toNat_natCast]
 rw[hop] at hE
 rw[hkf] at hcell
 refine az (au ?_)
 refine ac<|bN (.still 0 (.still 1 (.still 2 (.still 3 (.still 4 (.still 5 (.still 6 (.still 7 (.still 8 (.still 9 (.still 10 (.still 11 (.still 12 (.still 13 (.pick 14 (.pick 15 .done .stop) .stop))))))))))))))) [15] rfl (by kernel_rfl) (by kernel_rfl) ?_
 refine aW ha 4 [0,87] rfl<|an rfl (ai fc bL rfl rfl (by rfl)) rfl rfl ha ?_
 refine aW ha 4 [0,88,92] rfl<|an rfl (ai fc bL rfl rfl (by rfl)) rfl rfl ha ?_
 refine an rfl (aS aV rfl rfl) rfl rfl ha ?_
 refine an rfl (bt rfl rfl rfl (by omega)) rfl rfl ha ?_
 refine cG (t:=95) (v':= .int .i64 (k:Int)) rfl (by rw[hk];congr 1;omega) ?_
 refine an rfl (aQ (k:=k) aV bn (.ro hm.f) hkl rfl rfl rfl) rfl rfl ha ?_
 refine an rfl (cu (hcell _) rfl rfl gj bn) rfl rfl ha ?_
 refine aC rfl (aZ cK rfl rfl) rfl rfl (.inr fun _=>ha) (fun g1 _=>?_) ax
 refine aC rfl (aG _ fc bn rfl rfl rfl rfl rfl (by rfl) rfl (by rfl)) rfl rfl (.inl rfl) (fun _ _=>?_) ax
 refine cA<|ac<|ac<|bN (.still 0 (.still 1 (.still 2 (.still 3 (.still 4 (.still 5 (.still 6 (.still 7 (.still 8 (.still 9 (.still 10 (.still 11 (.still 12 (.still 13 (.still 14 (.still 15 (.still 16 (.still 17 (.still 18 (.still 19 (.still 20 (.still 21 (.still 22 (.still 23 (.still 24 .done))))))))))))))))))))))))) [] rfl (by kernel_rfl) (by kernel_rfl) ?_
 refine aW ha 4 [0,7,101] rfl<|an rfl (ai fc a7 rfl rfl (by rfl)) rfl rfl ha ?_
 refine an rfl (aS ah rfl rfl) rfl rfl ha ?_
 refine aW ha 2 [0,7,105] rfl<|ld (t:=105) rfl (fun h8=>?_) (fun h8=>?_)
 ·have h8:=of_decide_eq_true h8
  rw[if_pos (.inl (by omega))] at hE
  subst hE
  refine aW ha 17 [122] rfl<|cA<|bA rfl<|ac<|aa<|rn 1 [2] rfl<|ae<|av (aj ?_)
  refine aB fa (ap rfl) ?_
  intro w hw
  exact⟨(),trivial,rfl,hw.msub ms⟩
 have h8:=of_decide_eq_false h8
 refine aW ha 4 [7,105,109] rfl<|an rfl (ai fc cF rfl rfl (by rfl)) rfl rfl ha ?_
 refine aW ha 1 [7,105,110,111] rfl<|an rfl (ai fc aq rfl rfl (by rfl)) rfl rfl ha ?_
 refine an rfl (aQ (k:=kf) bw bg (.ro hs) (by omega) rfl rfl rfl) rfl rfl ha ?_
 refine aW ha 1 [7,105,114] rfl<|an rfl (a9 (fun w hw=>hfcell _ w hw 3 _ rfl) rfl rfl dw) rfl rfl ha ?_
 refine aW ha 1 [105,115,116] rfl<|an rfl (ai fc aq rfl rfl (by rfl)) rfl rfl ha ?_
 refine an rfl (e8 bu b8 (.ro hfc) (by omega) rfl rfl rfl) rfl rfl ha ?_
 refine aW ha 1 [105,119] rfl<|an rfl (a9 (SF.opc (.ro hfc) (by omega)) rfl rfl aq) rfl rfl ha ?_
 refine aW ha 2 [122] rfl<|cA<|bZ rfl (fun h9=>?_) (fun h9=>?_)
 ·rw[if_pos (.inr h9)] at hE
  subst hE
  refine ac<|aa<|rn 1 [2] rfl<|ae<|av (aj ?_)
  refine aB fa (ap rfl) ?_
  intro w hw
  exact⟨(),trivial,rfl,hw.msub ms⟩
 have h9:(bx (ar fs kf).code (bd m.frames k).pc.toNat).c=21:=h9
 rw[if_neg (fun h=>h.elim (fun h=>h8 (by omega)) (fun h=>h h9))] at hE
 subst hE
 refine az (au ?_)
 refine ac<|aa<|rn 1 [2] rfl<|ae<|av<|aB fa (ap rfl) ?_
 intro w hw
 exact⟨(),trivial,rfl,hw.msub ms⟩
end
set_option maxRecDepth 100000 in
set_option maxHeartbeats 1000000 in
theorem vq (Ap:Option Addr) (cp:Nat) (fs:List aE) (a:MA) (m:aO) (w:World) (hs:Sl w (.slice Ap fs.length cp) fs) (hm:d9 w.heap.size w a m) (hF:ew fs) (hfit:iE m.frames) :
  Calls Tryz.prog 57 #[.agg #[.slice Ap fs.length cp],.agg #[.slice a.Af m.frames.length a.cf,.slice a.Ab m.blocks.length a.cb,.slice a.Ai m.inn.length a.ci,.slice a.Ao m.out.length a.co,.int .i64 m.status,.int .i64 m.trap]] w fun e w'=>e= .returned (.int .i64 (iY fs m))∧Below w.heap.size w w':=by
 refine enter Tryz.func57 rfl Tryz.ntmps57 rfl ?_
 refine ac<|aa<|ag (bH rfl rfl rfl) rfl rfl (fun g1 _=>?_)
 refine ag (bH rfl rfl rfl) rfl rfl (fun g2 _=>?_)
 refine rn 1 [2,3] rfl<|ae<|ac<|aa<|af (aL (vs:= [_,_,_,_,_,_]) fc aR aA rfl rfl (by rfl) rfl) rfl rfl ?_
 refine af (aL (vs:= [_]) fc bU bI rfl rfl (by rfl) rfl) rfl rfl ?_
 refine af (cq (cs:= [_,_,_,_,_,_,_]) BG Tryz.zeroValue147 rfl rfl (by rfl)) rfl rfl ?_
 refine ag (bH rfl rfl rfl) rfl rfl (fun g3 _=>?_)
 refine rn 1 [5] rfl<|ae<|ac<|aa<|rn 1 [10] rfl<|ag (bC rfl rfl rfl Tryz.call106 (fun w hw=>sU g3 a m Ap cp fs hs hm hF hfit _ rfl w (hw.msub (.s fc .r)))) rfl rfl (fun _ _=>?_)
 refine rn 1 [4] rfl<|ae<|av<|aB Tryz.results57 (ap rfl) ?_
 intro w hw
 exact⟨rfl,hw.below⟩
set_option maxRecDepth 100000 in
set_option maxHeartbeats 1000000 in
theorem iL (Ap:Option Addr) (cp:Nat) (fs:List aE) (a:MA) (m:aO) (w:World) (hs:Sl w (.slice Ap fs.length cp) fs) (hm:d9 w.heap.size w a m) (hfit:iE m.frames) :
  Calls Tryz.prog 27 #[.agg #[.slice Ap fs.length cp],.agg #[.slice a.Af m.frames.length a.cf,.slice a.Ab m.blocks.length a.cb,.slice a.Ai m.inn.length a.ci,.slice a.Ao m.out.length a.co,.int .i64 m.status,.int .i64 m.trap]] w fun e w'=>e= .returned (.int .i64 (dm fs m))∧Below w.heap.size w w':=by
 obtain⟨E,hE⟩:∃E,dm fs m=E:=⟨_,rfl⟩
 rw[hE]
 unfold dm at hE
 refine enter Tryz.func27 rfl Tryz.ntmps27 rfl ?_
 refine ac<|aa<|ag (bH rfl rfl rfl) rfl rfl (fun g1 _=>?_)
 refine ag (bH rfl rfl rfl) rfl rfl (fun g2 _=>?_)
 refine rn 1 [2,3] rfl<|ae<|ac<|ac<|aa<|af (aL (vs:= [_]) fc bU bI rfl rfl (by rfl) rfl) rfl rfl ?_
 refine ag (br rfl rfl rfl Tryz.call55 (fun w hw=>qL Ap cp fs w (hw.ro hs))) rfl rfl (fun _ _=>?_)
 refine rn 1 [2,3,5] rfl<|ae<|ac<|aa<|rn 2 [2,3,5,9] rfl<|ae<|bZ rfl (fun h=>?_) (fun h=>?_)
 ·rw[if_pos h] at hE
  subst hE
  refine ac<|aa<|rn 2 [4] rfl<|ae<|av (aj ?_)
  refine aB Tryz.results27 (ap rfl) ?_
  intro w hw
  exact⟨rfl,hw.below⟩
 have h:dT fs=0:=h
 rw[if_neg (fun h'=>h' h)] at hE
 subst hE
 refine az (au ?_)
 refine ac<|aa<|af (aL (vs:= [_]) fc bU bI rfl rfl (by rfl) rfl) rfl rfl ?_
 refine af (aL (vs:= [_,_,_,_,_,_]) fc aR aA rfl rfl (by rfl) rfl) rfl rfl ?_
 refine ag (br rfl rfl rfl Tryz.call57 (fun w hw=>vq Ap cp fs a m w (hw.ro hs) (d9.ro hw hm) (mV h) hfit)) rfl rfl (fun _ _=>?_)
 refine rn 1 [4] rfl<|ae<|av<|aB Tryz.results27 (ap rfl) ?_
 intro w hw
 exact⟨rfl,hw.below⟩
end
section
theorem nk {B:Nat} {w:World} {Ap:Option Addr} {cp:Nat} {fs:List aE} (hs:bS w B (.slice Ap fs.length cp) fs) (hF:ew fs) {m:aO} (hR:dr fs m) (hst:¬(m.status=2∨m.status=3)):∃li x kf,th fs m li x kf:=by
 have hne:m.frames≠[]:=fun e=>hst (.inl (hR.dn.1 e))
 obtain⟨li,x,e⟩:∃li x,m.frames=li++ [x]:=by
  rcases List.eq_nil_or_concat m.frames with h1 | ⟨l,z,h1⟩
  ·exact absurd h1 hne
  exact⟨l,z,by rw[h1];simp⟩
 obtain⟨hfn,hloc,t,he,hts⟩:=hR.top e
 obtain⟨kf,hkf⟩:∃kf:Nat,x.func=kf:=⟨x.func.toNat,by omega⟩
 rw[hkf,Int.toNat_natCast] at he hloc
 have hkl:kf<fs.length:=by omega
 obtain⟨hp0,hp1,ht8,_⟩:=(hF.e _ hkl).at_ _ _ he
 obtain⟨hok,_⟩:=gi hF.p hkl
 obtain⟨F1,d1,F2,d2,hfl,hfc,hfi,hfcell⟩:=hs.fn hkl
 have hn6:=hR.n6
 rw[e,List.length_append,List.length_singleton] at hn6
 refine⟨li,x,kf,e,hkf,hkl,⟨hp0,hp1⟩,yD hF hkl (x:= {x with pc:=x.pc+1}) hkf he hts hloc.len,hR.bl,by rw[hts.len];omega,fun y hy=>?_,by have:=hR.ob;omega,by omega,(r9 hfc (by omega)).2,by have:=hok.n40;omega⟩
 obtain⟨i,hi,rfl⟩:=List.getElem_of_mem hy
 obtain⟨u,hu,_,hus⟩:=hR.fr i (by rw[e,List.length_append];omega)
 have hfi2:bd m.frames i=li[i]:=by
  rw[e,fq hi]
  unfold bd
  rw[List.getD_eq_getElem?_getD,List.getElem?_eq_getElem hi]
  rfl
 rw[hfi2] at hus
 rw[hus.len]
 have hz:=hR.fn _ (eZ (l:=m.frames) (k:=i) (by rw[e,List.length_append];omega))
 have hkz:(bd m.frames i).func.toNat<fs.length:=by omega
 unfold fQ gk at hu
 split at hu
 ·have:=((hF.e _ hkz).at_ _ _ hu).2.2.1
  omega
 split at hu
 ·cases hu
 split at hu
 ·cases hu
 cases h5:eb fs (ar fs (bd m.frames i).func.toNat) (bd m.frames i).pc with
 | none=>rw[h5] at hu;cases hu
 | some t2=>
  rw[h5] at hu
  have hu:(if (ar fs (bd m.frames (i+1)).func.toNat).result≠0 then t2.dropLast else t2)=u:=Option.some.inj hu
  have:=((hF.e _ hkz).at_ _ _ h5).2.2.1
  rw[←hu]
  split
  ·rw[List.length_dropLast];omega
  omega
theorem ix {fs:List aE} (hF:ew fs):0<fs.length:=by
 have:=(fT hF.p).1
 omega
theorem ss {fs:List aE} (hF:ew fs) {m:aO} (hR:dr fs m) {i:Nat} (hi:i<m.frames.length):(bd m.frames i).stack.length≤8∧(bd m.frames i).locals.length≤1000:=by
 obtain⟨u,hu,hul,hus⟩:=hR.fr i hi
 have hz:=hR.fn _ (eZ hi)
 have hkz:(bd m.frames i).func.toNat<fs.length:=by omega
 rw[hus.len,hul.len]
 have hn40:=((gi hF.p (ix hF)).1.op 0 (gi hF.p (ix hF)).2).par _ hkz |>.2
 refine⟨?_,by unfold gk;omega⟩
 unfold fQ gk at hu
 split at hu
 ·have:=((hF.e _ hkz).at_ _ _ hu).2.2.1
  omega
 split at hu
 ·cases hu
 split at hu
 ·cases hu
 cases h5:eb fs (ar fs (bd m.frames i).func.toNat) (bd m.frames i).pc with
 | none=>rw[h5] at hu;cases hu
 | some t2=>
  rw[h5] at hu
  have hu:(if (ar fs (bd m.frames (i+1)).func.toNat).result≠0 then t2.dropLast else t2)=u:=Option.some.inj hu
  have:=((hF.e _ hkz).at_ _ _ h5).2.2.1
  rw[←hu]
  split
  ·rw[List.length_dropLast];omega
  omega
theorem k0 {fs:List aE} (hF:ew fs) {m:aO} (hR:dr fs m):qG m:=by
 refine⟨⟨by have:=hR.n6;omega,fun x hx=>?_⟩,qm.of_check hR.bl,by have:=hR.ib;omega,by have:=hR.ob;omega⟩
 obtain⟨i,hi,rfl⟩:=List.getElem_of_mem hx
 have h:=ss hF hR hi
 have e:bd m.frames i=m.frames[i]:=by
  unfold bd
  rw[List.getD_eq_getElem?_getD,List.getElem?_eq_getElem hi]
  rfl
 rw[e] at h
 omega
def ek (fs:List aE):aO:=⟨[⟨0,0,cE (ar fs 0).locals,[]⟩],[],[],[],0,0⟩
def iW (fs:List aE):aO:=if dT fs=0 then ek fs else default
def jz (fs:List aE) (m:aO):aO:=if dm fs m=0 then dy fs m else default
theorem mI {fs:List aE} (h:dT fs=0):0<fs.length:=by
 have:=(fT (mV h).p).1
 omega
set_option maxRecDepth 100000 in
set_option maxHeartbeats 1000000 in
theorem yH (Ap:Option Addr) (cp:Nat) (fs:List aE) (w:World) (hs:Sl w (.slice Ap fs.length cp) fs) (h0:0<fs.length) (hl6:(ar fs 0).locals.length≤1000) :
  Calls Tryz.prog 72 #[.agg #[.slice Ap fs.length cp]] w fun e w'=> ∃g:MA,True∧
   e= .returned (.agg #[.slice g.Af (ek fs).frames.length g.cf,.slice g.Ab (ek fs).blocks.length g.cb,.slice g.Ai (ek fs).inn.length g.ci,.slice g.Ao (ek fs).out.length g.co,.int .i64 (ek fs).status,.int .i64 (ek fs).trap])∧
   Cw w.heap.size w [ak (.slice g.Af (ek fs).frames.length g.cf) (ek fs).frames,ak (.slice g.Ab (ek fs).blocks.length g.cb) (ek fs).blocks,ak (.slice g.Ai (ek fs).inn.length g.ci) (ek fs).inn,ak (.slice g.Ao (ek fs).out.length g.co) (ek fs).out] w':=by
 obtain⟨A1,c1,A2,c2,hl,hc,hi,hcell⟩:=hs.fn h0
 have hF:(cE (ar fs 0).locals).length=(ar fs 0).locals.length:=gF _
 refine enter Tryz.func72 rfl Tryz.ntmps72 rfl ?_
 refine ac<|aa<|ag (bH rfl rfl rfl) rfl rfl (fun g1 _=>?_)
 refine ag (aZ a6 rfl rfl) rfl rfl (fun g2 _=>?_)
 refine ae<|ac<|aa<|rn 1 [2,3] rfl<|af (ai fc cF rfl rfl (by rfl)) rfl rfl ?_
 refine af (aQ (k:=0) bw bg (.ro hs) (by omega) rfl rfl rfl) rfl rfl<|af (cu (hcell _) rfl rfl dJ bg) rfl rfl<|ag (ej rfl rfl rfl Tryz.call114 (fun w hw=>qY (ar fs 0).params (ar fs 0).result A1 A2 c1 c2 _ (ar fs 0).locals w (hw.ro hl) (by omega))) rfl rfl (fun⟨A3,c3⟩ _=>?_)
 try dsimp only
 refine af (cq (cs:= [_,_,_,_]) pE cK rfl rfl (by rfl)) rfl rfl ?_
 refine ag (bh (cs:= [_,_,_,_]) aV bn cK rfl rfl rfl rfl rfl) rfl rfl (fun g3 _=>?_)
 refine af (cq (cs:= [_,_,_,_,_,_]) jd a6 rfl rfl (by rfl)) rfl rfl ?_
 refine ag (aG _ fc aA rfl rfl rfl rfl rfl (by rfl) rfl (by rfl)) rfl rfl (fun _ _=>?_)
 refine ae<|av<|aB Tryz.results72 (du (cs:= [_,_,_,_,_,_]) fc aR aA rfl) ?_
 intro w hw
 refine⟨⟨some ⟨g3,0,none⟩,1,none,0,none,0,none,0⟩,trivial,rfl,?_⟩
 have h1:=nX (H:= []) (xs:=(ek fs).frames) (g:=g3) (lA.cons (Hel:= [ak (.slice A3 (cE (ar fs 0).locals).length c3) (cE (ar fs 0).locals),ak (.slice none 0 0) ([]:List aM)]) (cs:= [_,_,_,_]) (pT (x:=⟨0,0,cE (ar fs 0).locals,[]⟩) (by show aX 0∧aX 0;decide)) lA.nil_) rfl (by show 1≤_;decide) ((Cw.nilO aM hw).msub (T:= [am g3 _ _,ak (.slice A3 (cE (ar fs 0).locals).length c3) (cE (ar fs 0).locals),ak (.slice none 0 0) ([]:List aM)]) ms)
 exact(Cw.nilO (List Int) (Cw.nilO Int (Cw.nilO Int h1))).msub ms
theorem j6 {B:Nat} {w0 w:World} {H:List bj} (h:Cw B w0 H w):Cw B w0 (ak (α:=aT) (.slice none 0 0) []::ak (α:=List Int) (.slice none 0 0) []::ak (α:=Int) (.slice none 0 0) []::ak (α:=Int) (.slice none 0 0) []::H) w:=Cw.nilO aT (Cw.nilO (List Int) (Cw.nilO Int (Cw.nilO Int h)))
set_option maxRecDepth 100000 in
set_option maxHeartbeats 1000000 in
theorem pH (Ap:Option Addr) (cp:Nat) (fs:List aE) (m:aO) (hmm:iW fs=m) (w:World) (hs:Sl w (.slice Ap fs.length cp) fs) :
  Calls Tryz.prog 22 #[.agg #[.slice Ap fs.length cp]] w fun e w'=> ∃g:MA,True∧
   e= .returned (.tuple #[.agg #[.slice g.Af m.frames.length g.cf,.slice g.Ab m.blocks.length g.cb,.slice g.Ai m.inn.length g.ci,.slice g.Ao m.out.length g.co,.int .i64 m.status,.int .i64 m.trap],.int .i64 (dT fs)])∧Cw w.heap.size w [ak (.slice g.Af m.frames.length g.cf) m.frames,ak (.slice g.Ab m.blocks.length g.cb) m.blocks,ak (.slice g.Ai m.inn.length g.ci) m.inn,ak (.slice g.Ao m.out.length g.co) m.out] w':=by
 refine enter Tryz.func22 rfl Tryz.ntmps22 rfl ?_
 refine ac<|aa<|ag (bH rfl rfl rfl) rfl rfl (fun g1 _=>?_)
 refine ag (aZ a6 rfl rfl) rfl rfl (fun g2 _=>?_)
 refine rn 1 [1,2] rfl<|ae<|ac<|ac<|aa<|af (aL (vs:= [_]) fc bU bI rfl rfl (by rfl) rfl) rfl rfl ?_
 refine ag (br rfl rfl rfl Tryz.call55 (fun w hw=>qL Ap cp fs w (hw.ro hs))) rfl rfl (fun _ _=>?_)
 refine rn 1 [1,2,4] rfl<|ae<|ac<|aa<|rn 2 [1,2,4,8] rfl<|ae ?_
 unfold iW at hmm
 refine bZ rfl (fun h=>?_) (fun h=>?_)
 ·rw[if_neg h] at hmm
  subst hmm
  refine ac<|aa<|af (cq (cs:= [_,_,_,_,_,_]) jd a6 rfl rfl (by rfl)) rfl rfl ?_
  refine rn 1 [2,9,10] rfl<|ag (aG _ fc aA rfl rfl rfl rfl rfl (by rfl) rfl (by rfl)) rfl rfl (fun _ _=>?_)
  refine rn 1 [2,3] rfl<|ae<|av (aj ?_)
  refine bF Tryz.results22 (du (cs:= [_,_,_,_,_,_]) fc aR aA rfl) (ap rfl) ?_
  intro w hw
  exact⟨⟨none,0,none,0,none,0,none,0⟩,trivial,rfl,(j6 hw).msub ms⟩
 have h:dT fs=0:=h
 rw[if_pos h] at hmm
 subst hmm
 refine az (au ?_)
 refine ac<|aa<|af (aL (vs:= [_]) fc bU bI rfl rfl (by rfl) rfl) rfl rfl ?_
 refine ag (cI rfl rfl rfl Tryz.call72 (fun w hw=>yH Ap cp fs w (hw.ro hs) (mI h) (by have:=((gi (mV h).p (mI h)).1.op 0 (gi (mV h).p (mI h)).2).par 0 (mI h) |>.2;omega))) rfl rfl (fun g _=>?_)
 refine ag (aG _ fc aA rfl rfl rfl rfl rfl (by rfl) rfl (by rfl)) rfl rfl (fun _ _=>?_)
 refine rn 1 [2,3] rfl<|ae<|av<|bF Tryz.results22 (du (cs:= [_,_,_,_,_,_]) fc aR aA rfl) (ap rfl) ?_
 intro w hw
 exact⟨g,trivial,by rw[h],hw.msub ms⟩
set_option maxRecDepth 100000 in
set_option maxHeartbeats 1000000 in
theorem nB (Ap:Option Addr) (cp:Nat) (fs:List aE) (a:MA) (m m2:aO) (hm2:jz fs m=m2) (w:World) (hs:Sl w (.slice Ap fs.length cp) fs) (hm:d9 w.heap.size w a m) (hfit:iE m.frames) :
  Calls Tryz.prog 23 #[.agg #[.slice Ap fs.length cp],.agg #[.slice a.Af m.frames.length a.cf,.slice a.Ab m.blocks.length a.cb,.slice a.Ai m.inn.length a.ci,.slice a.Ao m.out.length a.co,.int .i64 m.status,.int .i64 m.trap]] w fun e w'=> ∃g:MA,True∧
   e= .returned (.tuple #[.agg #[.slice g.Af m2.frames.length g.cf,.slice g.Ab m2.blocks.length g.cb,.slice g.Ai m2.inn.length g.ci,.slice g.Ao m2.out.length g.co,.int .i64 m2.status,.int .i64 m2.trap],.int .i64 (dm fs m)])∧Cw w.heap.size w [ak (.slice g.Af m2.frames.length g.cf) m2.frames,ak (.slice g.Ab m2.blocks.length g.cb) m2.blocks,ak (.slice g.Ai m2.inn.length g.ci) m2.inn,ak (.slice g.Ao m2.out.length g.co) m2.out] w':=by
 refine enter Tryz.func23 rfl Tryz.ntmps23 rfl ?_
 refine ac<|aa<|ag (bH rfl rfl rfl) rfl rfl (fun g1 _=>?_)
 refine ag (bH rfl rfl rfl) rfl rfl (fun g2 _=>?_)
 refine ag (aZ a6 rfl rfl) rfl rfl (fun g3 _=>?_)
 refine rn 1 [2,3,4] rfl<|ae<|ac<|ac<|aa<|af (aL (vs:= [_]) fc bU bI rfl rfl (by rfl) rfl) rfl rfl ?_
 refine af (aL (vs:= [_,_,_,_,_,_]) fc aR aA rfl rfl (by rfl) rfl) rfl rfl ?_
 refine ag (br rfl rfl rfl rj (fun w hw=>iL Ap cp fs a m w (hw.ro hs) (d9.ro hw hm) hfit)) rfl rfl (fun _ _=>?_)
 refine rn 1 [2,3,4,6] rfl<|ae<|ac<|aa<|rn 2 [2,3,4,6,11] rfl<|ae ?_
 unfold jz at hm2
 refine bZ rfl (fun h=>?_) (fun h=>?_)
 ·rw[if_neg h] at hm2
  subst hm2
  refine ac<|aa<|af (cq (cs:= [_,_,_,_,_,_]) jd a6 rfl rfl (by rfl)) rfl rfl ?_
  refine rn 1 [4,12,13] rfl<|ag (aG _ fc aA rfl rfl rfl rfl rfl (by rfl) rfl (by rfl)) rfl rfl (fun _ _=>?_)
  refine rn 1 [4,5] rfl<|ae<|av (aj ?_)
  refine bF Tryz.results23 (du (cs:= [_,_,_,_,_,_]) fc aR aA rfl) (ap rfl) ?_
  intro w hw
  exact⟨⟨none,0,none,0,none,0,none,0⟩,trivial,rfl,(j6 hw).msub ms⟩
 have h:dm fs m=0:=h
 rw[if_pos h] at hm2
 have h1:dT fs=0:=by
  unfold dm at h
  split at h
  ·rename_i h2;exact absurd h h2
  rename_i h2;exact Classical.not_not.1 h2
 have hR:dr fs m:=qR.1 (by unfold dm at h;rwa [if_neg (fun h2=>h2 h1)] at h)
 refine az (au ?_)
 refine ac<|aa<|af (aL (vs:= [_]) fc bU bI rfl rfl (by rfl) rfl) rfl rfl ?_
 refine af (aL (vs:= [_,_,_,_,_,_]) fc aR aA rfl rfl (by rfl) rfl) rfl rfl ?_
 refine ag (cI rfl rfl rfl Tryz.call73 (fun w hw=>ut Ap cp fs a m m2 hm2 w (hw.ro hs) (d9.ro hw hm) (k0 (mV h1) hR) (fun hst=>nk hs (mV h1) hR hst))) rfl rfl (fun g _=>?_)
 refine ag (aG _ fc aA rfl rfl rfl rfl rfl (by rfl) rfl (by rfl)) rfl rfl (fun _ _=>?_)
 refine rn 1 [4,5] rfl<|ae<|av<|bF Tryz.results23 (du (cs:= [_,_,_,_,_,_]) fc aR aA rfl) (ap rfl) ?_
 intro w hw
 exact⟨g,trivial,by rw[h],hw.msub ms⟩
end
section
theorem yY:Tryz.prog.eqGuardType Tryz.prog.depth 103=false:=by kernel_rfl
theorem CU:Tryz.prog.stoodInHeld 103=false:=by kernel_rfl
theorem CO (w : World) (a c : Bool) (b d : Int) : (binOp .neq 103 (.agg #[.bool a, .int .i64 b]) (.agg #[.bool c, .int .i64 d])).run Tryz.prog w = .ok (.bool (!(a == c && b == d))) w := by
  have h := CU
  by_cases h1 : a = c <;> by_cases h2 : b = d <;> simp [go_sem, h, h1, h2]
theorem CQ (x y : Operand) (u v : Array Value) (w : World) : (eqGuard .neq 103 x y (.agg u) (.agg v)).run Tryz.prog w = .ok () w := by
  have h := yY
  simp [eqGuard, go_sem, h]
theorem BK {v u:aM} :(v.ref == u.ref && v.n == u.n)=decide (v=u):=by
 obtain⟨a,b⟩:=v
 obtain⟨c,d⟩:=u
 by_cases h1:a=c <;> by_cases h2:b=d <;> simp[h1,h2]
theorem oR {α:Type} {a b:List α} {i:Nat} (d:α) (h1:i<a.length) (h2:i<b.length) (h:a.take i=b.take i) (e:a.getD i d=b.getD i d):a.take (i+1)=b.take (i+1):=by
 rw[fb a i d h1,fb b i d h2,h,e]
theorem rO {α:Type} {a b:List α} {i:Nat} (d:α) (e:¬a.getD i d=b.getD i d):¬a=b:=fun h=>e (by rw[h])
set_option maxRecDepth 100000 in
theorem l9 (A1 A2:Option Addr) (c1 c2:Nat) (a b:List aM) (w:World) (h1:Sl w (.slice A1 a.length c1) a) (h2:Sl w (.slice A2 b.length c2) b) :
  Calls Tryz.prog 98 #[.slice A1 a.length c1,.slice A2 b.length c2] w fun e w'=>e= .returned (.bool (decide (a=b)))∧Below w.heap.size w w':=by
 have b1:=bV h1
 refine enter Tryz.func98 rfl Tryz.ntmps98 rfl ?_
 refine ac<|aa<|rn 1 [0,1] rfl<|ae<|ac<|ac<|aa<|rn 1 [0,1,6] rfl<|af (aS aw rfl rfl) rfl rfl<|rn 1 [0,1,7,8] rfl<|af (aS aw rfl rfl) rfl rfl<|rn 1 [0,1,10] rfl<|ae<|bZ rfl (fun hl=>?_) (fun hl=>?_)
 ·refine ac<|aa<|rn 1 [4] rfl<|ae<|av (aj ?_)
  refine aB De (ap rfl) ?_
  intro w hw
  exact⟨bz (by rw[decide_eq_false (fun e=>hl (by rw[e]))]),hw.below⟩
 have hl:a.length=b.length:=by omega
 refine az (au ?_)
 refine ac<|ac<|aa<|rn 1 [0,1,5] rfl<|ae<|aP (cn (fun i:Nat=>i≤a.length∧a.take i=b.take i) (fun i=>a.length - i) (fun i=> [(0,.slice A1 a.length c1),(1,.slice A2 b.length c2),(5,.int .i64 (i:Int))]) (fun _=> []) 0 (⟨Nat.zero_le _,rfl⟩) ⟨rfl,rfl,rfl,trivial⟩ me ?_)
 rintro i hi'
 obtain⟨hi,hj⟩:i≤a.length∧a.take i=b.take i:=hi'
 refine ac<|ac<|aa<|rn 2 [0,1,5,11,12] rfl<|af (aS aw rfl rfl) rfl rfl<|rn 1 [0,1,5,14] rfl<|ae<|ay rfl (fun hlt=>?_) (fun hlt=>?_)
 ·have hil:i<a.length:=by omega
  have hil2:i<b.length:=by omega
  refine az (au ?_)
  refine ac<|aP<|ac<|bN (.still 0 (.still 1 (.still 2 (.still 3 (.still 4 (.still 5 (.still 6 (.still 7 (.still 8 .done))))))))) [] rfl (by kernel_rfl) (by kernel_rfl) ?_
  refine aW ha 2 [0,1,5,17,18] rfl<|an rfl (aQ (k:=i) aw aD (.ro h1) (by omega) rfl rfl rfl) rfl rfl ha ?_
  refine an rfl (cu (SF.val (SF.ro h1) hil default) rfl rfl db aD) rfl rfl ha ?_
  refine aW ha 2 [0,1,5,20,21,22] rfl<|an rfl (aQ (k:=i) aw aD (.ro h2) (by omega) rfl rfl rfl) rfl rfl ha ?_
  refine an rfl (cu (SF.val (SF.ro h2) hil2 default) rfl rfl db aD) rfl rfl ha ?_
  refine an rfl (mG rfl rfl rfl (fun w=>CO w _ _ _ _) (fun w=>CQ _ _ _ _ w)) rfl rfl ha ?_
  refine cA ?_
  rw[BK]
  refine bZ rfl (fun he=>?_) (fun he=>?_)
  ·refine ac<|aa<|rn 1 [4] rfl<|ae<|av (aF (aj (aj (aF (aj ?_)))))
   refine aB De (ap rfl) ?_
   intro w hw
   exact⟨bz (by rw[decide_eq_false (rO default he)]),hw.below⟩
  refine az (aI (au ?_))
  refine aa<|rn 1 [0,1,15] rfl<|af (bR rfl rfl rfl (by omega)) rfl rfl<|rn 1 [0,1,5] rfl<|bD (i+1) (⟨by show i+1≤_;omega,oR default hil hil2 hj he⟩) (by show _ - _<_ - _;omega) ⟨rfl,rfl,rfl,trivial⟩ me
 obtain rfl:i=a.length:=by omega
 rw[List.take_length,hl,List.take_length] at hj
 refine bY (aU (aU (cz (au ?_))))
 refine ac<|aa<|rn 1 [4] rfl<|ae<|av<|aB De (ap rfl) ?_
 intro w hw
 exact⟨bz (by rw[decide_eq_true hj]),hw.below⟩
set_option maxRecDepth 100000 in
theorem qt (A1 A2:Option Addr) (c1 c2:Nat) (a b:List (List Int)) (w:World) (h1:Sl w (.slice A1 a.length c1) a) (h2:Sl w (.slice A2 b.length c2) b) :
  Calls Tryz.prog 97 #[.slice A1 a.length c1,.slice A2 b.length c2] w fun e w'=>e= .returned (.bool (decide (a=b)))∧Below w.heap.size w w':=by
 have b1:=bV h1
 refine enter Tryz.func97 rfl Tryz.ntmps97 rfl ?_
 refine ac<|aa<|rn 1 [0,1] rfl<|ae<|ac<|ac<|aa<|rn 1 [0,1,6] rfl<|af (aS b9 rfl rfl) rfl rfl<|rn 1 [0,1,7,8] rfl<|af (aS b9 rfl rfl) rfl rfl<|rn 1 [0,1,10] rfl<|ae<|bZ rfl (fun hl=>?_) (fun hl=>?_)
 ·refine ac<|aa<|rn 1 [4] rfl<|ae<|av (aj ?_)
  refine aB Df (ap rfl) ?_
  intro w hw
  exact⟨bz (by rw[decide_eq_false (fun e=>hl (by rw[e]))]),hw.below⟩
 have hl:a.length=b.length:=by omega
 refine az (au ?_)
 refine ac<|ac<|aa<|rn 1 [0,1,5] rfl<|ae<|aP (cn (fun i:Nat=>i≤a.length∧a.take i=b.take i) (fun i=>a.length - i) (fun i=> [(0,.slice A1 a.length c1),(1,.slice A2 b.length c2),(5,.int .i64 (i:Int))]) (fun _=> []) 0 (⟨Nat.zero_le _,rfl⟩) ⟨rfl,rfl,rfl,trivial⟩ me ?_)
 rintro i hi'
 obtain⟨hi,hj⟩:i≤a.length∧a.take i=b.take i:=hi'
 refine ac<|ac<|aa<|rn 2 [0,1,5,11,12] rfl<|af (aS b9 rfl rfl) rfl rfl<|rn 1 [0,1,5,14] rfl<|ae<|ay rfl (fun hlt=>?_) (fun hlt=>?_)
 ·have hil:i<a.length:=by omega
  have hil2:i<b.length:=by omega
  obtain⟨A3,c3,hb1,hc1⟩:=h1.sub hil
  obtain⟨A4,c4,hb2,hc2⟩:=h2.sub hil2
  refine az (au ?_)
  refine ac<|aP<|ac<|bN (.still 0 (.still 1 (.still 2 (.still 3 (.still 4 (.still 5 (.still 6 (.still 7 (.pick 8 (.still 9 .done) .stop))))))))) [] rfl (by kernel_rfl) (by kernel_rfl) ?_
  refine aW ha 2 [0,1,5,17,18] rfl<|an rfl (aQ (k:=i) b9 bW (.ro h1) (by omega) rfl rfl rfl) rfl rfl ha ?_
  refine an rfl (a9 (hc1 _) rfl rfl a7) rfl rfl ha ?_
  refine aW ha 2 [0,1,5,20,21,22] rfl<|an rfl (aQ (k:=i) b9 bW (.ro h2) (by omega) rfl rfl rfl) rfl rfl ha ?_
  refine an rfl (a9 (hc2 _) rfl rfl a7) rfl rfl ha ?_
  refine aC rfl (br rfl rfl rfl wi (fun w hw=>jA _ _ _ _ (a.getD i []) (b.getD i []) w (hw.ro hb1) (hw.ro hb2))) rfl rfl (.inr fun _=>ha) (fun _ _=>?_) ax
  refine aW ha 1 [0,1,5,26] rfl<|cA<|bZ rfl (fun he=>?_) (fun he=>?_)
  ·refine ac<|aa<|rn 1 [4] rfl<|ae<|av (aF (aj (aj (aF (aj ?_)))))
   refine aB Df (ap rfl) ?_
   intro w hw
   exact⟨bz (by rw[decide_eq_false (rO [] he)]),hw.below⟩
  refine az (aI (au ?_))
  refine aa<|rn 1 [0,1,15] rfl<|af (bR rfl rfl rfl (by omega)) rfl rfl<|rn 1 [0,1,5] rfl<|bD (i+1) (⟨by show i+1≤_;omega,oR [] hil hil2 hj he⟩) (by show _ - _<_ - _;omega) ⟨rfl,rfl,rfl,trivial⟩ me
 obtain rfl:i=a.length:=by omega
 rw[List.take_length,hl,List.take_length] at hj
 refine bY (aU (aU (cz (au ?_))))
 refine ac<|aa<|rn 1 [4] rfl<|ae<|av<|aB Df (ap rfl) ?_
 intro w hw
 exact⟨bz (by rw[decide_eq_true hj]),hw.below⟩
theorem eU {α:Type} {f:aO→α} {m1 m2:aO} (h:¬f m1=f m2):¬m1=m2:=fun e=>h (by rw[e])
theorem Az {m1 m2:aO} (h1:m1.status=m2.status) (h2:m1.trap=m2.trap) (h3:m1.blocks=m2.blocks) (h4:m1.inn=m2.inn) (h5:m1.out=m2.out) (h6:m1.frames=m2.frames):m1=m2:=by
 cases m1;cases m2;simp_all
theorem rH {l1 l2:List aT} {i:Nat} {α:Type} {f:aT→α} (h:¬f (bd l1 i)=f (bd l2 i)):¬l1=l2:=fun e=>h (by rw[e])
theorem BT {x y:aT} (h1:x.func=y.func) (h2:x.pc=y.pc) (h3:x.locals=y.locals) (h4:x.stack=y.stack):x=y:=by
 cases x;cases y;simp_all
theorem js {p:Prop} [Decidable p] (h:(!decide p)=true):¬p:=by simpa using h
theorem iz {p:Prop} [Decidable p] (h:(!decide p)=false):p:=by simpa using h
set_option maxRecDepth 100000 in
set_option maxHeartbeats 4000000 in
theorem rS (a b:MA) (m1 m2:aO) (w:World) (h1:d9 w.heap.size w a m1) (h2:d9 w.heap.size w b m2) :
  Calls Tryz.prog 53 #[.agg #[.slice a.Af m1.frames.length a.cf,.slice a.Ab m1.blocks.length a.cb,.slice a.Ai m1.inn.length a.ci,.slice a.Ao m1.out.length a.co,.int .i64 m1.status,.int .i64 m1.trap],
   .agg #[.slice b.Af m2.frames.length b.cf,.slice b.Ab m2.blocks.length b.cb,.slice b.Ai m2.inn.length b.ci,.slice b.Ao m2.out.length b.co,.int .i64 m2.status,.int .i64 m2.trap]] w fun e w'=>e= .returned (.bool (decide (m1=m2)))∧Below w.heap.size w w':=by
 have b1:=bV h1.f
 refine enter Tryz.func53 rfl Tryz.ntmps53 rfl ?_
 refine ac<|aa<|ag (bH rfl rfl rfl) rfl rfl (fun g1 _=>?_)
 refine ag (bH rfl rfl rfl) rfl rfl (fun g2 _=>?_)
 refine rn 1 [2,3] rfl<|ae<|ac<|ac<|aa<|rn 1 [2,3,8] rfl<|af (ai fc aq rfl rfl (by rfl)) rfl rfl ?_
 refine rn 1 [2,3,9,10] rfl<|af (ai fc aq rfl rfl (by rfl)) rfl rfl ?_
 refine rn 2 [2,3,13] rfl<|bK (t:=13) rfl (fun e1=>?_) (fun e1=>?_)
 ·refine rn 39 [2,3,52] rfl<|ae<|bA rfl<|ac<|aa<|rn 1 [4] rfl<|ae<|av (aj ?_)
  refine aB fX (ap rfl) ?_
  intro w hw
  exact⟨bz (by rw[decide_eq_false (eU (f:=aO.status) (js e1))]),hw.below⟩
 have e1:=iz e1
 refine rn 1 [2,3,13,14] rfl<|af (ai fc aq rfl rfl (by rfl)) rfl rfl ?_
 refine rn 1 [2,3,13,15,16] rfl<|af (ai fc aq rfl rfl (by rfl)) rfl rfl ?_
 refine rn 3 [2,3,20] rfl<|bK (t:=20) rfl (fun e2=>?_) (fun e2=>?_)
 ·refine rn 32 [2,3,52] rfl<|ae<|bA rfl<|ac<|aa<|rn 1 [4] rfl<|ae<|av (aj ?_)
  refine aB fX (ap rfl) ?_
  intro w hw
  exact⟨bz (by rw[decide_eq_false (eU (f:=aO.trap) (js e2))]),hw.below⟩
 have e2:=iz e2
 refine rn 1 [2,3,20,21] rfl<|af (ai fc ed rfl rfl (by rfl)) rfl rfl ?_
 refine rn 1 [2,3,20,22,23] rfl<|af (ai fc ed rfl rfl (by rfl)) rfl rfl ?_
 refine ag (br rfl rfl rfl Tryz.call97 (fun w hw=>qt _ _ _ _ m1.blocks m2.blocks w (hw.ro h1.b) (hw.ro h2.b))) rfl rfl (fun _ _=>?_)
 refine rn 3 [2,3,28] rfl<|bK (t:=28) rfl (fun e3=>?_) (fun e3=>?_)
 ·refine rn 24 [2,3,52] rfl<|ae<|bA rfl<|ac<|aa<|rn 1 [4] rfl<|ae<|av (aj ?_)
  refine aB fX (ap rfl) ?_
  intro w hw
  exact⟨bz (by rw[decide_eq_false (eU (f:=aO.blocks) (js e3))]),hw.below⟩
 have e3:=iz e3
 refine rn 1 [2,3,28,29] rfl<|af (ai fc a7 rfl rfl (by rfl)) rfl rfl ?_
 refine rn 1 [2,3,28,30,31] rfl<|af (ai fc a7 rfl rfl (by rfl)) rfl rfl ?_
 refine ag (br rfl rfl rfl wi (fun w hw=>jA _ _ _ _ m1.inn m2.inn w (hw.ro h1.i) (hw.ro h2.i))) rfl rfl (fun _ _=>?_)
 refine rn 3 [2,3,36] rfl<|bK (t:=36) rfl (fun e4=>?_) (fun e4=>?_)
 ·refine rn 16 [2,3,52] rfl<|ae<|bA rfl<|ac<|aa<|rn 1 [4] rfl<|ae<|av (aj ?_)
  refine aB fX (ap rfl) ?_
  intro w hw
  exact⟨bz (by rw[decide_eq_false (eU (f:=aO.inn) (js e4))]),hw.below⟩
 have e4:=iz e4
 refine rn 1 [2,3,36,37] rfl<|af (ai fc a7 rfl rfl (by rfl)) rfl rfl ?_
 refine rn 1 [2,3,36,38,39] rfl<|af (ai fc a7 rfl rfl (by rfl)) rfl rfl ?_
 refine ag (br rfl rfl rfl wi (fun w hw=>jA _ _ _ _ m1.out m2.out w (hw.ro h1.o) (hw.ro h2.o))) rfl rfl (fun _ _=>?_)
 refine rn 3 [2,3,44] rfl<|bK (t:=44) rfl (fun e5=>?_) (fun e5=>?_)
 ·refine rn 8 [2,3,52] rfl<|ae<|bA rfl<|ac<|aa<|rn 1 [4] rfl<|ae<|av (aj ?_)
  refine aB fX (ap rfl) ?_
  intro w hw
  exact⟨bz (by rw[decide_eq_false (eU (f:=aO.out) (js e5))]),hw.below⟩
 have e5:=iz e5
 refine rn 1 [2,3,44,45] rfl<|af (ai fc bL rfl rfl (by rfl)) rfl rfl ?_
 refine af (aS aV rfl rfl) rfl rfl<|rn 1 [2,3,44,47,48] rfl<|af (ai fc bL rfl rfl (by rfl)) rfl rfl ?_
 refine af (aS aV rfl rfl) rfl rfl<|rn 2 [2,3,52] rfl<|ae<|bZ rfl (fun e6=>?_) (fun e6=>?_)
 ·refine ac<|aa<|rn 1 [4] rfl<|ae<|av (aj ?_)
  refine aB fX (ap rfl) ?_
  intro w hw
  exact⟨bz (by rw[decide_eq_false (eU (f:=fun m=>m.frames.length) (fun h=>e6 (by rw[show m1.frames.length=m2.frames.length from h])))]),hw.below⟩
 have e6:m1.frames.length=m2.frames.length:=by omega
 refine az (au ?_)
 refine ac<|ac<|aa<|rn 1 [2,3,5] rfl<|ae<|aP (cn (fun i:Nat=>i≤m1.frames.length∧m1.frames.take i=m2.frames.take i) (fun i=>m1.frames.length - i) (fun i=> [(2,.pointer (some ⟨g1,0,none⟩)),(3,.pointer (some ⟨g2,0,none⟩)),(5,.int .i64 (i:Int))]) (fun _=> [am g1 [.slice a.Af m1.frames.length a.cf,.slice a.Ab m1.blocks.length a.cb,.slice a.Ai m1.inn.length a.ci,.slice a.Ao m1.out.length a.co,.int .i64 m1.status,.int .i64 m1.trap] 29,am g2 [.slice b.Af m2.frames.length b.cf,.slice b.Ab m2.blocks.length b.cb,.slice b.Ai m2.inn.length b.ci,.slice b.Ao m2.out.length b.co,.int .i64 m2.status,.int .i64 m2.trap] 29]) 0 (⟨Nat.zero_le _,rfl⟩) ⟨rfl,rfl,rfl,trivial⟩ me ?_)
 rintro i hi'
 obtain⟨hi,hj⟩:i≤m1.frames.length∧m1.frames.take i=m2.frames.take i:=hi'
 refine ac<|ac<|aa<|rn 2 [2,3,5,53,54] rfl<|af (ai fc bL rfl rfl (by rfl)) rfl rfl ?_
 refine af (aS aV rfl rfl) rfl rfl<|rn 1 [2,3,5,57] rfl<|ae<|ay rfl (fun hlt=>?_) (fun hlt=>?_)
 ·have hil:i<m1.frames.length:=by omega
  have hil2:i<m2.frames.length:=by omega
  obtain⟨A1,c1,A2,c2,hl1,hs1,hI1,hc1⟩:=h1.f.fr hil
  obtain⟨A3,c3,A4,c4,hl2,hs2,hI2,hc2⟩:=h2.f.fr hil2
  refine az (au ?_)
  refine ac<|aP<|dS (fun _:Nat×Nat=>True) (fun g=> [(2,.pointer (some ⟨g1,0,none⟩)),(3,.pointer (some ⟨g2,0,none⟩)),(5,.int .i64 (i:Int)),(6,.pointer (some ⟨g.1,0,none⟩)),(7,.pointer (some ⟨g.2,0,none⟩))]) (fun g=> [am g1 [.slice a.Af m1.frames.length a.cf,.slice a.Ab m1.blocks.length a.cb,.slice a.Ai m1.inn.length a.ci,.slice a.Ao m1.out.length a.co,.int .i64 m1.status,.int .i64 m1.trap] 29,am g2 [.slice b.Af m2.frames.length b.cf,.slice b.Ab m2.blocks.length b.cb,.slice b.Ai m2.inn.length b.ci,.slice b.Ao m2.out.length b.co,.int .i64 m2.status,.int .i64 m2.trap] 29,am g.1 [.int .i64 (bd m1.frames i).func,.int .i64 (bd m1.frames i).pc,.slice A1 (bd m1.frames i).locals.length c1,.slice A2 (bd m1.frames i).stack.length c2] 97,am g.2 [.int .i64 (bd m2.frames i).func,.int .i64 (bd m2.frames i).pc,.slice A3 (bd m2.frames i).locals.length c3,.slice A4 (bd m2.frames i).stack.length c4] 97]) ?_ ?_
  ·refine fm (.still 0 (.still 1 (.still 2 (.still 3 (.still 4 (.still 5 (.still 6 (.still 7 (.still 8 (.still 9 (.pick 10 (.pick 11 (.pick 12 (.pick 13 .done .stop) .stop) .stop) (.pick 11 (.pick 10 (.pick 12 (.pick 13 .done .stop) .stop) .stop) .stop)))))))))))) [13] rfl (by kernel_rfl) (by kernel_rfl) [am g1 [.slice a.Af m1.frames.length a.cf,.slice a.Ab m1.blocks.length a.cb,.slice a.Ai m1.inn.length a.ci,.slice a.Ao m1.out.length a.co,.int .i64 m1.status,.int .i64 m1.trap] 29,am g2 [.slice b.Af m2.frames.length b.cf,.slice b.Ab m2.blocks.length b.cb,.slice b.Ai m2.inn.length b.ci,.slice b.Ao m2.out.length b.co,.int .i64 m2.status,.int .i64 m2.trap] 29] ?_
   refine aW ha 1 [2,3,5,60] rfl<|an rfl (ai fc bL rfl rfl (by rfl)) rfl rfl ha ?_
   refine aW ha 1 [2,3,5,61,62] rfl<|an rfl (aQ (k:=i) aV bn (.ro h1.f) (by omega) rfl rfl rfl) rfl rfl ha ?_
   refine an rfl (cu (hc1 _) rfl rfl gj bn) rfl rfl ha ?_
   refine aW ha 1 [2,3,5,64,65] rfl<|an rfl (ai fc bL rfl rfl (by rfl)) rfl rfl ha ?_
   refine aW ha 1 [2,3,5,64,66,67] rfl<|an rfl (aQ (k:=i) aV bn (.ro h2.f) (by omega) rfl rfl rfl) rfl rfl ha ?_
   refine an rfl (cu (hc2 _) rfl rfl gj bn) rfl rfl ha ?_
   refine aC rfl (aZ cK rfl rfl) rfl rfl (.inr fun _=>ha) (fun q1 _=>?_) ?_
   ·refine aC rfl (aZ cK rfl rfl) rfl rfl (.inr fun _=>ha) (fun q2 _=>?_) ax
    refine aC rfl (aG [_,_,_,_] fc bn rfl rfl rfl rfl rfl (by rfl) rfl (by rfl)) rfl rfl (.inr fun _=>ha) (fun _ _=>?_) ax
    refine aC rfl (aG [_,_,_,_] fc bn rfl rfl rfl rfl rfl (by rfl) rfl (by rfl)) rfl rfl (.inl rfl) (fun _ _=>?_) ax
    refine cd<|aY (q1,q2) (trivial) ⟨rfl,rfl,rfl,rfl,rfl,trivial⟩ (fun _ h=>h.msub ms)
   refine aC rfl (aZ cK rfl rfl) rfl rfl (.inr fun _=>ha) (fun q2 _=>?_) ax
   refine aC rfl (aZ cK rfl rfl) rfl rfl (.inr fun _=>ha) (fun q1 _=>?_) ax
   refine aC rfl (aG [_,_,_,_] fc bn rfl rfl rfl rfl rfl (by rfl) rfl (by rfl)) rfl rfl (.inr fun _=>ha) (fun _ _=>?_) ax
   refine aC rfl (aG [_,_,_,_] fc bn rfl rfl rfl rfl rfl (by rfl) rfl (by rfl)) rfl rfl (.inl rfl) (fun _ _=>?_) ax
   refine cd<|aY (q1,q2) (trivial) ⟨rfl,rfl,rfl,rfl,rfl,trivial⟩ (fun _ h=>h.msub ms)
  rintro⟨q1,q2⟩ _
  dsimp only
  refine ac<|aa<|rn 1 [2,3,5,6,7,70] rfl<|af (ai fc aq rfl rfl (by rfl)) rfl rfl ?_
  refine rn 1 [2,3,5,6,7,71,72] rfl<|af (ai fc aq rfl rfl (by rfl)) rfl rfl ?_
  refine rn 2 [2,3,5,6,7,75] rfl<|bK (t:=75) rfl (fun f1=>?_) (fun f1=>?_)
  ·refine rn 22 [2,3,5,97] rfl<|ae<|bA rfl<|ac<|aa<|rn 1 [4] rfl<|ae<|av (aF (aj (aj (aF (aj ?_)))))
   refine aB fX (ap rfl) ?_
   intro w hw
   exact⟨bz (by rw[decide_eq_false (eU (f:=aO.frames) (rH (i:=i) (f:=aT.func) (js f1)))]),hw.below⟩
  have f1:=iz f1
  refine rn 1 [2,3,5,6,7,75,76] rfl<|af (ai fc aq rfl rfl (by rfl)) rfl rfl ?_
  refine rn 1 [2,3,5,6,7,75,77,78] rfl<|af (ai fc aq rfl rfl (by rfl)) rfl rfl ?_
  refine rn 3 [2,3,5,6,7,82] rfl<|bK (t:=82) rfl (fun f2=>?_) (fun f2=>?_)
  ·refine rn 15 [2,3,5,97] rfl<|ae<|bA rfl<|ac<|aa<|rn 1 [4] rfl<|ae<|av (aF (aj (aj (aF (aj ?_)))))
   refine aB fX (ap rfl) ?_
   intro w hw
   exact⟨bz (by rw[decide_eq_false (eU (f:=aO.frames) (rH (i:=i) (f:=aT.pc) (js f2)))]),hw.below⟩
  have f2:=iz f2
  refine rn 1 [2,3,5,6,7,82,83] rfl<|af (ai fc a5 rfl rfl (by rfl)) rfl rfl ?_
  refine rn 1 [2,3,5,6,7,82,84,85] rfl<|af (ai fc a5 rfl rfl (by rfl)) rfl rfl ?_
  refine ag (br rfl rfl rfl Tryz.call98 (fun w hw=>l9 _ _ _ _ (bd m1.frames i).locals (bd m2.frames i).locals w (hw.ro hl1) (hw.ro hl2))) rfl rfl (fun _ _=>?_)
  refine rn 3 [2,3,5,6,7,90] rfl<|bK (t:=90) rfl (fun f3=>?_) (fun f3=>?_)
  ·refine rn 7 [2,3,5,97] rfl<|ae<|bA rfl<|ac<|aa<|rn 1 [4] rfl<|ae<|av (aF (aj (aj (aF (aj ?_)))))
   refine aB fX (ap rfl) ?_
   intro w hw
   exact⟨bz (by rw[decide_eq_false (eU (f:=aO.frames) (rH (i:=i) (f:=aT.locals) (js f3)))]),hw.below⟩
  have f3:=iz f3
  refine rn 1 [2,3,5,7,90,91] rfl<|af (ai fc a5 rfl rfl (by rfl)) rfl rfl ?_
  refine rn 1 [2,3,5,90,92,93] rfl<|af (ai fc a5 rfl rfl (by rfl)) rfl rfl ?_
  refine ag (br rfl rfl rfl Tryz.call98 (fun w hw=>l9 _ _ _ _ (bd m1.frames i).stack (bd m2.frames i).stack w (hw.ro hs1) (hw.ro hs2))) rfl rfl (fun _ _=>?_)
  refine rn 2 [2,3,5,97] rfl<|ae<|bZ rfl (fun f4=>?_) (fun f4=>?_)
  ·refine ac<|aa<|rn 1 [4] rfl<|ae<|av (aF (aj (aj (aF (aj ?_)))))
   refine aB fX (ap rfl) ?_
   intro w hw
   exact⟨bz (by rw[decide_eq_false (eU (f:=aO.frames) (rH (i:=i) (f:=aT.stack) f4))]),hw.below⟩
  refine az (aI (au ?_))
  refine aa<|rn 1 [2,3,58] rfl<|af (bR rfl rfl rfl (by omega)) rfl rfl<|rn 1 [2,3,5] rfl<|bD (i+1) (⟨by show i+1≤_;omega,oR default hil hil2 hj (BT f1 f2 f3 f4)⟩) (by show _ - _<_ - _;omega) ⟨rfl,rfl,rfl,trivial⟩ (fun w h=>h.msub ms)
 obtain rfl:i=m1.frames.length:=by omega
 rw[List.take_length,e6,List.take_length] at hj
 refine bY (aU (aU (cz (au ?_))))
 refine ac<|aa<|rn 1 [4] rfl<|ae<|av<|aB fX (ap rfl) ?_
 intro w hw
 exact⟨bz (by rw[decide_eq_true (Az e1 e2 e3 e4 e5 hj)]),hw.below⟩
end
section
theorem yZ:Tryz.prog.eqGuardType Tryz.prog.depth 49=false:=by kernel_rfl
theorem CV:Tryz.prog.stoodInHeld 49=false:=by kernel_rfl
theorem CP (w : World) (a b c d : Int) : (binOp .neq 49 (.agg #[.int .i64 a, .int .i64 b]) (.agg #[.int .i64 c, .int .i64 d])).run Tryz.prog w = .ok (.bool (!(a == c && b == d))) w := by
  have h := CV
  by_cases h1 : a = c <;> by_cases h2 : b = d <;> simp [go_sem, h, h1, h2]
theorem BJ (x y : Operand) (u v : Array Value) (w : World) : (eqGuard .neq 49 x y (.agg u) (.agg v)).run Tryz.prog w = .ok () w := by
  have h := yZ
  simp [eqGuard, go_sem, h]
theorem xI {fs:List aE} (hF:ew fs) {kf:Nat} (hk:kf<fs.length) {pc to_:Int} (hc:eP (ar fs kf) pc to_=true) {t0:List Int} (h0:eb fs (ar fs kf) (pc - 1)=some t0) :
  (0≤to_∧to_<fs.length)∧∃t,eb fs (ar fs kf) pc=some t∧((ar fs to_.toNat).result≠0→1≤t.length):=by
 unfold eP at hc
 simp only[Bool.and_eq_true,decide_eq_true_eq] at hc
 obtain⟨hw,hcc,hca⟩:=hc
 have hw:=dC.1 hw
 obtain⟨_,h1,_,_,v0,hv0,hn0⟩:=(hF.e _ hk).at_ _ _ h0
 have hop:=(gi hF.p hk).1.op (pc - 1).toNat (by omega)
 generalize bx (ar fs kf).code (pc - 1).toNat=oz at hcc hca hv0 hn0 hop
 have h2:=hop.call hcc
 rw[hca] at h2
 obtain⟨t,ht,hle⟩:=hn0 pc (by simp[cW,hcc])
 obtain⟨T0,V0,e0,_,_,_,rfl⟩:=gg.1 hv0
 simp[tl,hcc] at e0
 obtain⟨rfl,rfl⟩:=e0
 rw[hca] at hle
 refine⟨h2,t,ht,fun hr=>?_⟩
 unfold bM at hle
 rw[if_neg hr] at hle
 have:=(n7 hle).2.1
 omega
theorem By {A:Option Addr} {m c k:Nat} {xs:List Int} {B:Nat} {w0 w:World} {H:List bj} (hk:k≤m) (h:Cw B w0 (gt (.slice A m c) xs::H) w):Cw B w0 (gt (.slice (gA A 0 c 1) k (c - 0)) (xs.take k)::H) w:=by
 refine h.upd fun F ho _=>⟨F,⟨ho.1,fun w' hw'=>?_⟩,rfl,rfl,rfl,Nat.le_refl _,fun _ _ _=>rfl,fun b hb=> .inl hb⟩
 have:=(ho.2 w' hw').cut 0 k (Nat.zero_le _) hk
 rw[Nat.sub_zero,List.drop_zero] at this
 exact this
theorem z6 {A:Option Addr} {c:Nat} {xs:List Int} {B:Nat} {w0 w:World} {H:List bj} (h:Cw B w0 (gt (.slice A xs.length c) xs::H) w):Cw B w0 (gt (.slice (gA A 0 c 1) xs.dropLast.length (c - 0)) xs.dropLast::H) w:=by
 have:=By (k:=xs.length - 1) (by omega) h
 rw[←List.dropLast_eq_take,←List.length_dropLast] at this
 exact this
set_option maxRecDepth 100000 in
set_option maxHeartbeats 4000000 in
theorem vf (a:MA) (m:aO) (Ap:Option Addr) (cp:Nat) (fs:List aE) (i:Nat) (w:World) (hs:Sl w (.slice Ap fs.length cp) fs) (hm:d9 w.heap.size w a m) (hF:ew fs) (hfit:iE m.frames) (hi:i<m.frames.length) (hfn:∀x∈m.frames,0≤x.func∧x.func<fs.length) (E:Int) (hE:en fs m.blocks.length m.frames i=E) :
  Calls Tryz.prog 70 #[.agg #[.slice Ap fs.length cp],.agg #[.slice a.Af m.frames.length a.cf,.slice a.Ab m.blocks.length a.cb,.slice a.Ai m.inn.length a.ci,.slice a.Ao m.out.length a.co,.int .i64 m.status,.int .i64 m.trap],.int .i64 (i:Int)] w fun e w'=>e= .returned (.int .i64 E)∧Below w.heap.size w w':=by
 have bf:=bV hm.f
 have bp:=bV hs
 have bb:=bV hm.b
 obtain⟨A1,c1,A2,c2,hl,hst,hI,hcell⟩:=hm.f.fr hi
 obtain⟨hb1,hb2⟩:=hfit.2 (bd m.frames i) (eZ hi)
 have hx:=hfn _ (eZ hi)
 obtain⟨kf,hkf⟩:∃kf:Nat,(bd m.frames i).func=kf:=⟨(bd m.frames i).func.toNat,by omega⟩
 have hkl:kf<fs.length:=by omega
 obtain⟨hok,hn0⟩:=gi hF.p hkl
 have hty:=vE hF.p hkl
 obtain⟨F1,d1,F2,d2,hfl,hfc,hfi,hfcell⟩:=hs.fn hkl
 have hfl6:(ar fs kf).locals.length≤6:=(hok.op 0 hn0).par kf hkl |>.2
 have hlt2:=(gZ ((fT hF.p).2.2 _ (gI hkl))).2.2.2.1
 have hff:gk fs m.frames i=ar fs kf:=by unfold gk;rw[hkf,Int.toNat_natCast]
 have hent:∀pc t,eb fs (ar fs kf) pc=some t→Ty t:=fun pc t h=>((hF.e kf hkl).at_ pc t h).2.2.2.1
 have hbeh:∀{pc to_:Int} (_:eP (ar fs kf) pc to_=true) {t0:List Int},eb fs (ar fs kf) (pc - 1)=some t0→(0≤to_∧to_<fs.length)∧∃t,eb fs (ar fs kf) pc=some t∧((ar fs to_.toNat).result≠0→1≤t.length):=fun hc _ h0=>xI hF hkl hc h0
 unfold en at hE
 obtain⟨q,hq⟩:∃q,fQ fs m.frames i=q:=⟨_,rfl⟩
 rw[hff,hq] at hE
 unfold fQ at hq
 rw[hff] at hq
 rw[hkf] at hcell
 have hrent:∀pc q0,eb fs (ar fs kf) pc=q0→∀w1,Sl w1 (.slice Ap fs.length cp) fs→Calls Tryz.prog 113 #[.agg #[.slice Ap fs.length cp],.int .i64 (kf:Int),.int .i64 pc] w1 fun e w'=> ∃g:Option Addr×Nat,True∧e= .returned (.tuple #[.slice g.1 (q0.getD []).length g.2,.bool q0.isSome])∧
   Cw w1.heap.size w1 [gt (.slice g.1 (q0.getD []).length g.2) (q0.getD [])] w':=fun pc q0 h w1 h1=>vg Ap cp fs kf pc q0 h w1 h1 hkl hok hty hn0
 generalize ar fs kf=f at hE hfl hfc hfi hfcell hfl6 hlt2 hent hbeh hq hrent
 obtain⟨l,hlm⟩:∃l,m.frames=l:=⟨_,rfl⟩
 generalize hxx:bd m.frames i=x at hE hl hst hI hcell hb1 hb2 hq
 have bx1:=bV hl
 have bx2:=bV hst
 have bc:=bV hfc
 refine enter Tryz.func70 rfl Tryz.ntmps70 rfl ?_
 refine ac<|aa<|ag (bH rfl rfl rfl) rfl rfl (fun g1 _=>?_)
 refine ag (bH rfl rfl rfl) rfl rfl (fun g2 _=>?_)
 refine rn 1 [2,3,4] rfl<|ae<|ac<|aa<|rn 1 [2,3,4,18] rfl<|af (ai fc bL rfl rfl (by rfl)) rfl rfl ?_
 refine rn 1 [2,3,4,19,20] rfl<|af (aQ (k:=i) aV bn (.ro hm.f) (by omega) rfl rfl rfl) rfl rfl<|af (cu (hcell _) rfl rfl gj bn) rfl rfl<|ag (aZ cK rfl rfl) rfl rfl (fun g3 _=>?_)
 refine ag (aG _ fc bn rfl rfl rfl rfl rfl (by rfl) rfl (by rfl)) rfl rfl (fun _ _=>?_)
 refine ae<|ac<|aa<|rn 1 [2,3,4,7,23] rfl<|af (ai fc cF rfl rfl (by rfl)) rfl rfl ?_
 refine rn 1 [2,3,4,7,24,25] rfl<|af (ai fc aq rfl rfl (by rfl)) rfl rfl ?_
 refine af (aQ (k:=kf) bw bg (.ro hs) (by omega) rfl rfl rfl) rfl rfl<|af (cu (hfcell _) rfl rfl dJ bg) rfl rfl<|ag (aZ dL rfl rfl) rfl rfl (fun g4 _=>?_)
 refine ag (aG _ fc bg rfl rfl rfl rfl rfl (by rfl) rfl (by rfl)) rfl rfl (fun _ _=>?_)
 refine ae<|ac<|ac<|aa<|rn 1 [2,3,4,7,8,29] rfl<|af (ai fc a5 rfl rfl (by rfl)) rfl rfl ?_
 refine af (aS aw rfl rfl) rfl rfl<|rn 1 [2,3,4,7,8,31,32] rfl<|af (ai fc a7 rfl rfl (by rfl)) rfl rfl ?_
 refine af (aS ah rfl rfl) rfl rfl<|rn 1 [2,3,4,7,8,35] rfl<|ae<|bZ rfl (fun h1=>?_) (fun h1=>?_)
 ·rw[if_pos (show x.locals.length≠f.locals.length from fun e=>h1 (by rw[e]))] at hE
  subst hE
  refine ac<|aa<|rn 1 [6] rfl<|ae<|av (aj ?_)
  refine aB fE (ap rfl) ?_
  intro w hw
  exact⟨rfl,hw.below⟩
 have h1:x.locals.length=f.locals.length:=by omega
 rw[if_neg (fun h=>h h1)] at hE
 have hal:(x.locals++x.stack).length=x.locals.length+x.stack.length:=List.length_append
 refine az (au ?_)
 refine dS (fun _:Option Addr×Nat=>True) (fun g=> [(2,.int .i64 (i:Int)),(3,.pointer (some ⟨g1,0,none⟩)),(4,.pointer (some ⟨g2,0,none⟩)),(7,.pointer (some ⟨g3,0,none⟩)),(8,.pointer (some ⟨g4,0,none⟩)),(9,.slice g.1 (x.locals++x.stack).length g.2)]) (fun g=> [ak (.slice g.1 (x.locals++x.stack).length g.2) (x.locals++x.stack),am g3 [.int .i64 (kf:Int),.int .i64 x.pc,.slice A1 x.locals.length c1,.slice A2 x.stack.length c2] 97,am g4 [.int .i64 f.params,.slice F1 f.locals.length d1,.int .i64 f.result,.slice F2 f.code.length d2] 110,am g2 [.slice a.Af m.frames.length a.cf,.slice a.Ab m.blocks.length a.cb,.slice a.Ai m.inn.length a.ci,.slice a.Ao m.out.length a.co,.int .i64 m.status,.int .i64 m.trap] 29,am g1 [.slice Ap fs.length cp] 24]) ?_ ?_
 ·refine bN (.still 1 (.still 2 (.still 4 (.still 5 (.pick 0 (.pick 3 (.pick 6 (.calm 7 .done) .stop) .stop) .stop))))) [6,7] rfl (by kernel_rfl) (by kernel_rfl) ?_
  refine aW ha 1 [2,3,4,7,8,37] rfl<|an rfl (ai fc a5 rfl rfl (by rfl)) rfl rfl ha ?_
  refine aW ha 1 [2,3,4,7,8,38,40] rfl<|an rfl (ai fc a5 rfl rfl (by rfl)) rfl rfl ha ?_
  refine aC rfl ((bh (cs:= []) aw aD bq rfl rfl rfl rfl rfl).mem (H'':=fun g=>ak (.slice (some ⟨g,0,none⟩) 0 0) ([]:List aM)::_) fun g w h=>cc (α:=aM) (m:=0) [] rfl (by simp) rfl (by decide) h) rfl rfl (.inr fun _=>ha) (fun ge _=>?_) ax
  refine aC rfl (di (α:=aM) (bytes:=16) (xs:= []) (ys:=x.locals) (List.nil_append x.locals).symm aw (bO cZ) rfl fc (.ro hl) (by simp only[List.length_nil];omega) (by simp only[List.length_nil];omega) rfl rfl rfl) rfl rfl (.inr fun _=>ha) (fun⟨A5,c5⟩ _=>?_) ax
  try dsimp only
  refine aC rfl (di (α:=aM) (bytes:=16) (xs:=x.locals) (ys:=x.stack) rfl aw (bO cZ) rfl fc (.ro hst) (by omega) (by omega) rfl rfl rfl) rfl rfl (.inl rfl) (fun⟨A6,c6⟩ _=>?_) ax
  try dsimp only
  refine dF 1 [2,3,4,7,8,9] rfl<|cd<|aY (A6,c6) (trivial) ⟨rfl,rfl,rfl,rfl,rfl,rfl,trivial⟩ (fun _ h=>h.msub ms)
 rintro⟨A6,c6⟩ _
 try dsimp only
 refine ac<|ac<|aa<|rn 1 [2,3,4,7,8,9,10] rfl<|ae<|aP (cn (fun k:Nat=>k≤(x.locals++x.stack).length∧∀j,j<k→ea m.blocks.length ((x.locals++x.stack).getD j default)=true) (fun k=>(x.locals++x.stack).length - k) (fun k=> [(2,.int .i64 (i:Int)),(3,.pointer (some ⟨g1,0,none⟩)),(4,.pointer (some ⟨g2,0,none⟩)),(7,.pointer (some ⟨g3,0,none⟩)),(8,.pointer (some ⟨g4,0,none⟩)),(9,.slice A6 (x.locals++x.stack).length c6),(10,.int .i64 (k:Int))]) (fun _=> [ak (.slice A6 (x.locals++x.stack).length c6) (x.locals++x.stack),am g3 [.int .i64 (kf:Int),.int .i64 x.pc,.slice A1 x.locals.length c1,.slice A2 x.stack.length c2] 97,am g4 [.int .i64 f.params,.slice F1 f.locals.length d1,.int .i64 f.result,.slice F2 f.code.length d2] 110,am g2 [.slice a.Af m.frames.length a.cf,.slice a.Ab m.blocks.length a.cb,.slice a.Ai m.inn.length a.ci,.slice a.Ao m.out.length a.co,.int .i64 m.status,.int .i64 m.trap] 29,am g1 [.slice Ap fs.length cp] 24]) 0 (⟨Nat.zero_le _,fun _ h=>absurd h (Nat.not_lt_zero _)⟩) ⟨rfl,rfl,rfl,rfl,rfl,rfl,rfl,trivial⟩ me ?_)
 rintro k hk'
 obtain⟨hk,hno⟩:k≤(x.locals++x.stack).length∧∀j,j<k→ea m.blocks.length ((x.locals++x.stack).getD j default)=true:=hk'
 refine ac<|ac<|aa<|rn 2 [2,3,4,7,8,9,10,43,44] rfl<|af (aS aw rfl rfl) rfl rfl<|rn 1 [2,3,4,7,8,9,10,46] rfl<|ae<|ay rfl (fun hlt=>?_) (fun hlt=>?_)
 ·have hkl2:k<(x.locals++x.stack).length:=by omega
  obtain⟨vb,hvb⟩:∃b,ea m.blocks.length ((x.locals++x.stack).getD k default)=b:=⟨_,rfl⟩
  have hbad:vb=false→E=3:=fun e=>by rw[e] at hvb;rw[if_pos (uY hkl2 hvb)] at hE;exact hE.symm
  have hgood:vb=true→∀j,j<k+1→ea m.blocks.length ((x.locals++x.stack).getD j default)=true:=fun e j hj=>(Nat.lt_or_ge j k).elim (hno j) (fun h=>by obtain rfl:j=k:=(by omega);rw[hvb,e])
  refine az (au ?_)
  refine ac<|aP<|ac<|bN (.still 0 (.still 1 (.still 2 (.still 3 (.still 4 (.still 5 (.still 6 (.still 7 (.still 8 (.still 9 (.still 10 (.still 11 (.still 12 (.still 13 (.pick 14 (.still 15 (.still 16 (.still 17 (.still 18 (.still 19 (.still 20 (.still 21 (.still 22 (.still 23 (.still 24 (.still 25 (.still 26 (.still 27 (.still 28 (.still 29 (.pick 30 (.still 31 (.still 32 (.still 33 .done))) .stop)))))))))))))))) .stop))))))))))))))) [] rfl (by kernel_rfl) (by kernel_rfl) ?_
  refine aW ha 2 [2,3,4,7,8,9,10,49,50] rfl<|an rfl (aQ (k:=k) aw aD (SF.own rfl fc) (by omega) rfl rfl rfl) rfl rfl ha ?_
  refine aW ha 1 [2,3,4,7,8,9,10,52] rfl<|an rfl (a9 (fun w hw=>(SF.val (SF.own rfl fc) hkl2 default) w hw 0 _ rfl) rfl rfl fi) rfl rfl ha ?_
  refine aW ha 1 [2,3,4,7,8,9,10,54] rfl ?_
  rcases Bool.eq_false_or_eq_true ((x.locals++x.stack).getD k default).ref with hr | hr
  ·have hvb2:bE ((x.locals++x.stack).getD k default).n 0 m.blocks.length=vb:=by rw[←hvb];unfold ea;rw[if_pos hr]
   rw[hr]
   refine cG (t:=54) (v':= .bool true) rfl (rfl) ?_
   refine aW ha 2 [2,3,4,7,8,9,10,54,55,56] rfl<|an rfl (aQ (k:=k) aw aD (SF.own rfl fc) (by omega) rfl rfl rfl) rfl rfl ha ?_
   refine aW ha 1 [2,3,4,7,8,9,10,54,58] rfl<|an rfl (a9 (fun w hw=>(SF.val (SF.own rfl fc) hkl2 default) w hw 1 _ rfl) rfl rfl aq) rfl rfl ha ?_
   refine aW ha 1 [2,3,4,7,8,9,10,54,59,60] rfl<|an rfl (ai fc ed rfl rfl (by rfl)) rfl rfl ha ?_
   refine an rfl (aS b9 rfl rfl) rfl rfl ha ?_
   refine aC rfl (br rfl rfl rfl gC ((fun w hw=>fj ((fun w hw=>dY _ _ _ w) w hw)))) rfl rfl (.inr fun _=>ha) (fun _ _=>?_) ax
   refine aW ha 3 [2,3,4,7,8,9,10,66] rfl ?_
   rw[hvb2]
   cases vb
   ·refine cG (t:=66) (v':= .bool true) rfl (rfl) ?_
    refine aW ha 12 [2,3,4,7,8,9,10,66,73,78] rfl<|jV rfl rfl rfl (.inr ha) ?_ ax
    refine aW ha 3 [2,3,4,7,8,9,10,82] rfl<|cA<|bA rfl<|ac<|aa<|rn 1 [6] rfl<|ae<|av (aF (aj (aj (aF (aj ?_)))))
    refine aB fE (ap rfl) ?_
    intro w hw
    exact⟨by rw[hbad rfl],hw.below⟩
   refine cG (t:=66) (v':= .bool false) rfl (rfl) ?_
   refine aW ha 2 [2,3,4,7,8,9,10,66,67,68] rfl<|an rfl (aQ (k:=k) aw aD (SF.own rfl fc) (by omega) rfl rfl rfl) rfl rfl ha ?_
   refine aW ha 1 [2,3,4,7,8,9,10,66,70] rfl<|an rfl (a9 (fun w hw=>(SF.val (SF.own rfl fc) hkl2 default) w hw 0 _ rfl) rfl rfl fi) rfl rfl ha ?_
   refine aW ha 2 [2,3,4,7,8,9,10,66,73] rfl ?_
   rw[hr]
   refine cG (t:=73) (v':= .bool false) rfl (rfl) ?_
   refine aW ha 5 [2,3,4,7,8,9,10,66,73,78] rfl<|jV rfl rfl rfl (.inr ha) ?_ ax
   refine aW ha 3 [2,3,4,7,8,9,10,82] rfl<|cA<|dd rfl<|az (aI (au ?_))
   refine aa<|rn 1 [2,3,4,7,8,9,47] rfl<|af (bR rfl rfl rfl (by omega)) rfl rfl<|rn 1 [2,3,4,7,8,9,10] rfl<|bD (k+1) (⟨by show k+1≤_;omega,hgood rfl⟩) (by show _ - _<_ - _;omega) ⟨rfl,rfl,rfl,rfl,rfl,rfl,rfl,trivial⟩ me
  have hvb2:cH ((x.locals++x.stack).getD k default).n=vb:=by rw[←hvb];unfold ea;rw[if_neg (by rw[hr];decide)]
  rw[hr]
  refine cG (t:=54) (v':= .bool false) rfl (rfl) ?_
  refine aW ha 8 [2,3,4,7,8,9,10,54,59,62] rfl<|jV rfl rfl rfl (.inr ha) ?_ ax
  refine aW ha 5 [2,3,4,7,8,9,10,66,67,68] rfl<|an rfl (aQ (k:=k) aw aD (SF.own rfl fc) (by omega) rfl rfl rfl) rfl rfl ha ?_
  refine aW ha 1 [2,3,4,7,8,9,10,66,70] rfl<|an rfl (a9 (fun w hw=>(SF.val (SF.own rfl fc) hkl2 default) w hw 0 _ rfl) rfl rfl fi) rfl rfl ha ?_
  refine aW ha 2 [2,3,4,7,8,9,10,66,73] rfl ?_
  rw[hr]
  refine cG (t:=73) (v':= .bool true) rfl (rfl) ?_
  refine aW ha 2 [2,3,4,7,8,9,10,66,73,74,75] rfl<|an rfl (aQ (k:=k) aw aD (SF.own rfl fc) (by omega) rfl rfl rfl) rfl rfl ha ?_
  refine aW ha 1 [2,3,4,7,8,9,10,66,73,77] rfl<|an rfl (a9 (fun w hw=>(SF.val (SF.own rfl fc) hkl2 default) w hw 1 _ rfl) rfl rfl aq) rfl rfl ha ?_
  refine aC rfl (br rfl rfl rfl Tryz.call44 ((fun w hw=>fj ((fun w hw=>jC _ w) w hw)))) rfl rfl (.inr fun _=>ha) (fun _ _=>?_) ax
  refine aW ha 3 [2,3,4,7,8,9,10,82] rfl<|cA ?_
  rw[hvb2]
  cases vb
  ·refine cJ (t:=82) (v':= .bool true) rfl (rfl) ?_
   refine bA rfl<|ac<|aa<|rn 1 [6] rfl<|ae<|av (aF (aj (aj (aF (aj ?_)))))
   refine aB fE (ap rfl) ?_
   intro w hw
   exact⟨by rw[hbad rfl],hw.below⟩
  refine cJ (t:=82) (v':= .bool false) rfl (rfl) ?_
  refine dd rfl<|az (aI (au ?_))
  refine aa<|rn 1 [2,3,4,7,8,9,47] rfl<|af (bR rfl rfl rfl (by omega)) rfl rfl<|rn 1 [2,3,4,7,8,9,10] rfl<|bD (k+1) (⟨by show k+1≤_;omega,hgood rfl⟩) (by show _ - _<_ - _;omega) ⟨rfl,rfl,rfl,rfl,rfl,rfl,rfl,trivial⟩ me
 obtain rfl:k=(x.locals++x.stack).length:=by omega
 rw[if_neg (sZ hno)] at hE
 refine bY (aU (aU (cz (au ?_))))
 refine ac<|ac<|aa<|rn 1 [2,3,4,7,8,11] rfl<|ae<|aP (cn (fun k:Nat=>k≤x.locals.length∧∀j,j<k→ey (x.locals.getD j default) (f.locals.getD j 0)=true) (fun k=>x.locals.length - k) (fun k=> [(2,.int .i64 (i:Int)),(3,.pointer (some ⟨g1,0,none⟩)),(4,.pointer (some ⟨g2,0,none⟩)),(7,.pointer (some ⟨g3,0,none⟩)),(8,.pointer (some ⟨g4,0,none⟩)),(11,.int .i64 (k:Int))]) (fun _=> [am g3 [.int .i64 (kf:Int),.int .i64 x.pc,.slice A1 x.locals.length c1,.slice A2 x.stack.length c2] 97,am g4 [.int .i64 f.params,.slice F1 f.locals.length d1,.int .i64 f.result,.slice F2 f.code.length d2] 110,am g2 [.slice a.Af m.frames.length a.cf,.slice a.Ab m.blocks.length a.cb,.slice a.Ai m.inn.length a.ci,.slice a.Ao m.out.length a.co,.int .i64 m.status,.int .i64 m.trap] 29,am g1 [.slice Ap fs.length cp] 24]) 0 (⟨Nat.zero_le _,fun _ h=>absurd h (Nat.not_lt_zero _)⟩) ⟨rfl,rfl,rfl,rfl,rfl,rfl,trivial⟩ me ?_)
 rintro k hk'
 obtain⟨hk,hno2⟩:k≤x.locals.length∧∀j,j<k→ey (x.locals.getD j default) (f.locals.getD j 0)=true:=hk'
 refine ac<|ac<|aa<|rn 2 [2,3,4,7,8,11,83,84] rfl<|af (ai fc a5 rfl rfl (by rfl)) rfl rfl ?_
 refine af (aS aw rfl rfl) rfl rfl<|rn 1 [2,3,4,7,8,11,87] rfl<|ae<|ay rfl (fun hlt=>?_) (fun hlt=>?_)
 ·have hkl2:k<x.locals.length:=by omega
  have ht2:=hlt2 (f.locals.getD k 0) (cL (d:=0) (by omega))
  refine az (au ?_)
  refine ac<|aP<|ac<|bN (.still 0 (.still 1 (.still 2 (.still 3 (.still 4 (.still 5 (.still 6 (.still 7 (.still 8 (.still 9 (.pick 10 (.still 11 .done) .stop))))))))))) [] rfl (by kernel_rfl) (by kernel_rfl) ?_
  refine aW ha 1 [2,3,4,7,8,11,90] rfl<|an rfl (ai fc a5 rfl rfl (by rfl)) rfl rfl ha ?_
  refine aW ha 1 [2,3,4,7,8,11,91,92] rfl<|an rfl (aQ (k:=k) aw aD (.ro hl) (by omega) rfl rfl rfl) rfl rfl ha ?_
  refine an rfl (cu (SF.val (SF.ro hl) hkl2 default) rfl rfl db aD) rfl rfl ha ?_
  refine aW ha 1 [2,3,4,7,8,11,94,95] rfl<|an rfl (ai fc a7 rfl rfl (by rfl)) rfl rfl ha ?_
  refine aW ha 1 [2,3,4,7,8,11,94,96,97] rfl<|an rfl (aQ (k:=k) ah aH (.ro hfl) (by omega) rfl rfl rfl) rfl rfl ha ?_
  refine an rfl (a9 (SF.int (.ro hfl) (by omega)) rfl rfl aq) rfl rfl ha ?_
  refine aC rfl (br rfl rfl rfl Tryz.call112 (fun w hw=>qP (x.locals.getD k default) (f.locals.getD k 0) (by omega) w)) rfl rfl (.inr fun _=>ha) (fun _ _=>?_) ax
  refine aW ha 1 [2,3,4,7,8,11,101] rfl<|cA<|cB rfl (fun hb=>?_) (fun hb=>?_)
  ·have hb:ey (x.locals.getD k default) (f.locals.getD k 0)=false:=by simpa using hb
   rw[if_pos (oh hkl2 hb)] at hE
   subst hE
   refine ac<|aa<|rn 1 [6] rfl<|ae<|av (aF (aj (aj (aF (aj ?_)))))
   refine aB fE (ap rfl) ?_
   intro w hw
   exact⟨rfl,hw.below⟩
  have hb:ey (x.locals.getD k default) (f.locals.getD k 0)=true:=by simpa using hb
  refine az (aI (au ?_))
  refine aa<|rn 1 [2,3,4,7,8,88] rfl<|af (bR rfl rfl rfl (by omega)) rfl rfl<|rn 1 [2,3,4,7,8,11] rfl<|bD (k+1) (⟨by show k+1≤_;omega,fun j hj=>(Nat.lt_or_ge j k).elim (hno2 j) (fun h=>by obtain rfl:j=k:=(by omega);exact hb)⟩) (by show _ - _<_ - _;omega) ⟨rfl,rfl,rfl,rfl,rfl,rfl,trivial⟩ me
 obtain rfl:k=x.locals.length:=by omega
 rw[if_neg (by rw[iS.2 hno2];decide)] at hE
 obtain⟨q0,hq0⟩:∃q0,eb fs f x.pc=q0:=⟨_,rfl⟩
 rw[hq0] at hq
 refine bY (aU (aU (cz (au ?_))))
 refine ac<|aa<|af (aL (vs:= [_]) fc bU bI rfl rfl (by rfl) rfl) rfl rfl ?_
 refine rn 1 [2,3,4,7,8,103,104] rfl<|af (ai fc aq rfl rfl (by rfl)) rfl rfl ?_
 refine rn 1 [2,3,4,7,8,103,105,106] rfl<|af (ai fc aq rfl rfl (by rfl)) rfl rfl ?_
 refine ag (cI rfl rfl rfl Tryz.call113 (fun w hw=>hrent x.pc q0 hq0 w (hw.ro hs))) rfl rfl (fun⟨A7,c7⟩ _=>?_)
 try dsimp only
 refine rn 5 [2,3,4,7,8,12,13] rfl<|ae<|ac<|ac<|aa<|rn 2 [2,3,4,7,8,12,13,111,112] rfl<|af (ai fc bL rfl rfl (by rfl)) rfl rfl ?_
 refine af (aS aV rfl rfl) rfl rfl<|af (bt rfl rfl rfl (by omega)) rfl rfl<|rn 1 [2,3,4,7,8,12,13,116] rfl<|ae<|iQ (fun g:List Int×(Option Addr×Nat)=>q=some g.1∧Ty g.1) (fun g=> [(7,.pointer (some ⟨g3,0,none⟩)),(12,.slice g.2.1 g.1.length g.2.2)]) (fun g=> [gt (.slice g.2.1 g.1.length g.2.2) g.1,am g3 [.int .i64 (kf:Int),.int .i64 x.pc,.slice A1 x.locals.length c1,.slice A2 x.stack.length c2] 97,am g4 [.int .i64 f.params,.slice F1 f.locals.length d1,.int .i64 f.result,.slice F2 f.code.length d2] 110,am g2 [.slice a.Af m.frames.length a.cf,.slice a.Ab m.blocks.length a.cb,.slice a.Ai m.inn.length a.ci,.slice a.Ao m.out.length a.co,.int .i64 m.status,.int .i64 m.trap] 29,am g1 [.slice Ap fs.length cp] 24]) ?_ ?_
 ·refine ay rfl (fun hi2=>?_) (fun hi2=>?_)
  ·have hi1:i+1<m.frames.length:=by omega
   obtain⟨A3,c3,A4,c4,_,_,hI2,hcell2⟩:=hm.f.fr (k:=i+1) hi1
   obtain⟨to_,hto⟩:∃t,(bd m.frames (i+1)).func=t:=⟨_,rfl⟩
   have hy:=hfn _ (eZ hi1)
   rw[hto] at hy hcell2 hq
   rw[if_neg (by omega)] at hq
   obtain⟨cb,hcb⟩:∃b,eP f x.pc to_=b:=⟨_,rfl⟩
   have hbad:cb=false→E=5:=fun e=>by
    rw[hcb,e,if_pos rfl] at hq
    rw[←hq] at hE
    exact hE.symm
   refine ac<|aa<|rn 1 [2,3,7,8,12,117] rfl<|af (ai fc bL rfl rfl (by rfl)) rfl rfl ?_
   refine rn 1 [3,7,8,12,118,119] rfl<|af (bR rfl rfl rfl (by omega)) rfl rfl<|bG (t:=120) (v':= .int .i64 ((i+1:Nat):Int)) rfl (congrArg (Value.int .i64) (by omega)) ?_
   refine af (aQ (k:=i+1) aV bn (.ro hm.f) (by omega) rfl rfl rfl) rfl rfl<|rn 1 [3,7,8,12,122] rfl<|af (a9 (fun w hw=>hcell2 _ w hw 0 _ rfl) rfl rfl aq) rfl rfl ?_
   refine rn 1 [3,7,8,12,14] rfl<|ae<|ac<|ac<|aa<|rn 1 [3,7,8,12,14,124] rfl<|af (ai fc aq rfl rfl (by rfl)) rfl rfl ?_
   refine rn 2 [3,7,8,12,14,127] rfl ?_
   by_cases p1:x.pc<1
   ·have hc0:cb=false:=by rw[←hcb];unfold eP;rw[show bE x.pc 1 f.code.length=false from by rw[Bool.eq_false_iff];exact fun h=>by have:=dC.1 h;omega];rfl
    refine bG (t:=127) (v':= .bool true) rfl (congrArg Value.bool (decide_eq_true p1)) ?_
    refine rn 19 [3,7,12,14,146] rfl<|ae<|bA rfl<|ac<|aa<|rn 1 [6] rfl<|ae<|av (aj (aj ?_))
    refine aB fE (ap rfl) ?_
    intro w hw
    exact⟨by rw[hbad hc0],hw.below⟩
   refine bG (t:=127) (v':= .bool false) rfl (congrArg Value.bool (decide_eq_false p1)) ?_
   refine rn 1 [3,7,8,12,14,127,128] rfl<|af (ai fc aq rfl rfl (by rfl)) rfl rfl ?_
   refine rn 1 [3,7,8,12,14,127,129,130] rfl<|af (ai fc dw rfl rfl (by rfl)) rfl rfl ?_
   refine af (aS bu rfl rfl) rfl rfl<|rn 3 [3,7,8,12,14,135] rfl ?_
   by_cases p2:(f.code.length:Int)<x.pc
   ·have hc0:cb=false:=by rw[←hcb];unfold eP;rw[show bE x.pc 1 f.code.length=false from by rw[Bool.eq_false_iff];exact fun h=>by have:=dC.1 h;omega];rfl
    refine bG (t:=135) (v':= .bool true) rfl (congrArg Value.bool (decide_eq_true p2)) ?_
    refine rn 11 [3,7,12,14,146] rfl<|ae<|bA rfl<|ac<|aa<|rn 1 [6] rfl<|ae<|av (aj (aj ?_))
    refine aB fE (ap rfl) ?_
    intro w hw
    exact⟨by rw[hbad hc0],hw.below⟩
   obtain⟨kp,hkp⟩:∃kp:Nat,x.pc - 1=kp:=⟨(x.pc - 1).toNat,by omega⟩
   have hcb2:((bx f.code kp).c == 12 && (bx f.code kp).a == to_)=cb:=by
    rw[←hcb]
    unfold eP
    rw[dC.2 (by omega),hkp,Int.toNat_natCast,Bool.true_and]
    rfl
   refine bG (t:=135) (v':= .bool false) rfl (congrArg Value.bool (decide_eq_false p2)) ?_
   refine rn 1 [3,7,12,14,135,136] rfl<|af (ai fc dw rfl rfl (by rfl)) rfl rfl ?_
   refine rn 1 [3,7,12,14,135,137,138] rfl<|af (ai fc aq rfl rfl (by rfl)) rfl rfl ?_
   refine af (bt rfl rfl rfl (by omega)) rfl rfl<|bG (t:=140) (v':= .int .i64 (kp:Int)) rfl (congrArg (Value.int .i64) hkp) ?_
   refine af (aQ (k:=kp) bu b8 (.ro hfc) (by omega) rfl rfl rfl) rfl rfl<|af (cu (cs:= [_,_]) (SF.op (.ro hfc) (by omega)) rfl rfl eS b8) rfl rfl<|rn 1 [3,7,12,14,135,142,143] rfl<|af (cq (cs:= [_,_]) fG cr rfl rfl (by rfl)) rfl rfl ?_
   refine af (mG rfl rfl rfl (fun w=>CP w _ _ _ _) (fun w=>BJ _ _ _ _ w)) rfl rfl ?_
   refine rn 1 [3,7,12,14,146] rfl<|ae ?_
   rw[hcb2]
   cases cb
   ·refine cJ (t:=146) (v':= .bool true) rfl (rfl) ?_
    refine bA rfl<|ac<|aa<|rn 1 [6] rfl<|ae<|av (aj (aj ?_))
    refine aB fE (ap rfl) ?_
    intro w hw
    exact⟨by rw[hbad rfl],hw.below⟩
   refine cJ (t:=146) (v':= .bool false) rfl (rfl) ?_
   refine dd rfl<|az (au ?_)
   refine ac<|aa<|af (aL (vs:= [_]) fc bU bI rfl rfl (by rfl) rfl) rfl rfl ?_
   refine rn 1 [3,7,12,14,148,149] rfl<|af (ai fc aq rfl rfl (by rfl)) rfl rfl ?_
   refine rn 1 [3,7,12,14,148,150,151] rfl<|af (ai fc aq rfl rfl (by rfl)) rfl rfl ?_
   refine af (bt rfl rfl rfl (by omega)) rfl rfl ?_
   rw[hcb,if_neg (by decide)] at hq
   obtain⟨q1,hq1⟩:∃q1,eb fs f (x.pc - 1)=q1:=⟨_,rfl⟩
   rw[hq1] at hq
   refine ag (cI rfl rfl rfl Tryz.call113 (fun w hw=>hrent (x.pc - 1) q1 hq1 w (hw.ro hs))) rfl rfl (fun⟨A9,c9⟩ _=>?_)
   try dsimp only
   refine rn 5 [3,7,12,14,16] rfl<|ae<|ac<|ac<|aa<|rn 2 [3,7,12,14,158] rfl<|ae ?_
   cases q1 with
   | none=>
    rw[if_pos (show (none:Option (List Int)).isSome=false from rfl)] at hq
    rw[←hq] at hE
    refine cJ (t:=158) (v':= .bool true) rfl (rfl) ?_
    refine bA rfl<|ac<|aa<|rn 1 [6] rfl<|ae<|av (aj (aj ?_))
    refine aB fE (ap rfl) ?_
    intro w hw
    exact⟨by rw[←hE],hw.below⟩
   | some t0=>
    rw[if_neg (by simp)] at hq
    obtain⟨_,t,ht,htl⟩:=hbeh hcb hq1
    rw[hq0] at ht
    subst ht
    obtain⟨kt,hkt⟩:∃kt:Nat,to_=kt:=⟨to_.toNat,by omega⟩
    have hktl:kt<fs.length:=by omega
    obtain⟨G1,e1,G2,e2,_,_,hGi,hgcell⟩:=hs.fn hktl
    have hres:=(hty.res kt hktl).1
    have hTy:=hent _ _ hq0
    have hq:some (if (ar fs kt).result≠0 then t.dropLast else t)=q:=by
     rw[←hq]
     unfold gk
     rw[hto,hkt,Int.toNat_natCast]
     rfl
    rw[hkt,Int.toNat_natCast] at htl
    refine cJ (t:=158) (v':= .bool false) rfl (rfl) ?_
    refine dd rfl<|az (au ?_)
    refine ac<|aa<|rn 1 [7,12,14,159] rfl<|af (ai fc cF rfl rfl (by rfl)) rfl rfl ?_
    refine rn 1 [7,12,160,161] rfl<|bG (t:=161) (v':= .int .i64 (kt:Int)) rfl (congrArg (Value.int .i64) hkt) ?_
    refine af (aQ (k:=kt) bw bg (.ro hs) (by omega) rfl rfl rfl) rfl rfl<|rn 1 [7,12,163] rfl<|af (a9 (fun w hw=>hgcell _ w hw 2 _ rfl) rfl rfl aq) rfl rfl ?_
    refine rn 1 [7,12,165] rfl<|ae<|ay rfl (fun hr=>?_) (fun hr=>?_)
    ·have hr:0<(ar fs kt).result:=hr
     rw[if_pos (by omega)] at hq
     have htl:=htl (by omega)
     have hgl:((some t).getD []).length=t.length:=rfl
     refine dz (p:=t.length≤140737488355328∧t.length≤c7) (fun w hw=>⟨bV (SF.at_ (SF.rd (xs:=t) (m:=t.length) (A:=A7) (c:=c7) rfl fc) hw),(SF.at_ (SF.rd (xs:=t) (m:=t.length) (A:=A7) (c:=c7) rfl fc) hw).cap⟩) fun⟨tb,tc⟩=>?_
     refine aa<|rn 2 [7,166,167] rfl<|af (aS ah rfl rfl) rfl rfl<|af (bt rfl rfl rfl (by omega)) rfl rfl<|bG (t:=169) (v':= .int .i64 ((t.length - 1:Nat):Int)) rfl (congrArg (Value.int .i64) (by omega)) ?_
     refine af (qS (lo:=0) (hi:=t.length - 1) (k:=t.dropLast.length) ah aH ⟨by omega,by omega⟩ (by rw[List.length_dropLast];rfl) rfl rfl rfl rfl) rfl rfl ?_
     refine rn 1 [7,12] rfl<|gM (t.dropLast,(gA A7 0 c7 1,c7 - 0)) (⟨hq.symm,fun y hy=>hTy y (List.dropLast_subset t hy)⟩) ⟨rfl,rfl,trivial⟩ (fun w h=>(z6 (h.msub (T:= [gt (.slice A7 t.length c7) t,am g3 [.int .i64 (kf:Int),.int .i64 x.pc,.slice A1 x.locals.length c1,.slice A2 x.stack.length c2] 97,am g4 [.int .i64 f.params,.slice F1 f.locals.length d1,.int .i64 f.result,.slice F2 f.code.length d2] 110,am g2 [.slice a.Af m.frames.length a.cf,.slice a.Ab m.blocks.length a.cb,.slice a.Ai m.inn.length a.ci,.slice a.Ao m.out.length a.co,.int .i64 m.status,.int .i64 m.trap] 29,am g1 [.slice Ap fs.length cp] 24]) ms)).msub ms)
    rw[if_neg (by omega)] at hq
    refine az<|aY (t,(A7,c7)) (⟨hq.symm,hTy⟩) ⟨rfl,rfl,trivial⟩ (fun w h=>h.msub ms)
  rw[if_pos (by omega)] at hq
  subst hq
  refine ac<|aa<|rn 2 [7,12,172] rfl<|ae ?_
  cases q0 with
  | none=>
   refine cJ (t:=172) (v':= .bool true) rfl (rfl) ?_
   refine bA rfl<|ac<|aa<|rn 1 [6] rfl<|ae<|av (aj ?_)
   refine aB fE (ap rfl) ?_
   intro w hw
   exact⟨by rw[←hE],hw.below⟩
  | some t=>
   refine cJ (t:=172) (v':= .bool false) rfl (rfl) ?_
   refine dd rfl<|az<|aY (t,(A7,c7)) (⟨rfl,hent _ _ hq0⟩) ⟨rfl,rfl,trivial⟩ (fun w h=>h.msub ms)
 rintro⟨t,⟨A8,c8⟩⟩ hqt
 obtain⟨hqt,hTy⟩:q=some t∧Ty t:=hqt
 subst hqt
 dsimp only at hE
 try dsimp only
 refine ac<|ac<|aa<|rn 1 [7,12,173] rfl<|af (aS ah rfl rfl) rfl rfl<|rn 1 [7,12,174,175] rfl<|af (ai fc a5 rfl rfl (by rfl)) rfl rfl ?_
 refine af (aS aw rfl rfl) rfl rfl<|rn 1 [7,12,178] rfl<|ae<|bZ rfl (fun h2=>?_) (fun h2=>?_)
 ·rw[if_pos (show t.length≠x.stack.length from fun e=>h2 (by rw[e]))] at hE
  subst hE
  refine ac<|aa<|rn 1 [6] rfl<|ae<|av (aj ?_)
  refine aB fE (ap rfl) ?_
  intro w hw
  exact⟨rfl,hw.below⟩
 have h2:t.length=x.stack.length:=by omega
 rw[if_neg (fun h=>h h2)] at hE
 refine az (au ?_)
 refine ac<|ac<|aa<|rn 1 [7,12,17] rfl<|ae<|aP (cn (fun k:Nat=>k≤t.length∧∀j,j<k→ey (x.stack.getD j default) (t.getD j 0)=true) (fun k=>t.length - k) (fun k=> [(7,.pointer (some ⟨g3,0,none⟩)),(12,.slice A8 t.length c8),(17,.int .i64 (k:Int))]) (fun _=> [gt (.slice A8 t.length c8) t,am g3 [.int .i64 (kf:Int),.int .i64 x.pc,.slice A1 x.locals.length c1,.slice A2 x.stack.length c2] 97]) 0 (⟨Nat.zero_le _,fun _ h=>absurd h (Nat.not_lt_zero _)⟩) ⟨rfl,rfl,rfl,trivial⟩ me ?_)
 rintro k hk'
 obtain⟨hk,hno3⟩:k≤t.length∧∀j,j<k→ey (x.stack.getD j default) (t.getD j 0)=true:=hk'
 refine ac<|ac<|aa<|rn 2 [7,12,17,179,180] rfl<|af (aS ah rfl rfl) rfl rfl<|rn 1 [7,12,17,182] rfl<|ae<|ay rfl (fun hlt=>?_) (fun hlt=>?_)
 ·have hkl2:k<t.length:=by omega
  have hkl3:k<x.stack.length:=by omega
  refine az (au ?_)
  refine ac<|aP<|ac<|bN (.still 0 (.still 1 (.still 2 (.still 3 (.still 4 (.still 5 (.still 6 (.still 7 (.still 8 (.pick 9 (.still 10 .done) .stop)))))))))) [] rfl (by kernel_rfl) (by kernel_rfl) ?_
  refine aW ha 1 [7,12,17,185] rfl<|an rfl (ai fc a5 rfl rfl (by rfl)) rfl rfl ha ?_
  refine aW ha 1 [7,12,17,186,187] rfl<|an rfl (aQ (k:=k) aw aD (.ro hst) (by omega) rfl rfl rfl) rfl rfl ha ?_
  refine an rfl (cu (SF.val (SF.ro hst) hkl3 default) rfl rfl db aD) rfl rfl ha ?_
  refine aW ha 2 [7,12,17,189,190,191] rfl<|an rfl (aQ (k:=k) ah aH (SF.rd (xs:=t) rfl fc) (by omega) rfl rfl rfl) rfl rfl ha ?_
  refine an rfl (a9 (SF.int (SF.rd (xs:=t) rfl fc) (by omega)) rfl rfl aq) rfl rfl ha ?_
  refine aC rfl (br rfl rfl rfl Tryz.call112 (fun w hw=>qP (x.stack.getD k default) (t.getD k 0) (hTy _ (cL (d:=0) hkl2)) w)) rfl rfl (.inr fun _=>ha) (fun _ _=>?_) ax
  refine aW ha 1 [7,12,17,195] rfl<|cA<|cB rfl (fun hb=>?_) (fun hb=>?_)
  ·have hb:ey (x.stack.getD k default) (t.getD k 0)=false:=by simpa using hb
   rw[if_pos (oh hkl2 hb)] at hE
   subst hE
   refine ac<|aa<|rn 1 [6] rfl<|ae<|av (aF (aj (aj (aF (aj ?_)))))
   refine aB fE (ap rfl) ?_
   intro w hw
   exact⟨rfl,hw.below⟩
  have hb:ey (x.stack.getD k default) (t.getD k 0)=true:=by simpa using hb
  refine az (aI (au ?_))
  refine aa<|rn 1 [7,12,183] rfl<|af (bR rfl rfl rfl (by omega)) rfl rfl<|rn 1 [7,12,17] rfl<|bD (k+1) (⟨by show k+1≤_;omega,fun j hj=>(Nat.lt_or_ge j k).elim (hno3 j) (fun h=>by obtain rfl:j=k:=(by omega);exact hb)⟩) (by show _ - _<_ - _;omega) ⟨rfl,rfl,rfl,trivial⟩ me
 obtain rfl:k=t.length:=by omega
 rw[if_neg (by rw[iS.2 hno3];decide)] at hE
 subst hE
 refine bY (aU (aU (cz (au ?_))))
 refine ac<|aa<|rn 1 [6] rfl<|ae<|av<|aB fE (ap rfl) ?_
 intro w hw
 exact⟨rfl,hw.below⟩
end
section
def fH:aO:=⟨[⟨0,0,[],[]⟩],[],[],[],0,0⟩
def iT:aO:=⟨[⟨0,1,[],[⟨false,3⟩]⟩],[],[],[],0,0⟩
def pI:aO:=⟨[⟨0,0,[],[]⟩],[],[],[],1,0⟩
set_option maxRecDepth 100000 in
theorem pM:dT eJ=0∧iW eJ=fH∧dm eJ fH=0∧jz eJ fH=iT∧dm eJ iT=0∧dT kT=0∧iW kT=fH∧dm kT fH=0∧jz kT fH=pI:=by
 refine⟨?_,?_,?_,?_,?_,?_,?_,?_,?_⟩ <;> kernel_rfl
theorem od:iE fH.frames:=by
 refine⟨by decide,fun x hx=>?_⟩
 have:x=⟨0,0,[],[]⟩:=by simpa [fH] using hx
 subst this
 decide
theorem AD:iE iT.frames:=by
 refine⟨by decide,fun x hx=>?_⟩
 have:x=⟨0,1,[],[⟨false,3⟩]⟩:=by simpa [iT] using hx
 subst this
 decide
section
variable {fs:List aE} {m:aO} {n:Nat}
theorem l3 (hp:dT fs=0) (hm:iW fs=fH) (hn:fs.length=n) (A:Option Addr) (c:Nat) (w:World) (hs:Sl w (.slice A n c) fs) :
  Calls Tryz.prog 22 #[.agg #[.slice A n c]] w fun e w'=> ∃g:MA,True∧
   e= .returned (.tuple #[.agg #[.slice g.Af 1 g.cf,.slice g.Ab 0 g.cb,.slice g.Ai 0 g.ci,.slice g.Ao 0 g.co,.int .i64 0,.int .i64 0],.int .i64 0])∧Cw w.heap.size w [ak (.slice g.Af 1 g.cf) fH.frames,ak (.slice g.Ab 0 g.cb) fH.blocks,ak (.slice g.Ai 0 g.ci) fH.inn,ak (.slice g.Ao 0 g.co) fH.out] w':=by
 subst hn
 have:=pH A c fs fH hm w hs
 rw[hp] at this
 exact this
theorem uc (hn:fs.length=n) {E:Int} (hE:dm fs iT=E) (A:Option Addr) (c:Nat) (a:MA) (w:World) (hs:Sl w (.slice A n c) fs) (hm:d9 w.heap.size w a iT) :
  Calls Tryz.prog 27 #[.agg #[.slice A n c],.agg #[.slice a.Af 1 a.cf,.slice a.Ab 0 a.cb,.slice a.Ai 0 a.ci,.slice a.Ao 0 a.co,.int .i64 0,.int .i64 0]] w fun e w'=>e= .returned (.int .i64 E)∧Below w.heap.size w w':=by
 subst hn
 subst hE
 exact iL A c fs a iT w hs hm AD
theorem l0 (hn:fs.length=n) (hE:dm fs fH=0) (hm2:jz fs fH=iT) (A:Option Addr) (c:Nat) (a:MA) (w:World) (hs:Sl w (.slice A n c) fs) (hm:d9 w.heap.size w a fH) :
  Calls Tryz.prog 23 #[.agg #[.slice A n c],.agg #[.slice a.Af 1 a.cf,.slice a.Ab 0 a.cb,.slice a.Ai 0 a.ci,.slice a.Ao 0 a.co,.int .i64 0,.int .i64 0]] w fun e w'=> ∃g:MA,True∧
   e= .returned (.tuple #[.agg #[.slice g.Af 1 g.cf,.slice g.Ab 0 g.cb,.slice g.Ai 0 g.ci,.slice g.Ao 0 g.co,.int .i64 0,.int .i64 0],.int .i64 0])∧Cw w.heap.size w [ak (.slice g.Af 1 g.cf) iT.frames,ak (.slice g.Ab 0 g.cb) iT.blocks,ak (.slice g.Ai 0 g.ci) iT.inn,ak (.slice g.Ao 0 g.co) iT.out] w':=by
 subst hn
 have:=nB A c fs a fH iT hm2 w hs hm od
 rw[hE] at this
 exact this
theorem lZ (hn:fs.length=n) (hE:dm fs fH=0) (hm2:jz fs fH=pI) (A:Option Addr) (c:Nat) (a:MA) (w:World) (hs:Sl w (.slice A n c) fs) (hm:d9 w.heap.size w a fH) :
  Calls Tryz.prog 23 #[.agg #[.slice A n c],.agg #[.slice a.Af 1 a.cf,.slice a.Ab 0 a.cb,.slice a.Ai 0 a.ci,.slice a.Ao 0 a.co,.int .i64 0,.int .i64 0]] w fun e w'=> ∃g:MA,True∧
   e= .returned (.tuple #[.agg #[.slice g.Af 1 g.cf,.slice g.Ab 0 g.cb,.slice g.Ai 0 g.ci,.slice g.Ao 0 g.co,.int .i64 1,.int .i64 0],.int .i64 0])∧Cw w.heap.size w [ak (.slice g.Af 1 g.cf) pI.frames,ak (.slice g.Ab 0 g.cb) pI.blocks,ak (.slice g.Ai 0 g.ci) pI.inn,ak (.slice g.Ao 0 g.co) pI.out] w':=by
 subst hn
 have:=nB A c fs a fH pI hm2 w hs hm od
 rw[hE] at this
 exact this
end
section
variable {B:Nat} {w0 w:World} {H H1 H2 H3 H4:List bj}
theorem dE {g:MA} {m:aO} {nf nb ni no:Nat} (hw:Cw B w0 H w) (hf:cV H (ak (.slice g.Af nf g.cf) m.frames) H1) (hb:cV H (ak (.slice g.Ab nb g.cb) m.blocks) H2) (hi:cV H (ak (.slice g.Ai ni g.ci) m.inn) H3) (ho:cV H (ak (.slice g.Ao no g.co) m.out) H4) (e1:m.frames.length=nf) (e2:m.blocks.length=nb) (e3:m.inn.length=ni) (e4:m.out.length=no) (hs:aX m.status) (ht:aX m.trap):d9 w.heap.size w g m:=by
 subst e1 e2 e3 e4
 exact⟨SF.at_ (SF.own rfl hf) hw,SF.at_ (SF.own rfl hb) hw,SF.at_ (SF.own rfl hi) hw,SF.at_ (SF.own rfl ho) hw,hs,ht⟩
end
section
variable {P:Program} {n:NF} {B:Nat} {w0:World} {H H':List bj} {Q:Exit→Act→World→Prop} {env:cU} {x:Code}
structure DT (B:Nat) (w0:World) (X:bj) (k:Nat) (A:Option Addr) (c:Nat) (fr:List aT) (hs:List aJ):Prop where
 el:∀i,i<k→∃Al cl As cs,hs.getD i default=⟨(bd fr i).func,(bd fr i).pc,.slice Al (bd fr i).locals.length cl,.slice As (bd fr i).stack.length cs⟩∧
  (∀H H',cV H X H'→SF B w0 H Al (bd fr i).locals.length cl (bd fr i).locals∧SF B w0 H As (bd fr i).stack.length cs (bd fr i).stack)
 len:hs.length=k
 back:∀H H' H'' w,cV H (ak (.slice A k c) hs) H'→cV H' X H''→Cw B w0 H w→Cw B w0 (ak (.slice A k c) fr::H'') w
theorem SF.hfr {A:Option Addr} {xs:List aJ} {m c k:Nat} {h:aJ} (hs:SF B w0 H A m c xs) (hk:k<m) (e:xs.getD k default=h):∀w,Cw B w0 H w→∀j v,([.int .i64 h.func,.int .i64 h.pc,h.lv,h.sv]:List Value)[j]? =some v→w.cell? ⟨ab A,ao A+k*4+j,none⟩=some v:=fun w hw j v hv=>SF.cell hs hk default (by rw[e];exact hv) w hw
theorem rV {l:List (aJ×aT)} {i:Nat} (hi:i<l.length) {w:World} (h:Cw B w0 (cT l::H) w):Sl w l[i].1.lv l[i].2.locals∧Sl w l[i].1.sv l[i].2.stack:=by
 have h1:Cw B w0 (ak l[i].1.lv l[i].2.locals::ak l[i].1.sv l[i].2.stack::(cT (l.eraseIdx i)::H)) w:=Bs hi h
 obtain⟨F1,k1,_⟩:=h1.rd cV.a
 obtain⟨F2,k2,_⟩:=h1.rd (cV.s cV.a)
 exact⟨cN.sl k1,cN.sl k2⟩
theorem sH {A:Option Addr} {k c:Nat} {fr:List aT} (hk:fr.length=k) (hp:cV H (ak (.slice A k c) fr) H')
  (h:∀(X:bj) (hs:List aJ),DT B w0 X k A c fr hs→CW P n B w0 x Q env (ak (.slice A k c) hs::X::H')):CW P n B w0 x Q env H:=fun a w hf hw=>by
 obtain⟨l,hl,hok,h3⟩:=wU (hw.perm hp)
 have hll:l.length=k:=by rw[←hk,←hl,List.length_map]
 refine h (cT l) (l.map Prod.fst) ⟨fun i hi=>?_,by rw[List.length_map,hll],fun H1 H2 H3 w f1 f2 hw=>?_⟩ a w hf h3
 ·have hi':i<l.length:=by omega
  obtain⟨s1,s2⟩:=rV hi' (h3.perm (List.Perm.swap ..))
  have hfr:bd fr i=l[i].2:=by
   unfold bd
   rw[←hl,List.getD_eq_getElem?_getD,List.getElem?_map,List.getElem?_eq_getElem hi']
   rfl
  have hfi:=hok l[i] (List.getElem_mem hi')
  obtain⟨Al,cl,e1,_⟩:=s1.form
  obtain⟨As,cs,e2,_⟩:=s2.form
  refine⟨Al,cl,As,cs,?_,fun H1 H2 f=>⟨⟨by rw[hfr],fun w hw=>?_⟩,⟨by rw[hfr],fun w hw=>?_⟩⟩⟩
  ·rw[List.getD_eq_getElem?_getD,List.getElem?_map,List.getElem?_eq_getElem hi',hfr,←e1,←e2]
   show l[i].1=_
   have h1:l[i].1.func=l[i].2.func:=hfi.1
   have h2:l[i].1.pc=l[i].2.pc:=hfi.2
   rw[←h1,←h2]
  ·have:=(rV hi' (hw.perm f)).1
   rw[e1] at this
   rw[hfr];exact this
  have:=(rV hi' (hw.perm f)).2
  rw[e2] at this
  rw[hfr];exact this
 have:=qb (v:= .slice A k c) (H:=H3) hok ((hw.perm f1).perm (List.Perm.cons _ f2))
 rw[hl] at this
 exact this
end
end
section
set_option maxRecDepth 100000 in
set_option maxHeartbeats 4000000 in
theorem jj (w:World):Calls Tryz.prog 26 #[] w fun e w'=>e= .returned (.bool true)∧Below w.heap.size w w':=by
 obtain⟨f1,f2,f3,f4,f5,f6,f7,f8,f9⟩:=pM
 refine enter Tryz.func26 rfl Tryz.ntmps26 rfl ?_
 refine ac<|aa<|rn 1 [] rfl<|ae<|ac<|aa<|ag (cI rfl rfl rfl kG (fun w hw=>fu w)) rfl rfl (fun gp _=>?_)
 refine ag (cI rfl rfl rfl Cx (fun w hw=>l3 f1 f2 rfl _ _ w (SF.at_ (SF.own rfl fc) hw))) rfl rfl (fun a1 _=>?_)
 refine rn 3 [12,13] rfl<|ag (aZ a6 rfl rfl) rfl rfl (fun g1 _=>?_)
 refine ag (aG _ fc aA rfl rfl rfl rfl rfl (by rfl) rfl (by rfl)) rfl rfl (fun _ _=>?_)
 refine rn 1 [1,2] rfl<|ae<|dS (fun _:Nat×MA=>True) (fun g=> [(2,.int .i64 0),(3,.pointer (some ⟨g.1,0,none⟩)),(4,.int .i64 0)]) (fun g=> [am g.1 [.slice g.2.Af 1 g.2.cf,.slice g.2.Ab 0 g.2.cb,.slice g.2.Ai 0 g.2.ci,.slice g.2.Ao 0 g.2.co,.int .i64 0,.int .i64 0] 29,ak (.slice g.2.Af 1 g.2.cf) iT.frames,ak (.slice g.2.Ab 0 g.2.cb) iT.blocks,ak (.slice g.2.Ai 0 g.2.ci) iT.inn,ak (.slice g.2.Ao 0 g.2.co) iT.out]) ?_ ?_
 ·refine bN (.still 1 (.pick 0 (.pick 2 (.calm 3 (.calm 4 (.calm 5 (.pick 6 (.pick 7 (.calm 8 .done) .stop) .stop)))) (.pick 6 (.pick 2 (.calm 3 (.calm 4 (.calm 5 (.pick 7 (.calm 8 .done) .stop)))) .stop) .stop)) (.pick 6 (.pick 0 (.pick 2 (.calm 3 (.calm 4 (.calm 5 (.pick 7 (.calm 8 .done) .stop)))) .stop) .stop) .stop))) [2,3,4,5,7,8] rfl (by kernel_rfl) (by kernel_rfl) ?_
  refine an rfl (aL (vs:= [_,_,_,_,_,_]) fc aR aA rfl rfl (by rfl) rfl) rfl rfl ha ?_
  refine aC rfl (cI rfl rfl rfl kG (fun w hw=>fu w)) rfl rfl (.inr fun _=>ha) (fun gq _=>?_) ?_
  ·refine aC rfl (cI rfl rfl rfl ot (fun w hw=>l0 rfl f3 f4 _ _ a1 w (SF.at_ (SF.own rfl fc) hw) (dE hw fc fc fc fc rfl rfl rfl rfl (by decide) (by decide)))) rfl rfl (.inl rfl) (fun a2 _=>?_) ?_
   ·refine dF 3 [2,18,19] rfl<|aC rfl (aZ a6 rfl rfl) rfl rfl (.inr fun _=>ha) (fun q _=>?_) ax
    refine aC rfl (aG [_,_,_,_,_,_] fc aA rfl rfl rfl rfl rfl (by rfl) rfl (by rfl)) rfl rfl (.inl rfl) (fun _ _=>?_) ax
    refine dF 1 [2,3,4] rfl<|cd<|aY (q,a2) (trivial) ⟨rfl,rfl,rfl,trivial⟩ (fun _ h=>h.msub ms)
   refine aC rfl (aZ a6 rfl rfl) rfl rfl (.inr fun _=>ha) (fun q _=>?_) ax
   refine aC rfl (cI rfl rfl rfl ot (fun w hw=>l0 rfl f3 f4 _ _ a1 w (SF.at_ (SF.own rfl fc) hw) (dE hw fc fc fc fc rfl rfl rfl rfl (by decide) (by decide)))) rfl rfl (.inl rfl) (fun a2 _=>?_) ax
   refine dF 3 [2,3,18,19] rfl<|aC rfl (aG [_,_,_,_,_,_] fc aA rfl rfl rfl rfl rfl (by rfl) rfl (by rfl)) rfl rfl (.inl rfl) (fun _ _=>?_) ax
   refine dF 1 [2,3,4] rfl<|cd<|aY (q,a2) (trivial) ⟨rfl,rfl,rfl,trivial⟩ (fun _ h=>h.msub ms)
  refine aC rfl (aZ a6 rfl rfl) rfl rfl (.inr fun _=>ha) (fun q _=>?_) ax
  refine aC rfl (cI rfl rfl rfl kG (fun w hw=>fu w)) rfl rfl (.inr fun _=>ha) (fun gq _=>?_) ax
  refine aC rfl (cI rfl rfl rfl ot (fun w hw=>l0 rfl f3 f4 _ _ a1 w (SF.at_ (SF.own rfl fc) hw) (dE hw fc fc fc fc rfl rfl rfl rfl (by decide) (by decide)))) rfl rfl (.inl rfl) (fun a2 _=>?_) ax
  refine dF 3 [2,3,18,19] rfl<|aC rfl (aG [_,_,_,_,_,_] fc aA rfl rfl rfl rfl rfl (by rfl) rfl (by rfl)) rfl rfl (.inl rfl) (fun _ _=>?_) ax
  refine dF 1 [2,3,4] rfl<|cd<|aY (q,a2) (trivial) ⟨rfl,rfl,rfl,trivial⟩ (fun _ h=>h.msub ms)
 rintro⟨gn,a2⟩ _
 try dsimp only
 refine ac<|aa<|ag (cI rfl rfl rfl Ep (fun w hw=>mE w)) rfl rfl (fun gs _=>?_)
 refine ag (cI rfl rfl rfl Cx (fun w hw=>l3 f6 f7 rfl _ _ w (SF.at_ (SF.own rfl fc) hw))) rfl rfl (fun a3 _=>?_)
 refine rn 3 [2,3,4,23,24] rfl<|ag (aZ a6 rfl rfl) rfl rfl (fun g2 _=>?_)
 refine ag (aG _ fc aA rfl rfl rfl rfl rfl (by rfl) rfl (by rfl)) rfl rfl (fun _ _=>?_)
 refine rn 1 [2,3,4,5,6] rfl<|ae<|dS (fun _:Nat×MA=>True) (fun g=> [(2,.int .i64 0),(3,.pointer (some ⟨gn,0,none⟩)),(4,.int .i64 0),(6,.int .i64 0),(7,.pointer (some ⟨g.1,0,none⟩)),(8,.int .i64 0)]) (fun g=> [am g.1 [.slice g.2.Af 1 g.2.cf,.slice g.2.Ab 0 g.2.cb,.slice g.2.Ai 0 g.2.ci,.slice g.2.Ao 0 g.2.co,.int .i64 1,.int .i64 0] 29,ak (.slice g.2.Af 1 g.2.cf) pI.frames,am gn [.slice a2.Af 1 a2.cf,.slice a2.Ab 0 a2.cb,.slice a2.Ai 0 a2.ci,.slice a2.Ao 0 a2.co,.int .i64 0,.int .i64 0] 29,ak (.slice a2.Af 1 a2.cf) iT.frames,ak (.slice a2.Ab 0 a2.cb) iT.blocks,ak (.slice a2.Ai 0 a2.ci) iT.inn,ak (.slice a2.Ao 0 a2.co) iT.out]) ?_ ?_
 ·refine bN (.still 1 (.pick 0 (.pick 2 (.calm 3 (.calm 4 (.calm 5 (.pick 6 (.pick 7 (.calm 8 .done) .stop) .stop)))) (.pick 6 (.pick 2 (.calm 3 (.calm 4 (.calm 5 (.pick 7 (.calm 8 .done) .stop)))) .stop) .stop)) (.pick 6 (.pick 0 (.pick 2 (.calm 3 (.calm 4 (.calm 5 (.pick 7 (.calm 8 .done) .stop)))) .stop) .stop) .stop))) [2,3,4,5,7,8] rfl (by kernel_rfl) (by kernel_rfl) ?_
  refine an rfl (aL (vs:= [_,_,_,_,_,_]) fc aR aA rfl rfl (by rfl) rfl) rfl rfl ha ?_
  refine aC rfl (cI rfl rfl rfl Ep (fun w hw=>mE w)) rfl rfl (.inr fun _=>ha) (fun gq _=>?_) ?_
  ·refine aC rfl (cI rfl rfl rfl ot (fun w hw=>lZ rfl f8 f9 _ _ a3 w (SF.at_ (SF.own rfl fc) hw) (dE hw fc fc fc fc rfl rfl rfl rfl (by decide) (by decide)))) rfl rfl (.inl rfl) (fun a4 _=>?_) ?_
   ·refine dF 3 [2,3,4,6,29,30] rfl<|aC rfl (aZ a6 rfl rfl) rfl rfl (.inr fun _=>ha) (fun q _=>?_) ax
    refine aC rfl (aG [_,_,_,_,_,_] fc aA rfl rfl rfl rfl rfl (by rfl) rfl (by rfl)) rfl rfl (.inl rfl) (fun _ _=>?_) ax
    refine dF 1 [2,3,4,6,7,8] rfl<|cd<|aY (q,a4) (trivial) ⟨rfl,rfl,rfl,rfl,rfl,rfl,trivial⟩ (fun _ h=>h.msub ms)
   refine aC rfl (aZ a6 rfl rfl) rfl rfl (.inr fun _=>ha) (fun q _=>?_) ax
   refine aC rfl (cI rfl rfl rfl ot (fun w hw=>lZ rfl f8 f9 _ _ a3 w (SF.at_ (SF.own rfl fc) hw) (dE hw fc fc fc fc rfl rfl rfl rfl (by decide) (by decide)))) rfl rfl (.inl rfl) (fun a4 _=>?_) ax
   refine dF 3 [2,3,4,6,7,29,30] rfl<|aC rfl (aG [_,_,_,_,_,_] fc aA rfl rfl rfl rfl rfl (by rfl) rfl (by rfl)) rfl rfl (.inl rfl) (fun _ _=>?_) ax
   refine dF 1 [2,3,4,6,7,8] rfl<|cd<|aY (q,a4) (trivial) ⟨rfl,rfl,rfl,rfl,rfl,rfl,trivial⟩ (fun _ h=>h.msub ms)
  refine aC rfl (aZ a6 rfl rfl) rfl rfl (.inr fun _=>ha) (fun q _=>?_) ax
  refine aC rfl (cI rfl rfl rfl Ep (fun w hw=>mE w)) rfl rfl (.inr fun _=>ha) (fun gq _=>?_) ax
  refine aC rfl (cI rfl rfl rfl ot (fun w hw=>lZ rfl f8 f9 _ _ a3 w (SF.at_ (SF.own rfl fc) hw) (dE hw fc fc fc fc rfl rfl rfl rfl (by decide) (by decide)))) rfl rfl (.inl rfl) (fun a4 _=>?_) ax
  refine dF 3 [2,3,4,6,7,29,30] rfl<|aC rfl (aG [_,_,_,_,_,_] fc aA rfl rfl rfl rfl rfl (by rfl) rfl (by rfl)) rfl rfl (.inl rfl) (fun _ _=>?_) ax
  refine dF 1 [2,3,4,6,7,8] rfl<|cd<|aY (q,a4) (trivial) ⟨rfl,rfl,rfl,rfl,rfl,rfl,trivial⟩ (fun _ h=>h.msub ms)
 rintro⟨gw,a4⟩ _
 try dsimp only
 refine sH (k:=1) (c:=a2.cf) (A:=a2.Af) (fr:=iT.frames) rfl fc fun X hsX hX=>?_
 refine sH (k:=1) (c:=a4.cf) (A:=a4.Af) (fr:=pI.frames) rfl fc fun Y hsY hY=>?_
 obtain⟨B1,d1,B2,d2,e1,hX1⟩:=hX.el 0 (by decide)
 obtain⟨B3,d3,B4,d4,e2,hY1⟩:=hY.el 0 (by decide)
 have hS:∀H H',cV H X H'→SF w.heap.size w H B2 1 d2 [(⟨false,3⟩:aM)]:=fun _ _ f=>(hX1 _ _ f).2
 refine ac<|bN (.still 0 (.still 1 (.still 2 (.still 3 (.still 4 (.still 5 (.still 6 (.still 7 (.still 8 (.still 9 (.still 10 (.still 11 (.still 12 (.still 13 (.still 14 (.still 16 (.pick 15 (.pick 17 (.still 18 (.still 19 (.still 20 (.still 21 (.still 22 (.still 23 (.still 24 (.still 25 (.still 26 (.still 27 (.still 28 (.still 29 (.still 30 (.still 31 (.still 32 (.still 33 (.still 34 (.still 35 (.still 36 (.still 37 (.still 38 (.still 39 (.still 40 (.still 41 (.still 42 (.still 43 (.still 44 (.still 45 (.still 46 (.still 47 (.still 48 (.still 49 (.still 50 (.still 51 (.still 52 (.still 53 (.still 54 (.still 55 (.still 56 (.still 57 (.still 58 (.still 59 (.still 60 (.still 61 (.still 62 (.still 63 (.still 64 (.still 65 (.still 66 (.still 67 .done)))))))))))))))))))))))))))))))))))))))))))))))))) .stop) .stop))))))))))))))))) [] rfl (by kernel_rfl) (by kernel_rfl) ?_
 refine aW ha 3 [3,4,6,7,8,33] rfl<|cG (t:=33) (v':= .bool true) rfl (rfl) ?_
 refine aW ha 4 [3,6,7,8,37] rfl<|cG (t:=37) (v':= .bool true) rfl (rfl) ?_
 refine aW ha 4 [3,7,8,41] rfl<|cG (t:=41) (v':= .bool true) rfl (rfl) ?_
 refine aW ha 4 [3,7,45] rfl<|cG (t:=45) (v':= .bool true) rfl (rfl) ?_
 refine an rfl (aL (vs:= [_,_,_,_,_,_]) fc aR aA rfl rfl (by rfl) rfl) rfl rfl ha ?_
 refine aC rfl (cI rfl rfl rfl kG (fun w hw=>fu w)) rfl rfl (.inr fun _=>ha) (fun gc _=>?_) ax
 refine aC rfl (br rfl rfl rfl rj (fun w hw=>uc rfl f5 _ _ a2 w (SF.at_ (SF.own rfl fc) hw) ⟨SF.at_ (SF.own rfl .a) (hX.back _ _ _ w fc fc hw),SF.at_ (SF.own rfl fc) hw,SF.at_ (SF.own rfl fc) hw,SF.at_ (SF.own rfl fc) hw,by decide,by decide⟩)) rfl rfl (.inr fun _=>ha) (fun _ _=>?_) ax
 refine aW ha 3 [3,7,51] rfl<|cG (t:=51) (v':= .bool true) rfl (rfl) ?_
 refine aW ha 1 [3,7,51,52] rfl<|an rfl (ai fc bL rfl rfl (by rfl)) rfl rfl ha ?_
 refine an rfl (aS aV rfl rfl) rfl rfl ha ?_
 refine aW ha 3 [3,7,57] rfl<|cG (t:=57) (v':= .bool true) rfl (rfl) ?_
 refine aW ha 1 [3,7,57,58] rfl<|an rfl (ai fc bL rfl rfl (by rfl)) rfl rfl ha ?_
 refine an rfl (aQ (k:=0) aV bn (SF.own (α:=aJ) hX.len fc) (by omega) rfl rfl rfl) rfl rfl ha ?_
 refine aW ha 1 [3,7,57,61] rfl<|an rfl (a9 (fun w hw=>(SF.hfr (SF.own (α:=aJ) hX.len fc) (k:=0) (by decide) e1) w hw 1 _ rfl) rfl rfl aq) rfl rfl ha ?_
 refine aW ha 3 [3,7,65] rfl<|cG (t:=65) (v':= .bool true) rfl (rfl) ?_
 refine aW ha 1 [3,7,65,66] rfl<|an rfl (ai fc bL rfl rfl (by rfl)) rfl rfl ha ?_
 refine an rfl (aQ (k:=0) aV bn (SF.own (α:=aJ) hX.len fc) (by omega) rfl rfl rfl) rfl rfl ha ?_
 refine aW ha 1 [3,7,65,69] rfl<|an rfl (a9 (fun w hw=>(SF.hfr (SF.own (α:=aJ) hX.len fc) (k:=0) (by decide) e1) w hw 3 _ rfl) rfl rfl a5) rfl rfl ha ?_
 refine an rfl (aS aw rfl rfl) rfl rfl ha ?_
 refine aW ha 3 [3,7,74] rfl<|cG (t:=74) (v':= .bool true) rfl (rfl) ?_
 refine aW ha 1 [7,74,75] rfl<|an rfl (ai fc bL rfl rfl (by rfl)) rfl rfl ha ?_
 refine an rfl (aQ (k:=0) aV bn (SF.own (α:=aJ) hX.len fc) (by omega) rfl rfl rfl) rfl rfl ha ?_
 refine aW ha 1 [7,74,78] rfl<|an rfl (a9 (fun w hw=>(SF.hfr (SF.own (α:=aJ) hX.len fc) (k:=0) (by decide) e1) w hw 3 _ rfl) rfl rfl a5) rfl rfl ha ?_
 refine an rfl (aQ (k:=0) aw aD (hS _ _ fc) (by omega) rfl rfl rfl) rfl rfl ha ?_
 refine aW ha 1 [7,74,81] rfl<|an rfl (a9 (fun w hw=>(SF.val (k:=0) (hS _ _ fc) (by decide) default) w hw 1 _ rfl) rfl rfl aq) rfl rfl ha ?_
 refine aW ha 3 [7,85] rfl<|cG (t:=85) (v':= .bool true) rfl (rfl) ?_
 refine aW ha 1 [7,85,86] rfl<|an rfl (ai fc aq rfl rfl (by rfl)) rfl rfl ha ?_
 refine aW ha 3 [7,90] rfl<|cG (t:=90) (v':= .bool true) rfl (rfl) ?_
 refine aW ha 1 [90,91] rfl<|an rfl (ai fc bL rfl rfl (by rfl)) rfl rfl ha ?_
 refine an rfl (aQ (k:=0) aV bn (SF.own (α:=aJ) hY.len fc) (by omega) rfl rfl rfl) rfl rfl ha ?_
 refine aW ha 1 [90,94] rfl<|an rfl (a9 (fun w hw=>(SF.hfr (SF.own (α:=aJ) hY.len fc) (k:=0) (by decide) e2) w hw 1 _ rfl) rfl rfl aq) rfl rfl ha ?_
 refine aW ha 3 [0] rfl<|cA<|av<|aB Tryz.results26 (ap rfl) ?_
 intro w hw
 exact⟨rfl,hw.below⟩
end
section
theorem wX (a b:Int) (w:World):(Instr.field 49 (.agg #[.int .i64 a,.int .i64 b]) 0).run Tryz.prog w= .ok (.int .i64 a) w:=by kernel_rfl
theorem rN {fs:List aE} {m:aO} {li:List aT} {x:aT} (e:m.frames=li++ [x]):bd m.frames li.length=x∧m.frames.length=li.length+1∧be fs m=bx (ar fs x.func.toNat).code x.pc.toNat:=by
 refine⟨by rw[e,iP],by rw[e];simp,?_⟩
 unfold be fh
 rw[e,rq]
set_option maxRecDepth 100000 in
theorem sa (Ap:Option Addr) (cp:Nat) (fs:List aE) (a:MA) (m:aO) (w:World) (hs:Sl w (.slice Ap fs.length cp) fs) (hm:d9 w.heap.size w a m) (hF:ew fs) (hR:dr fs m) (hne:m.frames≠[]) :
  Calls Tryz.prog 76 #[.agg #[.slice Ap fs.length cp],.agg #[.slice a.Af m.frames.length a.cf,.slice a.Ab m.blocks.length a.cb,.slice a.Ai m.inn.length a.ci,.slice a.Ao m.out.length a.co,.int .i64 m.status,.int .i64 m.trap]] w fun e w'=>e= .returned (.agg #[.int .i64 (be fs m).c,.int .i64 (be fs m).a])∧Below w.heap.size w w':=by
 have b1:=bV hm.f
 obtain⟨li,x,e⟩:∃li x,m.frames=li++ [x]:=by
  rcases List.eq_nil_or_concat m.frames with h1 | ⟨l,z,h1⟩
  ·exact absurd h1 hne
  exact⟨l,z,by rw[h1];simp⟩
 obtain⟨hx,hk,hop⟩:=rN (fs:=fs) e
 obtain⟨k,hkl⟩:∃k,li.length=k:=⟨_,rfl⟩
 rw[hkl] at hx hk
 obtain⟨hfn,hloc,t,he,hts⟩:=hR.top e
 obtain⟨hp0,hp1,_⟩:=(hF.e x.func.toNat (by omega)).at_ _ _ he
 obtain⟨A1,c1,A2,c2,h1,h2,hi,hc⟩:=hm.f.fr (k:=k) (by omega)
 rw[hx] at h1 h2 hi hc
 obtain⟨kf,hkf⟩:∃kf:Nat,x.func=kf:=⟨x.func.toNat,by omega⟩
 obtain⟨kp,hkp⟩:∃kp:Nat,x.pc=kp:=⟨x.pc.toNat,by omega⟩
 rw[hkf,Int.toNat_natCast] at hp1 hop
 rw[hkp,Int.toNat_natCast] at hop
 rw[hkp] at hp1
 have hkfl:kf<fs.length:=by omega
 have hkpl:kp<(ar fs kf).code.length:=by omega
 obtain⟨F1,d1,F2,d2,hfl,hfc,hfi,hfcell⟩:=hs.fn hkfl
 have bp:=bV hs
 have bc:=bV hfc
 rw[hop]
 refine enter Tryz.func76 rfl Tryz.ntmps76 rfl ?_
 refine ac<|aa<|ag (bH rfl rfl rfl) rfl rfl (fun g1 _=>?_)
 refine ag (bH rfl rfl rfl) rfl rfl (fun g2 _=>?_)
 refine ag (aZ cr rfl rfl) rfl rfl (fun g3 _=>?_)
 refine ae<|ac<|aa<|rn 1 [2,3,4,6] rfl<|af (ai fc bL rfl rfl (by rfl)) rfl rfl ?_
 refine rn 1 [2,4,7,8] rfl<|af (ai fc bL rfl rfl (by rfl)) rfl rfl ?_
 refine af (aS aV rfl rfl) rfl rfl<|af (bt rfl rfl rfl (by omega)) rfl rfl<|bG (t:=11) (v':= .int .i64 (k:Int)) rfl (congrArg (Value.int .i64) (by omega)) ?_
 refine af (aQ (k:=k) aV bn (.ro hm.f) (by omega) rfl rfl rfl) rfl rfl<|af (cu (hc _) rfl rfl gj bn) rfl rfl<|ag (aZ cK rfl rfl) rfl rfl (fun g4 _=>?_)
 refine ag (aG _ fc bn rfl rfl rfl rfl rfl (by rfl) rfl (by rfl)) rfl rfl (fun _ _=>?_)
 refine ae<|ac<|bN (.still 0 (.still 1 (.still 2 (.still 3 (.still 4 (.still 5 (.still 6 (.still 7 (.still 8 (.still 9 (.still 10 (.pick 11 .done .stop)))))))))))) [11] rfl (by kernel_rfl) (by kernel_rfl) ?_
 refine aW ha 1 [4,5,14] rfl<|an rfl (ai fc cF rfl rfl (by rfl)) rfl rfl ha ?_
 refine aW ha 1 [4,5,15,16] rfl<|an rfl (ai fc aq rfl rfl (by rfl)) rfl rfl ha ?_
 refine cG (t:=17) (v':= .int .i64 (kf:Int)) rfl (congrArg (Value.int .i64) hkf) ?_
 refine an rfl (aQ (k:=kf) bw bg (.ro hs) (by omega) rfl rfl rfl) rfl rfl ha ?_
 refine aW ha 1 [4,5,19] rfl<|an rfl (a9 (fun w hw=>hfcell _ w hw 3 _ rfl) rfl rfl dw) rfl rfl ha ?_
 refine aW ha 1 [4,20,21] rfl<|an rfl (ai fc aq rfl rfl (by rfl)) rfl rfl ha ?_
 refine cG (t:=22) (v':= .int .i64 (kp:Int)) rfl (congrArg (Value.int .i64) hkp) ?_
 refine an rfl (aQ (k:=kp) bu b8 (.ro hfc) (by omega) rfl rfl rfl) rfl rfl ha ?_
 refine an rfl (cu (cs:= [_,_]) (SF.op (.ro hfc) (by omega)) rfl rfl eS b8) rfl rfl ha ?_
 refine aC rfl (aG _ fc b8 rfl rfl rfl rfl rfl (by rfl) rfl (by rfl)) rfl rfl (.inl rfl) (fun _ _=>?_) ax
 refine cA<|av<|aB Tryz.results76 (du (cs:= [_,_]) fc eS b8 rfl) ?_
 intro w hw
 exact⟨rfl,hw.below⟩
end
section
theorem uV {l r:List Int} :dk (l++r)=true↔dk l=true∨dk r=true:=by
 unfold dk
 rw[List.any_append,Bool.or_eq_true]
theorem Cg {l:List Int} {k:Nat} (hk:k<l.length) (h:cH (l.getD k 0)=false):dk l=true:=List.any_eq_true.2 ⟨_,cL (d:=0) hk,by rw[h];rfl⟩
theorem Cf {l:List Int} (h:∀j,j<l.length→cH (l.getD j 0)=true):¬dk l=true:=fun hb=>by
 obtain⟨x,hx,h2⟩:=List.any_eq_true.1 hb
 obtain⟨j,hj,rfl⟩:=List.getElem_of_mem hx
 have:=h j hj
 rw[List.getD_eq_getElem?_getD,List.getElem?_eq_getElem hj] at this
 have this:cH l[j]=true:=this
 rw[this] at h2
 cases h2
set_option maxRecDepth 100000 in
set_option maxHeartbeats 8000000 in
theorem px (a:MA) (m:aO) (Ap:Option Addr) (cp:Nat) (fs:List aE) (w:World) (hs:Sl w (.slice Ap fs.length cp) fs) (hm:d9 w.heap.size w a m) (hF:ew fs) (hfit:iE m.frames) (E:Int) (hE:iY fs m=E) :
  Calls Tryz.prog 19 #[.agg #[.slice Ap fs.length cp],.agg #[.slice a.Af m.frames.length a.cf,.slice a.Ab m.blocks.length a.cb,.slice a.Ai m.inn.length a.ci,.slice a.Ao m.out.length a.co,.int .i64 m.status,.int .i64 m.trap]] w fun e w'=>e= .returned (.int .i64 E)∧Below w.heap.size w w':=by
 have bf:=bV hm.f
 have bp:=bV hs
 have bi:=bV hm.i
 have bo:=bV hm.o
 have hp1:=ix hF
 obtain⟨sb,hsb⟩:∃b,bE m.status 0 3=b:=⟨_,rfl⟩
 obtain⟨tb,htb⟩:∃b,bE m.trap (if m.status=3 then 1 else 0) (if m.status=3 then 5 else 0)=b:=⟨_,rfl⟩
 unfold iY at hE
 rw[hsb,htb] at hE
 refine enter Tryz.func19 rfl Tryz.ntmps19 rfl ?_
 refine ac<|aa<|ag (bH rfl rfl rfl) rfl rfl (fun g1 _=>?_)
 refine ag (bH rfl rfl rfl) rfl rfl (fun g2 _=>?_)
 refine rn 1 [2,3] rfl<|ae<|ac<|ac<|aa<|rn 1 [2,3,12] rfl<|af (ai fc aq rfl rfl (by rfl)) rfl rfl ?_
 refine ag (br rfl rfl rfl gC ((fun w hw=>fj ((fun w hw=>dY _ _ _ w) w hw)))) rfl rfl (fun _ _=>?_)
 refine rn 1 [2,3,15] rfl<|ae ?_
 rw[hsb]
 cases sb
 ·rw[if_pos rfl] at hE
  subst hE
  refine cJ (t:=15) (v':= .bool true) rfl (rfl) ?_
  refine bA rfl<|ac<|aa<|rn 1 [4] rfl<|ae<|av (aj ?_)
  refine aB et (ap rfl) ?_
  intro w hw
  exact⟨rfl,hw.below⟩
 rw[if_neg (by decide)] at hE
 refine cJ (t:=15) (v':= .bool false) rfl (rfl) ?_
 refine dd rfl<|az (au ?_)
 refine ac<|ac<|aa<|rn 1 [2,3,16] rfl<|af (ai fc aq rfl rfl (by rfl)) rfl rfl ?_
 refine rn 2 [2,3,19] rfl<|jg 15 rfl [(2,_),(3,_)] [(34,.bool (!tb))] ⟨rfl,rfl,trivial⟩ (fun K=>?_) ?_
 ·refine bK (t:=19) rfl (fun s3=>?_) (fun s3=>?_)
  ·have s3:=of_decide_eq_true s3
   rw[if_pos s3,if_pos s3] at htb
   refine rn 1 [2,3,19,20] rfl<|af (ai fc aq rfl rfl (by rfl)) rfl rfl ?_
   refine ag (br rfl rfl rfl gC ((fun w hw=>fj ((fun w hw=>dY _ _ _ w) w hw)))) rfl rfl (fun _ _=>?_)
   refine rn 3 [2,3,25] rfl ?_
   rw[htb]
   cases tb
   ·refine bG (t:=25) (v':= .bool true) rfl (rfl) ?_
    refine rn 9 [2,3,34] rfl<|bG (t:=34) (v':= .bool (!false)) rfl (rfl) ?_
    exact eK K ⟨rfl,rfl,rfl,trivial⟩
   refine bG (t:=25) (v':= .bool false) rfl (rfl) ?_
   refine rn 1 [2,3,25,26] rfl<|af (ai fc aq rfl rfl (by rfl)) rfl rfl ?_
   refine rn 2 [2,3,25,29] rfl<|bG (t:=29) (v':= .bool false) rfl (congrArg Value.bool (by rw[s3];rfl)) ?_
   refine rn 5 [2,3,34] rfl<|bG (t:=34) (v':= .bool (!true)) rfl (rfl) ?_
   exact eK K ⟨rfl,rfl,rfl,trivial⟩
  have s3:=of_decide_eq_false s3
  rw[if_neg s3,if_neg s3] at htb
  refine rn 7 [2,3,25,26] rfl<|af (ai fc aq rfl rfl (by rfl)) rfl rfl ?_
  refine rn 2 [2,3,25,29] rfl<|bG (t:=29) (v':= .bool true) rfl (congrArg Value.bool (by simp[s3])) ?_
  refine rn 1 [2,3,25,29,30] rfl<|af (ai fc aq rfl rfl (by rfl)) rfl rfl ?_
  refine rn 3 [2,3,34] rfl<|bG (t:=34) (v':= .bool (!tb)) rfl (congrArg Value.bool (by rw[←htb];unfold bE;by_cases h0:m.trap=0;rw[h0];rfl;rw[Bool.eq_iff_iff];simp[h0];omega)) ?_
  exact eK K ⟨rfl,rfl,rfl,trivial⟩
 refine ae ?_
 cases tb
 ·rw[if_pos rfl] at hE
  subst hE
  refine cJ (t:=34) (v':= .bool true) rfl (rfl) ?_
  refine bA rfl<|ac<|aa<|rn 1 [4] rfl<|ae<|av (aj ?_)
  refine aB et (ap rfl) ?_
  intro w hw
  exact⟨rfl,hw.below⟩
 rw[if_neg (by decide)] at hE
 refine cJ (t:=34) (v':= .bool false) rfl (rfl) ?_
 refine dd rfl<|az (au ?_)
 refine ac<|aa<|rn 1 [2,3,35] rfl<|af (ai fc ed rfl rfl (by rfl)) rfl rfl ?_
 refine ag (br rfl rfl rfl Tryz.call69 ((fun w hw=>fj ((fun w hw=>oY _ m.blocks w (hw.ro hm.b)) w hw)))) rfl rfl (fun _ _=>?_)
 refine rn 1 [2,3,5] rfl<|ae<|ac<|ac<|aa<|rn 2 [2,3,5,39] rfl<|ae<|bZ rfl (fun hb=>?_) (fun hb=>?_)
 ·have hb:¬cC m.blocks=0:=hb
  rw[if_pos hb] at hE
  refine ac<|aa<|rn 2 [4] rfl<|ae<|av (aj ?_)
  refine aB et (ap rfl) ?_
  intro w hw
  exact⟨by rw[←hE],hw.below⟩
 have hb:cC m.blocks=0:=hb
 rw[if_neg (fun h=>h hb)] at hE
 refine az (au ?_)
 refine ac<|ac<|aa<|rn 1 [2,3,41] rfl<|af (ai fc a7 rfl rfl (by rfl)) rfl rfl ?_
 refine af (aS ah rfl rfl) rfl rfl<|rn 2 [2,3,45] rfl<|jg 5 rfl [(2,_),(3,_)] [(50,.bool (decide (10<m.inn.length∨10<m.out.length)))] ⟨rfl,rfl,trivial⟩ (fun K=>?_) ?_
 ·refine bK (t:=45) rfl (fun u1=>?_) (fun u1=>?_)
  ·have u1:=of_decide_eq_true u1
   refine rn 5 [2,3,50] rfl<|bG (t:=50) (v':= .bool (decide (10<m.inn.length∨10<m.out.length))) rfl (congrArg Value.bool (decide_eq_true (.inl (by omega))).symm) ?_
   exact eK K ⟨rfl,rfl,rfl,trivial⟩
  have u1:=of_decide_eq_false u1
  refine rn 1 [2,3,45,46] rfl<|af (ai fc a7 rfl rfl (by rfl)) rfl rfl ?_
  refine af (aS ah rfl rfl) rfl rfl<|rn 2 [2,3,50] rfl<|bG (t:=50) (v':= .bool (decide (10<m.inn.length∨10<m.out.length))) rfl (congrArg Value.bool (decide_eq_decide.2 (by omega))) ?_
  exact eK K ⟨rfl,rfl,rfl,trivial⟩
 refine ae<|ay rfl (fun h10=>?_) (fun h10=>?_)
 ·rw[if_pos h10] at hE
  subst hE
  refine ac<|aa<|rn 1 [4] rfl<|ae<|av (aj ?_)
  refine aB et (ap rfl) ?_
  intro w hw
  exact⟨rfl,hw.below⟩
 have h10:¬(10<m.inn.length∨10<m.out.length):=h10
 rw[if_neg h10] at hE
 have hal:(m.inn++m.out).length=m.inn.length+m.out.length:=List.length_append
 refine az (au ?_)
 refine dS (fun _:Option Addr×Nat=>True) (fun g=> [(2,.pointer (some ⟨g1,0,none⟩)),(3,.pointer (some ⟨g2,0,none⟩)),(6,.slice g.1 (m.inn++m.out).length g.2)]) (fun g=> [ak (.slice g.1 (m.inn++m.out).length g.2) (m.inn++m.out),am g2 [.slice a.Af m.frames.length a.cf,.slice a.Ab m.blocks.length a.cb,.slice a.Ai m.inn.length a.ci,.slice a.Ao m.out.length a.co,.int .i64 m.status,.int .i64 m.trap] 29,am g1 [.slice Ap fs.length cp] 24]) ?_ ?_
 ·refine bN (.still 1 (.still 2 (.still 4 (.still 5 (.pick 0 (.pick 3 (.pick 6 (.calm 7 .done) .stop) .stop) .stop))))) [6,7] rfl (by kernel_rfl) (by kernel_rfl) ?_
  refine aW ha 1 [2,3,52] rfl<|an rfl (ai fc a7 rfl rfl (by rfl)) rfl rfl ha ?_
  refine aW ha 1 [2,3,53,55] rfl<|an rfl (ai fc a7 rfl rfl (by rfl)) rfl rfl ha ?_
  refine aC rfl ((bh (cs:= []) ah aH a8 rfl rfl rfl rfl rfl).mem (H'':=fun g=>ak (.slice (some ⟨g,0,none⟩) 0 0) ([]:List Int)::_) fun g w h=>cc (α:=Int) (m:=0) [] rfl (by simp) rfl (by decide) h) rfl rfl (.inr fun _=>ha) (fun ge _=>?_) ax
  refine aC rfl (di (α:=Int) (bytes:=8) (xs:= []) (ys:=m.inn) (List.nil_append m.inn).symm ah (bO cX) rfl fc (.ro hm.i) (by simp only[List.length_nil];omega) (by simp only[List.length_nil];omega) rfl rfl rfl) rfl rfl (.inr fun _=>ha) (fun⟨A5,c5⟩ _=>?_) ax
  try dsimp only
  refine aC rfl (di (α:=Int) (bytes:=8) (xs:=m.inn) (ys:=m.out) rfl ah (bO cX) rfl fc (.ro hm.o) (by omega) (by omega) rfl rfl rfl) rfl rfl (.inl rfl) (fun⟨A6,c6⟩ _=>?_) ax
  try dsimp only
  refine dF 1 [2,3,6] rfl<|cd<|aY (A6,c6) (trivial) ⟨rfl,rfl,rfl,trivial⟩ (fun _ h=>h.msub ms)
 rintro⟨A6,c6⟩ _
 try dsimp only
 refine ac<|ac<|aa<|rn 1 [2,3,6,7] rfl<|ae<|aP (cn (fun k:Nat=>k≤(m.inn++m.out).length∧∀j,j<k→cH ((m.inn++m.out).getD j 0)=true) (fun k=>(m.inn++m.out).length - k) (fun k=> [(2,.pointer (some ⟨g1,0,none⟩)),(3,.pointer (some ⟨g2,0,none⟩)),(6,.slice A6 (m.inn++m.out).length c6),(7,.int .i64 (k:Int))]) (fun _=> [ak (.slice A6 (m.inn++m.out).length c6) (m.inn++m.out),am g2 [.slice a.Af m.frames.length a.cf,.slice a.Ab m.blocks.length a.cb,.slice a.Ai m.inn.length a.ci,.slice a.Ao m.out.length a.co,.int .i64 m.status,.int .i64 m.trap] 29,am g1 [.slice Ap fs.length cp] 24]) 0 (⟨Nat.zero_le _,fun _ h=>absurd h (Nat.not_lt_zero _)⟩) ⟨rfl,rfl,rfl,rfl,trivial⟩ me ?_)
 rintro k hk'
 obtain⟨hk,hno⟩:k≤(m.inn++m.out).length∧∀j,j<k→cH ((m.inn++m.out).getD j 0)=true:=hk'
 refine ac<|ac<|aa<|rn 2 [2,3,6,7,58,59] rfl<|af (aS ah rfl rfl) rfl rfl<|rn 1 [2,3,6,7,61] rfl<|ae<|ay rfl (fun hlt=>?_) (fun hlt=>?_)
 ·have hkl:k<(m.inn++m.out).length:=by omega
  refine az (au ?_)
  refine ac<|aP<|ac<|aa<|rn 2 [2,3,6,7,64,65] rfl<|af (aQ (k:=k) ah aH (SF.own rfl fc) (by omega) rfl rfl rfl) rfl rfl ?_
  refine af (a9 (SF.int (SF.own rfl fc) (by omega)) rfl rfl aq) rfl rfl ?_
  refine ag (br rfl rfl rfl Tryz.call44 ((fun w hw=>fj ((fun w hw=>jC _ w) w hw)))) rfl rfl (fun _ _=>?_)
  refine rn 1 [2,3,6,7,69] rfl<|ae<|cB rfl (fun hb2=>?_) (fun hb2=>?_)
  ·have hb2:cH ((m.inn++m.out).getD k 0)=false:=by simpa using hb2
   rw[if_pos (uV.1 (Cg hkl hb2))] at hE
   subst hE
   refine ac<|aa<|rn 1 [4] rfl<|ae<|av (aF (aj (aj (aF (aj ?_)))))
   refine aB et (ap rfl) ?_
   intro w hw
   exact⟨rfl,hw.below⟩
  have hb2:cH ((m.inn++m.out).getD k 0)=true:=by simpa using hb2
  refine az (aI (au ?_))
  refine aa<|rn 1 [2,3,6,62] rfl<|af (bR rfl rfl rfl (by omega)) rfl rfl<|rn 1 [2,3,6,7] rfl<|bD (k+1) (⟨by show k+1≤_;omega,fun j hj=>(Nat.lt_or_ge j k).elim (hno j) (fun h=>by obtain rfl:j=k:=(by omega);exact hb2)⟩) (by show _ - _<_ - _;omega) ⟨rfl,rfl,rfl,rfl,trivial⟩ me
 obtain rfl:k=(m.inn++m.out).length:=by omega
 rw[if_neg (fun h=>Cf hno (uV.2 h))] at hE
 obtain⟨FE,hFE⟩:∃e,iO fs m=e:=⟨_,rfl⟩
 rw[hFE] at hE
 unfold iO at hFE
 have hbadE:FE≠0→E=FE:=fun h=>by rw[if_pos h] at hE;exact hE.symm
 refine bY (aU (aU (cz (au ?_))))
 refine ac<|aa<|rn 1 [2,3,70] rfl<|af (ai fc bL rfl rfl (by rfl)) rfl rfl ?_
 refine af (aS aV rfl rfl) rfl rfl<|rn 1 [2,3,8] rfl<|ae<|ac<|ac<|aa<|rn 2 [2,3,8,74] rfl<|ae<|ay rfl (fun h6=>?_) (fun h6=>?_)
 ·rw[if_pos (by omega)] at hFE
  subst hFE
  refine ac<|aa<|rn 1 [4] rfl<|ae<|av (aj ?_)
  refine aB et (ap rfl) ?_
  intro w hw
  exact⟨by rw[hbadE (by decide)],hw.below⟩
 have h6:¬6<m.frames.length:=by omega
 rw[if_neg h6] at hFE
 refine az (au ?_)
 refine ac<|ac<|aa<|rn 3 [2,3,8,77] rfl<|jg 4 rfl [(2,_),(3,_),(8,_)] [(81,.bool (decide (m.frames.length=0∧m.status≠2)))] ⟨rfl,rfl,rfl,trivial⟩ (fun K=>?_) ?_
 ·refine bK (t:=77) rfl (fun v1=>?_) (fun v1=>?_)
  ·have v1:=of_decide_eq_true v1
   refine rn 1 [2,3,8,77,78] rfl<|af (ai fc aq rfl rfl (by rfl)) rfl rfl ?_
   refine rn 2 [2,3,8,81] rfl<|bG (t:=81) (v':= .bool (decide (m.frames.length=0∧m.status≠2))) rfl (congrArg Value.bool (by rw[←decide_not];exact decide_eq_decide.2 ⟨fun h=>⟨by omega,h⟩,fun h=>h.2⟩)) ?_
   exact eK K ⟨rfl,rfl,rfl,rfl,trivial⟩
  have v1:=of_decide_eq_false v1
  refine rn 4 [2,3,8,81] rfl<|bG (t:=81) (v':= .bool (decide (m.frames.length=0∧m.status≠2))) rfl (congrArg Value.bool (decide_eq_false (by omega)).symm) ?_
  exact eK K ⟨rfl,rfl,rfl,rfl,trivial⟩
 refine ae<|ay rfl (fun v2=>?_) (fun v2=>?_)
 ·rw[if_pos v2] at hFE
  subst hFE
  refine ac<|aa<|rn 1 [4] rfl<|ae<|av (aj ?_)
  refine aB et (ap rfl) ?_
  intro w hw
  exact⟨by rw[hbadE (by decide)],hw.below⟩
 rw[if_neg v2] at hFE
 refine az (au ?_)
 refine ac<|ac<|aa<|rn 3 [2,3,8,84] rfl<|jg 4 rfl [(2,_),(3,_),(8,_)] [(88,.bool (decide (0<m.frames.length∧m.status=2)))] ⟨rfl,rfl,rfl,trivial⟩ (fun K=>?_) ?_
 ·refine bK (t:=84) rfl (fun v3=>?_) (fun v3=>?_)
  ·have v3:=of_decide_eq_true v3
   refine rn 1 [2,3,8,84,85] rfl<|af (ai fc aq rfl rfl (by rfl)) rfl rfl ?_
   refine rn 2 [2,3,8,88] rfl<|bG (t:=88) (v':= .bool (decide (0<m.frames.length∧m.status=2))) rfl (congrArg Value.bool (decide_eq_decide.2 (by omega))) ?_
   exact eK K ⟨rfl,rfl,rfl,rfl,trivial⟩
  have v3:=of_decide_eq_false v3
  refine rn 4 [2,3,8,88] rfl<|bG (t:=88) (v':= .bool (decide (0<m.frames.length∧m.status=2))) rfl (congrArg Value.bool (decide_eq_false (by omega)).symm) ?_
  exact eK K ⟨rfl,rfl,rfl,rfl,trivial⟩
 refine ae<|ay rfl (fun v4=>?_) (fun v4=>?_)
 ·rw[if_pos v4] at hFE
  subst hFE
  refine ac<|aa<|rn 1 [4] rfl<|ae<|av (aj ?_)
  refine aB et (ap rfl) ?_
  intro w hw
  exact⟨by rw[hbadE (by decide)],hw.below⟩
 rw[if_neg v4] at hFE
 refine az (au ?_)
 refine ac<|ac<|aa<|rn 1 [2,3,8,9] rfl<|ae<|aP (cn (fun k:Nat=>k≤m.frames.length∧∀j,j<k→bE (bd m.frames j).func 0 ((fs.length:Int) - 1)=true) (fun k=>m.frames.length - k) (fun k=> [(2,.pointer (some ⟨g1,0,none⟩)),(3,.pointer (some ⟨g2,0,none⟩)),(8,.int .i64 (m.frames.length:Int)),(9,.int .i64 (k:Int))]) (fun _=> [am g2 [.slice a.Af m.frames.length a.cf,.slice a.Ab m.blocks.length a.cb,.slice a.Ai m.inn.length a.ci,.slice a.Ao m.out.length a.co,.int .i64 m.status,.int .i64 m.trap] 29,am g1 [.slice Ap fs.length cp] 24]) 0 (⟨Nat.zero_le _,fun _ h=>absurd h (Nat.not_lt_zero _)⟩) ⟨rfl,rfl,rfl,rfl,trivial⟩ me ?_)
 rintro k hk'
 obtain⟨hk,hno2⟩:k≤m.frames.length∧∀j,j<k→bE (bd m.frames j).func 0 ((fs.length:Int) - 1)=true:=hk'
 refine ac<|ac<|aa<|rn 3 [2,3,8,9,91] rfl<|ae<|ay rfl (fun hlt=>?_) (fun hlt=>?_)
 ·have hkl:k<m.frames.length:=by omega
  obtain⟨A1,c1,A2,c2,hl,hst,hI,hcell⟩:=hm.f.fr hkl
  refine az (au ?_)
  refine ac<|aP<|ac<|bN (.still 0 (.still 1 (.still 2 (.still 3 (.still 4 (.still 5 (.still 6 (.still 7 (.still 8 (.still 9 (.pick 10 (.still 11 .done) .stop))))))))))) [] rfl (by kernel_rfl) (by kernel_rfl) ?_
  refine aW ha 1 [2,3,8,9,94] rfl<|an rfl (ai fc bL rfl rfl (by rfl)) rfl rfl ha ?_
  refine aW ha 1 [2,3,8,9,95,96] rfl<|an rfl (aQ (k:=k) aV bn (.ro hm.f) (by omega) rfl rfl rfl) rfl rfl ha ?_
  refine aW ha 1 [2,3,8,9,98] rfl<|an rfl (a9 (fun w hw=>hcell _ w hw 0 _ rfl) rfl rfl aq) rfl rfl ha ?_
  refine aW ha 1 [2,3,8,9,99,100] rfl<|an rfl (ai fc cF rfl rfl (by rfl)) rfl rfl ha ?_
  refine an rfl (aS bw rfl rfl) rfl rfl ha ?_
  refine an rfl (bt rfl rfl rfl (by omega)) rfl rfl ha ?_
  refine aC rfl (br rfl rfl rfl gC ((fun w hw=>fj ((fun w hw=>dY _ _ _ w) w hw)))) rfl rfl (.inr fun _=>ha) (fun _ _=>?_) ax
  refine aW ha 1 [2,3,8,9,105] rfl<|cA<|cB rfl (fun hb2=>?_) (fun hb2=>?_)
  ·have hb2:bE (bd m.frames k).func 0 ((fs.length:Int) - 1)=false:=by simpa using hb2
   rw[if_pos (xn hkl hb2)] at hFE
   subst hFE
   refine ac<|aa<|rn 1 [4] rfl<|ae<|av (aF (aj (aj (aF (aj ?_)))))
   refine aB et (ap rfl) ?_
   intro w hw
   exact⟨by rw[hbadE (by decide)],hw.below⟩
  have hb2:bE (bd m.frames k).func 0 ((fs.length:Int) - 1)=true:=by simpa using hb2
  refine az (aI (au ?_))
  refine aa<|rn 1 [2,3,8,92] rfl<|af (bR rfl rfl rfl (by omega)) rfl rfl<|rn 1 [2,3,8,9] rfl<|bD (k+1) (⟨by show k+1≤_;omega,fun j hj=>(Nat.lt_or_ge j k).elim (hno2 j) (fun h=>by obtain rfl:j=k:=(by omega);exact hb2)⟩) (by show _ - _<_ - _;omega) ⟨rfl,rfl,rfl,rfl,trivial⟩ me
 obtain rfl:k=m.frames.length:=by omega
 obtain⟨hany,hfn⟩:=uI hno2
 rw[if_neg hany] at hFE
 refine bY (aU (aU (cz (au ?_))))
 refine ac<|ac<|aa<|rn 3 [2,3,8,108] rfl<|jg 7 rfl [(2,_),(3,_),(8,_)] [(115,.bool (decide (0<m.frames.length∧(bd m.frames 0).func≠0)))] ⟨rfl,rfl,rfl,trivial⟩ (fun K=>?_) ?_
 ·refine bK (t:=108) rfl (fun w1=>?_) (fun w1=>?_)
  ·have w1:=of_decide_eq_true w1
   obtain⟨A1,c1,A2,c2,hl,hst,hI,hcell⟩:=hm.f.fr (k:=0) (by omega)
   refine rn 1 [2,3,8,108,109] rfl<|af (ai fc bL rfl rfl (by rfl)) rfl rfl ?_
   refine af (aQ (k:=0) aV bn (.ro hm.f) (by omega) rfl rfl rfl) rfl rfl<|rn 1 [2,3,8,108,112] rfl<|af (a9 (fun w hw=>hcell _ w hw 0 _ rfl) rfl rfl aq) rfl rfl ?_
   refine rn 2 [2,3,8,115] rfl<|bG (t:=115) (v':= .bool (decide (0<m.frames.length∧(bd m.frames 0).func≠0))) rfl (congrArg Value.bool (by rw[←decide_not];exact decide_eq_decide.2 ⟨fun h=>⟨by omega,h⟩,fun h=>h.2⟩)) ?_
   exact eK K ⟨rfl,rfl,rfl,rfl,trivial⟩
  have w1:=of_decide_eq_false w1
  refine rn 7 [2,3,8,115] rfl<|bG (t:=115) (v':= .bool (decide (0<m.frames.length∧(bd m.frames 0).func≠0))) rfl (congrArg Value.bool (decide_eq_false (fun h=>by omega)).symm) ?_
  exact eK K ⟨rfl,rfl,rfl,rfl,trivial⟩
 refine ae<|ay rfl (fun w2=>?_) (fun w2=>?_)
 ·rw[if_pos w2] at hFE
  subst hFE
  refine ac<|aa<|rn 1 [4] rfl<|ae<|av (aj ?_)
  refine aB et (ap rfl) ?_
  intro w hw
  exact⟨by rw[hbadE (by decide)],hw.below⟩
 rw[if_neg w2] at hFE
 refine az (au ?_)
 refine ac<|ac<|aa<|rn 1 [2,3,8,10] rfl<|ae<|aP (cn (fun k:Nat=>k≤m.frames.length∧dO (en fs m.blocks.length m.frames) ((List.range m.frames.length).take k)=0) (fun k=>m.frames.length - k) (fun k=> [(2,.pointer (some ⟨g1,0,none⟩)),(3,.pointer (some ⟨g2,0,none⟩)),(8,.int .i64 (m.frames.length:Int)),(10,.int .i64 (k:Int))]) (fun _=> [am g2 [.slice a.Af m.frames.length a.cf,.slice a.Ab m.blocks.length a.cb,.slice a.Ai m.inn.length a.ci,.slice a.Ao m.out.length a.co,.int .i64 m.status,.int .i64 m.trap] 29,am g1 [.slice Ap fs.length cp] 24]) 0 (⟨Nat.zero_le _,rfl⟩) ⟨rfl,rfl,rfl,rfl,trivial⟩ me ?_)
 rintro k hk'
 obtain⟨hk,hno3⟩:k≤m.frames.length∧dO (en fs m.blocks.length m.frames) ((List.range m.frames.length).take k)=0:=hk'
 refine ac<|ac<|aa<|rn 3 [2,3,8,10,118] rfl<|ae<|ay rfl (fun hlt=>?_) (fun hlt=>?_)
 ·have hkl:k<m.frames.length:=by omega
  have hsn:=gJ (g:=en fs m.blocks.length m.frames) (l:=List.range m.frames.length) 0 (by rw[List.length_range];exact hkl) hno3
  rw[jE hkl] at hsn
  refine az (au ?_)
  refine ac<|aP<|ac<|aa<|af (aL (vs:= [_]) fc bU bI rfl rfl (by rfl) rfl) rfl rfl ?_
  refine af (aL (vs:= [_,_,_,_,_,_]) fc aR aA rfl rfl (by rfl) rfl) rfl rfl ?_
  refine rn 1 [2,3,8,10,121,122,123] rfl<|ag (br rfl rfl rfl Tryz.call70 (fun w hw=>vf a m Ap cp fs k w (hw.ro hs) (d9.ro hw hm) hF hfit hkl hfn _ rfl)) rfl rfl (fun _ _=>?_)
  refine rn 1 [2,3,8,10,11] rfl<|ae<|ac<|aa<|rn 2 [2,3,8,10,11,126] rfl<|ae<|bZ rfl (fun he=>?_) (fun he=>?_)
  ·have he:en fs m.blocks.length m.frames k≠0:=he
   rw[ku (k:=k+1) (by rw[hsn];exact he),hsn] at hFE
   rw[hFE] at he
   refine ac<|aa<|rn 2 [4] rfl<|ae<|av (aF (aj (aj (aF (aj ?_)))))
   refine aB et (ap rfl) ?_
   intro w hw
   exact⟨by rw[hbadE he,←hFE],hw.below⟩
  have he:en fs m.blocks.length m.frames k=0:=he
  rw[he] at hsn
  refine az (aI (au ?_))
  refine aa<|rn 1 [2,3,8,119] rfl<|af (bR rfl rfl rfl (by omega)) rfl rfl<|rn 1 [2,3,8,10] rfl<|bD (k+1) (⟨by show k+1≤_;omega,hsn⟩) (by show _ - _<_ - _;omega) ⟨rfl,rfl,rfl,rfl,trivial⟩ me
 obtain rfl:k=m.frames.length:=by omega
 rw[List.take_of_length_le (by rw[List.length_range];exact Nat.le_refl _)] at hno3
 rw[hno3] at hFE
 subst hFE
 rw[if_neg (fun h=>h rfl)] at hE
 refine bY (aU (aU (cz (au ?_))))
 refine ac<|ac<|bN (.still 0 (.still 1 (.still 2 (.still 3 (.still 4 (.still 5 (.still 6 (.still 7 (.still 8 (.still 9 (.still 10 (.still 11 (.still 12 (.still 13 (.still 14 (.still 15 (.still 16 (.still 17 (.still 18 (.still 19 (.still 20 (.still 21 (.still 22 (.still 23 (.still 24 (.still 25 (.still 26 (.still 27 (.still 28 (.still 29 (.still 30 (.still 31 (.still 32 (.still 33 .done)))))))))))))))))))))))))))))))))) [] rfl (by kernel_rfl) (by kernel_rfl) ?_
 refine aW ha 1 [2,3,8,128] rfl<|an rfl (ai fc aq rfl rfl (by rfl)) rfl rfl ha ?_
 refine aW ha 2 [2,3,8,131] rfl ?_
 by_cases s1:m.status=1
 ·rw[if_neg (fun h=>h s1)] at hE
  refine cG (t:=131) (v':= .bool true) rfl (congrArg Value.bool (by rw[s1];rfl)) ?_
  refine aW ha 1 [2,3,8,131,132] rfl<|an rfl (ai fc a7 rfl rfl (by rfl)) rfl rfl ha ?_
  refine an rfl (aS ah rfl rfl) rfl rfl ha ?_
  refine aW ha 2 [2,3,8,131,136] rfl ?_
  by_cases i0:0<m.inn.length
  ·rw[if_pos (.inl i0)] at hE
   subst hE
   refine cG (t:=136) (v':= .bool true) rfl (congrArg Value.bool (decide_eq_true (by omega))) ?_
   refine aW ha 25 [161] rfl<|cA<|bA rfl<|ac<|aa<|rn 1 [4] rfl<|ae<|av (aj ?_)
   refine aB et (ap rfl) ?_
   intro w hw
   exact⟨rfl,hw.below⟩
  have hne:m.frames≠[]:=fun e=>v2 ⟨by rw[e];rfl,by omega⟩
  obtain⟨li,x,e⟩:∃li x,m.frames=li++ [x]:=by
   rcases List.eq_nil_or_concat m.frames with h1 | ⟨l,z,h1⟩
   ·exact absurd h1 hne
   exact⟨l,z,by rw[h1];simp⟩
  obtain⟨hx,hkk,hop⟩:=rN (fs:=fs) e
  obtain⟨k,hkl⟩:∃k,li.length=k:=⟨_,rfl⟩
  rw[hkl] at hx hkk
  have hfr:=mU.1 (kP hno3 k (List.mem_range.2 (by omega)))
  have hfx:=hfn x (by rw[e];simp)
  rw[e,←hkl] at hfr
  obtain⟨_,hloc,t,he,hts⟩:=(l6 hfx).1 hfr
  obtain⟨hp0,hp1',_⟩:=(hF.e x.func.toNat (by omega)).at_ _ _ he
  obtain⟨A1,c1,A2,c2,h1,h2,hi,hc⟩:=hm.f.fr (k:=k) (by omega)
  rw[hx] at h1 h2 hi hc
  obtain⟨kf,hkf⟩:∃kf:Nat,x.func=kf:=⟨x.func.toNat,by omega⟩
  obtain⟨kp,hkp⟩:∃kp:Nat,x.pc=kp:=⟨x.pc.toNat,by omega⟩
  rw[hkf,Int.toNat_natCast] at hp1' hop
  rw[hkp,Int.toNat_natCast] at hop
  rw[hkp] at hp1'
  have hkfl:kf<fs.length:=by omega
  have hkpl:kp<(ar fs kf).code.length:=by omega
  obtain⟨F1,d1,F2,d2,hfl,hfc,hfi,hfcell⟩:=hs.fn hkfl
  have bc:=bV hfc
  rw[hop] at hE
  refine cG (t:=136) (v':= .bool false) rfl (congrArg Value.bool (decide_eq_false (by omega))) ?_
  refine aW ha 1 [3,8,131,136,137] rfl<|an rfl (ai fc cF rfl rfl (by rfl)) rfl rfl ha ?_
  refine aW ha 1 [3,8,131,136,138,139] rfl<|an rfl (ai fc bL rfl rfl (by rfl)) rfl rfl ha ?_
  refine aW ha 1 [3,8,131,136,138,140,141] rfl<|an rfl (bt rfl rfl rfl (by omega)) rfl rfl ha ?_
  refine cG (t:=142) (v':= .int .i64 (k:Int)) rfl (congrArg (Value.int .i64) (by omega)) ?_
  refine an rfl (aQ (k:=k) aV bn (.ro hm.f) (by omega) rfl rfl rfl) rfl rfl ha ?_
  refine aW ha 1 [3,8,131,136,138,144] rfl<|an rfl (a9 (fun w hw=>hc _ w hw 0 _ rfl) rfl rfl aq) rfl rfl ha ?_
  refine cG (t:=145) (v':= .int .i64 (kf:Int)) rfl (congrArg (Value.int .i64) hkf) ?_
  refine an rfl (aQ (k:=kf) bw bg (.ro hs) (by omega) rfl rfl rfl) rfl rfl ha ?_
  refine aW ha 1 [3,8,131,136,147] rfl<|an rfl (a9 (fun w hw=>hfcell _ w hw 3 _ rfl) rfl rfl dw) rfl rfl ha ?_
  refine aW ha 1 [8,131,136,148,149] rfl<|an rfl (ai fc bL rfl rfl (by rfl)) rfl rfl ha ?_
  refine aW ha 1 [131,136,148,150,151] rfl<|an rfl (bt rfl rfl rfl (by omega)) rfl rfl ha ?_
  refine cG (t:=152) (v':= .int .i64 (k:Int)) rfl (congrArg (Value.int .i64) (by omega)) ?_
  refine an rfl (aQ (k:=k) aV bn (.ro hm.f) (by omega) rfl rfl rfl) rfl rfl ha ?_
  refine aW ha 1 [131,136,148,154] rfl<|an rfl (a9 (fun w hw=>hc _ w hw 1 _ rfl) rfl rfl aq) rfl rfl ha ?_
  refine cG (t:=155) (v':= .int .i64 (kp:Int)) rfl (congrArg (Value.int .i64) hkp) ?_
  refine an rfl (aQ (k:=kp) bu b8 (.ro hfc) (by omega) rfl rfl rfl) rfl rfl ha ?_
  refine aW ha 1 [131,136,157] rfl<|an rfl (a9 (SF.opc (.ro hfc) hkpl) rfl rfl aq) rfl rfl ha ?_
  refine aW ha 3 [161] rfl<|cA<|bZ rfl (fun c21=>?_) (fun c21=>?_)
  ·rw[if_pos (.inr c21)] at hE
   subst hE
   refine ac<|aa<|rn 1 [4] rfl<|ae<|av (aj ?_)
   refine aB et (ap rfl) ?_
   intro w hw
   exact⟨rfl,hw.below⟩
  have c21:(bx (ar fs kf).code kp).c=21:=c21
  rw[if_neg (fun h=>h.elim i0 (fun h=>h c21))] at hE
  subst hE
  refine az (au ?_)
  refine ac<|aa<|rn 1 [4] rfl<|ae<|av<|aB et (ap rfl) ?_
  intro w hw
  exact⟨rfl,hw.below⟩
 rw[if_pos s1] at hE
 subst hE
 refine cG (t:=131) (v':= .bool false) rfl (congrArg Value.bool (decide_eq_false s1)) ?_
 refine aW ha 30 [161] rfl<|cA<|dd rfl<|az (au ?_)
 refine ac<|aa<|rn 1 [4] rfl<|ae<|av<|aB et (ap rfl) ?_
 intro w hw
 exact⟨rfl,hw.below⟩
set_option maxRecDepth 100000 in
theorem wE (Ap:Option Addr) (cp:Nat) (fs:List aE) (a:MA) (m:aO) (w:World) (hs:Sl w (.slice Ap fs.length cp) fs) (hm:d9 w.heap.size w a m) (hfit:iE m.frames) :
  Calls Tryz.prog 15 #[.agg #[.slice Ap fs.length cp],.agg #[.slice a.Af m.frames.length a.cf,.slice a.Ab m.blocks.length a.cb,.slice a.Ai m.inn.length a.ci,.slice a.Ao m.out.length a.co,.int .i64 m.status,.int .i64 m.trap]] w fun e w'=>e= .returned (.int .i64 (dm fs m))∧Below w.heap.size w w':=by
 refine enter Tryz.func15 rfl Tryz.ntmps15 rfl ?_
 refine ac<|aa<|ag (bH rfl rfl rfl) rfl rfl (fun g1 _=>?_)
 refine ag (bH rfl rfl rfl) rfl rfl (fun g2 _=>?_)
 refine rn 1 [2,3] rfl<|ae<|ac<|aa<|af (aL (vs:= [_]) fc bU bI rfl rfl (by rfl) rfl) rfl rfl ?_
 refine ag (br rfl rfl rfl Tryz.call16 (fun w hw=>mb Ap cp fs w (hw.ro hs))) rfl rfl (fun _ _=>?_)
 refine rn 1 [2,3,5] rfl<|ae<|ac<|ac<|aa<|rn 2 [2,3,5,9] rfl<|ae<|ay rfl (fun h=>?_) (fun h=>?_)
 ·have h:dT fs=0:=h
  refine aa<|af (aL (vs:= [_]) fc bU bI rfl rfl (by rfl) rfl) rfl rfl ?_
  refine af (aL (vs:= [_,_,_,_,_,_]) fc aR aA rfl rfl (by rfl) rfl) rfl rfl ?_
  refine ag (br rfl rfl rfl Tryz.call19 (fun w hw=>px a m Ap cp fs w (hw.ro hs) (d9.ro hw hm) (mV h) hfit _ rfl)) rfl rfl (fun _ _=>?_)
  refine rn 1 [5] rfl<|ae<|ac<|aa<|rn 2 [4] rfl<|ae<|av<|aB Tryz.results15 (ap rfl) ?_
  intro w hw
  exact⟨by unfold dm;rw[if_neg (fun h'=>h' h)],hw.below⟩
 have h:¬dT fs=0:=h
 refine az (au ?_)
 refine ac<|aa<|rn 2 [4] rfl<|ae<|av<|aB Tryz.results15 (ap rfl) ?_
 intro w hw
 exact⟨by unfold dm;rw[if_pos h],hw.below⟩
end
section
set_option maxRecDepth 100000 in
set_option maxHeartbeats 1000000 in
theorem va (Ap:Option Addr) (cp:Nat) (fs:List aE) (w:World) (hs:Sl w (.slice Ap fs.length cp) fs) (h0:0<fs.length) (hl6:(ar fs 0).locals.length≤1000) :
  Calls Tryz.prog 24 #[.agg #[.slice Ap fs.length cp]] w fun e w'=> ∃g:MA,True∧
   e= .returned (.agg #[.slice g.Af (ek fs).frames.length g.cf,.slice g.Ab (ek fs).blocks.length g.cb,.slice g.Ai (ek fs).inn.length g.ci,.slice g.Ao (ek fs).out.length g.co,.int .i64 (ek fs).status,.int .i64 (ek fs).trap])∧
   Cw w.heap.size w [ak (.slice g.Af (ek fs).frames.length g.cf) (ek fs).frames,ak (.slice g.Ab (ek fs).blocks.length g.cb) (ek fs).blocks,ak (.slice g.Ai (ek fs).inn.length g.ci) (ek fs).inn,ak (.slice g.Ao (ek fs).out.length g.co) (ek fs).out] w':=by
 obtain⟨A1,c1,A2,c2,hl,hc,hi,hcell⟩:=hs.fn h0
 have hF:(cE (ar fs 0).locals).length=(ar fs 0).locals.length:=gF _
 refine enter Tryz.func24 rfl Tryz.ntmps24 rfl ?_
 refine ac<|aa<|ag (bH rfl rfl rfl) rfl rfl (fun g1 _=>?_)
 refine ag (aZ a6 rfl rfl) rfl rfl (fun g2 _=>?_)
 refine ae<|ac<|aa<|rn 1 [2,3] rfl<|af (ai fc cF rfl rfl (by rfl)) rfl rfl ?_
 refine af (aQ (k:=0) bw bg (.ro hs) (by omega) rfl rfl rfl) rfl rfl<|af (cu (hcell _) rfl rfl dJ bg) rfl rfl<|ag (ej rfl rfl rfl Tryz.call74 (fun w hw=>pA (ar fs 0).params (ar fs 0).result A1 A2 c1 c2 _ (ar fs 0).locals w (hw.ro hl) (by omega))) rfl rfl (fun⟨A3,c3⟩ _=>?_)
 try dsimp only
 refine af (cq (cs:= [_,_,_,_]) pE cK rfl rfl (by rfl)) rfl rfl ?_
 refine ag (bh (cs:= [_,_,_,_]) aV bn cK rfl rfl rfl rfl rfl) rfl rfl (fun g3 _=>?_)
 refine af (cq (cs:= [_,_,_,_,_,_]) jd a6 rfl rfl (by rfl)) rfl rfl ?_
 refine ag (aG _ fc aA rfl rfl rfl rfl rfl (by rfl) rfl (by rfl)) rfl rfl (fun _ _=>?_)
 refine ae<|av<|aB Tryz.results24 (du (cs:= [_,_,_,_,_,_]) fc aR aA rfl) ?_
 intro w hw
 refine⟨⟨some ⟨g3,0,none⟩,1,none,0,none,0,none,0⟩,trivial,rfl,?_⟩
 have h1:=nX (H:= []) (xs:=(ek fs).frames) (g:=g3) (lA.cons (Hel:= [ak (.slice A3 (cE (ar fs 0).locals).length c3) (cE (ar fs 0).locals),ak (.slice none 0 0) ([]:List aM)]) (cs:= [_,_,_,_]) (pT (x:=⟨0,0,cE (ar fs 0).locals,[]⟩) (by show aX 0∧aX 0;decide)) lA.nil_) rfl (by show 1≤_;decide) ((Cw.nilO aM hw).msub (T:= [am g3 _ _,ak (.slice A3 (cE (ar fs 0).locals).length c3) (cE (ar fs 0).locals),ak (.slice none 0 0) ([]:List aM)]) ms)
 exact(Cw.nilO (List Int) (Cw.nilO Int (Cw.nilO Int h1))).msub ms
end
section
set_option maxRecDepth 100000 in
set_option maxHeartbeats 8000000 in
theorem kJ (a:MA) (m:aO) (w:World) (hm:d9 w.heap.size w a m) (hfit:qG m) :
  Calls Tryz.prog 75 #[.agg #[.slice a.Af m.frames.length a.cf,.slice a.Ab m.blocks.length a.cb,.slice a.Ai m.inn.length a.ci,.slice a.Ao m.out.length a.co,.int .i64 m.status,.int .i64 m.trap]] w fun e w'=> ∃g:MA,True∧
   e= .returned (.agg #[.slice g.Af m.frames.length g.cf,.slice g.Ab m.blocks.length g.cb,.slice g.Ai m.inn.length g.ci,.slice g.Ao m.out.length g.co,.int .i64 m.status,.int .i64 m.trap])∧
   Cw w.heap.size w [ak (.slice g.Af m.frames.length g.cf) m.frames,ak (.slice g.Ab m.blocks.length g.cb) m.blocks,ak (.slice g.Ai m.inn.length g.ci) m.inn,ak (.slice g.Ao m.out.length g.co) m.out] w':=by
 have b1:=bV hm.f
 have hf64:=hfit.f.1
 have hfi:=hfit.i
 have hfo:=hfit.o
 refine enter Tryz.func75 rfl Tryz.ntmps75 rfl ?_
 refine ac<|aa<|ag (bH rfl rfl rfl) rfl rfl (fun g1 _=>?_)
 refine ag (aZ a6 rfl rfl) rfl rfl (fun g2 _=>?_)
 refine ae<|ac<|aa<|af (aL (vs:= [_,_,_,_,_,_]) fc aR aA rfl rfl (by rfl) rfl) rfl rfl ?_
 refine ag (aZ a6 rfl rfl) rfl rfl (fun g3 _=>?_)
 refine ag (aG _ fc aA rfl rfl rfl rfl rfl (by rfl) rfl (by rfl)) rfl rfl (fun _ _=>?_)
 refine ae<|dS (fun _:(Option Addr×Nat)×(Option Addr×Nat)×(Option Addr×Nat)=>True) (fun g=> [(1,.pointer (some ⟨g1,0,none⟩)),(2,.pointer (some ⟨g2,0,none⟩)),(3,.pointer (some ⟨g3,0,none⟩))]) (fun g=> [am g1 [.slice a.Af m.frames.length a.cf,.slice a.Ab m.blocks.length a.cb,.slice a.Ai m.inn.length a.ci,.slice a.Ao m.out.length a.co,.int .i64 m.status,.int .i64 m.trap] 29,am g2 [.slice none 0 0,.slice none 0 0,.slice none 0 0,.slice none 0 0,.int .i64 0,.int .i64 0] 29,am g3 [.slice none 0 0,.slice g.1.1 m.blocks.length g.1.2,.slice g.2.1.1 m.inn.length g.2.1.2,.slice g.2.2.1 m.out.length g.2.2.2,.int .i64 m.status,.int .i64 m.trap] 29,ak (.slice g.1.1 m.blocks.length g.1.2) m.blocks,ak (.slice g.2.1.1 m.inn.length g.2.1.2) m.inn,ak (.slice g.2.2.1 m.out.length g.2.2.2) m.out]) ?_ ?_
 ·refine bN (.still 0 (.still 1 (.still 4 (.still 5 (.still 8 (.still 9 (.pick 2 (.still 11 (.pick 3 (.pick 6 (.pick 7 (.pick 10 (.pick 12 (.calm 13 (.pick 14 (.calm 15 (.pick 16 (.calm 17 (.pick 18 .done .stop)) .stop)) .stop)) .stop) .stop) .stop) (.pick 7 (.pick 6 (.pick 10 (.pick 12 (.calm 13 (.pick 14 (.calm 15 (.pick 16 (.calm 17 (.pick 18 .done .stop)) .stop)) .stop)) .stop) .stop) .stop) .stop)) (.pick 7 (.pick 3 (.pick 6 (.pick 10 (.pick 12 (.calm 13 (.pick 14 (.calm 15 (.pick 16 (.calm 17 (.pick 18 .done .stop)) .stop)) .stop)) .stop) .stop) .stop) .stop) .stop))) (.pick 3 (.pick 2 (.still 11 (.pick 6 (.pick 7 (.pick 10 (.pick 12 (.calm 13 (.pick 14 (.calm 15 (.pick 16 (.calm 17 (.pick 18 .done .stop)) .stop)) .stop)) .stop) .stop) .stop) (.pick 7 (.pick 6 (.pick 10 (.pick 12 (.calm 13 (.pick 14 (.calm 15 (.pick 16 (.calm 17 (.pick 18 .done .stop)) .stop)) .stop)) .stop) .stop) .stop) .stop))) (.pick 7 (.pick 2 (.still 11 (.pick 6 (.pick 10 (.pick 12 (.calm 13 (.pick 14 (.calm 15 (.pick 16 (.calm 17 (.pick 18 .done .stop)) .stop)) .stop)) .stop) .stop) .stop)) .stop) .stop)) (.pick 7 (.pick 2 (.still 11 (.pick 3 (.pick 6 (.pick 10 (.pick 12 (.calm 13 (.pick 14 (.calm 15 (.pick 16 (.calm 17 (.pick 18 .done .stop)) .stop)) .stop)) .stop) .stop) .stop) .stop)) (.pick 3 (.pick 2 (.still 11 (.pick 6 (.pick 10 (.pick 12 (.calm 13 (.pick 14 (.calm 15 (.pick 16 (.calm 17 (.pick 18 .done .stop)) .stop)) .stop)) .stop) .stop) .stop)) .stop) .stop)) .stop))))))))) [12,13,14,15,16,17,18] rfl (by kernel_rfl) (by kernel_rfl) ?_
  refine aW ha 1 [1,2,3,7] rfl<|an rfl (ai fc ed rfl rfl (by rfl)) rfl rfl ha ?_
  refine aW ha 1 [1,2,3,8,11] rfl<|an rfl (ai fc a7 rfl rfl (by rfl)) rfl rfl ha ?_
  refine aW ha 1 [1,2,3,8,12,15] rfl<|an rfl (ai fc a7 rfl rfl (by rfl)) rfl rfl ha ?_
  refine aC rfl (ej rfl rfl rfl tD (fun w hw=>km _ m.blocks w (hw.ro hm.b) hfit.b)) rfl rfl (.inr fun _=>ha) (fun⟨A1,c1⟩ _=>?_) ?_
  ·try dsimp only
   refine aW ha 1 [1,2,3,9,12,16,18] rfl<|aC rfl ((bh (cs:= []) ah aH a8 rfl rfl rfl rfl rfl).mem (H'':=fun g=>ak (.slice (some ⟨g,0,none⟩) 0 0) ([]:List Int)::_) fun g w h=>cc (α:=Int) (m:=0) [] rfl (by simp) rfl (by decide) h) rfl rfl (.inr fun _=>ha) (fun ge _=>?_) ?_
   ·refine aC rfl (di (α:=Int) (bytes:=8) (xs:= []) (ys:=m.inn) (List.nil_append m.inn).symm ah (bO cX) rfl fc (.ro hm.i) (by simp only[List.length_nil];omega) (by simp only[List.length_nil];omega) rfl rfl rfl) rfl rfl (.inr fun _=>ha) (fun⟨A2,c2⟩ _=>?_) ?_
    ·try dsimp only
     refine aC rfl ((bh (cs:= []) ah aH a8 rfl rfl rfl rfl rfl).mem (H'':=fun g=>ak (.slice (some ⟨g,0,none⟩) 0 0) ([]:List Int)::_) fun g w h=>cc (α:=Int) (m:=0) [] rfl (by simp) rfl (by decide) h) rfl rfl (.inr fun _=>ha) (fun gf _=>?_) ax
     refine aC rfl (di (α:=Int) (bytes:=8) (xs:= []) (ys:=m.out) (List.nil_append m.out).symm ah (bO cX) rfl fc (.ro hm.o) (by simp only[List.length_nil];omega) (by simp only[List.length_nil];omega) rfl rfl rfl) rfl rfl (.inr fun _=>ha) (fun⟨A3,c3⟩ _=>?_) ax
     try dsimp only
     refine aC rfl (aG _ fc iq rfl rfl rfl rfl rfl (by rfl) rfl (by rfl)) rfl rfl (.inl rfl) (fun _ _=>?_) ax
     refine dF 1 [1,2,3,13,17,19] rfl<|aC rfl (aG _ fc bW rfl rfl rfl rfl rfl (by rfl) rfl (by rfl)) rfl rfl (.inl rfl) (fun _ _=>?_) ax
     refine dF 1 [1,2,3,17,20] rfl<|aC rfl (aG _ fc bW rfl rfl rfl rfl rfl (by rfl) rfl (by rfl)) rfl rfl (.inl rfl) (fun _ _=>?_) ax
     refine dF 1 [1,2,3,21] rfl<|aC rfl (aG _ fc fe rfl rfl rfl rfl rfl (by rfl) rfl (by rfl)) rfl rfl (.inl rfl) (fun _ _=>?_) ax
     refine cd<|aY ((A1,c1),(A2,c2),(A3,c3)) (trivial) ⟨rfl,rfl,rfl,trivial⟩ (fun _ h=>h.msub ms)
    refine aC rfl ((bh (cs:= []) ah aH a8 rfl rfl rfl rfl rfl).mem (H'':=fun g=>ak (.slice (some ⟨g,0,none⟩) 0 0) ([]:List Int)::_) fun g w h=>cc (α:=Int) (m:=0) [] rfl (by simp) rfl (by decide) h) rfl rfl (.inr fun _=>ha) (fun gf _=>?_) ax
    refine aC rfl (di (α:=Int) (bytes:=8) (xs:= []) (ys:=m.inn) (List.nil_append m.inn).symm ah (bO cX) rfl fc (.ro hm.i) (by simp only[List.length_nil];omega) (by simp only[List.length_nil];omega) rfl rfl rfl) rfl rfl (.inr fun _=>ha) (fun⟨A2,c2⟩ _=>?_) ax
    try dsimp only
    refine aC rfl (di (α:=Int) (bytes:=8) (xs:= []) (ys:=m.out) (List.nil_append m.out).symm ah (bO cX) rfl fc (.ro hm.o) (by simp only[List.length_nil];omega) (by simp only[List.length_nil];omega) rfl rfl rfl) rfl rfl (.inr fun _=>ha) (fun⟨A3,c3⟩ _=>?_) ax
    try dsimp only
    refine aC rfl (aG _ fc iq rfl rfl rfl rfl rfl (by rfl) rfl (by rfl)) rfl rfl (.inl rfl) (fun _ _=>?_) ax
    refine dF 1 [1,2,3,13,17,19] rfl<|aC rfl (aG _ fc bW rfl rfl rfl rfl rfl (by rfl) rfl (by rfl)) rfl rfl (.inl rfl) (fun _ _=>?_) ax
    refine dF 1 [1,2,3,17,20] rfl<|aC rfl (aG _ fc bW rfl rfl rfl rfl rfl (by rfl) rfl (by rfl)) rfl rfl (.inl rfl) (fun _ _=>?_) ax
    refine dF 1 [1,2,3,21] rfl<|aC rfl (aG _ fc fe rfl rfl rfl rfl rfl (by rfl) rfl (by rfl)) rfl rfl (.inl rfl) (fun _ _=>?_) ax
    refine cd<|aY ((A1,c1),(A2,c2),(A3,c3)) (trivial) ⟨rfl,rfl,rfl,trivial⟩ (fun _ h=>h.msub ms)
   refine aC rfl ((bh (cs:= []) ah aH a8 rfl rfl rfl rfl rfl).mem (H'':=fun g=>ak (.slice (some ⟨g,0,none⟩) 0 0) ([]:List Int)::_) fun g w h=>cc (α:=Int) (m:=0) [] rfl (by simp) rfl (by decide) h) rfl rfl (.inr fun _=>ha) (fun gf _=>?_) ax
   refine aC rfl ((bh (cs:= []) ah aH a8 rfl rfl rfl rfl rfl).mem (H'':=fun g=>ak (.slice (some ⟨g,0,none⟩) 0 0) ([]:List Int)::_) fun g w h=>cc (α:=Int) (m:=0) [] rfl (by simp) rfl (by decide) h) rfl rfl (.inr fun _=>ha) (fun ge _=>?_) ax
   refine aC rfl (di (α:=Int) (bytes:=8) (xs:= []) (ys:=m.inn) (List.nil_append m.inn).symm ah (bO cX) rfl fc (.ro hm.i) (by simp only[List.length_nil];omega) (by simp only[List.length_nil];omega) rfl rfl rfl) rfl rfl (.inr fun _=>ha) (fun⟨A2,c2⟩ _=>?_) ax
   try dsimp only
   refine aC rfl (di (α:=Int) (bytes:=8) (xs:= []) (ys:=m.out) (List.nil_append m.out).symm ah (bO cX) rfl fc (.ro hm.o) (by simp only[List.length_nil];omega) (by simp only[List.length_nil];omega) rfl rfl rfl) rfl rfl (.inr fun _=>ha) (fun⟨A3,c3⟩ _=>?_) ax
   try dsimp only
   refine aC rfl (aG _ fc iq rfl rfl rfl rfl rfl (by rfl) rfl (by rfl)) rfl rfl (.inl rfl) (fun _ _=>?_) ax
   refine dF 1 [1,2,3,13,17,19] rfl<|aC rfl (aG _ fc bW rfl rfl rfl rfl rfl (by rfl) rfl (by rfl)) rfl rfl (.inl rfl) (fun _ _=>?_) ax
   refine dF 1 [1,2,3,17,20] rfl<|aC rfl (aG _ fc bW rfl rfl rfl rfl rfl (by rfl) rfl (by rfl)) rfl rfl (.inl rfl) (fun _ _=>?_) ax
   refine dF 1 [1,2,3,21] rfl<|aC rfl (aG _ fc fe rfl rfl rfl rfl rfl (by rfl) rfl (by rfl)) rfl rfl (.inl rfl) (fun _ _=>?_) ax
   refine cd<|aY ((A1,c1),(A2,c2),(A3,c3)) (trivial) ⟨rfl,rfl,rfl,trivial⟩ (fun _ h=>h.msub ms)
  refine aC rfl ((bh (cs:= []) ah aH a8 rfl rfl rfl rfl rfl).mem (H'':=fun g=>ak (.slice (some ⟨g,0,none⟩) 0 0) ([]:List Int)::_) fun g w h=>cc (α:=Int) (m:=0) [] rfl (by simp) rfl (by decide) h) rfl rfl (.inr fun _=>ha) (fun ge _=>?_) ?_
  ·refine aC rfl (ej rfl rfl rfl tD (fun w hw=>km _ m.blocks w (hw.ro hm.b) hfit.b)) rfl rfl (.inr fun _=>ha) (fun⟨A1,c1⟩ _=>?_) ?_
   ·try dsimp only
    refine aW ha 1 [1,2,3,9,10,12,16,18] rfl<|aC rfl (di (α:=Int) (bytes:=8) (xs:= []) (ys:=m.inn) (List.nil_append m.inn).symm ah (bO cX) rfl fc (.ro hm.i) (by simp only[List.length_nil];omega) (by simp only[List.length_nil];omega) rfl rfl rfl) rfl rfl (.inr fun _=>ha) (fun⟨A2,c2⟩ _=>?_) ?_
    ·try dsimp only
     refine aC rfl ((bh (cs:= []) ah aH a8 rfl rfl rfl rfl rfl).mem (H'':=fun g=>ak (.slice (some ⟨g,0,none⟩) 0 0) ([]:List Int)::_) fun g w h=>cc (α:=Int) (m:=0) [] rfl (by simp) rfl (by decide) h) rfl rfl (.inr fun _=>ha) (fun gf _=>?_) ax
     refine aC rfl (di (α:=Int) (bytes:=8) (xs:= []) (ys:=m.out) (List.nil_append m.out).symm ah (bO cX) rfl fc (.ro hm.o) (by simp only[List.length_nil];omega) (by simp only[List.length_nil];omega) rfl rfl rfl) rfl rfl (.inr fun _=>ha) (fun⟨A3,c3⟩ _=>?_) ax
     try dsimp only
     refine aC rfl (aG _ fc iq rfl rfl rfl rfl rfl (by rfl) rfl (by rfl)) rfl rfl (.inl rfl) (fun _ _=>?_) ax
     refine dF 1 [1,2,3,13,17,19] rfl<|aC rfl (aG _ fc bW rfl rfl rfl rfl rfl (by rfl) rfl (by rfl)) rfl rfl (.inl rfl) (fun _ _=>?_) ax
     refine dF 1 [1,2,3,17,20] rfl<|aC rfl (aG _ fc bW rfl rfl rfl rfl rfl (by rfl) rfl (by rfl)) rfl rfl (.inl rfl) (fun _ _=>?_) ax
     refine dF 1 [1,2,3,21] rfl<|aC rfl (aG _ fc fe rfl rfl rfl rfl rfl (by rfl) rfl (by rfl)) rfl rfl (.inl rfl) (fun _ _=>?_) ax
     refine cd<|aY ((A1,c1),(A2,c2),(A3,c3)) (trivial) ⟨rfl,rfl,rfl,trivial⟩ (fun _ h=>h.msub ms)
    refine aC rfl ((bh (cs:= []) ah aH a8 rfl rfl rfl rfl rfl).mem (H'':=fun g=>ak (.slice (some ⟨g,0,none⟩) 0 0) ([]:List Int)::_) fun g w h=>cc (α:=Int) (m:=0) [] rfl (by simp) rfl (by decide) h) rfl rfl (.inr fun _=>ha) (fun gf _=>?_) ax
    refine aC rfl (di (α:=Int) (bytes:=8) (xs:= []) (ys:=m.inn) (List.nil_append m.inn).symm ah (bO cX) rfl fc (.ro hm.i) (by simp only[List.length_nil];omega) (by simp only[List.length_nil];omega) rfl rfl rfl) rfl rfl (.inr fun _=>ha) (fun⟨A2,c2⟩ _=>?_) ax
    try dsimp only
    refine aC rfl (di (α:=Int) (bytes:=8) (xs:= []) (ys:=m.out) (List.nil_append m.out).symm ah (bO cX) rfl fc (.ro hm.o) (by simp only[List.length_nil];omega) (by simp only[List.length_nil];omega) rfl rfl rfl) rfl rfl (.inr fun _=>ha) (fun⟨A3,c3⟩ _=>?_) ax
    try dsimp only
    refine aC rfl (aG _ fc iq rfl rfl rfl rfl rfl (by rfl) rfl (by rfl)) rfl rfl (.inl rfl) (fun _ _=>?_) ax
    refine dF 1 [1,2,3,13,17,19] rfl<|aC rfl (aG _ fc bW rfl rfl rfl rfl rfl (by rfl) rfl (by rfl)) rfl rfl (.inl rfl) (fun _ _=>?_) ax
    refine dF 1 [1,2,3,17,20] rfl<|aC rfl (aG _ fc bW rfl rfl rfl rfl rfl (by rfl) rfl (by rfl)) rfl rfl (.inl rfl) (fun _ _=>?_) ax
    refine dF 1 [1,2,3,21] rfl<|aC rfl (aG _ fc fe rfl rfl rfl rfl rfl (by rfl) rfl (by rfl)) rfl rfl (.inl rfl) (fun _ _=>?_) ax
    refine cd<|aY ((A1,c1),(A2,c2),(A3,c3)) (trivial) ⟨rfl,rfl,rfl,trivial⟩ (fun _ h=>h.msub ms)
   refine aC rfl ((bh (cs:= []) ah aH a8 rfl rfl rfl rfl rfl).mem (H'':=fun g=>ak (.slice (some ⟨g,0,none⟩) 0 0) ([]:List Int)::_) fun g w h=>cc (α:=Int) (m:=0) [] rfl (by simp) rfl (by decide) h) rfl rfl (.inr fun _=>ha) (fun gf _=>?_) ax
   refine aC rfl (ej rfl rfl rfl tD (fun w hw=>km _ m.blocks w (hw.ro hm.b) hfit.b)) rfl rfl (.inr fun _=>ha) (fun⟨A1,c1⟩ _=>?_) ax
   try dsimp only
   refine aW ha 1 [1,2,3,9,10,12,14,16,18] rfl<|aC rfl (di (α:=Int) (bytes:=8) (xs:= []) (ys:=m.inn) (List.nil_append m.inn).symm ah (bO cX) rfl fc (.ro hm.i) (by simp only[List.length_nil];omega) (by simp only[List.length_nil];omega) rfl rfl rfl) rfl rfl (.inr fun _=>ha) (fun⟨A2,c2⟩ _=>?_) ax
   try dsimp only
   refine aC rfl (di (α:=Int) (bytes:=8) (xs:= []) (ys:=m.out) (List.nil_append m.out).symm ah (bO cX) rfl fc (.ro hm.o) (by simp only[List.length_nil];omega) (by simp only[List.length_nil];omega) rfl rfl rfl) rfl rfl (.inr fun _=>ha) (fun⟨A3,c3⟩ _=>?_) ax
   try dsimp only
   refine aC rfl (aG _ fc iq rfl rfl rfl rfl rfl (by rfl) rfl (by rfl)) rfl rfl (.inl rfl) (fun _ _=>?_) ax
   refine dF 1 [1,2,3,13,17,19] rfl<|aC rfl (aG _ fc bW rfl rfl rfl rfl rfl (by rfl) rfl (by rfl)) rfl rfl (.inl rfl) (fun _ _=>?_) ax
   refine dF 1 [1,2,3,17,20] rfl<|aC rfl (aG _ fc bW rfl rfl rfl rfl rfl (by rfl) rfl (by rfl)) rfl rfl (.inl rfl) (fun _ _=>?_) ax
   refine dF 1 [1,2,3,21] rfl<|aC rfl (aG _ fc fe rfl rfl rfl rfl rfl (by rfl) rfl (by rfl)) rfl rfl (.inl rfl) (fun _ _=>?_) ax
   refine cd<|aY ((A1,c1),(A2,c2),(A3,c3)) (trivial) ⟨rfl,rfl,rfl,trivial⟩ (fun _ h=>h.msub ms)
  refine aC rfl ((bh (cs:= []) ah aH a8 rfl rfl rfl rfl rfl).mem (H'':=fun g=>ak (.slice (some ⟨g,0,none⟩) 0 0) ([]:List Int)::_) fun g w h=>cc (α:=Int) (m:=0) [] rfl (by simp) rfl (by decide) h) rfl rfl (.inr fun _=>ha) (fun gf _=>?_) ax
  refine aC rfl (ej rfl rfl rfl tD (fun w hw=>km _ m.blocks w (hw.ro hm.b) hfit.b)) rfl rfl (.inr fun _=>ha) (fun⟨A1,c1⟩ _=>?_) ?_
  ·try dsimp only
   refine aW ha 1 [1,2,3,9,12,14,16,18] rfl<|aC rfl ((bh (cs:= []) ah aH a8 rfl rfl rfl rfl rfl).mem (H'':=fun g=>ak (.slice (some ⟨g,0,none⟩) 0 0) ([]:List Int)::_) fun g w h=>cc (α:=Int) (m:=0) [] rfl (by simp) rfl (by decide) h) rfl rfl (.inr fun _=>ha) (fun ge _=>?_) ax
   refine aC rfl (di (α:=Int) (bytes:=8) (xs:= []) (ys:=m.inn) (List.nil_append m.inn).symm ah (bO cX) rfl fc (.ro hm.i) (by simp only[List.length_nil];omega) (by simp only[List.length_nil];omega) rfl rfl rfl) rfl rfl (.inr fun _=>ha) (fun⟨A2,c2⟩ _=>?_) ax
   try dsimp only
   refine aC rfl (di (α:=Int) (bytes:=8) (xs:= []) (ys:=m.out) (List.nil_append m.out).symm ah (bO cX) rfl fc (.ro hm.o) (by simp only[List.length_nil];omega) (by simp only[List.length_nil];omega) rfl rfl rfl) rfl rfl (.inr fun _=>ha) (fun⟨A3,c3⟩ _=>?_) ax
   try dsimp only
   refine aC rfl (aG _ fc iq rfl rfl rfl rfl rfl (by rfl) rfl (by rfl)) rfl rfl (.inl rfl) (fun _ _=>?_) ax
   refine dF 1 [1,2,3,13,17,19] rfl<|aC rfl (aG _ fc bW rfl rfl rfl rfl rfl (by rfl) rfl (by rfl)) rfl rfl (.inl rfl) (fun _ _=>?_) ax
   refine dF 1 [1,2,3,17,20] rfl<|aC rfl (aG _ fc bW rfl rfl rfl rfl rfl (by rfl) rfl (by rfl)) rfl rfl (.inl rfl) (fun _ _=>?_) ax
   refine dF 1 [1,2,3,21] rfl<|aC rfl (aG _ fc fe rfl rfl rfl rfl rfl (by rfl) rfl (by rfl)) rfl rfl (.inl rfl) (fun _ _=>?_) ax
   refine cd<|aY ((A1,c1),(A2,c2),(A3,c3)) (trivial) ⟨rfl,rfl,rfl,trivial⟩ (fun _ h=>h.msub ms)
  refine aC rfl ((bh (cs:= []) ah aH a8 rfl rfl rfl rfl rfl).mem (H'':=fun g=>ak (.slice (some ⟨g,0,none⟩) 0 0) ([]:List Int)::_) fun g w h=>cc (α:=Int) (m:=0) [] rfl (by simp) rfl (by decide) h) rfl rfl (.inr fun _=>ha) (fun ge _=>?_) ax
  refine aC rfl (ej rfl rfl rfl tD (fun w hw=>km _ m.blocks w (hw.ro hm.b) hfit.b)) rfl rfl (.inr fun _=>ha) (fun⟨A1,c1⟩ _=>?_) ax
  try dsimp only
  refine aW ha 1 [1,2,3,9,10,12,14,16,18] rfl<|aC rfl (di (α:=Int) (bytes:=8) (xs:= []) (ys:=m.inn) (List.nil_append m.inn).symm ah (bO cX) rfl fc (.ro hm.i) (by simp only[List.length_nil];omega) (by simp only[List.length_nil];omega) rfl rfl rfl) rfl rfl (.inr fun _=>ha) (fun⟨A2,c2⟩ _=>?_) ax
  try dsimp only
  refine aC rfl (di (α:=Int) (bytes:=8) (xs:= []) (ys:=m.out) (List.nil_append m.out).symm ah (bO cX) rfl fc (.ro hm.o) (by simp only[List.length_nil];omega) (by simp only[List.length_nil];omega) rfl rfl rfl) rfl rfl (.inr fun _=>ha) (fun⟨A3,c3⟩ _=>?_) ax
  try dsimp only
  refine aC rfl (aG _ fc iq rfl rfl rfl rfl rfl (by rfl) rfl (by rfl)) rfl rfl (.inl rfl) (fun _ _=>?_) ax
  refine dF 1 [1,2,3,13,17,19] rfl<|aC rfl (aG _ fc bW rfl rfl rfl rfl rfl (by rfl) rfl (by rfl)) rfl rfl (.inl rfl) (fun _ _=>?_) ax
  refine dF 1 [1,2,3,17,20] rfl<|aC rfl (aG _ fc bW rfl rfl rfl rfl rfl (by rfl) rfl (by rfl)) rfl rfl (.inl rfl) (fun _ _=>?_) ax
  refine dF 1 [1,2,3,21] rfl<|aC rfl (aG _ fc fe rfl rfl rfl rfl rfl (by rfl) rfl (by rfl)) rfl rfl (.inl rfl) (fun _ _=>?_) ax
  refine cd<|aY ((A1,c1),(A2,c2),(A3,c3)) (trivial) ⟨rfl,rfl,rfl,trivial⟩ (fun _ h=>h.msub ms)
 rintro⟨⟨Ab,cb⟩,⟨Ai,ci⟩,⟨Ao,co⟩⟩ _
 try dsimp only
 refine dP (fun w h=>Cw.nilO aT h) ?_
 refine ac<|ac<|aa<|rn 1 [1,2,3,4] rfl<|ae<|aP (cn (fun g:Nat×Option Addr×Nat=>g.1≤m.frames.length) (fun g=>m.frames.length - g.1) (fun g=> [(1,.pointer (some ⟨g1,0,none⟩)),(2,.pointer (some ⟨g2,0,none⟩)),(3,.pointer (some ⟨g3,0,none⟩)),(4,.int .i64 (g.1:Int))]) (fun g=> [ak (.slice g.2.1 (m.frames.take g.1).length g.2.2) (m.frames.take g.1),am g1 [.slice a.Af m.frames.length a.cf,.slice a.Ab m.blocks.length a.cb,.slice a.Ai m.inn.length a.ci,.slice a.Ao m.out.length a.co,.int .i64 m.status,.int .i64 m.trap] 29,am g2 [.slice none 0 0,.slice none 0 0,.slice none 0 0,.slice none 0 0,.int .i64 0,.int .i64 0] 29,ak (.slice Ab m.blocks.length cb) m.blocks,ak (.slice Ai m.inn.length ci) m.inn,ak (.slice Ao m.out.length co) m.out,am g3 [.slice g.2.1 (m.frames.take g.1).length g.2.2,.slice Ab m.blocks.length cb,.slice Ai m.inn.length ci,.slice Ao m.out.length co,.int .i64 m.status,.int .i64 m.trap] 29]) (0,none,0) (Nat.zero_le _) ⟨rfl,rfl,rfl,rfl,trivial⟩ me ?_)
 rintro⟨k,A',c'⟩ hk
 try dsimp only
 have hk:k≤m.frames.length:=hk
 have htl:(m.frames.take k).length=k:=by rw[List.length_take];omega
 refine ac<|ac<|aa<|rn 2 [1,2,3,4,22,23] rfl<|af (ai fc bL rfl rfl (by rfl)) rfl rfl ?_
 refine af (aS aV rfl rfl) rfl rfl<|rn 1 [1,2,3,4,26] rfl<|ae<|ay rfl (fun hlt=>?_) (fun hlt=>?_)
 ·have hkl:k<m.frames.length:=by omega
  obtain⟨A1,c1,A2,c2,hl,hst,hi,hcell⟩:=hm.f.fr hkl
  obtain⟨hb1,hb2⟩:=hfit.f.2 (bd m.frames k) (eZ hkl)
  have htk:=ui hkl
  refine az (au ?_)
  refine ac<|aP<|ac<|aa<|rn 1 [1,2,3,4,29] rfl<|af (ai fc bL rfl rfl (by rfl)) rfl rfl ?_
  refine rn 1 [1,2,3,4,30,31] rfl<|af (aQ (k:=k) aV bn (.ro hm.f) (by omega) rfl rfl rfl) rfl rfl<|af (cu (hcell _) rfl rfl gj bn) rfl rfl<|ag (aZ cK rfl rfl) rfl rfl (fun g4 _=>?_)
  refine ag (aG _ fc bn rfl rfl rfl rfl rfl (by rfl) rfl (by rfl)) rfl rfl (fun _ _=>?_)
  refine ae<|dS (fun _:(Option Addr×Nat)×(Option Addr×Nat)=>True) (fun g=> [(1,.pointer (some ⟨g1,0,none⟩)),(2,.pointer (some ⟨g2,0,none⟩)),(3,.pointer (some ⟨g3,0,none⟩)),(4,.int .i64 (k:Int)),(5,.pointer (some ⟨g4,0,none⟩))]) (fun g=> [am g4 [.int .i64 (bd m.frames k).func,.int .i64 (bd m.frames k).pc,.slice g.1.1 (bd m.frames k).locals.length g.1.2,.slice g.2.1 (bd m.frames k).stack.length g.2.2] 97,ak (.slice g.1.1 (bd m.frames k).locals.length g.1.2) (bd m.frames k).locals,ak (.slice g.2.1 (bd m.frames k).stack.length g.2.2) (bd m.frames k).stack,ak (.slice A' (m.frames.take k).length c') (m.frames.take k),am g1 [.slice a.Af m.frames.length a.cf,.slice a.Ab m.blocks.length a.cb,.slice a.Ai m.inn.length a.ci,.slice a.Ao m.out.length a.co,.int .i64 m.status,.int .i64 m.trap] 29,am g2 [.slice none 0 0,.slice none 0 0,.slice none 0 0,.slice none 0 0,.int .i64 0,.int .i64 0] 29,ak (.slice Ab m.blocks.length cb) m.blocks,ak (.slice Ai m.inn.length ci) m.inn,ak (.slice Ao m.out.length co) m.out,am g3 [.slice A' (m.frames.take k).length c',.slice Ab m.blocks.length cb,.slice Ai m.inn.length ci,.slice Ao m.out.length co,.int .i64 m.status,.int .i64 m.trap] 29]) ?_ ?_
  ·refine bN (.still 1 (.still 2 (.still 5 (.still 6 (.pick 0 (.pick 3 (.calm 8 (.pick 4 (.pick 7 (.pick 9 (.calm 10 (.pick 11 .done .stop)) .stop) .stop) .stop)) (.pick 4 (.pick 3 (.calm 8 (.pick 7 (.pick 9 (.calm 10 (.pick 11 .done .stop)) .stop) .stop)) .stop) .stop)) (.pick 4 (.pick 0 (.pick 3 (.calm 8 (.pick 7 (.pick 9 (.calm 10 (.pick 11 .done .stop)) .stop) .stop)) .stop) .stop) .stop)))))) [7,8,9,10,11] rfl (by kernel_rfl) (by kernel_rfl) ?_
   refine aW ha 1 [1,2,3,4,5,35] rfl<|an rfl (ai fc a5 rfl rfl (by rfl)) rfl rfl ha ?_
   refine aW ha 1 [1,2,3,4,5,36,39] rfl<|an rfl (ai fc a5 rfl rfl (by rfl)) rfl rfl ha ?_
   refine aC rfl ((bh (cs:= []) aw aD bq rfl rfl rfl rfl rfl).mem (H'':=fun g=>ak (.slice (some ⟨g,0,none⟩) 0 0) ([]:List aM)::_) fun g w h=>cc (α:=aM) (m:=0) [] rfl (by simp) rfl (by decide) h) rfl rfl (.inr fun _=>ha) (fun ge _=>?_) ?_
   ·refine aC rfl (di (α:=aM) (bytes:=16) (xs:= []) (ys:=(bd m.frames k).locals) (List.nil_append _).symm aw (bO cZ) rfl fc (.ro hl) (by simp only[List.length_nil];omega) (by simp only[List.length_nil];omega) rfl rfl rfl) rfl rfl (.inr fun _=>ha) (fun⟨A3,c3⟩ _=>?_) ?_
    ·try dsimp only
     refine dF 1 [1,2,3,4,5,37,40,42] rfl<|aC rfl ((bh (cs:= []) aw aD bq rfl rfl rfl rfl rfl).mem (H'':=fun g=>ak (.slice (some ⟨g,0,none⟩) 0 0) ([]:List aM)::_) fun g w h=>cc (α:=aM) (m:=0) [] rfl (by simp) rfl (by decide) h) rfl rfl (.inr fun _=>ha) (fun gf _=>?_) ax
     refine aC rfl (di (α:=aM) (bytes:=16) (xs:= []) (ys:=(bd m.frames k).stack) (List.nil_append _).symm aw (bO cZ) rfl fc (.ro hst) (by simp only[List.length_nil];omega) (by simp only[List.length_nil];omega) rfl rfl rfl) rfl rfl (.inl rfl) (fun⟨A4,c4⟩ _=>?_) ax
     try dsimp only
     refine aC rfl (aG _ fc cS rfl rfl rfl rfl rfl (by rfl) rfl (by rfl)) rfl rfl (.inl rfl) (fun _ _=>?_) ax
     refine dF 1 [1,2,3,4,5,41,43] rfl<|aC rfl (aG _ fc cS rfl rfl rfl rfl rfl (by rfl) rfl (by rfl)) rfl rfl (.inl rfl) (fun _ _=>?_) ax
     refine cd<|aY ((A3,c3),(A4,c4)) (trivial) ⟨rfl,rfl,rfl,rfl,rfl,trivial⟩ (fun _ h=>h.msub ms)
    refine aC rfl ((bh (cs:= []) aw aD bq rfl rfl rfl rfl rfl).mem (H'':=fun g=>ak (.slice (some ⟨g,0,none⟩) 0 0) ([]:List aM)::_) fun g w h=>cc (α:=aM) (m:=0) [] rfl (by simp) rfl (by decide) h) rfl rfl (.inr fun _=>ha) (fun gf _=>?_) ax
    refine aC rfl (di (α:=aM) (bytes:=16) (xs:= []) (ys:=(bd m.frames k).locals) (List.nil_append _).symm aw (bO cZ) rfl fc (.ro hl) (by simp only[List.length_nil];omega) (by simp only[List.length_nil];omega) rfl rfl rfl) rfl rfl (.inr fun _=>ha) (fun⟨A3,c3⟩ _=>?_) ax
    try dsimp only
    refine dF 1 [1,2,3,4,5,37,38,40,42] rfl<|aC rfl (di (α:=aM) (bytes:=16) (xs:= []) (ys:=(bd m.frames k).stack) (List.nil_append _).symm aw (bO cZ) rfl fc (.ro hst) (by simp only[List.length_nil];omega) (by simp only[List.length_nil];omega) rfl rfl rfl) rfl rfl (.inl rfl) (fun⟨A4,c4⟩ _=>?_) ax
    try dsimp only
    refine aC rfl (aG _ fc cS rfl rfl rfl rfl rfl (by rfl) rfl (by rfl)) rfl rfl (.inl rfl) (fun _ _=>?_) ax
    refine dF 1 [1,2,3,4,5,41,43] rfl<|aC rfl (aG _ fc cS rfl rfl rfl rfl rfl (by rfl) rfl (by rfl)) rfl rfl (.inl rfl) (fun _ _=>?_) ax
    refine cd<|aY ((A3,c3),(A4,c4)) (trivial) ⟨rfl,rfl,rfl,rfl,rfl,trivial⟩ (fun _ h=>h.msub ms)
   refine aC rfl ((bh (cs:= []) aw aD bq rfl rfl rfl rfl rfl).mem (H'':=fun g=>ak (.slice (some ⟨g,0,none⟩) 0 0) ([]:List aM)::_) fun g w h=>cc (α:=aM) (m:=0) [] rfl (by simp) rfl (by decide) h) rfl rfl (.inr fun _=>ha) (fun gf _=>?_) ax
   refine aC rfl ((bh (cs:= []) aw aD bq rfl rfl rfl rfl rfl).mem (H'':=fun g=>ak (.slice (some ⟨g,0,none⟩) 0 0) ([]:List aM)::_) fun g w h=>cc (α:=aM) (m:=0) [] rfl (by simp) rfl (by decide) h) rfl rfl (.inr fun _=>ha) (fun ge _=>?_) ax
   refine aC rfl (di (α:=aM) (bytes:=16) (xs:= []) (ys:=(bd m.frames k).locals) (List.nil_append _).symm aw (bO cZ) rfl fc (.ro hl) (by simp only[List.length_nil];omega) (by simp only[List.length_nil];omega) rfl rfl rfl) rfl rfl (.inr fun _=>ha) (fun⟨A3,c3⟩ _=>?_) ax
   try dsimp only
   refine dF 1 [1,2,3,4,5,37,38,40,42] rfl<|aC rfl (di (α:=aM) (bytes:=16) (xs:= []) (ys:=(bd m.frames k).stack) (List.nil_append _).symm aw (bO cZ) rfl fc (.ro hst) (by simp only[List.length_nil];omega) (by simp only[List.length_nil];omega) rfl rfl rfl) rfl rfl (.inl rfl) (fun⟨A4,c4⟩ _=>?_) ax
   try dsimp only
   refine aC rfl (aG _ fc cS rfl rfl rfl rfl rfl (by rfl) rfl (by rfl)) rfl rfl (.inl rfl) (fun _ _=>?_) ax
   refine dF 1 [1,2,3,4,5,41,43] rfl<|aC rfl (aG _ fc cS rfl rfl rfl rfl rfl (by rfl) rfl (by rfl)) rfl rfl (.inl rfl) (fun _ _=>?_) ax
   refine cd<|aY ((A3,c3),(A4,c4)) (trivial) ⟨rfl,rfl,rfl,rfl,rfl,trivial⟩ (fun _ h=>h.msub ms)
  rintro⟨⟨A3,c3⟩,⟨A4,c4⟩⟩ _
  try dsimp only
  refine aa<|rn 1 [1,2,3,4,5,44] rfl<|af (ai fc bL rfl rfl (by rfl)) rfl rfl ?_
  refine af (aL (vs:= [_,_,_,_]) fc gj bn rfl rfl (by rfl) rfl) rfl rfl ?_
  refine ag (bh (cs:= [_,_,_,_]) aV bn cK rfl rfl rfl rfl rfl) rfl rfl (fun g5 _=>?_)
  refine ag (dv (α:=aT) (bytes:=64) (bd m.frames k) [ak (.slice A3 (bd m.frames k).locals.length c3) (bd m.frames k).locals,ak (.slice A4 (bd m.frames k).stack.length c4) (bd m.frames k).stack] htk aV (bO jJ) rfl (zv fc fc fc fc) (pT hi) (by omega) (by omega) rfl rfl rfl) rfl rfl (fun⟨A5,c5⟩ _=>?_)
  try dsimp only
  refine rn 1 [1,2,3,4,48,49] rfl<|ag (aG _ fc fe rfl rfl rfl rfl rfl (by rfl) rfl (by rfl)) rfl rfl (fun _ _=>?_)
  refine bB (aI (au ?_))
  refine aa<|rn 1 [1,2,3,27] rfl<|af (bR rfl rfl rfl (by omega)) rfl rfl<|rn 1 [1,2,3,4] rfl<|bD (k+1,A5,c5) (by show k+1≤_;omega) (by show _ - _<_ - _;omega) ⟨rfl,rfl,rfl,rfl,trivial⟩ me
 obtain rfl:k=m.frames.length:=by omega
 rw[List.take_length]
 refine bY (aU (aU (cz (au ?_))))
 refine ac<|aa<|af (aL (vs:= [_,_,_,_,_,_]) fc aR aA rfl rfl (by rfl) rfl) rfl rfl ?_
 refine ag (aG _ fc aA rfl rfl rfl rfl rfl (by rfl) rfl (by rfl)) rfl rfl (fun _ _=>?_)
 refine ae<|av<|aB Tryz.results75 (du (cs:= [_,_,_,_,_,_]) fc aR aA rfl) ?_
 intro w hw
 exact⟨⟨A',c',Ab,cb,Ai,ci,Ao,co⟩,trivial,rfl,hw.msub ms⟩
end
end Go.Proofs.YtpacloheigifkaaGreat
