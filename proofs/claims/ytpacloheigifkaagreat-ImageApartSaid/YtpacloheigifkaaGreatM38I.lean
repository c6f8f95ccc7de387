/- Texts of one proof, one behind the other: lemmas alone. -/
import Derived.Test.YtpacloheigifkaaGreatM0I
import Derived.Deep.QuietTactic
import Derived.BigQuiet
import Derived.Test.YtpacloheigifkaaGreatM35I
import Derived.Test.YtpacloheigifkaaGreatM22I
import Derived.Test.YtpacloheigifkaaGreatM17I
import Derived.Test.YtpacloheigifkaaGreatM34I
import Derived.Test.YtpacloheigifkaaGreatM28I
import Derived.Test.YtpacloheigifkaaGreatM33I
import Derived.Test.YtpacloheigifkaaGreatM23I
import Derived.Test.YtpacloheigifkaaGreatM32I
import Derived.Test.YtpacloheigifkaaGreatM24I

namespace Go.Proofs.YtpacloheigifkaaGreat
open Go.RowKit
section
set_option maxRecDepth 100000 in
theorem jU (n a b:Int) (w:World):Calls Tryz.prog 139 #[.int .i64 n,.int .i64 a,.int .i64 b] w fun e w'=>e= .returned (.bool (bK n a b))∧Below w.heap.size w w':=by
 refine enter Tryz.func139 rfl Tryz.ntmps139 rfl ?_
 refine ac<|aa<|rn 1 [0,1,2] rfl<|ae<|ac<|aa<|rn 4 [0,2,10] rfl<|bM (t:=10) rfl (fun h1=>?_) (fun h1=>?_)
 ·refine rn 5 [6] rfl<|ae<|aq<|av Tryz.results139 (an rfl) ?_
  intro w hw
  exact⟨bE (by unfold bK;rw[h1];rfl),hw.below⟩
 refine rn 5 [6] rfl<|ae<|aq<|av Tryz.results139 (an rfl) ?_
 intro w hw
 exact⟨bE (by unfold bK;rw[h1];rfl),hw.below⟩
set_option maxRecDepth 100000 in
theorem Bq (n:Nat) (hn:n*16≤140737488355328) (w:World):Calls Tryz.prog 228 #[.slice none 0 0,.int .i64 (n:Int)] w fun e w'=> ∃g:Option Addr×Nat,True∧e= .returned (.slice g.1 0 g.2)∧Cw w.heap.size w [ap (α:=aX) (.slice g.1 0 g.2) []] w':=by
 refine enter Tryz.func228 rfl Tryz.ntmps228 rfl ?_
 refine ac<|aa<|rn 1 [0,1] rfl<|ae<|ac<|ac<|aa<|rn 2 [0,1,6] rfl<|ae<|aw rfl (fun h0=>?_) (fun h0=>?_)
 ·exact absurd h0 (by omega)
 refine ar (am ?_)
 refine ac<|ac<|aa<|rn 2 [0,8,9] rfl<|af (AJ aI rfl rfl) rfl rfl<|rn 1 [0,8,10,11] rfl<|af (aM aI rfl rfl) rfl rfl<|af (cH rfl rfl rfl (by omega)) rfl rfl<|af (cH rfl rfl rfl (by omega)) rfl rfl<|rn 1 [0,1] rfl<|ae<|ac<|aa<|rn 2 [0,1,16] rfl<|ae<|cN (t:=1) (v':= .int .i64 (n:Int)) rfl (by congr 1) ?_
 refine aw rfl (fun h1=>?_) (fun h1=>?_)
 ·refine aa<|rn 2 [0,1,17,18] rfl<|af (AJ aI rfl rfl) rfl rfl<|af (lz (k:=0) aI aV (Nat.le_refl _) rfl rfl rfl) rfl rfl<|rn 1 [0,20,21] rfl<|ag (Ex (α:=aX) (bytes:=16) aI o9 gg rfl (by decide) (by omega) (by omega) rfl rfl rfl) rfl rfl (fun⟨g,c⟩ _=>?_)
  try dsimp only
  refine rn 1 [22,23] rfl<|af (aM aI rfl rfl) rfl rfl<|af (lz (k:=0) aI aV (Nat.zero_le _) rfl rfl rfl) rfl rfl<|rn 1 [0] rfl<|ae<|ac<|aa<|rn 2 [4] rfl<|ae<|aq<|av Tryz.results228 (an rfl) ?_
  intro w hw
  exact⟨(some ⟨g,0,none⟩,c),trivial,rfl,hw⟩
 refine ar (am ?_)
 refine ac<|aa<|rn 2 [4] rfl<|ae<|aq<|av Tryz.results228 (an rfl) ?_
 intro w hw
 exact⟨(none,0),trivial,rfl,Cw.nilO aX hw⟩
theorem GF (v:aX) (t:Int):fa v t=((v.ref == !decide (t=1)) && ((!decide (t=3)) || decide (v.n=0))):=by
 unfold fa
 cases v.ref <;> by_cases h1:t=1 <;> simp[h1]
set_option maxRecDepth 100000 in
theorem x9 (v:aX) (t:Int) (w:World):Calls Tryz.prog 215 #[.agg #[.bool v.ref,.int .i64 v.n],.int .i64 t] w fun e w'=>e= .returned (.bool (fa v t))∧Below w.heap.size w w':=by
 have ha:=GF v t
 generalize hq:fa v t=q at ha
 refine enter Tryz.func215 rfl Tryz.ntmps215 rfl ?_
 refine ac<|aa<|ag (bH rfl rfl rfl) rfl rfl (fun g1 _=>?_)
 refine rn 1 [1,2] rfl<|ae<|ac<|aa<|rn 1 [1,2,5] rfl<|af (aj fc dx rfl rfl (by rfl)) rfl rfl ?_
 refine rn 2 [1,2,6,8] rfl<|af (AI Tryz.underlying4 rfl rfl rfl) rfl rfl<|rn 1 [1,2,10] rfl<|bM (t:=10) rfl (fun h1=>?_) (fun h1=>?_)
 ·rw[h1,Bool.true_and] at ha
  refine rn 3 [2,10,13] rfl<|bM (t:=13) rfl (fun h2=>?_) (fun h2=>?_)
  ·rw[h2,Bool.true_or] at ha
   refine rn 6 [4] rfl<|ae<|aq<|av GK (an rfl) ?_
   intro w hw
   exact⟨bE ha.symm,hw.below⟩
  rw[h2,Bool.false_or] at ha
  refine rn 1 [10,13,14] rfl<|af (aj fc au rfl rfl (by rfl)) rfl rfl ?_
  refine rn 4 [4] rfl<|ae<|aq<|av GK (an rfl) ?_
  intro w hw
  exact⟨bE ha.symm,hw.below⟩
 rw[h1,Bool.false_and] at ha
 refine rn 9 [4] rfl<|ae<|aq<|av GK (an rfl) ?_
 intro w hw
 exact⟨bE ha.symm,hw.below⟩
def IL (a:MA) (m:aG) (pv:Value):List Value:= [.slice a.Af m.frames.length a.cf,.slice a.Ab m.blocks.length a.cb,.slice a.Ai m.inn.length a.ci,.slice a.Ao m.out.length a.co,.int .i64 m.status,.int .i64 m.trap,pv]
section
variable {B:Nat} {w0:World} {H:List a7}
set_option maxRecDepth 100000 in
set_option maxHeartbeats 1000000 in
theorem zl (gc:Nat) (a:MA) (m:aG) (pv:Value) (v:aX) (w:World) (hw:Cw B w0 (ak gc [.slice a.Af m.frames.length a.cf,.slice a.Ab m.blocks.length a.cb,.slice a.Ai m.inn.length a.ci,.slice a.Ao m.out.length a.co,.int .i64 m.status,.int .i64 m.trap,pv] 147::H) w) :
  Calls Tryz.prog 214 #[.pointer (some ⟨gc,0,none⟩),.agg #[.bool v.ref,.int .i64 v.n]] w fun e w'=> ∃_:Unit,True∧e= .returned (.int .i64 (if ec m.blocks.length v=true then 0 else 3))∧Cw B w0 (ak gc [.slice a.Af m.frames.length a.cf,.slice a.Ab m.blocks.length a.cb,.slice a.Ai m.inn.length a.ci,.slice a.Ao m.out.length a.co,.int .i64 m.status,.int .i64 m.trap,pv] 147::H) w':=by
 obtain⟨q,hq⟩:∃q,ec m.blocks.length v=q:=⟨_,rfl⟩
 rw[hq]
 obtain⟨r,z⟩:=v
 refine bS Tryz.func214 rfl Tryz.ntmps214 rfl hw ?_
 refine ac<|aa<|ag (bH rfl rfl rfl) rfl rfl (fun g1 _=>?_)
 refine rn 1 [0,3] rfl<|ae<|ac<|ac<|cD (.still 0 (.still 1 (.still 2 (.still 3 (.still 4 (.still 5 (.still 6 (.still 7 (.still 8 (.still 9 (.still 10 (.pick 11 (.still 12 (.still 13 (.still 14 (.still 15 (.still 16 (.still 17 (.still 18 (.still 19 (.still 20 (.pick 21 (.still 22 (.still 23 (.still 24 .done))) .stop)))))))))) .stop)))))))))))) [] rfl (by kernel_rfl) (by kernel_rfl) ?_
 refine aU ha 1 [0,3,5] rfl<|ax rfl (aj fc dx rfl rfl (by rfl)) rfl rfl ha ?_
 refine aU ha 1 [0,3,7] rfl<|mA (t:=7) rfl (fun hr=>?_) (fun hr=>?_)
 ·have hq2:bK z 0 m.blocks.length=q:=by rw[←hq];unfold ec;rw[if_pos hr]
  refine aU ha 1 [0,3,7,8] rfl<|ax rfl (aj fc au rfl rfl (by rfl)) rfl rfl ha ?_
  refine aU ha 4 [3,7,9,13] rfl<|ax rfl (aj fc dS rfl rfl (by rfl)) rfl rfl ha ?_
  refine ax rfl (aM bF rfl rfl) rfl rfl ha ?_
  refine aK rfl (aY rfl rfl rfl wW (fun w hw=>jU z 0 m.blocks.length w)) rfl rfl (.inr fun _=>ha) (fun _ _=>?_) aE
  refine aU ha 3 [3,19] rfl ?_
  rw[hq2]
  refine mA (t:=19) rfl (fun hb=>?_) (fun hb=>?_)
  ·have hq3:q=false:=by simpa using hb
   subst hq3
   refine aU ha 6 [19,23,25] rfl<|la rfl rfl rfl (.inr ha) ?_ aE
   refine aU ha 3 [29] rfl<|cT<|bA rfl<|ac<|aa<|rn 1 [4] rfl<|ae<|aq (ai ?_)
   refine av wM (an rfl) ?_
   intro w hw
   exact⟨(),trivial,rfl,hw.msub ms⟩
  have hq3:q=true:=by simpa using hb
  subst hq3
  refine aU ha 1 [3,19,20] rfl<|ax rfl (aj fc dx rfl rfl (by rfl)) rfl rfl ha ?_
  refine aU ha 2 [3,19,23] rfl<|mA (t:=23) rfl (fun h3=>?_) (fun h3=>?_)
  ·rw[hr] at h3
   cases h3
  refine aU ha 2 [19,23,25] rfl<|la rfl rfl rfl (.inr ha) ?_ aE
  refine aU ha 3 [29] rfl<|cT<|bZ rfl<|ar (am ?_)
  refine ac<|aa<|rn 1 [4] rfl<|ae<|aq<|av wM (an rfl) ?_
  intro w hw
  exact⟨(),trivial,rfl,hw.msub ms⟩
 have hq2:cF z=q:=by rw[←hq];unfold ec;rw[if_neg (by rw[hr];decide)]
 refine aU ha 8 [3,7,9,15] rfl<|la rfl rfl rfl (.inr ha) ?_ aE
 refine aU ha 4 [3,19,20] rfl<|ax rfl (aj fc dx rfl rfl (by rfl)) rfl rfl ha ?_
 refine aU ha 2 [3,19,23] rfl<|mA (t:=23) rfl (fun h2=>?_) (fun h2=>?_)
 ·refine aU ha 1 [19,23,24] rfl<|ax rfl (aj fc au rfl rfl (by rfl)) rfl rfl ha ?_
  refine aK rfl (aY rfl rfl rfl Tryz.call93 ((fun w hw=>fm ((fun w hw=>qm z w) w hw)))) rfl rfl (.inr fun _=>ha) (fun _ _=>?_) aE
  refine aU ha 3 [29] rfl<|cT ?_
  rw[hq2]
  refine cg rfl (fun h4=>?_) (fun h4=>?_)
  ·have hq3:q=false:=by simpa using h4
   subst hq3
   refine ac<|aa<|rn 1 [4] rfl<|ae<|aq (ai ?_)
   refine av wM (an rfl) ?_
   intro w hw
   exact⟨(),trivial,rfl,hw.msub ms⟩
  have hq3:q=true:=by simpa using h4
  subst hq3
  refine ar (am ?_)
  refine ac<|aa<|rn 1 [4] rfl<|ae<|aq<|av wM (an rfl) ?_
  intro w hw
  exact⟨(),trivial,rfl,hw.msub ms⟩
 rw[hr] at h2
 cases h2
end
end
section
def Ip (pc:Int) (es:List gy):Option Nat:=es.findIdx? fun x=>decide (x.pc=pc)
def hent (l:List gy) (k:Nat):gy:=l.getD k ⟨0,.slice none 0 0⟩
theorem SF.hent {B:Nat} {w0:World} {H:List a7} {A:Option Addr} {xs:List gy} {m c k:Nat} (hs:SF B w0 H A m c xs) (hk:k<m):∀w,Cw B w0 H w→∀j v,([.int .i64 (hent xs k).pc,(hent xs k).v]:List Value)[j]? =some v→w.cell? ⟨ab A,ao A+k*2+j,none⟩=some v:=fun w hw _ _ hv=>SF.cell hs hk _ hv w hw
set_option maxRecDepth 100000 in
theorem Du (g:Nat) (pc q:Int) (v:Value) (w:World) (hlt:g<w.heap.size) (hc:w.cell? ⟨g,0,none⟩=some (.int .i64 pc)) :
  Calls Tryz.prog 232 #[.agg #[.int .i64 q,v],.pointer (some ⟨g,0,none⟩)] w fun e w'=>e= .returned (.bool (decide (q=pc)))∧Below w.heap.size w w':=by
 refine enter Tryz.func232 rfl Tryz.ntmps232 rfl ?_
 refine ac<|aa<|ag (bH rfl rfl rfl) rfl rfl (fun g1 _=>?_)
 refine rn 1 [1,2] rfl<|ae<|ac<|aa<|rn 1 [1,4] rfl<|af (aj fc au rfl rfl (by rfl)) rfl rfl ?_
 refine af (a8 (fun w' hw=>(hw.below.cell hlt).trans hc) rfl rfl au) rfl rfl ?_
 refine rn 2 [3] rfl<|ae<|aq<|av Tryz.results232 (an rfl) ?_
 intro w hw
 exact⟨rfl,hw.below⟩
set_option maxRecDepth 100000 in
theorem EO (A:Option Addr) (c:Nat) (es:List gy) (g:Nat) (pc:Int) (w:World) (hs:Sl w (.slice A es.length c) es) (hlt:g<w.heap.size) (hc:w.cell? ⟨g,0,none⟩=some (.int .i64 pc)) :
  Calls Tryz.prog 231 #[.slice A es.length c,.func (.func 232) #[] #[.pointer (some ⟨g,0,none⟩)]] w fun e w'=> ∃r:Int,((r= -1∧∀i,i<es.length→(hent es i).pc≠pc)∨∃i:Nat,r=i∧i<es.length∧(hent es i).pc=pc∧∀j,j<i→(hent es j).pc≠pc)∧e= .returned (.int .i64 r)∧Cw w.heap.size w [] w':=by
 have b1:=cn hs
 refine enter Tryz.func231 rfl Tryz.ntmps231 rfl ?_
 refine ac<|aa<|rn 1 [0,1] rfl<|ae<|ac<|ac<|aa<|rn 1 [0,1,6] rfl<|af (aM fS rfl rfl) rfl rfl<|rn 1 [0,1,7,8] rfl<|ae<|aB (bI (fun k:Nat=>k≤es.length∧∀j,j<k→(hent es j).pc≠pc) (fun k=>es.length - k) (fun k=> [(0,.slice A es.length c),(1,.func (.func 232) #[] #[.pointer (some ⟨g,0,none⟩)]),(7,.int .i64 (es.length:Int)),(8,.int .i64 (k:Int))]) (fun _=> []) 0 (⟨Nat.zero_le _,fun _ h=>absurd h (Nat.not_lt_zero _)⟩) ⟨rfl,rfl,rfl,rfl,trivial⟩ me ?_)
 rintro k hk'
 obtain⟨hk,hno⟩:k≤es.length∧∀j,j<k→(hent es j).pc≠pc:=hk'
 refine ac<|aa<|rn 1 [0,1,7,8,9] rfl<|ae<|ac<|aw rfl (fun hlt'=>?_) (fun hlt'=>?_)
 ·have hkl:k<es.length:=by omega
  refine ar (am ?_)
  refine ac<|aB<|ac<|aa<|rn 2 [0,1,5,7,8] rfl<|ae<|ac<|aa<|rn 3 [0,1,5,7,8,11,12,13] rfl<|af (aQ fS lK (.ro hs) (by omega) rfl rfl rfl) rfl rfl<|af (cY (SF.hent (SF.ro hs) hkl) rfl rfl Tryz.isAgg155 lK) rfl rfl<|ag (rT rfl rfl rfl Tryz.call232 (fun w hw=>Du g pc _ _ w (Nat.lt_of_lt_of_le hlt hw.le) ((hw.below.cell hlt).trans hc))) rfl rfl (fun _ _=>?_)
  refine ae<|aw rfl (fun hp=>?_) (fun hp=>?_)
  ·refine ac<|aa<|rn 2 [4] rfl<|ae<|aq (aC (ai (ai (aC (ai ?_)))))
   refine av Tryz.results231 (an rfl) ?_
   intro w hw
   exact⟨(k:Int),.inr ⟨k,rfl,hkl,hp,hno⟩,rfl,hw⟩
  refine ar (aH (am ?_))
  refine aa<|af (br rfl rfl rfl (by omega)) rfl rfl<|rn 1 [0,1,7,8] rfl<|a5 (k+1) (⟨by show k+1≤_;omega,fun j hj=>(Nat.lt_or_ge j k).elim (hno j) (fun h=>by obtain rfl:j=k:=(by omega);exact hp)⟩) (by show _ - _<_ - _;omega) ⟨rfl,rfl,rfl,rfl,trivial⟩ me
 obtain rfl:k=es.length:=by omega
 refine bz (aD (aD (bO (am ?_))))
 refine ac<|aa<|rn 1 [4] rfl<|ae<|aq<|av Tryz.results231 (an rfl) ?_
 intro w hw
 exact⟨-1,.inl ⟨rfl,hno⟩,rfl,hw⟩
section
variable {B:Nat} {w0:World} {H:List a7}
theorem q9 {L:List (Value×List Int)} {v:Value} {xs:List Int} {w:World} (hi:iU L v xs) (h:Cw B w0 (fi L::H) w):Cw B w0 (il v xs::H) w:=by
 rcases hi with ⟨rfl,rfl⟩ | hi
 ·exact h.upd fun F ho _=>⟨fun _=>False,⟨fun _ h=>h.elim,fun _ _=>Sl.nil_⟩,rfl,rfl,rfl,Nat.le_refl _,fun _ _ _=>rfl,fun b hb=>hb.elim⟩
 refine h.upd fun F ho _=>?_
 obtain⟨F',h5,h6⟩:=Hs.mem (List.mem_map_of_mem (f:=fun p:Value×List Int=>il p.1 p.2) hi) (show Hs w _ F from ho)
 exact⟨F',h5,rfl,rfl,rfl,Nat.le_refl _,fun _ _ _=>rfl,fun b hb=> .inl (h6 b hb)⟩
theorem En {A:Option Addr} {m c k:Nat} {xs:List Int} {w:World} (hk:k≤m) (h:Cw B w0 (il (.slice A m c) xs::H) w):Cw B w0 (il (.slice A k c) (xs.take k)::H) w:=by
 refine h.upd fun F ho _=>⟨F,⟨ho.1,fun w' hw'=>?_⟩,rfl,rfl,rfl,Nat.le_refl _,fun _ _ _=>rfl,fun b hb=> .inl hb⟩
 have:=(ho.2 w' hw').cut 0 k (Nat.zero_le _) hk
 rw[we,Nat.sub_zero,Nat.sub_zero,List.drop_zero] at this
 exact this
theorem mB {w:World} (h:Cw B w0 H w):Cw B w0 (il (.slice none 0 0) ([]:List Int)::H) w:=q9 iU.nil_ (kg h)
end
theorem ye {xs:List iB} {pc:Int} {i:Nat} (hi:i<xs.length) (h1:xs[i].pc=pc) (h2:∀j (_:j<i) (h:j<xs.length),xs[j].pc≠pc):(xs.find? fun e=>decide (e.pc=pc))=some xs[i]:=by
 induction xs generalizing i with
 | nil=>simp at hi
 | cons x xs ih=>
  cases i with
  | zero=>rw[List.find?_cons_of_pos (by simpa using h1)];rfl
  | succ i=>
   rw[List.find?_cons_of_neg (by have h3:=h2 0 (by omega) (by simp);rw[List.getElem_cons_zero] at h3;simpa using h3)]
   exact ih (by simpa using hi) h1 fun j hj h=>h2 (j+1) (by omega) (by simpa using h)
theorem yd {xs:List iB} {pc:Int} (h2:∀j (h:j<xs.length),xs[j].pc≠pc):(xs.find? fun e=>decide (e.pc=pc))=none:=by
 rw[List.find?_eq_none]
 intro e he
 obtain⟨j,hj,rfl⟩:=List.getElem_of_mem he
 simpa using h2 j hj
theorem kA {es:List gy} {i:Nat} (h:i<es.length):hent es i=es[i]:=by
 unfold hent
 rw[List.getD_eq_getElem?_getD,List.getElem?_eq_getElem h]
 rfl
set_option maxRecDepth 100000 in
set_option maxHeartbeats 1000000 in
theorem ud (Ap:Option Addr) (cp:Nat) (fs:List aA) (k:Nat) (pc:Int) (q:Option (List Int)) (hq:eA fs (az fs k) pc=q) (w:World) (hs:Sl w (.slice Ap fs.length cp) fs) (hk:k<fs.length) (hok:jR fs (az fs k)) (hn0:0<(az fs k).code.length) :
  Calls Tryz.prog 229 #[.agg #[.slice Ap fs.length cp],.int .i64 (k:Int),.int .i64 pc] w fun e w'=> ∃g:Option Addr×Nat,True∧e= .returned (.tuple #[.slice g.1 (q.getD []).length g.2,.bool q.isSome])∧
   Cw w.heap.size w [il (.slice g.1 (q.getD []).length g.2) (q.getD [])] w':=by
 refine enter Tryz.func229 rfl Tryz.ntmps229 rfl ?_
 refine ac<|aa<|ag (bH rfl rfl rfl) rfl rfl (fun g1 _=>?_)
 refine ag (bH rfl rfl rfl) rfl rfl (fun g2 _=>?_)
 refine rn 2 [1,3,5] rfl<|ae<|ac<|aa<|af (aN (vs:= [_]) fc bQ bB rfl rfl (by rfl) rfl) rfl rfl ?_
 refine rn 1 [5,12,13] rfl<|ag (cO rfl rfl rfl Tryz.call103 (fun w hw=>qH Ap cp fs k w (hw.ro hs) hk hok hn0)) rfl rfl (fun⟨⟨A1,c1⟩,es,L⟩ hre=>?_)
 try dsimp only
 refine rn 5 [5,8] rfl<|ae<|ac<|aa<|rn 2 [8,17,18] rfl<|ag (cO rfl rfl rfl Tryz.call231 (fun w hw=>EO A1 c1 es g2 pc w (SF.at_ (SF.own rfl fc) hw) (jx hw fc) (eV fc rfl w hw))) rfl rfl (fun r hr=>?_)
 refine rn 1 [8,10] rfl<|ae<|ac<|ac<|aa<|rn 2 [8,10,21] rfl<|ae ?_
 have hre:kU es L (cA fs (az fs k)).1:=hre
 have hl:=hre.len
 refine aw rfl (fun h0=>?_) (fun h0=>?_)
 ·have hq2:q=none:=by
   rcases hr with ⟨_,h⟩ | ⟨i,h,_⟩
   ·rw[←hq]
    unfold eA
    rw[yd (fun j hj=>by
     have hj':j<es.length:=by omega
     have:=h j hj'
     rw[kA hj',(hre.el j hj' hj).1] at this
     exact this)]
    rfl
   omega
  subst hq2
  refine ac<|aa<|rn 2 [6,7] rfl<|ae<|aq (ai ?_)
  refine bt Tryz.results229 (an rfl) (an rfl) ?_
  intro w hw
  exact⟨(none,0),trivial,rfl,(mB hw).msub ms⟩
 obtain⟨i,hi,hlt,hpc,hno⟩:∃i:Nat,r=i∧i<es.length∧(hent es i).pc=pc∧∀j,j<i→(hent es j).pc≠pc:=hr.elim (fun h=>by omega) id
 subst hi
 have hlt2:i<(cA fs (az fs k)).1.length:=by omega
 obtain⟨e1,e2⟩:=hre.el i hlt hlt2
 have hq2:q=some (cA fs (az fs k)).1[i].stack:=by
  rw[←hq]
  unfold eA
  rw[ye hlt2 (by rw[←e1,←kA hlt];exact hpc) (fun j hj h=>by
   have hj':j<es.length:=by omega
   have:=hno j hj
   rw[kA hj',(hre.el j hj' h).1] at this
   exact this)]
  rfl
 subst hq2
 rw[←kA hlt] at e2
 refine ar (am ?_)
 refine ac<|aa<|rn 2 [22,23] rfl<|af (aQ (k:=i) fS lK (SF.own (xs:=es) rfl fc) (by omega) rfl rfl rfl) rfl rfl ?_
 refine rn 1 [25] rfl<|af (a8 (fun w hw=>SF.hent (SF.own (xs:=es) rfl fc) hlt w hw 1 _ rfl) rfl rfl aW) rfl rfl ?_
 refine rn 2 [6,7] rfl<|ae<|aq<|bt Tryz.results229 (an rfl) (an rfl) ?_
 intro w hw
 obtain⟨A5,c5,e5⟩:=e2.form hw fc
 rw[e5] at e2⊢
 exact⟨(A5,c5),trivial,rfl,(q9 e2 (hw.msub (T:=fi L:: []) ms)).msub ms⟩
end
section
theorem xD {fs:List aA} (hF:fp fs) {k:Nat} (hk:k<fs.length) {pc to_:Int} {t0 t:List Int} (hc:fC (az fs k) pc to_=true) (h0:eA fs (az fs k) (pc - 1)=some t0) (h1:eA fs (az fs k) pc=some t) (hr:(az fs to_.toNat).result≠0):1≤t.length:=by
 unfold fC at hc
 simp only[Bool.and_eq_true,decide_eq_true_eq] at hc
 obtain⟨_,hcc,hca⟩:=hc
 obtain⟨_,_,_,_,v0,hv0,hn0⟩:=(hF.e _ hk).at_ _ _ h0
 generalize bG (az fs k).code (pc - 1).toNat=oz at hcc hca hv0 hn0
 obtain⟨t',ht',hle⟩:=hn0 pc (by simp[dd,hcc])
 rw[h1] at ht'
 have ht':=Option.some.inj ht'
 subst ht'
 obtain⟨T0,V0,e0,_,_,_,rfl⟩:=hZ.1 hv0
 simp[tl,hcc] at e0
 obtain⟨rfl,rfl⟩:=e0
 rw[hca] at hle
 unfold bR at hle
 rw[if_neg hr] at hle
 have:=(qk hle).2.1
 omega
theorem m8 {f:aA} {pc to_:Int} :fC f pc to_=(bK pc 1 f.code.length && (decide ((bG f.code (pc - 1).toNat).c=12) && decide ((bG f.code (pc - 1).toNat).a=to_))):=rfl
section
variable {B:Nat} {w0:World} {H:List a7}
set_option maxRecDepth 100000 in
set_option maxHeartbeats 4000000 in
theorem BK (gc:Nat) (a:MA) (m:aG) (Ap:Option Addr) (cp:Nat) (fs:List aA) (hs:bW w0 B (.slice Ap fs.length cp) fs) (hm:dQ B w0 a m) (hF:fp fs) (i:Nat) (hi:i<m.frames.length) (hfn:∀x∈m.frames,0≤x.func∧x.func<fs.length) (q:Option (List Int)) (hq:gQ fs m.frames i=q) (w:World) (hw:Cw B w0 (ak gc [.slice a.Af m.frames.length a.cf,.slice a.Ab m.blocks.length a.cb,.slice a.Ai m.inn.length a.ci,.slice a.Ao m.out.length a.co,.int .i64 m.status,.int .i64 m.trap,.slice Ap fs.length cp] 147::H) w) :
  Calls Tryz.prog 216 #[.pointer (some ⟨gc,0,none⟩),.int .i64 (i:Int)] w fun e w'=> ∃g:Option Addr×Nat,True∧e= .returned (.tuple #[.slice g.1 (q.getD []).length g.2,.bool q.isSome])∧Cw B w0 (il (.slice g.1 (q.getD []).length g.2) (q.getD [])::ak gc [.slice a.Af m.frames.length a.cf,.slice a.Ab m.blocks.length a.cb,.slice a.Ai m.inn.length a.ci,.slice a.Ao m.out.length a.co,.int .i64 m.status,.int .i64 m.trap,.slice Ap fs.length cp] 147::H) w':=by
 have bf:=cn hm.f
 have bp:=cn hs
 obtain⟨A1,c1,A2,c2,hl,hst,hI,hcell⟩:=hm.f.fr hi
 have hx:=hfn _ (eU hi)
 obtain⟨kf,hkf⟩:∃kf:Nat,(bh m.frames i).func=kf:=⟨(bh m.frames i).func.toNat,by omega⟩
 have hkl:kf<fs.length:=by omega
 obtain⟨hok,hn0⟩:=iL hF.p hkl
 obtain⟨F1,d1,F2,d2,hfl,hfc,hfi,hfcell⟩:=hs.fn hkl
 have bc:=cn hfc
 have hff:ik fs m.frames i=az fs kf:=by unfold ik;rw[hkf,Int.toNat_natCast]
 obtain⟨pc,hpc⟩:∃pc,(bh m.frames i).pc=pc:=⟨_,rfl⟩
 unfold gQ at hq
 rw[hff,hpc] at hq
 rw[hkf,hpc] at hcell
 rw[hpc] at hI
 obtain⟨q1,hq1⟩:∃q1,eA fs (az fs kf) pc=q1:=⟨_,rfl⟩
 rw[hq1] at hq
 refine bS Tryz.func216 rfl Tryz.ntmps216 rfl hw ?_
 refine ac<|aa<|rn 2 [0,1] rfl<|ae<|ac<|aa<|rn 4 [0,1,16] rfl<|af (aj fc bP rfl rfl (by rfl)) rfl rfl ?_
 refine rn 1 [0,1,17,18] rfl<|af (aQ (k:=i) aP bn (.ro hm.f) (by omega) rfl rfl rfl) rfl rfl<|af (cY (hcell _) rfl rfl gK bn) rfl rfl<|ag (aS cP rfl rfl) rfl rfl (fun g1 _=>?_)
 refine ag (aJ _ fc bn rfl rfl rfl rfl rfl (by rfl) rfl (by rfl)) rfl rfl (fun _ _=>?_)
 refine ae<|ac<|cD (.still 0 (.still 1 (.still 2 (.still 3 (.still 4 (.still 5 (.still 6 (.still 7 (.pick 8 (.still 9 (.still 10 (.still 11 (.still 12 (.still 13 .done))))) .stop))))))))) [] rfl (by kernel_rfl) (by kernel_rfl) ?_
 refine aU ha 3 [0,1,6,24] rfl<|ax rfl (aN (vs:= [_]) fc bQ bB rfl rfl (by rfl) rfl) rfl rfl ha ?_
 refine aU ha 1 [0,1,6,25,26] rfl<|ax rfl (aj fc au rfl rfl (by rfl)) rfl rfl ha ?_
 refine aU ha 1 [0,1,6,25,27,28] rfl<|ax rfl (aj fc au rfl rfl (by rfl)) rfl rfl ha ?_
 refine aK rfl (cO rfl rfl rfl Tryz.call229 (fun w hw=>ud Ap cp fs kf pc q1 hq1 w (hw.ro hs) hkl hok hn0)) rfl rfl (.inr fun _=>ha) (fun⟨A5,c5⟩ _=>?_) aE
 try dsimp only
 refine aU ha 5 [0,1,6,7,8] rfl<|cT<|ac<|ac<|aa<|rn 5 [0,1,6,7,8,33,37] rfl<|af (aj fc bP rfl rfl (by rfl)) rfl rfl ?_
 refine af (aM aP rfl rfl) rfl rfl<|af (cH rfl rfl rfl (by omega)) rfl rfl<|rn 1 [0,1,6,7,8,41] rfl<|ae<|aw rfl (fun h1=>?_) (fun h1=>?_)
 ·rw[if_pos (show i+1=m.frames.length by omega)] at hq
  subst hq
  refine ac<|aa<|rn 4 [4,5] rfl<|ae<|aq (ai ?_)
  refine bt jB (an rfl) (an rfl) ?_
  intro w hw
  exact⟨(A5,c5),trivial,rfl,hw.msub ms⟩
 rw[if_neg (show¬i+1=m.frames.length by omega)] at hq
 have hi2:i+1<m.frames.length:=by omega
 obtain⟨A3,c3,A4,c4,hl2,hst2,hI2,hcell2⟩:=hm.f.fr hi2
 have hy:=hfn _ (eU hi2)
 obtain⟨ky,hky⟩:∃ky:Nat,(bh m.frames (i+1)).func=ky:=⟨(bh m.frames (i+1)).func.toNat,by omega⟩
 have hkyl:ky<fs.length:=by omega
 have hfy:ik fs m.frames (i+1)=az fs ky:=by unfold ik;rw[hky,Int.toNat_natCast]
 rw[hky] at hcell2
 rw[hfy,hky] at hq
 refine ar (am ?_)
 refine ac<|aa<|rn 4 [0,1,6,7,8,47] rfl<|af (aj fc bP rfl rfl (by rfl)) rfl rfl ?_
 refine rn 1 [0,6,7,8,48,49] rfl<|af (br rfl rfl rfl (by omega)) rfl rfl<|af (aQ (k:=(i+1)) aP bn (.ro hm.f) (by omega) rfl rfl rfl) rfl rfl<|rn 1 [0,6,7,8,52] rfl<|af (a8 (fun w hw=>hcell2 _ w hw 0 _ rfl) rfl rfl au) rfl rfl ?_
 refine rn 1 [0,6,7,8,9] rfl<|ae<|ac<|cD (.still 0 (.still 1 (.still 2 (.still 3 (.still 4 (.still 5 (.still 6 (.still 7 (.still 8 (.still 9 (.still 10 .done))))))))))) [] rfl (by kernel_rfl) (by kernel_rfl) ?_
 refine aU ha 4 [0,6,7,8,9,57] rfl<|ax rfl (aj fc cV rfl rfl (by rfl)) rfl rfl ha ?_
 refine aU ha 1 [0,6,7,8,9,58,59] rfl<|ax rfl (aj fc au rfl rfl (by rfl)) rfl rfl ha ?_
 refine ax rfl (aQ (k:=kf) bJ bD (.ro hs) (by omega) rfl rfl rfl) rfl rfl ha ?_
 refine aU ha 1 [0,6,7,8,9,62] rfl<|ax rfl (a8 (fun w hw=>hfcell _ w hw 3 _ rfl) rfl rfl dB) rfl rfl ha ?_
 refine aU ha 1 [0,6,7,8,9,10] rfl<|cT<|ac<|ac<|aa<|rn 1 [0,6,7,8,9,10,64] rfl<|af (aj fc au rfl rfl (by rfl)) rfl rfl ?_
 refine rn 1 [0,6,7,8,9,10,65,66] rfl<|af (aM bw rfl rfl) rfl rfl<|ag (aY rfl rfl rfl wW (fun w hw=>jU pc 1 (az fs kf).code.length w)) rfl rfl (fun _ _=>?_)
 refine rn 2 [0,6,7,8,9,10,70] rfl<|bM (t:=70) rfl (fun h2=>?_) (fun h2=>?_)
 ·have hc:fC (az fs kf) pc ky=false:=by
   rw[m8,show bK pc 1 (az fs kf).code.length=false from by simpa using h2]
   rfl
  rw[if_pos hc] at hq
  subst hq
  refine rn 20 [0,6,7,8,9,90] rfl<|ae<|bA rfl<|ac<|aa<|rn 2 [4,5] rfl<|ae<|aq (ai ?_)
  refine bt jB (an rfl) (an rfl) ?_
  intro w hw
  exact⟨(none,0),trivial,rfl,(mB hw).msub ms⟩
 have hw1:bK pc 1 (az fs kf).code.length=true:=by simpa using h2
 have hw2:=dv.1 hw1
 refine rn 2 [0,6,7,8,9,10,70,71,72] rfl<|af (aj fc au rfl rfl (by rfl)) rfl rfl ?_
 refine af (cH rfl rfl rfl (by omega)) rfl rfl<|af (fy bw cG (.ro hfc) (by omega) rfl rfl rfl) rfl rfl<|rn 1 [0,6,7,8,9,10,70,76] rfl<|af (a8 (SF.opc (.ro hfc) (by omega)) rfl rfl au) rfl rfl<|rn 3 [0,6,7,8,9,10,80] rfl<|bM (t:=80) rfl (fun h3=>?_) (fun h3=>?_)
 ·have hc:fC (az fs kf) pc ky=false:=by
   have h3:decide ((bG (az fs kf).code (pc - 1).toNat).c=12)=false:=by simpa using h3
   rw[m8,h3]
   simp
  rw[if_pos hc] at hq
  subst hq
  refine rn 10 [0,6,7,8,9,90] rfl<|ae<|bA rfl<|ac<|aa<|rn 2 [4,5] rfl<|ae<|aq (ai ?_)
  refine bt jB (an rfl) (an rfl) ?_
  intro w hw
  exact⟨(none,0),trivial,rfl,(mB hw).msub ms⟩
 have h3:decide ((bG (az fs kf).code (pc - 1).toNat).c=12)=true:=by simpa using h3
 refine rn 2 [0,6,7,8,9,80,81,82] rfl<|af (aj fc au rfl rfl (by rfl)) rfl rfl ?_
 refine af (cH rfl rfl rfl (by omega)) rfl rfl<|af (fy bw cG (.ro hfc) (by omega) rfl rfl rfl) rfl rfl<|rn 1 [0,6,7,8,9,80,86] rfl<|af (a8 (SF.opa (.ro hfc) (by omega)) rfl rfl au) rfl rfl<|rn 3 [0,6,7,8,9,90] rfl<|ae<|bY rfl (fun h4=>?_) (fun h4=>?_)
 ·have hc:fC (az fs kf) pc ky=false:=by
   rw[m8,decide_eq_false (p:=(bG (az fs kf).code (pc - 1).toNat).a=ky) h4]
   simp
  rw[if_pos hc] at hq
  subst hq
  refine ac<|aa<|rn 2 [4,5] rfl<|ae<|aq (ai ?_)
  refine bt jB (an rfl) (an rfl) ?_
  intro w hw
  exact⟨(none,0),trivial,rfl,(mB hw).msub ms⟩
 have hc:fC (az fs kf) pc ky=true:=by
  rw[m8,hw1,h3,decide_eq_true (p:=(bG (az fs kf).code (pc - 1).toNat).a=ky) h4]
  rfl
 rw[if_neg (by rw[hc];decide)] at hq
 obtain⟨q0,hq0⟩:∃q0,eA fs (az fs kf) (pc - 1)=q0:=⟨_,rfl⟩
 rw[hq0] at hq
 refine ar (am ?_)
 refine ac<|ac<|cD (.still 0 (.still 1 (.still 2 (.still 3 (.still 4 (.still 5 (.still 6 (.still 7 (.still 8 (.pick 9 (.still 10 (.still 11 (.still 12 (.still 13 (.still 14 .done))))) .stop)))))))))) [] rfl (by kernel_rfl) (by kernel_rfl) ?_
 refine aU ha 3 [0,6,7,8,9,94] rfl<|ax rfl (aN (vs:= [_]) fc bQ bB rfl rfl (by rfl) rfl) rfl rfl ha ?_
 refine aU ha 1 [0,6,7,8,9,95,96] rfl<|ax rfl (aj fc au rfl rfl (by rfl)) rfl rfl ha ?_
 refine aU ha 1 [0,7,8,9,95,97,98] rfl<|ax rfl (aj fc au rfl rfl (by rfl)) rfl rfl ha ?_
 refine ax rfl (cH rfl rfl rfl (by omega)) rfl rfl ha ?_
 refine aK rfl (cO rfl rfl rfl Tryz.call229 (fun w hw=>ud Ap cp fs kf (pc - 1) q0 hq0 w (hw.ro hs) hkl hok hn0)) rfl rfl (.inr fun _=>ha) (fun⟨A6,c6⟩ _=>?_) aE
 try dsimp only
 refine aU ha 5 [0,7,8,9,12] rfl<|cT<|ac<|aa<|rn 3 [0,7,8,9,106] rfl<|bM (t:=106) rfl (fun h5=>?_) (fun h5=>?_)
 ·have h5:q0.isSome=false:=by simpa using h5
  rw[if_pos h5] at hq
  subst hq
  refine rn 3 [0,7,9,109] rfl<|ae<|bA rfl<|ac<|aa<|rn 2 [4,5] rfl<|ae<|aq (ai ?_)
  refine bt jB (an rfl) (an rfl) ?_
  intro w hw
  exact⟨(none,0),trivial,rfl,(mB hw).msub ms⟩
 have h5:q0.isSome=true:=by simpa using h5
 rw[if_neg (by rw[h5];decide)] at hq
 refine rn 3 [0,7,9,109] rfl<|ae<|cg rfl (fun h6=>?_) (fun h6=>?_)
 ·have h6:q1=none:=by simpa using h6
  subst h6
  have hq:none=q:=hq
  subst hq
  refine ac<|aa<|rn 2 [4,5] rfl<|ae<|aq (ai ?_)
  refine bt jB (an rfl) (an rfl) ?_
  intro w hw
  exact⟨(none,0),trivial,rfl,(mB hw).msub ms⟩
 obtain⟨t,rfl⟩:∃t,q1=some t:=by cases q1 with
  | none=>simp at h6
  | some t=>exact⟨t,rfl⟩
 obtain⟨t0,rfl⟩:∃t0,q0=some t0:=by cases q0 with
  | none=>simp at h5
  | some t0=>exact⟨t0,rfl⟩
 obtain⟨G1,b1,G2,b2,hgl,hgc,hgi,hgcell⟩:=hs.fn hkyl
 have hq:some (if (az fs ky).result≠0 then t.dropLast else t)=q:=hq
 subst hq
 refine ar (am ?_)
 refine ac<|ac<|aa<|rn 4 [7,9,113] rfl<|af (aj fc cV rfl rfl (by rfl)) rfl rfl ?_
 refine rn 1 [7,114,115] rfl<|af (aQ (k:=ky) bJ bD (.ro hs) (by omega) rfl rfl rfl) rfl rfl<|rn 1 [7,117] rfl<|af (a8 (fun w hw=>hgcell _ w hw 2 _ rfl) rfl rfl au) rfl rfl ?_
 refine rn 1 [7,119] rfl<|ae<|bY rfl (fun h7=>?_) (fun h7=>?_)
 ·have hone:=xD hF hkl hc hq0 hq1 (by rw[Int.toNat_natCast];exact h7)
  rw[if_pos h7,List.dropLast_eq_take]
  refine fO (fun w hw=>(hw.rdSl (v:= .slice A5 t.length c5) (xs:=t) fc).form) ?_
  rintro⟨_,_,e,hle,_⟩
  injection e with _ _ e
  have ht8:=((hF.e _ hkl).at_ _ _ hq1).2.2.1
  refine cN (t:=7) (v':= .slice A5 t.length c5) rfl (rfl) ?_
  refine aa<|rn 2 [120,121] rfl<|af (aM ah rfl rfl) rfl rfl<|af (cH rfl rfl rfl (by omega)) rfl rfl<|bV (t:=123) (v':= .int .i64 ((t.length - 1:Nat):Int)) rfl (by show Value.int _ ((t.length:Int) - 1)=_;congr 1;omega) ?_
  refine af (lz (k:=t.length - 1) ah aF (by omega) rfl rfl rfl) rfl rfl<|rn 1 [7] rfl<|ae<|ac<|aa<|rn 3 [4,5] rfl<|ae<|aq<|bt jB (an rfl) (an rfl) ?_
  intro w hw
  have hlt:(t.take (t.length - 1)).length=t.length - 1:=by rw[List.length_take];omega
  refine⟨(A5,c5),trivial,by show _=Ending.returned (.tuple #[.slice A5 (t.take (t.length - 1)).length c5,.bool true]);rw[hlt],?_⟩
  show Cw B w0 (il (.slice A5 (t.take (t.length - 1)).length c5) (t.take (t.length - 1))::_::H) w
  rw[hlt]
  exact(En (k:=t.length - 1) (by omega) (hw.msub (T:=il (.slice A5 t.length c5) t::ak gc [.slice a.Af m.frames.length a.cf,.slice a.Ab m.blocks.length a.cb,.slice a.Ai m.inn.length a.ci,.slice a.Ao m.out.length a.co,.int .i64 m.status,.int .i64 m.trap,.slice Ap fs.length cp] 147::H) ms)).msub ms
 rw[if_neg (fun h=>h h7)]
 refine ar (am ?_)
 refine ac<|aa<|rn 3 [4,5] rfl<|ae<|aq<|bt jB (an rfl) (an rfl) ?_
 intro w hw
 exact⟨(A5,c5),trivial,rfl,hw.msub ms⟩
end
end
section
theorem t8 {α:Type} {L:List (List α)} {k:Nat} (hk:k<L.length):(L.take (k+1)).flatten=(L.take k).flatten++L.getD k []:=by
 rw[fx L k [] hk,List.flatten_append]
 simp
theorem xi {α:Type} (L:List (List α)) (k:Nat):(L.take k).flatten.length≤L.flatten.length:=by
 rw[←congrArg List.length (congrArg List.flatten (List.take_append_drop k L)),List.flatten_append,List.length_append]
 omega
set_option maxRecDepth 100000 in
set_option maxHeartbeats 1000000 in
theorem zm (g n:Nat) (hd:Nat→Option Addr×Nat) (L:List (List aX)) (hn:L.length=n) (w:World) (hlt:g<w.heap.size) (hc:∀k,k<n→w.cell? ⟨g,0+k*1,none⟩=some (.slice (hd k).1 (L.getD k []).length (hd k).2))
  (hs:∀k,k<n→Sl w (.slice (hd k).1 (L.getD k []).length (hd k).2) (L.getD k [])) (hb:L.flatten.length*16≤140737488355328) (hn':n≤1000) :
  Calls Tryz.prog 213 #[.slice (some ⟨g,0,none⟩) n n] w fun e w'=> ∃u,e= .returned u∧Below w.heap.size w w'∧ev w' w.heap.size u L.flatten:=by
 subst hn
 have hfl:=xi L
 refine enter Tryz.func213 rfl Tryz.ntmps213 rfl ?_
 refine ac<|aa<|rn 1 [0] rfl<|ae<|ac<|aa<|rn 1 [0,3] rfl<|ae<|ac<|ac<|aa<|rn 1 [0,3,9] rfl<|af (aM ei rfl rfl) rfl rfl<|rn 1 [0,3,9,10,11] rfl<|ae<|aB (bI (fun k:Nat=>k≤L.length) (fun k=>L.length - k) (fun k=> [(0,.slice (some ⟨g,0,none⟩) L.length L.length),(3,.int .i64 ((L.take k).flatten.length:Int)),(9,.slice (some ⟨g,0,none⟩) L.length L.length),(10,.int .i64 (L.length:Int)),(11,.int .i64 (k:Int))]) (fun _=> []) 0 (Nat.zero_le _) ⟨rfl,rfl,rfl,rfl,rfl,trivial⟩ me ?_)
 rintro k hk
 have hk:k≤L.length:=hk
 refine ac<|aa<|rn 1 [0,3,9,10,11,12] rfl<|ae<|ac<|aw rfl (fun h1=>?_) (fun h1=>?_)
 ·have hkn:k<L.length:=by omega
  have hft:=congrArg List.length (t8 (L:=L) (k:=k) (by omega))
  rw[List.length_append] at hft
  have hfk:=hfl (k+1)
  refine ar (am ?_)
  refine ac<|aB<|ac<|aa<|af (iq (k:=k) ei fd rfl hkn rfl rfl rfl) rfl rfl<|af (a8 (fun w' hw=>(hw.below.cell hlt).trans (hc k hkn)) rfl rfl cz) rfl rfl ?_
  refine rn 1 [0,3,5,9,10,11] rfl<|ae<|ac<|aa<|rn 2 [0,9,10,11,15,16] rfl<|af (aM aI rfl rfl) rfl rfl<|af (br rfl rfl rfl (by omega)) rfl rfl<|rn 1 [0,3,9,10,11] rfl<|ae<|ac<|aa<|rn 2 [0,3,9,10,11,20] rfl<|ae<|aw rfl (fun h2=>?_) (fun h2=>?_)
  ·exact absurd h2 (by omega)
  refine cN (t:=3) (v':= .int .i64 ((L.take (k+1)).flatten.length:Int)) rfl (by congr 1;omega) ?_
  refine ar (aH (am ?_))
  refine aa<|af (br rfl rfl rfl (by omega)) rfl rfl<|rn 1 [0,3,9,10,11] rfl<|a5 (k+1) (by show k+1≤_;omega) (by show _ - _<_ - _;omega) ⟨rfl,rfl,rfl,rfl,rfl,trivial⟩ me
 obtain rfl:k=L.length:=by omega
 rw[List.take_length]
 refine bz (aD (aD (bO (am ?_))))
 refine ac<|aa<|rn 1 [0,23] rfl<|ag (cO rfl rfl rfl Tryz.call228 (fun w hw=>Bq L.flatten.length hb w)) rfl rfl (fun⟨A2,c2⟩ _=>?_)
 try dsimp only
 refine rn 1 [0,6] rfl<|ae<|ac<|ac<|aa<|rn 1 [6,25] rfl<|af (aM ei rfl rfl) rfl rfl<|rn 1 [6,25,26,27] rfl<|ae<|aB (bI (fun g:Nat×Option Addr×Nat=>g.1≤L.length) (fun g=>L.length - g.1) (fun q=> [(6,.slice q.2.1 (L.take q.1).flatten.length q.2.2),(25,.slice (some ⟨g,0,none⟩) L.length L.length),(26,.int .i64 (L.length:Int)),(27,.int .i64 (q.1:Int))]) (fun q=> [ap (.slice q.2.1 (L.take q.1).flatten.length q.2.2) (L.take q.1).flatten]) (0,A2,c2) (Nat.zero_le _) ⟨rfl,rfl,rfl,rfl,trivial⟩ me ?_)
 rintro⟨k,A3,c3⟩ hk
 try dsimp only
 have hk:k≤L.length:=hk
 refine ac<|aa<|rn 1 [6,25,26,27,28] rfl<|ae<|ac<|aw rfl (fun h1=>?_) (fun h1=>?_)
 ·have hkn:k<L.length:=by omega
  have hft:=t8 (L:=L) (k:=k) (by omega)
  have hft2:=congrArg List.length hft
  rw[List.length_append] at hft2
  have hfk:=hfl (k+1)
  refine ar (am ?_)
  refine ac<|aB<|ac<|aa<|af (iq (k:=k) ei fd rfl hkn rfl rfl rfl) rfl rfl<|af (a8 (fun w' hw=>(hw.below.cell hlt).trans (hc k hkn)) rfl rfl cz) rfl rfl ?_
  refine rn 1 [6,8,25,26,27] rfl<|ae<|aa<|rn 2 [25,26,27,31,32] rfl<|ag (iP (α:=aX) (bytes:=16) (xs:=(L.take k).flatten) (ys:=L.getD k []) hft aI (cU gg) rfl fc (.ro (hs k hkn)) (by omega) (by omega) rfl rfl rfl) rfl rfl (fun⟨A5,c5⟩ _=>?_)
  try dsimp only
  refine rn 1 [6,25,26,27] rfl<|bC (aH (am ?_))
  refine aa<|af (br rfl rfl rfl (by omega)) rfl rfl<|rn 1 [6,25,26,27] rfl<|a5 (k+1,A5,c5) (by show k+1≤_;omega) (by show _ - _<_ - _;omega) ⟨rfl,rfl,rfl,rfl,trivial⟩ me
 obtain rfl:k=L.length:=by omega
 rw[List.take_length]
 refine bz (aD (aD (bO (am ?_))))
 refine ac<|aa<|rn 2 [2] rfl<|ae<|aq<|av Tryz.results213 (an rfl) ?_
 intro w hw
 exact⟨_,rfl,ll hw⟩
end
section
theorem yo {nb:Nat} {l:List aX} {k:Nat} (hk:k<l.length) (h:ec nb (l.getD k default)=false):l.any (fun v=>!ec nb v)=true:=List.any_eq_true.2 ⟨_,ff hk,by rw[h];rfl⟩
theorem wC {nb:Nat} {l:List aX} (h:∀j,j<l.length→ec nb (l.getD j default)=true):¬l.any (fun v=>!ec nb v)=true:=fun ha=>by
 obtain⟨v,hv,h2⟩:=List.any_eq_true.1 ha
 obtain⟨j,hj,rfl⟩:=List.getElem_of_mem hv
 have:=h j hj
 rw[List.getD_eq_getElem?_getD,List.getElem?_eq_getElem hj,Option.getD_some] at this
 rw[this] at h2
 cases h2
theorem qr {s:List aX} {t:List Int} {n k:Nat} (hk:k<n) (h:fa (s.getD k default) (t.getD k 0)=false):ym s t n=false:=by
 cases e:ym s t n with
 | false=>rfl
 | true=>rw[jN.1 e k hk] at h;cases h
section
variable {B:Nat} {w0:World} {H:List a7}
set_option maxRecDepth 100000 in
set_option maxHeartbeats 4000000 in
theorem sI (gc:Nat) (a:MA) (m:aG) (Ap:Option Addr) (cp:Nat) (fs:List aA) (hs:bW w0 B (.slice Ap fs.length cp) fs) (hm:dQ B w0 a m) (hF:fp fs) (hfit:gz m.frames) (i:Nat) (hi:i<m.frames.length) (hfn:∀x∈m.frames,0≤x.func∧x.func<fs.length) (E:Int) (hE:eS fs m.blocks.length m.frames i=E) (w:World) (hw:Cw B w0 (ak gc [.slice a.Af m.frames.length a.cf,.slice a.Ab m.blocks.length a.cb,.slice a.Ai m.inn.length a.ci,.slice a.Ao m.out.length a.co,.int .i64 m.status,.int .i64 m.trap,.slice Ap fs.length cp] 147::H) w) :
  Calls Tryz.prog 180 #[.pointer (some ⟨gc,0,none⟩),.int .i64 (i:Int)] w fun e w'=> ∃_:Unit,True∧e= .returned (.int .i64 E)∧Cw B w0 (ak gc [.slice a.Af m.frames.length a.cf,.slice a.Ab m.blocks.length a.cb,.slice a.Ai m.inn.length a.ci,.slice a.Ao m.out.length a.co,.int .i64 m.status,.int .i64 m.trap,.slice Ap fs.length cp] 147::H) w':=by
 have bf:=cn hm.f
 have bp:=cn hs
 obtain⟨A1,c1,A2,c2,hl,hst,hI,hcell⟩:=hm.f.fr hi
 obtain⟨hb1,hb2⟩:=hfit.2 (bh m.frames i) (eU hi)
 have hx:=hfn _ (eU hi)
 obtain⟨kf,hkf⟩:∃kf:Nat,(bh m.frames i).func=kf:=⟨(bh m.frames i).func.toNat,by omega⟩
 have hkl:kf<fs.length:=by omega
 obtain⟨hok,hn0⟩:=iL hF.p hkl
 obtain⟨F1,d1,F2,d2,hfl,hfc,hfi,hfcell⟩:=hs.fn hkl
 have hfl6:(az fs kf).locals.length≤6:=(hok.op 0 hn0).par kf hkl |>.2
 have hff:ik fs m.frames i=az fs kf:=by unfold ik;rw[hkf,Int.toNat_natCast]
 unfold eS at hE
 rw[hff] at hE
 rw[hkf] at hcell
 obtain⟨q,hq⟩:∃q,gQ fs m.frames i=q:=⟨_,rfl⟩
 rw[hq] at hE
 generalize az fs kf=f at hE hfl hfc hfi hfcell hfl6
 generalize bh m.frames i=x at hE hl hst hI hcell hb1 hb2
 have bx1:=cn hl
 have bx2:=cn hst
 refine bS Tryz.func180 rfl Tryz.ntmps180 rfl hw ?_
 refine ac<|aa<|rn 1 [0,1] rfl<|ae<|ac<|aa<|rn 4 [0,1,19] rfl<|af (aj fc bP rfl rfl (by rfl)) rfl rfl ?_
 refine rn 1 [0,1,20,21] rfl<|af (aQ (k:=i) aP bn (.ro hm.f) (by omega) rfl rfl rfl) rfl rfl<|af (cY (hcell _) rfl rfl gK bn) rfl rfl<|ag (aS cP rfl rfl) rfl rfl (fun g1 _=>?_)
 refine ag (aJ _ fc bn rfl rfl rfl rfl rfl (by rfl) rfl (by rfl)) rfl rfl (fun _ _=>?_)
 refine ae<|ac<|cD (.still 0 (.still 1 (.still 2 (.still 3 (.still 4 (.still 5 (.still 6 (.still 7 (.still 8 (.pick 9 (.pick 10 .done .stop) .stop)))))))))) [10] rfl (by kernel_rfl) (by kernel_rfl) ?_
 refine aU ha 4 [0,1,5,27] rfl<|ax rfl (aj fc cV rfl rfl (by rfl)) rfl rfl ha ?_
 refine aU ha 1 [0,1,5,28,29] rfl<|ax rfl (aj fc au rfl rfl (by rfl)) rfl rfl ha ?_
 refine ax rfl (aQ (k:=kf) bJ bD (.ro hs) (by omega) rfl rfl rfl) rfl rfl ha ?_
 refine ax rfl (cY (hfcell _) rfl rfl eK bD) rfl rfl ha ?_
 refine aK rfl (aS dT rfl rfl) rfl rfl (.inr fun _=>ha) (fun g2 _=>?_) aE
 refine aK rfl (aJ _ fc bD rfl rfl rfl rfl rfl (by rfl) rfl (by rfl)) rfl rfl (.inl rfl) (fun _ _=>?_) aE
 refine cT<|ac<|ac<|aa<|rn 1 [0,1,5,6,33] rfl<|af (aj fc cz rfl rfl (by rfl)) rfl rfl ?_
 refine af (aM aI rfl rfl) rfl rfl<|rn 1 [0,1,5,6,35,36] rfl<|af (aj fc aW rfl rfl (by rfl)) rfl rfl ?_
 refine af (aM ah rfl rfl) rfl rfl<|rn 1 [0,1,5,6,39] rfl<|ae<|bY rfl (fun h1=>?_) (fun h1=>?_)
 ·rw[if_pos (show x.locals.length≠f.locals.length from fun e=>h1 (by rw[e]))] at hE
  subst hE
  refine ac<|aa<|rn 1 [4] rfl<|ae<|aq (ai ?_)
  refine av kY (an rfl) ?_
  intro w hw
  exact⟨(),trivial,rfl,hw.msub ms⟩
 have h1:x.locals.length=f.locals.length:=by omega
 rw[if_neg (fun h=>h h1)] at hE
 have hcat: [x.locals,x.stack].flatten.length*16≤140737488355328:=by simp only[List.flatten_cons,List.flatten_nil,List.length_append,List.length_nil];omega
 refine ar (am ?_)
 refine ac<|ac<|aa<|rn 1 [0,1,5,6,40] rfl<|af (aj fc cz rfl rfl (by rfl)) rfl rfl ?_
 refine rn 1 [0,1,5,6,41,42] rfl<|af (aj fc cz rfl rfl (by rfl)) rfl rfl ?_
 refine ag (bu (cs:= [_,_]) ei fd uJ rfl rfl rfl rfl rfl) rfl rfl (fun g3 _=>?_)
 refine ag (fR rfl rfl rfl Tryz.call213 (fun w hw=>zm g3 2 (fun k=>if k=0 then (A1,c1) else (A2,c2)) [x.locals,x.stack] rfl w (jx hw fc) (fun k hk=>by rcases(show k=0∨k=1 by omega) with rfl | rfl;exact eV fc rfl w hw;exact eV fc rfl w hw) (fun k hk=>by rcases(show k=0∨k=1 by omega) with rfl | rfl;exact hw.ro hl;exact hw.ro hst) hcat (by decide))) rfl rfl (fun⟨A5,c5⟩ _=>?_)
 try dsimp only
 refine af (aM aI rfl rfl) rfl rfl<|rn 1 [0,1,5,6,45,46,47] rfl<|ae ?_
 have hfe: [x.locals,x.stack].flatten=x.locals++x.stack:=by simp
 rw[hfe]
 rw[hfe] at hcat
 refine aB (bI (fun k:Nat=>k≤(x.locals++x.stack).length∧∀j,j<k→ec m.blocks.length ((x.locals++x.stack).getD j default)=true) (fun k=>(x.locals++x.stack).length - k) (fun k=> [(0,.pointer (some ⟨gc,0,none⟩)),(1,.int .i64 (i:Int)),(5,.pointer (some ⟨g1,0,none⟩)),(6,.pointer (some ⟨g2,0,none⟩)),(45,.slice A5 (x.locals++x.stack).length c5),(46,.int .i64 ((x.locals++x.stack).length:Int)),(47,.int .i64 (k:Int))]) (fun _=>ap (.slice A5 (x.locals++x.stack).length c5) (x.locals++x.stack)::ak g1 [.int .i64 (kf:Int),.int .i64 x.pc,.slice A1 x.locals.length c1,.slice A2 x.stack.length c2] 97::ak g2 [.int .i64 f.params,.slice F1 f.locals.length d1,.int .i64 f.result,.slice F2 f.code.length d2] 110::ak gc [.slice a.Af m.frames.length a.cf,.slice a.Ab m.blocks.length a.cb,.slice a.Ai m.inn.length a.ci,.slice a.Ao m.out.length a.co,.int .i64 m.status,.int .i64 m.trap,.slice Ap fs.length cp] 147::H) 0 (⟨Nat.zero_le _,fun _ h=>absurd h (Nat.not_lt_zero _)⟩) ⟨rfl,rfl,rfl,rfl,rfl,rfl,rfl,trivial⟩ (fun w h=>h.msub ms) ?_)
 rintro k hk'
 obtain⟨hk,hno⟩:k≤(x.locals++x.stack).length∧∀j,j<k→ec m.blocks.length ((x.locals++x.stack).getD j default)=true:=hk'
 refine ac<|aa<|rn 1 [0,1,5,6,45,46,47,48] rfl<|ae<|ac<|aw rfl (fun hlt=>?_) (fun hlt=>?_)
 ·have hkl2:k<(x.locals++x.stack).length:=by omega
  refine ar (am ?_)
  refine ac<|aB<|ac<|aa<|af (aQ aI aV (SF.own rfl fc) (by omega) rfl rfl rfl) rfl rfl ?_
  refine af (cY (SF.val (SF.own rfl fc) hkl2 default) rfl rfl dZ aV) rfl rfl ?_
  refine ag (aS cy rfl rfl) rfl rfl (fun g4 _=>?_)
  refine ag (aJ _ fc aV rfl rfl rfl rfl rfl (by rfl) rfl (by rfl)) rfl rfl (fun _ _=>?_)
  refine ae<|ac<|aa<|rn 1 [0,1,5,6,8,45,46,47,51] rfl<|af (aN (vs:= [_,_]) fc dZ aV rfl rfl (by rfl) rfl) rfl rfl ?_
  refine ag (bg rfl rfl rfl Tryz.call214 (fun w hw=>zl gc a m (.slice Ap fs.length cp) ((x.locals++x.stack).getD k default) w (hw.msub (.s fc .r)))) rfl rfl (fun _ _=>?_)
  refine rn 1 [0,1,5,6,9,45,46,47] rfl<|ae<|ac<|aa<|rn 2 [0,1,5,6,9,45,46,47,55] rfl<|ae ?_
  obtain⟨vb,hvb⟩:∃b,ec m.blocks.length ((x.locals++x.stack).getD k default)=b:=⟨_,rfl⟩
  rw[hvb]
  cases vb
  ·rw[if_pos (yo hkl2 hvb)] at hE
   subst hE
   rw[if_neg (by decide)]
   refine bY rfl (fun hz=>?_) (fun hz=>?_)
   ·refine ac<|aa<|rn 2 [4] rfl<|ae<|aq (aC (ai (ai (aC (ai ?_)))))
    refine av kY (an rfl) ?_
    intro w hw
    exact⟨(),trivial,rfl,hw.msub ms⟩
   exact absurd hz (by decide)
  rw[if_pos rfl]
  refine bY rfl (fun hz=>?_) (fun hz=>?_)
  ·exact absurd rfl hz
  refine ar (aH (am ?_))
  refine aa<|af (br rfl rfl rfl (by omega)) rfl rfl<|rn 1 [0,1,5,6,45,46,47] rfl<|a5 (k+1) (⟨by show k+1≤_;omega,fun j hj=>(Nat.lt_or_ge j k).elim (hno j) (fun h=>by obtain rfl:j=k:=(by omega);exact hvb)⟩) (by show _ - _<_ - _;omega) ⟨rfl,rfl,rfl,rfl,rfl,rfl,rfl,trivial⟩ (fun w h=>h.msub ms)
 obtain rfl:k=(x.locals++x.stack).length:=by omega
 rw[if_neg (wC hno)] at hE
 refine bz (aD (aD (bO (am ?_))))
 refine ac<|ac<|aa<|rn 1 [0,1,5,6,58] rfl<|af (aj fc cz rfl rfl (by rfl)) rfl rfl ?_
 refine af (aM aI rfl rfl) rfl rfl<|rn 1 [0,1,5,6,59,60,61] rfl<|ae<|aB (bI (fun k:Nat=>k≤x.locals.length∧∀j,j<k→fa (x.locals.getD j default) (f.locals.getD j 0)=true) (fun k=>x.locals.length - k) (fun k=> [(0,.pointer (some ⟨gc,0,none⟩)),(1,.int .i64 (i:Int)),(5,.pointer (some ⟨g1,0,none⟩)),(6,.pointer (some ⟨g2,0,none⟩)),(59,.slice A1 x.locals.length c1),(60,.int .i64 (x.locals.length:Int)),(61,.int .i64 (k:Int))]) (fun _=>ak g1 [.int .i64 (kf:Int),.int .i64 x.pc,.slice A1 x.locals.length c1,.slice A2 x.stack.length c2] 97::ak g2 [.int .i64 f.params,.slice F1 f.locals.length d1,.int .i64 f.result,.slice F2 f.code.length d2] 110::ak gc [.slice a.Af m.frames.length a.cf,.slice a.Ab m.blocks.length a.cb,.slice a.Ai m.inn.length a.ci,.slice a.Ao m.out.length a.co,.int .i64 m.status,.int .i64 m.trap,.slice Ap fs.length cp] 147::H) 0 (⟨Nat.zero_le _,fun _ h=>absurd h (Nat.not_lt_zero _)⟩) ⟨rfl,rfl,rfl,rfl,rfl,rfl,rfl,trivial⟩ (fun w h=>h.msub ms) ?_)
 rintro k hk'
 obtain⟨hk,hno2⟩:k≤x.locals.length∧∀j,j<k→fa (x.locals.getD j default) (f.locals.getD j 0)=true:=hk'
 refine ac<|aa<|rn 1 [0,1,5,6,59,60,61,62] rfl<|ae<|ac<|aw rfl (fun hlt=>?_) (fun hlt=>?_)
 ·have hkl2:k<x.locals.length:=by omega
  refine ar (am ?_)
  refine ac<|aB<|ac<|aa<|rn 1 [0,1,5,6,59,60,61,63] rfl<|af (aQ aI aV (.ro hl) (by omega) rfl rfl rfl) rfl rfl<|af (cY (SF.val (SF.ro hl) hkl2 default) rfl rfl dZ aV) rfl rfl<|ag (aS cy rfl rfl) rfl rfl (fun g5 _=>?_)
  refine rn 1 [0,1,5,6,10,11,59,60,61,65] rfl<|ag (aJ _ fc aV rfl rfl rfl rfl rfl (by rfl) rfl (by rfl)) rfl rfl (fun _ _=>?_)
  refine ae<|ac<|cD (.still 0 (.still 1 (.still 2 (.still 3 (.still 4 (.still 5 (.pick 6 (.still 7 .done) .stop))))))) [] rfl (by kernel_rfl) (by kernel_rfl) ?_
  refine ax rfl (aN (vs:= [_,_]) fc dZ aV rfl rfl (by rfl) rfl) rfl rfl ha ?_
  refine aU ha 1 [0,1,5,6,10,59,60,61,66,67] rfl<|ax rfl (aj fc aW rfl rfl (by rfl)) rfl rfl ha ?_
  refine aU ha 1 [0,1,5,6,59,60,61,66,68,69] rfl<|ax rfl (aQ (k:=k) ah aF (.ro hfl) (by omega) rfl rfl rfl) rfl rfl ha ?_
  refine ax rfl (a8 (SF.int (.ro hfl) (by omega)) rfl rfl au) rfl rfl ha ?_
  refine aK rfl (aY rfl rfl rfl Tryz.call215 (fun w hw=>x9 (x.locals.getD k default) (f.locals.getD k 0) w)) rfl rfl (.inr fun _=>ha) (fun _ _=>?_) aE
  refine aU ha 1 [0,1,5,6,59,60,61,73] rfl<|cT<|cg rfl (fun hb=>?_) (fun hb=>?_)
  ·have hb:fa (x.locals.getD k default) (f.locals.getD k 0)=false:=by simpa using hb
   rw[if_pos (qr hkl2 hb)] at hE
   subst hE
   refine ac<|aa<|rn 1 [4] rfl<|ae<|aq (aC (ai (ai (aC (ai ?_)))))
   refine av kY (an rfl) ?_
   intro w hw
   exact⟨(),trivial,rfl,hw.msub ms⟩
  have hb:fa (x.locals.getD k default) (f.locals.getD k 0)=true:=by simpa using hb
  refine ar (aH (am ?_))
  refine aa<|af (br rfl rfl rfl (by omega)) rfl rfl<|rn 1 [0,1,5,6,59,60,61] rfl<|a5 (k+1) (⟨by show k+1≤_;omega,fun j hj=>(Nat.lt_or_ge j k).elim (hno2 j) (fun h=>by obtain rfl:j=k:=(by omega);exact hb)⟩) (by show _ - _<_ - _;omega) ⟨rfl,rfl,rfl,rfl,rfl,rfl,rfl,trivial⟩ (fun w h=>h.msub ms)
 obtain rfl:k=x.locals.length:=by omega
 rw[if_neg (by rw[jN.2 hno2];decide)] at hE
 refine bz (aD (aD (bO (am ?_))))
 refine ac<|aa<|rn 2 [5,76,77] rfl<|ag (bg rfl rfl rfl Tryz.call216 (fun w hw=>BK (H:=ak g1 [.int .i64 (kf:Int),.int .i64 x.pc,.slice A1 x.locals.length c1,.slice A2 x.stack.length c2] 97::ak g2 [.int .i64 f.params,.slice F1 f.locals.length d1,.int .i64 f.result,.slice F2 f.code.length d2] 110::H) gc a m Ap cp fs hs hm hF i hi hfn q hq w (hw.msub ms))) rfl rfl (fun⟨A6,c6⟩ _=>?_)
 try dsimp only
 refine rn 5 [5,12,13] rfl<|ae<|ac<|ac<|aa<|rn 2 [5,12,82] rfl<|ae<|cg rfl (fun hn=>?_) (fun hn=>?_)
 ·have hn:q=none:=by simpa using hn
  subst hn
  subst hE
  refine ac<|aa<|rn 1 [4] rfl<|ae<|aq (ai ?_)
  refine av kY (an rfl) ?_
  intro w hw
  exact⟨(),trivial,rfl,hw.msub ms⟩
 obtain⟨t,rfl⟩:∃t,q=some t:=by cases q with
  | none=>simp at hn
  | some t=>exact⟨t,rfl⟩
 dsimp only[Option.getD_some] at hE⊢
 refine ar (am ?_)
 refine ac<|ac<|aa<|rn 1 [5,12,83] rfl<|af (aM ah rfl rfl) rfl rfl<|rn 1 [5,12,84,85] rfl<|af (aj fc cz rfl rfl (by rfl)) rfl rfl ?_
 refine af (aM aI rfl rfl) rfl rfl<|rn 1 [5,12,88] rfl<|ae<|bY rfl (fun h2=>?_) (fun h2=>?_)
 ·rw[if_pos (show t.length≠x.stack.length from fun e=>h2 (by rw[e]))] at hE
  subst hE
  refine ac<|aa<|rn 1 [4] rfl<|ae<|aq (ai ?_)
  refine av kY (an rfl) ?_
  intro w hw
  exact⟨(),trivial,rfl,hw.msub ms⟩
 have h2:t.length=x.stack.length:=by omega
 rw[if_neg (fun h=>h h2)] at hE
 refine ar (am ?_)
 refine ac<|ac<|aa<|rn 1 [12,89] rfl<|af (aj fc cz rfl rfl (by rfl)) rfl rfl ?_
 refine af (aM aI rfl rfl) rfl rfl<|rn 1 [12,90,91,92] rfl<|ae<|aB (bI (fun k:Nat=>k≤x.stack.length∧∀j,j<k→fa (x.stack.getD j default) (t.getD j 0)=true) (fun k=>x.stack.length - k) (fun k=> [(12,.slice A6 t.length c6),(90,.slice A2 x.stack.length c2),(91,.int .i64 (x.stack.length:Int)),(92,.int .i64 (k:Int))]) (fun _=>il (.slice A6 t.length c6) t::ak gc [.slice a.Af m.frames.length a.cf,.slice a.Ab m.blocks.length a.cb,.slice a.Ai m.inn.length a.ci,.slice a.Ao m.out.length a.co,.int .i64 m.status,.int .i64 m.trap,.slice Ap fs.length cp] 147::H) 0 (⟨Nat.zero_le _,fun _ h=>absurd h (Nat.not_lt_zero _)⟩) ⟨rfl,rfl,rfl,rfl,trivial⟩ (fun w h=>h.msub ms) ?_)
 rintro k hk'
 obtain⟨hk,hno3⟩:k≤x.stack.length∧∀j,j<k→fa (x.stack.getD j default) (t.getD j 0)=true:=hk'
 refine ac<|aa<|rn 1 [12,90,91,92,93] rfl<|ae<|ac<|aw rfl (fun hlt=>?_) (fun hlt=>?_)
 ·have hkl2:k<x.stack.length:=by omega
  refine ar (am ?_)
  refine ac<|aB<|ac<|aa<|rn 1 [12,90,91,92,94] rfl<|af (aQ aI aV (.ro hst) (by omega) rfl rfl rfl) rfl rfl<|af (cY (SF.val (SF.ro hst) hkl2 default) rfl rfl dZ aV) rfl rfl<|ag (aS cy rfl rfl) rfl rfl (fun g6 _=>?_)
  refine rn 1 [12,14,15,90,91,92,96] rfl<|ag (aJ _ fc aV rfl rfl rfl rfl rfl (by rfl) rfl (by rfl)) rfl rfl (fun _ _=>?_)
  refine ae<|ac<|cD (.still 0 (.still 1 (.still 2 (.still 3 (.still 4 (.pick 5 (.still 6 .done) .stop)))))) [] rfl (by kernel_rfl) (by kernel_rfl) ?_
  refine ax rfl (aN (vs:= [_,_]) fc dZ aV rfl rfl (by rfl) rfl) rfl rfl ha ?_
  refine aU ha 2 [12,90,91,92,97,98,99] rfl<|ax rfl (aQ (k:=k) ah aF (SF.rd (xs:=t) rfl fc) (by omega) rfl rfl rfl) rfl rfl ha ?_
  refine ax rfl (a8 (SF.int (SF.rd (xs:=t) rfl fc) (by omega)) rfl rfl au) rfl rfl ha ?_
  refine aK rfl (aY rfl rfl rfl Tryz.call215 (fun w hw=>x9 (x.stack.getD k default) (t.getD k 0) w)) rfl rfl (.inr fun _=>ha) (fun _ _=>?_) aE
  refine aU ha 1 [12,90,91,92,103] rfl<|cT<|cg rfl (fun hb=>?_) (fun hb=>?_)
  ·have hb:fa (x.stack.getD k default) (t.getD k 0)=false:=by simpa using hb
   rw[if_pos (qr (by omega) hb)] at hE
   subst hE
   refine ac<|aa<|rn 1 [4] rfl<|ae<|aq (aC (ai (ai (aC (ai ?_)))))
   refine av kY (an rfl) ?_
   intro w hw
   exact⟨(),trivial,rfl,hw.msub ms⟩
  have hb:fa (x.stack.getD k default) (t.getD k 0)=true:=by simpa using hb
  refine ar (aH (am ?_))
  refine aa<|af (br rfl rfl rfl (by omega)) rfl rfl<|rn 1 [12,90,91,92] rfl<|a5 (k+1) (⟨by show k+1≤_;omega,fun j hj=>(Nat.lt_or_ge j k).elim (hno3 j) (fun h=>by obtain rfl:j=k:=(by omega);exact hb)⟩) (by show _ - _<_ - _;omega) ⟨rfl,rfl,rfl,rfl,trivial⟩ (fun w h=>h.msub ms)
 obtain rfl:k=x.stack.length:=by omega
 rw[if_neg (by rw[h2,jN.2 hno3];decide)] at hE
 subst hE
 refine bz (aD (aD (bO (am ?_))))
 refine ac<|aa<|rn 1 [4] rfl<|ae<|aq<|av kY (an rfl) ?_
 intro w hw
 exact⟨(),trivial,rfl,hw.msub ms⟩
end
end
section
theorem kL {n k:Nat} (hk:k<n):(List.range n).getD k 0=k:=by
 rw[List.getD_eq_getElem?_getD,List.getElem?_range hk]
 rfl
theorem Bw {l:List aO} {k n:Nat} (hk:k<l.length) (h:bK (bh l k).func 0 ((n:Int) - 1)=false):l.any (fun x=>!bK x.func 0 ((n:Int) - 1))=true:=List.any_eq_true.2 ⟨_,eU hk,by rw[h];rfl⟩
theorem yc {l:List aO} {n:Nat} (h:∀j,j<l.length→bK (bh l j).func 0 ((n:Int) - 1)=true):(¬l.any (fun x=>!bK x.func 0 ((n:Int) - 1))=true)∧∀x∈l,0≤x.func∧x.func<n:=by
 have h2:∀x∈l,bK x.func 0 ((n:Int) - 1)=true:=fun x hx=>by
  obtain⟨j,hj,rfl⟩:=List.getElem_of_mem hx
  have:=h j hj
  unfold bh at this
  rwa [List.getD_eq_getElem?_getD,List.getElem?_eq_getElem hj] at this
 refine⟨fun ha=>?_,fun x hx=>?_⟩
 ·obtain⟨x,hx,h3⟩:=List.any_eq_true.1 ha
  rw[h2 x hx] at h3
  cases h3
 have:=dv.1 (h2 x hx)
 omega
section
variable {B:Nat} {w0:World} {H:List a7}
set_option maxRecDepth 100000 in
set_option maxHeartbeats 4000000 in
theorem xx (gc:Nat) (a:MA) (m:aG) (Ap:Option Addr) (cp:Nat) (fs:List aA) (hs:bW w0 B (.slice Ap fs.length cp) fs) (hm:dQ B w0 a m) (hF:fp fs) (hfit:gz m.frames) (E:Int) (hE:jM fs m=E) (w:World) (hw:Cw B w0 (ak gc [.slice a.Af m.frames.length a.cf,.slice a.Ab m.blocks.length a.cb,.slice a.Ai m.inn.length a.ci,.slice a.Ao m.out.length a.co,.int .i64 m.status,.int .i64 m.trap,.slice Ap fs.length cp] 147::H) w) :
  Calls Tryz.prog 142 #[.pointer (some ⟨gc,0,none⟩)] w fun e w'=> ∃_:Unit,True∧e= .returned (.int .i64 E)∧Cw B w0 (ak gc [.slice a.Af m.frames.length a.cf,.slice a.Ab m.blocks.length a.cb,.slice a.Ai m.inn.length a.ci,.slice a.Ao m.out.length a.co,.int .i64 m.status,.int .i64 m.trap,.slice Ap fs.length cp] 147::H) w':=by
 have bf:=cn hm.f
 have bp:=cn hs
 unfold jM at hE
 refine bS Tryz.func142 rfl Tryz.ntmps142 rfl hw ?_
 refine ac<|aa<|rn 1 [0] rfl<|ae<|eb (fun _:Unit=> ¬6<m.frames.length∧¬(m.frames.length=0∧m.status≠2)∧¬(0<m.frames.length∧m.status=2)) (fun _=> [(0,.pointer (some ⟨gc,0,none⟩))]) (fun _=>ak gc [.slice a.Af m.frames.length a.cf,.slice a.Ab m.blocks.length a.cb,.slice a.Ai m.inn.length a.ci,.slice a.Ao m.out.length a.co,.int .i64 m.status,.int .i64 m.trap,.slice Ap fs.length cp] 147::H) ?_ ?_
 ·refine ac<|aa<|rn 4 [0,12] rfl<|af (aj fc bP rfl rfl (by rfl)) rfl rfl ?_
  refine af (aM aP rfl rfl) rfl rfl<|rn 1 [0,3] rfl<|ae<|aB<|ac<|aa<|rn 3 [0,3,15] rfl<|ae<|aw rfl (fun h6=>?_) (fun h6=>?_)
  ·rw[if_pos (by omega)] at hE
   subst hE
   refine ac<|aa<|rn 1 [2] rfl<|ae<|aq (aC (ai ?_))
   refine av jD (an rfl) ?_
   intro w hw
   exact⟨(),trivial,rfl,hw.msub ms⟩
  have h6:¬6<m.frames.length:=by omega
  rw[if_neg h6] at hE
  refine ac<|aa<|rn 3 [0,3,21] rfl<|bM (t:=21) rfl (fun h0=>?_) (fun h0=>?_)
  ·have h0:=of_decide_eq_true h0
   have h0:m.frames.length=0:=by omega
   refine rn 4 [0,3,21,25] rfl<|af (aj fc au rfl rfl (by rfl)) rfl rfl ?_
   refine rn 3 [0,3,18] rfl<|ae<|bY rfl (fun h2=>?_) (fun h2=>?_)
   ·rw[if_pos ⟨h0,h2⟩] at hE
    subst hE
    refine ac<|aa<|rn 1 [2] rfl<|ae<|aq (aC (ai ?_))
    refine av jD (an rfl) ?_
    intro w hw
    exact⟨(),trivial,rfl,hw.msub ms⟩
   refine ac<|aa<|rn 3 [0,32] rfl<|bM (t:=32) rfl (fun h3=>?_) (fun h3=>?_)
   ·have h3:=of_decide_eq_true h3
    exact absurd h3 (by omega)
   refine rn 8 [0,29] rfl<|ae<|bZ rfl<|ar (aH ?_)
   refine bq () (⟨h6,fun h=>h.2 h2,fun h=>by omega⟩) ⟨rfl,trivial⟩ (fun _ h=>h.msub ms)
  have h0:=of_decide_eq_false h0
  have h0:¬m.frames.length=0:=by omega
  rw[if_neg (fun h=>h0 h.1)] at hE
  refine rn 8 [0,3,18] rfl<|ae<|bZ rfl<|ac<|aa<|rn 3 [0,32] rfl<|bM (t:=32) rfl (fun h3=>?_) (fun h3=>?_)
  ·refine rn 4 [0,32,36] rfl<|af (aj fc au rfl rfl (by rfl)) rfl rfl ?_
   refine rn 3 [0,29] rfl<|ae<|aw rfl (fun h2=>?_) (fun h2=>?_)
   ·rw[if_pos ⟨by omega,h2⟩] at hE
    subst hE
    refine ac<|aa<|rn 1 [2] rfl<|ae<|aq (aC (ai ?_))
    refine av jD (an rfl) ?_
    intro w hw
    exact⟨(),trivial,rfl,hw.msub ms⟩
   refine ar (aH ?_)
   refine bq () (⟨h6,fun h=>h0 h.1,fun h=>h2 h.2⟩) ⟨rfl,trivial⟩ (fun _ h=>h.msub ms)
  have h3:=of_decide_eq_false h3
  exact absurd h3 (by omega)
 rintro⟨⟩ ⟨h1,h2,h3⟩
 rw[if_neg h1,if_neg h2,if_neg h3] at hE
 refine ac<|ac<|aa<|rn 4 [0,43] rfl<|af (aj fc bP rfl rfl (by rfl)) rfl rfl ?_
 refine af (aM aP rfl rfl) rfl rfl<|rn 1 [0,44,45,46] rfl<|ae<|aB (bI (fun k:Nat=>k≤m.frames.length∧∀j,j<k→bK (bh m.frames j).func 0 ((fs.length:Int) - 1)=true) (fun k=>m.frames.length - k) (fun k=> [(0,.pointer (some ⟨gc,0,none⟩)),(44,.slice a.Af m.frames.length a.cf),(45,.int .i64 (m.frames.length:Int)),(46,.int .i64 (k:Int))]) (fun _=>ak gc [.slice a.Af m.frames.length a.cf,.slice a.Ab m.blocks.length a.cb,.slice a.Ai m.inn.length a.ci,.slice a.Ao m.out.length a.co,.int .i64 m.status,.int .i64 m.trap,.slice Ap fs.length cp] 147::H) 0 (⟨Nat.zero_le _,fun _ h=>absurd h (Nat.not_lt_zero _)⟩) ⟨rfl,rfl,rfl,rfl,trivial⟩ (fun w h=>h.msub ms) ?_)
 rintro k hk'
 obtain⟨hk,hno⟩:k≤m.frames.length∧∀j,j<k→bK (bh m.frames j).func 0 ((fs.length:Int) - 1)=true:=hk'
 refine ac<|aa<|rn 1 [0,44,45,46,47] rfl<|ae<|ac<|aw rfl (fun hlt=>?_) (fun hlt=>?_)
 ·have hkl:k<m.frames.length:=by omega
  obtain⟨A1,c1,A2,c2,hl,hst,hI,hcell⟩:=hm.f.fr hkl
  refine ar (am ?_)
  refine ac<|aB<|ac<|aa<|af (aQ aP bn (.ro hm.f) (by omega) rfl rfl rfl) rfl rfl<|af (cY (hcell _) rfl rfl gK bn) rfl rfl<|ag (aS cP rfl rfl) rfl rfl (fun g1 _=>?_)
  refine ag (aJ _ fc bn rfl rfl rfl rfl rfl (by rfl) rfl (by rfl)) rfl rfl (fun _ _=>?_)
  refine ae<|ac<|cD (.still 0 (.still 1 (.still 2 (.still 3 (.still 4 (.still 5 (.still 6 (.still 7 (.still 8 (.pick 9 (.still 10 .done) .stop)))))))))) [] rfl (by kernel_rfl) (by kernel_rfl) ?_
  refine aU ha 1 [0,44,45,46,50] rfl<|ax rfl (aj fc au rfl rfl (by rfl)) rfl rfl ha ?_
  refine aU ha 4 [0,44,45,46,51,55] rfl<|ax rfl (aj fc cV rfl rfl (by rfl)) rfl rfl ha ?_
  refine ax rfl (aM bJ rfl rfl) rfl rfl ha ?_
  refine ax rfl (cH rfl rfl rfl (by omega)) rfl rfl ha ?_
  refine aK rfl (aY rfl rfl rfl wW (fun w hw=>jU (bh m.frames k).func 0 ((fs.length:Int) - 1) w)) rfl rfl (.inr fun _=>ha) (fun _ _=>?_) aE
  refine aU ha 1 [0,44,45,46,60] rfl<|cT<|cg rfl (fun hb=>?_) (fun hb=>?_)
  ·have hb:bK (bh m.frames k).func 0 ((fs.length:Int) - 1)=false:=by simpa using hb
   rw[if_pos (Bw hkl hb)] at hE
   subst hE
   refine ac<|aa<|rn 1 [2] rfl<|ae<|aq (aC (ai (ai (aC (ai ?_)))))
   refine av jD (an rfl) ?_
   intro w hw
   exact⟨(),trivial,rfl,hw.msub ms⟩
  have hb:bK (bh m.frames k).func 0 ((fs.length:Int) - 1)=true:=by simpa using hb
  refine ar (aH (am ?_))
  refine aa<|af (br rfl rfl rfl (by omega)) rfl rfl<|rn 1 [0,44,45,46] rfl<|a5 (k+1) (⟨by show k+1≤_;omega,fun j hj=>(Nat.lt_or_ge j k).elim (hno j) (fun h=>by obtain rfl:j=k:=(by omega);exact hb)⟩) (by show _ - _<_ - _;omega) ⟨rfl,rfl,rfl,rfl,trivial⟩ (fun w h=>h.msub ms)
 obtain rfl:k=m.frames.length:=by omega
 obtain⟨hany,hfn⟩:=yc hno
 rw[if_neg hany] at hE
 refine bz (aD (aD (bO (am ?_))))
 refine ac<|ac<|aa<|rn 4 [0,65] rfl<|af (aj fc bP rfl rfl (by rfl)) rfl rfl ?_
 refine af (aM aP rfl rfl) rfl rfl<|rn 1 [0,66,67,68] rfl<|ae<|aB (bI (fun k:Nat=>k≤m.frames.length∧(0<k→¬(0<m.frames.length∧(bh m.frames 0).func≠0))∧dX (eS fs m.blocks.length m.frames) ((List.range m.frames.length).take k)=0) (fun k=>m.frames.length - k) (fun k=> [(0,.pointer (some ⟨gc,0,none⟩)),(66,.slice a.Af m.frames.length a.cf),(67,.int .i64 (m.frames.length:Int)),(68,.int .i64 (k:Int))]) (fun _=>ak gc [.slice a.Af m.frames.length a.cf,.slice a.Ab m.blocks.length a.cb,.slice a.Ai m.inn.length a.ci,.slice a.Ao m.out.length a.co,.int .i64 m.status,.int .i64 m.trap,.slice Ap fs.length cp] 147::H) 0 (⟨Nat.zero_le _,fun h=>absurd h (Nat.not_lt_zero _),rfl⟩) ⟨rfl,rfl,rfl,rfl,trivial⟩ (fun w h=>h.msub ms) ?_)
 rintro k hk'
 obtain⟨hk,hz0,hno2⟩:k≤m.frames.length∧(0<k→¬(0<m.frames.length∧(bh m.frames 0).func≠0))∧dX (eS fs m.blocks.length m.frames) ((List.range m.frames.length).take k)=0:=hk'
 refine ac<|aa<|rn 1 [0,66,67,68,69] rfl<|ae<|ac<|aw rfl (fun hlt=>?_) (fun hlt=>?_)
 ·have hkl:k<m.frames.length:=by omega
  obtain⟨A1,c1,A2,c2,hl,hst,hI,hcell⟩:=hm.f.fr hkl
  refine ar (am ?_)
  refine ac<|aB<|ac<|aa<|rn 1 [0,66,67,68,70] rfl<|af (aQ aP bn (.ro hm.f) (by omega) rfl rfl rfl) rfl rfl<|af (cY (hcell _) rfl rfl gK bn) rfl rfl<|ag (aS cP rfl rfl) rfl rfl (fun g2 _=>?_)
  refine rn 1 [0,6,7,66,67,68,72] rfl<|ag (aJ _ fc bn rfl rfl rfl rfl rfl (by rfl) rfl (by rfl)) rfl rfl (fun _ _=>?_)
  refine ae<|ac<|ac<|aa<|rn 3 [0,6,7,66,67,68,75] rfl<|bM (t:=75) rfl (fun hz=>?_) (fun hz=>?_)
  ·have hz:=of_decide_eq_true hz
   obtain rfl:k=0:=by omega
   refine rn 1 [0,6,66,67,68,75,76] rfl<|af (aj fc au rfl rfl (by rfl)) rfl rfl ?_
   refine rn 2 [0,6,66,67,68,79] rfl<|ae<|bY rfl (fun hf=>?_) (fun hf=>?_)
   ·rw[if_pos ⟨hkl,hf⟩] at hE
    subst hE
    refine ac<|aa<|rn 1 [2] rfl<|ae<|aq (ai (aC (ai (ai (aC (ai ?_))))))
    refine av jD (an rfl) ?_
    intro w hw
    exact⟨(),trivial,rfl,hw.msub ms⟩
   have h0:¬(0<m.frames.length∧(bh m.frames 0).func≠0):=fun h=>h.2 hf
   refine ar (am ?_)
   refine ac<|aa<|rn 2 [0,66,67,68,80,81] rfl<|ag (bg rfl rfl rfl Tryz.call180 (fun w hw=>sI gc a m Ap cp fs hs hm hF hfit 0 hkl hfn _ rfl w (hw.msub (.s fc .r)))) rfl rfl (fun _ _=>?_)
   refine rn 1 [0,8,66,67,68] rfl<|ae<|ac<|aa<|rn 2 [0,8,66,67,68,84] rfl<|ae<|bY rfl (fun he=>?_) (fun he=>?_)
   ·have he:eS fs m.blocks.length m.frames 0≠0:=he
    have hsn:=iF (g:=eS fs m.blocks.length m.frames) (l:=List.range m.frames.length) 0 (by rw[List.length_range];exact hkl) hno2
    rw[kL hkl] at hsn
    rw[if_neg h0,lI (k:=0+1) (by rw[hsn];exact he),hsn] at hE
    subst hE
    refine ac<|aa<|rn 2 [2] rfl<|ae<|aq (aC (ai (ai (aC (ai ?_)))))
    refine av jD (an rfl) ?_
    intro w hw
    exact⟨(),trivial,rfl,hw.msub ms⟩
   have he:eS fs m.blocks.length m.frames 0=0:=he
   have hsn:=iF (g:=eS fs m.blocks.length m.frames) (l:=List.range m.frames.length) 0 (by rw[List.length_range];exact hkl) hno2
   rw[kL hkl,he] at hsn
   refine ar (aH (am ?_))
   refine aa<|af (br rfl rfl rfl (by omega)) rfl rfl<|rn 1 [0,66,67,68] rfl<|a5 1 (⟨by show 1≤_;omega,fun _=>h0,hsn⟩) (by show _ - _<_ - _;omega) ⟨rfl,rfl,rfl,rfl,trivial⟩ (fun w h=>h.msub ms)
  have hz:=of_decide_eq_false hz
  have h0:=hz0 (by omega)
  refine rn 4 [0,6,66,67,68,79] rfl<|ae<|bZ rfl<|ar (am ?_)
  refine ac<|aa<|rn 2 [0,66,67,68,80,81] rfl<|ag (bg rfl rfl rfl Tryz.call180 (fun w hw=>sI gc a m Ap cp fs hs hm hF hfit k hkl hfn _ rfl w (hw.msub (.s fc .r)))) rfl rfl (fun _ _=>?_)
  refine rn 1 [0,8,66,67,68] rfl<|ae<|ac<|aa<|rn 2 [0,8,66,67,68,84] rfl<|ae<|bY rfl (fun he=>?_) (fun he=>?_)
  ·have he:eS fs m.blocks.length m.frames k≠0:=he
   have hsn:=iF (g:=eS fs m.blocks.length m.frames) (l:=List.range m.frames.length) 0 (by rw[List.length_range];exact hkl) hno2
   rw[kL hkl] at hsn
   rw[if_neg h0,lI (k:=k+1) (by rw[hsn];exact he),hsn] at hE
   subst hE
   refine ac<|aa<|rn 2 [2] rfl<|ae<|aq (aC (ai (ai (aC (ai ?_)))))
   refine av jD (an rfl) ?_
   intro w hw
   exact⟨(),trivial,rfl,hw.msub ms⟩
  have he:eS fs m.blocks.length m.frames k=0:=he
  have hsn:=iF (g:=eS fs m.blocks.length m.frames) (l:=List.range m.frames.length) 0 (by rw[List.length_range];exact hkl) hno2
  rw[kL hkl,he] at hsn
  refine ar (aH (am ?_))
  refine aa<|af (br rfl rfl rfl (by omega)) rfl rfl<|rn 1 [0,66,67,68] rfl<|a5 (k+1) (⟨by show k+1≤_;omega,fun _=>h0,hsn⟩) (by show _ - _<_ - _;omega) ⟨rfl,rfl,rfl,rfl,trivial⟩ (fun w h=>h.msub ms)
 obtain rfl:k=m.frames.length:=by omega
 rw[List.take_of_length_le (by rw[List.length_range];exact Nat.le_refl _)] at hno2
 have h0:¬(0<m.frames.length∧(bh m.frames 0).func≠0):=fun h=>hz0 h.1 h
 rw[if_neg h0,hno2] at hE
 subst hE
 refine bz (aD (aD (bO (am ?_))))
 refine ac<|aa<|rn 1 [2] rfl<|ae<|aq<|av jD (an rfl) ?_
 intro w hw
 exact⟨(),trivial,rfl,hw.msub ms⟩
end
end
section
set_option maxRecDepth 100000 in
theorem Bb (n:Int) (w:World):Calls Tryz.prog 179 #[.int .i64 n] w fun e w'=>e= .returned (.bool (!cF n))∧Below w.heap.size w w':=by
 refine enter Tryz.func179 rfl Tryz.ntmps179 rfl ?_
 refine ac<|aa<|rn 1 [0] rfl<|ae<|ac<|aa<|rn 1 [3] rfl<|ag (aY rfl rfl rfl Tryz.call93 ((fun w hw=>fm ((fun w hw=>qm n w) w hw)))) rfl rfl (fun _ _=>?_)
 refine rn 2 [2] rfl<|ae<|aq<|av Tryz.results179 (an rfl) ?_
 intro w hw
 exact⟨rfl,hw.below⟩
set_option maxRecDepth 100000 in
theorem vN (A:Option Addr) (c:Nat) (l:List Int) (w:World) (hs:Sl w (.slice A l.length c) l):Calls Tryz.prog 141 #[.slice A l.length c] w fun e w'=>e= .returned (.bool (dk l))∧Below w.heap.size w w':=by
 refine enter Tryz.func141 rfl Tryz.ntmps141 rfl ?_
 refine ac<|aa<|rn 1 [0] rfl<|ae<|ac<|aa<|rn 1 [3] rfl<|ag (aY rfl rfl rfl Iw (fun w hw=>pM A c l 179 #[] (fun n=>!cF n) w (hw.ro hs) Tryz.call179 (fun w1 _ x _=>Bb x w1))) rfl rfl (fun _ _=>?_)
 refine rn 1 [2] rfl<|ae<|aq<|av Tryz.results141 (an rfl) ?_
 intro w hw
 exact⟨rfl,hw.below⟩
theorem Dh (m:aG):gT m=bh m.frames (m.frames.length - 1):=by
 unfold gT bh
 rw[List.getLastD_eq_getLast?,List.getLast?_eq_getElem?,List.getD_eq_getElem?_getD]
section
variable {B:Nat} {w0:World} {H:List a7}
set_option maxRecDepth 100000 in
set_option maxHeartbeats 4000000 in
theorem wv (gc:Nat) (a:MA) (m:aG) (Ap:Option Addr) (cp:Nat) (fs:List aA) (hs:bW w0 B (.slice Ap fs.length cp) fs) (hm:dQ B w0 a m) (hF:fp fs) (hfit:gz m.frames) (E:Int) (hE:ja fs m=E) (w:World) (hw:Cw B w0 (ak gc [.slice a.Af m.frames.length a.cf,.slice a.Ab m.blocks.length a.cb,.slice a.Ai m.inn.length a.ci,.slice a.Ao m.out.length a.co,.int .i64 m.status,.int .i64 m.trap,.slice Ap fs.length cp] 147::H) w) :
  Calls Tryz.prog 106 #[.pointer (some ⟨gc,0,none⟩)] w fun e w'=> ∃_:Unit,True∧e= .returned (.int .i64 E)∧Cw B w0 (ak gc [.slice a.Af m.frames.length a.cf,.slice a.Ab m.blocks.length a.cb,.slice a.Ai m.inn.length a.ci,.slice a.Ao m.out.length a.co,.int .i64 m.status,.int .i64 m.trap,.slice Ap fs.length cp] 147::H) w':=by
 have bf:=cn hm.f
 have bp:=cn hs
 unfold ja at hE
 refine bS Tryz.func106 rfl Tryz.ntmps106 rfl hw ?_
 refine ac<|aa<|rn 1 [0] rfl<|ae<|ac<|aa<|rn 2 [0,3,4] rfl<|ae<|eb (fun _:Unit=>True) (fun _=> [(0,.pointer (some ⟨gc,0,none⟩)),(3,.int .i64 (if m.status=3 then 1 else 0)),(4,.int .i64 (if m.status=3 then 5 else 0))]) (fun _=>ak gc [.slice a.Af m.frames.length a.cf,.slice a.Ab m.blocks.length a.cb,.slice a.Ai m.inn.length a.ci,.slice a.Ao m.out.length a.co,.int .i64 m.status,.int .i64 m.trap,.slice Ap fs.length cp] 147::H) ?_ ?_
 ·refine ac<|aa<|rn 4 [0,3,4,11] rfl<|af (aj fc au rfl rfl (by rfl)) rfl rfl ?_
  refine rn 1 [0,3,4,13] rfl<|ae<|aw rfl (fun h3=>?_) (fun h3=>?_)
  ·rw[if_pos h3,if_pos h3]
   refine aa<|rn 2 [0,3,4] rfl<|gC () (trivial) ⟨rfl,rfl,rfl,trivial⟩ (fun _ h=>h.msub ms)
  rw[if_neg h3,if_neg h3]
  refine ar<|bq () (trivial) ⟨rfl,rfl,rfl,trivial⟩ (fun _ h=>h.msub ms)
 rintro⟨⟩ _
 refine ac<|aB<|ac<|aa<|rn 4 [0,3,4,18] rfl<|af (aj fc au rfl rfl (by rfl)) rfl rfl ?_
 refine ag (aY rfl rfl rfl wW (fun w hw=>jU m.status 0 3 w)) rfl rfl (fun _ _=>?_)
 refine rn 2 [0,3,4,14] rfl<|ae<|cg rfl (fun h1=>?_) (fun h1=>?_)
 ·rw[if_pos (by simpa using h1)] at hE
  subst hE
  refine ac<|aa<|rn 1 [2] rfl<|ae<|aq (aC (ai ?_))
  refine av fP (an rfl) ?_
  intro w hw
  exact⟨(),trivial,rfl,hw.msub ms⟩
 rw[if_neg (by simpa using h1)] at hE
 refine ac<|aa<|rn 4 [0,3,4,26] rfl<|af (aj fc au rfl rfl (by rfl)) rfl rfl ?_
 refine rn 2 [0,27,28,29] rfl<|ag (aY rfl rfl rfl wW (fun w hw=>jU m.trap _ _ w)) rfl rfl (fun _ _=>?_)
 refine rn 2 [0,22] rfl<|ae<|cg rfl (fun h2=>?_) (fun h2=>?_)
 ·rw[if_pos (by simpa using h2)] at hE
  subst hE
  refine ac<|aa<|rn 1 [2] rfl<|ae<|aq (aC (ai ?_))
  refine av fP (an rfl) ?_
  intro w hw
  exact⟨(),trivial,rfl,hw.msub ms⟩
 rw[if_neg (by simpa using h2)] at hE
 refine ar (aH (am ?_))
 refine ac<|ac<|aa<|rn 4 [0,35] rfl<|af (aj fc dS rfl rfl (by rfl)) rfl rfl ?_
 refine ag (aY rfl rfl rfl Tryz.call140 (fun w hw=>zp _ m.blocks w (hw.ro hm.b))) rfl rfl (fun _ _=>?_)
 refine rn 1 [0,5] rfl<|ae<|ac<|aa<|rn 2 [0,5,39] rfl<|ae<|bY rfl (fun h3=>?_) (fun h3=>?_)
 ·rw[if_pos h3] at hE
  subst hE
  refine ac<|aa<|rn 2 [2] rfl<|ae<|aq (ai ?_)
  refine av fP (an rfl) ?_
  intro w hw
  exact⟨(),trivial,rfl,hw.msub ms⟩
 rw[if_neg (fun h=>h h3)] at hE
 refine ar (am ?_)
 refine eb (fun _:Unit=>(¬(10<m.inn.length∨10<m.out.length))∧¬(dk m.inn=true∨dk m.out=true)) (fun _=> [(0,.pointer (some ⟨gc,0,none⟩))]) (fun _=>ak gc [.slice a.Af m.frames.length a.cf,.slice a.Ab m.blocks.length a.cb,.slice a.Ai m.inn.length a.ci,.slice a.Ao m.out.length a.co,.int .i64 m.status,.int .i64 m.trap,.slice Ap fs.length cp] 147::H) ?_ ?_
 ·refine aB<|ac<|aa<|rn 4 [0,45] rfl<|af (aj fc aW rfl rfl (by rfl)) rfl rfl ?_
  refine af (aM ah rfl rfl) rfl rfl<|rn 2 [0,49] rfl<|bM (t:=49) rfl (fun h4=>?_) (fun h4=>?_)
  ·have h4:=of_decide_eq_true h4
   rw[if_pos (.inl (by omega))] at hE
   subst hE
   refine rn 9 [0,41] rfl<|ae<|bA rfl<|ac<|aa<|rn 1 [2] rfl<|ae<|aq (aC (ai ?_))
   refine av fP (an rfl) ?_
   intro w hw
   exact⟨(),trivial,rfl,hw.msub ms⟩
  have h4:=of_decide_eq_false h4
  refine rn 4 [0,49,53] rfl<|af (aj fc aW rfl rfl (by rfl)) rfl rfl ?_
  refine af (aM ah rfl rfl) rfl rfl<|rn 3 [0,41] rfl<|ae<|aw rfl (fun h5=>?_) (fun h5=>?_)
  ·rw[if_pos (.inr (by omega))] at hE
   subst hE
   refine ac<|aa<|rn 1 [2] rfl<|ae<|aq (aC (ai ?_))
   refine av fP (an rfl) ?_
   intro w hw
   exact⟨(),trivial,rfl,hw.msub ms⟩
  have h45:¬(10<m.inn.length∨10<m.out.length):=by omega
  rw[if_neg h45] at hE
  refine ac<|aa<|rn 4 [0,62] rfl<|af (aj fc aW rfl rfl (by rfl)) rfl rfl ?_
  refine ag (aY rfl rfl rfl Tryz.call141 (fun w hw=>vN a.Ai a.ci m.inn w (hw.ro hm.i))) rfl rfl (fun _ _=>?_)
  refine rn 1 [0,65] rfl<|bM (t:=65) rfl (fun h6=>?_) (fun h6=>?_)
  ·rw[if_pos (.inl h6)] at hE
   subst hE
   refine rn 8 [0,58] rfl<|ae<|bA rfl<|ac<|aa<|rn 1 [2] rfl<|ae<|aq (aC (ai ?_))
   refine av fP (an rfl) ?_
   intro w hw
   exact⟨(),trivial,rfl,hw.msub ms⟩
  refine rn 4 [0,65,69] rfl<|af (aj fc aW rfl rfl (by rfl)) rfl rfl ?_
  refine ag (aY rfl rfl rfl Tryz.call141 (fun w hw=>vN a.Ao a.co m.out w (hw.ro hm.o))) rfl rfl (fun _ _=>?_)
  refine rn 2 [0,58] rfl<|ae<|cg rfl (fun h7=>?_) (fun h7=>?_)
  ·rw[if_pos (.inr h7)] at hE
   subst hE
   refine ac<|aa<|rn 1 [2] rfl<|ae<|aq (aC (ai ?_))
   refine av fP (an rfl) ?_
   intro w hw
   exact⟨(),trivial,rfl,hw.msub ms⟩
  have h67:¬(dk m.inn=true∨dk m.out=true):=by rw[h6,h7];simp
  refine ar (aH ?_)
  refine bq () (⟨h45,h67⟩) ⟨rfl,trivial⟩ (fun _ h=>h.msub ms)
 rintro⟨⟩ ⟨h4,h5⟩
 rw[if_neg h4,if_neg h5] at hE
 refine ac<|ac<|aa<|rn 1 [0,73] rfl<|ag (bg rfl rfl rfl Tryz.call142 (fun w hw=>xx gc a m Ap cp fs hs hm hF hfit _ rfl w (hw.msub (.s fc .r)))) rfl rfl (fun _ _=>?_)
 refine rn 1 [0,6] rfl<|ae<|ac<|aa<|rn 2 [0,6,76] rfl<|ae<|bY rfl (fun h6=>?_) (fun h6=>?_)
 ·rw[if_pos h6] at hE
  subst hE
  refine ac<|aa<|rn 2 [2] rfl<|ae<|aq (ai ?_)
  refine av fP (an rfl) ?_
  intro w hw
  exact⟨(),trivial,rfl,hw.msub ms⟩
 rw[if_neg (fun h=>h h6)] at hE
 refine ar (am ?_)
 refine ac<|ac<|aa<|rn 4 [0,81] rfl<|af (aj fc au rfl rfl (by rfl)) rfl rfl ?_
 refine rn 1 [0,83] rfl<|ae<|bY rfl (fun h7=>?_) (fun h7=>?_)
 ·rw[if_pos h7] at hE
  subst hE
  refine ac<|aa<|rn 1 [2] rfl<|ae<|aq (ai ?_)
  refine av fP (an rfl) ?_
  intro w hw
  exact⟨(),trivial,rfl,hw.msub ms⟩
 rw[if_neg (fun h=>h h7)] at hE
 obtain⟨_,hdn,hfn,_,hfr⟩:=nm.1 h6
 have hne:m.frames.length≠0:=fun h=>by
  have:=hdn.1 (List.eq_nil_of_length_eq_zero h)
  omega
 obtain⟨k,hk⟩:∃k,m.frames.length=k+1:=⟨m.frames.length - 1,by omega⟩
 have hkl:k<m.frames.length:=by omega
 obtain⟨A1,c1,A2,c2,hl,hst,hI,hcell⟩:=hm.f.fr hkl
 have hx:=hfn _ (eU hkl)
 obtain⟨kf,hkf⟩:∃kf:Nat,(bh m.frames k).func=kf:=⟨(bh m.frames k).func.toNat,by omega⟩
 have hkfl:kf<fs.length:=by omega
 obtain⟨F1,d1,F2,d2,hfl,hfc,hfi,hfcell⟩:=hs.fn hkfl
 obtain⟨t,ht,_⟩:=hfr k hkl
 unfold gQ ik at ht
 rw[if_pos hk.symm,hkf,Int.toNat_natCast] at ht
 obtain⟨hp0,hp1,_⟩:=(hF.e _ hkfl).at_ _ _ ht
 have hop:cJ fs m=bG (az fs kf).code (bh m.frames k).pc.toNat:=by
  unfold cJ
  rw[Dh,hk,Nat.add_sub_cancel,hkf,Int.toNat_natCast]
 rw[hop] at hE
 rw[hkf] at hcell
 refine ar (am ?_)
 refine ac<|cD (.still 0 (.still 1 (.still 2 (.still 3 (.still 4 (.still 5 (.still 6 (.still 7 (.still 8 (.still 9 (.still 10 (.still 11 (.still 12 (.still 13 (.pick 14 (.pick 15 .done .stop) .stop))))))))))))))) [15] rfl (by kernel_rfl) (by kernel_rfl) ?_
 refine aU ha 4 [0,87] rfl<|ax rfl (aj fc bP rfl rfl (by rfl)) rfl rfl ha ?_
 refine aU ha 4 [0,88,92] rfl<|ax rfl (aj fc bP rfl rfl (by rfl)) rfl rfl ha ?_
 refine ax rfl (aM aP rfl rfl) rfl rfl ha ?_
 refine ax rfl (cH rfl rfl rfl (by omega)) rfl rfl ha ?_
 refine eq (t:=95) (v':= .int .i64 (k:Int)) rfl (by rw[hk];congr 1;omega) ?_
 refine ax rfl (aQ (k:=k) aP bn (.ro hm.f) hkl rfl rfl rfl) rfl rfl ha ?_
 refine ax rfl (cY (hcell _) rfl rfl gK bn) rfl rfl ha ?_
 refine aK rfl (aS cP rfl rfl) rfl rfl (.inr fun _=>ha) (fun g1 _=>?_) aE
 refine aK rfl (aJ _ fc bn rfl rfl rfl rfl rfl (by rfl) rfl (by rfl)) rfl rfl (.inl rfl) (fun _ _=>?_) aE
 refine cT<|ac<|ac<|cD (.still 0 (.still 1 (.still 2 (.still 3 (.still 4 (.still 5 (.still 6 (.still 7 (.still 8 (.still 9 (.still 10 (.still 11 (.still 12 (.still 13 (.still 14 (.still 15 (.still 16 (.still 17 (.still 18 (.still 19 (.still 20 (.still 21 (.still 22 (.still 23 (.still 24 .done))))))))))))))))))))))))) [] rfl (by kernel_rfl) (by kernel_rfl) ?_
 refine aU ha 4 [0,7,101] rfl<|ax rfl (aj fc aW rfl rfl (by rfl)) rfl rfl ha ?_
 refine ax rfl (aM ah rfl rfl) rfl rfl ha ?_
 refine aU ha 2 [0,7,105] rfl<|mA (t:=105) rfl (fun h8=>?_) (fun h8=>?_)
 ·have h8:=of_decide_eq_true h8
  rw[if_pos (.inl (by omega))] at hE
  subst hE
  refine aU ha 17 [122] rfl<|cT<|bA rfl<|ac<|aa<|rn 1 [2] rfl<|ae<|aq (ai ?_)
  refine av fP (an rfl) ?_
  intro w hw
  exact⟨(),trivial,rfl,hw.msub ms⟩
 have h8:=of_decide_eq_false h8
 refine aU ha 4 [7,105,109] rfl<|ax rfl (aj fc cV rfl rfl (by rfl)) rfl rfl ha ?_
 refine aU ha 1 [7,105,110,111] rfl<|ax rfl (aj fc au rfl rfl (by rfl)) rfl rfl ha ?_
 refine ax rfl (aQ (k:=kf) bJ bD (.ro hs) (by omega) rfl rfl rfl) rfl rfl ha ?_
 refine aU ha 1 [7,105,114] rfl<|ax rfl (a8 (fun w hw=>hfcell _ w hw 3 _ rfl) rfl rfl dB) rfl rfl ha ?_
 refine aU ha 1 [105,115,116] rfl<|ax rfl (aj fc au rfl rfl (by rfl)) rfl rfl ha ?_
 refine ax rfl (fy bw cG (.ro hfc) (by omega) rfl rfl rfl) rfl rfl ha ?_
 refine aU ha 1 [105,119] rfl<|ax rfl (a8 (SF.opc (.ro hfc) (by omega)) rfl rfl au) rfl rfl ha ?_
 refine aU ha 2 [122] rfl<|cT<|bY rfl (fun h9=>?_) (fun h9=>?_)
 ·rw[if_pos (.inr h9)] at hE
  subst hE
  refine ac<|aa<|rn 1 [2] rfl<|ae<|aq (ai ?_)
  refine av fP (an rfl) ?_
  intro w hw
  exact⟨(),trivial,rfl,hw.msub ms⟩
 have h9:(bG (az fs kf).code (bh m.frames k).pc.toNat).c=21:=h9
 rw[if_neg (fun h=>h.elim (fun h=>h8 (by omega)) (fun h=>h h9))] at hE
 subst hE
 refine ar (am ?_)
 refine ac<|aa<|rn 1 [2] rfl<|ae<|aq<|av fP (an rfl) ?_
 intro w hw
 exact⟨(),trivial,rfl,hw.msub ms⟩
end
set_option maxRecDepth 100000 in
set_option maxHeartbeats 1000000 in
theorem rZ (Ap:Option Addr) (cp:Nat) (fs:List aA) (a:MA) (m:aG) (w:World) (hs:Sl w (.slice Ap fs.length cp) fs) (hm:dQ w.heap.size w a m) (hF:fp fs) (hfit:gz m.frames) :
  Calls Tryz.prog 57 #[.agg #[.slice Ap fs.length cp],.agg #[.slice a.Af m.frames.length a.cf,.slice a.Ab m.blocks.length a.cb,.slice a.Ai m.inn.length a.ci,.slice a.Ao m.out.length a.co,.int .i64 m.status,.int .i64 m.trap]] w fun e w'=>e= .returned (.int .i64 (ja fs m))∧Below w.heap.size w w':=by
 refine enter Tryz.func57 rfl Tryz.ntmps57 rfl ?_
 refine ac<|aa<|ag (bH rfl rfl rfl) rfl rfl (fun g1 _=>?_)
 refine ag (bH rfl rfl rfl) rfl rfl (fun g2 _=>?_)
 refine rn 1 [2,3] rfl<|ae<|ac<|aa<|af (aN (vs:= [_,_,_,_,_,_]) fc aT ay rfl rfl (by rfl) rfl) rfl rfl ?_
 refine af (aN (vs:= [_]) fc bQ bB rfl rfl (by rfl) rfl) rfl rfl ?_
 refine af (bN (cs:= [_,_,_,_,_,_,_]) FY Tryz.zeroValue147 rfl rfl (by rfl)) rfl rfl ?_
 refine ag (bH rfl rfl rfl) rfl rfl (fun g3 _=>?_)
 refine rn 1 [5] rfl<|ae<|ac<|aa<|rn 1 [10] rfl<|ag (bg rfl rfl rfl Tryz.call106 (fun w hw=>wv g3 a m Ap cp fs hs hm hF hfit _ rfl w (hw.msub (.s fc .r)))) rfl rfl (fun _ _=>?_)
 refine rn 1 [4] rfl<|ae<|aq<|av Tryz.results57 (an rfl) ?_
 intro w hw
 exact⟨rfl,hw.below⟩
set_option maxRecDepth 100000 in
set_option maxHeartbeats 1000000 in
theorem jI (Ap:Option Addr) (cp:Nat) (fs:List aA) (a:MA) (m:aG) (w:World) (hs:Sl w (.slice Ap fs.length cp) fs) (hm:dQ w.heap.size w a m) (hfit:gz m.frames) :
  Calls Tryz.prog 27 #[.agg #[.slice Ap fs.length cp],.agg #[.slice a.Af m.frames.length a.cf,.slice a.Ab m.blocks.length a.cb,.slice a.Ai m.inn.length a.ci,.slice a.Ao m.out.length a.co,.int .i64 m.status,.int .i64 m.trap]] w fun e w'=>e= .returned (.int .i64 (cQ fs m))∧Below w.heap.size w w':=by
 obtain⟨E,hE⟩:∃E,cQ fs m=E:=⟨_,rfl⟩
 rw[hE]
 unfold cQ at hE
 refine enter Tryz.func27 rfl Tryz.ntmps27 rfl ?_
 refine ac<|aa<|ag (bH rfl rfl rfl) rfl rfl (fun g1 _=>?_)
 refine ag (bH rfl rfl rfl) rfl rfl (fun g2 _=>?_)
 refine rn 1 [2,3] rfl<|ae<|ac<|ac<|aa<|af (aN (vs:= [_]) fc bQ bB rfl rfl (by rfl) rfl) rfl rfl ?_
 refine ag (aY rfl rfl rfl IS (fun w hw=>pe Ap cp fs w (hw.ro hs))) rfl rfl (fun _ _=>?_)
 refine rn 1 [2,3,5] rfl<|ae<|ac<|aa<|rn 2 [2,3,5,9] rfl<|ae<|bY rfl (fun h=>?_) (fun h=>?_)
 ·rw[if_pos h] at hE
  subst hE
  refine ac<|aa<|rn 2 [4] rfl<|ae<|aq (ai ?_)
  refine av Tryz.results27 (an rfl) ?_
  intro w hw
  exact⟨rfl,hw.below⟩
 have h:dw fs=0:=h
 rw[if_neg (fun h'=>h' h)] at hE
 subst hE
 refine ar (am ?_)
 refine ac<|aa<|af (aN (vs:= [_]) fc bQ bB rfl rfl (by rfl) rfl) rfl rfl ?_
 refine af (aN (vs:= [_,_,_,_,_,_]) fc aT ay rfl rfl (by rfl) rfl) rfl rfl ?_
 refine ag (aY rfl rfl rfl Tryz.call57 (fun w hw=>rZ Ap cp fs a m w (hw.ro hs) (dQ.ro hw hm) (nn h) hfit)) rfl rfl (fun _ _=>?_)
 refine rn 1 [4] rfl<|ae<|aq<|av Tryz.results27 (an rfl) ?_
 intro w hw
 exact⟨rfl,hw.below⟩
end
section
theorem tK {B:Nat} {w:World} {Ap:Option Addr} {cp:Nat} {fs:List aA} (hs:bW w B (.slice Ap fs.length cp) fs) (hF:fp fs) {m:aG} (hR:du fs m) (hst:¬(m.status=2∨m.status=3)):∃li x kf,wK fs m li x kf:=by
 have hne:m.frames≠[]:=fun e=>hst (.inl (hR.dn.1 e))
 obtain⟨li,x,e⟩:∃li x,m.frames=li++ [x]:=by
  rcases List.eq_nil_or_concat m.frames with h1 | ⟨l,z,h1⟩
  ·exact absurd h1 hne
  exact⟨l,z,by rw[h1];simp⟩
 obtain⟨hfn,hloc,t,he,hts⟩:=hR.top e
 obtain⟨kf,hkf⟩:∃kf:Nat,x.func=kf:=⟨x.func.toNat,by omega⟩
 rw[hkf,Int.toNat_natCast] at he hloc
 have hkl:kf<fs.length:=by omega
 obtain⟨hp0,hp1,ht8,_⟩:=(hF.e _ hkl).at_ _ _ he
 obtain⟨hok,_⟩:=iL hF.p hkl
 obtain⟨F1,d1,F2,d2,hfl,hfc,hfi,hfcell⟩:=hs.fn hkl
 have hn6:=hR.n6
 rw[e,List.length_append,List.length_singleton] at hn6
 refine⟨li,x,kf,e,hkf,hkl,⟨hp0,hp1⟩,CU hF hkl (x:= {x with pc:=x.pc+1}) hkf he hts hloc.len,hR.bl,by rw[hts.len];omega,fun y hy=>?_,by have:=hR.ob;omega,by omega,(vH hfc (by omega)).2,by have:=hok.n40;omega⟩
 obtain⟨i,hi,rfl⟩:=List.getElem_of_mem hy
 obtain⟨u,hu,_,hus⟩:=hR.fr i (by rw[e,List.length_append];omega)
 have hfi2:bh m.frames i=li[i]:=by
  rw[e,fY hi]
  unfold bh
  rw[List.getD_eq_getElem?_getD,List.getElem?_eq_getElem hi]
  rfl
 rw[hfi2] at hus
 rw[hus.len]
 have hz:=hR.fn _ (eU (l:=m.frames) (k:=i) (by rw[e,List.length_append];omega))
 have hkz:(bh m.frames i).func.toNat<fs.length:=by omega
 unfold gQ ik at hu
 split at hu
 ·have:=((hF.e _ hkz).at_ _ _ hu).2.2.1
  omega
 split at hu
 ·cases hu
 split at hu
 ·cases hu
 cases h5:eA fs (az fs (bh m.frames i).func.toNat) (bh m.frames i).pc with
 | none=>rw[h5] at hu;cases hu
 | some t2=>
  rw[h5] at hu
  have hu:(if (az fs (bh m.frames (i+1)).func.toNat).result≠0 then t2.dropLast else t2)=u:=Option.some.inj hu
  have:=((hF.e _ hkz).at_ _ _ h5).2.2.1
  rw[←hu]
  split
  ·rw[List.length_dropLast];omega
  omega
theorem px {fs:List aA} (hF:fp fs):0<fs.length:=by
 have:=(iH hF.p).1
 omega
theorem rp {fs:List aA} (hF:fp fs) {m:aG} (hR:du fs m) {i:Nat} (hi:i<m.frames.length):(bh m.frames i).stack.length≤8∧(bh m.frames i).locals.length≤1000:=by
 obtain⟨u,hu,hul,hus⟩:=hR.fr i hi
 have hz:=hR.fn _ (eU hi)
 have hkz:(bh m.frames i).func.toNat<fs.length:=by omega
 rw[hus.len,hul.len]
 have hn40:=((iL hF.p (px hF)).1.op 0 (iL hF.p (px hF)).2).par _ hkz |>.2
 refine⟨?_,by unfold ik;omega⟩
 unfold gQ ik at hu
 split at hu
 ·have:=((hF.e _ hkz).at_ _ _ hu).2.2.1
  omega
 split at hu
 ·cases hu
 split at hu
 ·cases hu
 cases h5:eA fs (az fs (bh m.frames i).func.toNat) (bh m.frames i).pc with
 | none=>rw[h5] at hu;cases hu
 | some t2=>
  rw[h5] at hu
  have hu:(if (az fs (bh m.frames (i+1)).func.toNat).result≠0 then t2.dropLast else t2)=u:=Option.some.inj hu
  have:=((hF.e _ hkz).at_ _ _ h5).2.2.1
  rw[←hu]
  split
  ·rw[List.length_dropLast];omega
  omega
theorem nZ {fs:List aA} (hF:fp fs) {m:aG} (hR:du fs m):DQ m:=by
 refine⟨⟨by have:=hR.n6;omega,fun x hx=>?_⟩,qP.of_check hR.bl,by have:=hR.ib;omega,by have:=hR.ob;omega⟩
 obtain⟨i,hi,rfl⟩:=List.getElem_of_mem hx
 have h:=rp hF hR hi
 have e:bh m.frames i=m.frames[i]:=by
  unfold bh
  rw[List.getD_eq_getElem?_getD,List.getElem?_eq_getElem hi]
  rfl
 rw[e] at h
 omega
def jQ (fs:List aA):aG:=⟨[⟨0,0,dM (az fs 0).locals,[]⟩],[],[],[],0,0⟩
def nJ (fs:List aA):aG:=if dw fs=0 then jQ fs else default
def lW (fs:List aA) (m:aG):aG:=if cQ fs m=0 then dF fs m else default
theorem oC {fs:List aA} (h:dw fs=0):0<fs.length:=by
 have:=(iH (nn h).p).1
 omega
set_option maxRecDepth 100000 in
set_option maxHeartbeats 1000000 in
theorem CZ (Ap:Option Addr) (cp:Nat) (fs:List aA) (w:World) (hs:Sl w (.slice Ap fs.length cp) fs) (h0:0<fs.length) (hl6:(az fs 0).locals.length≤1000) :
  Calls Tryz.prog 72 #[.agg #[.slice Ap fs.length cp]] w fun e w'=> ∃g:MA,True∧
   e= .returned (.agg #[.slice g.Af (jQ fs).frames.length g.cf,.slice g.Ab (jQ fs).blocks.length g.cb,.slice g.Ai (jQ fs).inn.length g.ci,.slice g.Ao (jQ fs).out.length g.co,.int .i64 (jQ fs).status,.int .i64 (jQ fs).trap])∧
   Cw w.heap.size w [ap (.slice g.Af (jQ fs).frames.length g.cf) (jQ fs).frames,ap (.slice g.Ab (jQ fs).blocks.length g.cb) (jQ fs).blocks,ap (.slice g.Ai (jQ fs).inn.length g.ci) (jQ fs).inn,ap (.slice g.Ao (jQ fs).out.length g.co) (jQ fs).out] w':=by
 obtain⟨A1,c1,A2,c2,hl,hc,hi,hcell⟩:=hs.fn h0
 have hF:(dM (az fs 0).locals).length=(az fs 0).locals.length:=kN _
 refine enter Tryz.func72 rfl Tryz.ntmps72 rfl ?_
 refine ac<|aa<|ag (bH rfl rfl rfl) rfl rfl (fun g1 _=>?_)
 refine ag (aS aR rfl rfl) rfl rfl (fun g2 _=>?_)
 refine ae<|ac<|aa<|rn 1 [2,3] rfl<|af (aj fc cV rfl rfl (by rfl)) rfl rfl ?_
 refine af (aQ (k:=0) bJ bD (.ro hs) (by omega) rfl rfl rfl) rfl rfl<|af (cY (hcell _) rfl rfl eK bD) rfl rfl<|ag (fR rfl rfl rfl Tryz.call114 (fun w hw=>t6 (az fs 0).params (az fs 0).result A1 A2 c1 c2 _ (az fs 0).locals w (hw.ro hl) (by omega))) rfl rfl (fun⟨A3,c3⟩ _=>?_)
 try dsimp only
 refine af (bN (cs:= [_,_,_,_]) uL cP rfl rfl (by rfl)) rfl rfl ?_
 refine ag (bu (cs:= [_,_,_,_]) aP bn cP rfl rfl rfl rfl rfl) rfl rfl (fun g3 _=>?_)
 refine af (bN (cs:= [_,_,_,_,_,_]) ij aR rfl rfl (by rfl)) rfl rfl ?_
 refine ag (aJ _ fc ay rfl rfl rfl rfl rfl (by rfl) rfl (by rfl)) rfl rfl (fun _ _=>?_)
 refine ae<|aq<|av Tryz.results72 (dH (cs:= [_,_,_,_,_,_]) fc aT ay rfl) ?_
 intro w hw
 refine⟨⟨some ⟨g3,0,none⟩,1,none,0,none,0,none,0⟩,trivial,rfl,?_⟩
 have h1:=p8 (H:= []) (xs:=(jQ fs).frames) (g:=g3) (mP.cons (Hel:= [ap (.slice A3 (dM (az fs 0).locals).length c3) (dM (az fs 0).locals),ap (.slice none 0 0) ([]:List aX)]) (cs:= [_,_,_,_]) (si (x:=⟨0,0,dM (az fs 0).locals,[]⟩) (by show be 0∧be 0;decide)) mP.nil_) rfl (by show 1≤_;decide) ((Cw.nilO aX hw).msub (T:= [ak g3 _ _,ap (.slice A3 (dM (az fs 0).locals).length c3) (dM (az fs 0).locals),ap (.slice none 0 0) ([]:List aX)]) ms)
 exact(Cw.nilO (List Int) (Cw.nilO Int (Cw.nilO Int h1))).msub ms
theorem gJ {B:Nat} {w0 w:World} {H:List a7} (h:Cw B w0 H w):Cw B w0 (ap (α:=aO) (.slice none 0 0) []::ap (α:=List Int) (.slice none 0 0) []::ap (α:=Int) (.slice none 0 0) []::ap (α:=Int) (.slice none 0 0) []::H) w:=Cw.nilO aO (Cw.nilO (List Int) (Cw.nilO Int (Cw.nilO Int h)))
set_option maxRecDepth 100000 in
set_option maxHeartbeats 1000000 in
theorem rX (Ap:Option Addr) (cp:Nat) (fs:List aA) (m:aG) (hmm:nJ fs=m) (w:World) (hs:Sl w (.slice Ap fs.length cp) fs) :
  Calls Tryz.prog 22 #[.agg #[.slice Ap fs.length cp]] w fun e w'=> ∃g:MA,True∧
   e= .returned (.tuple #[.agg #[.slice g.Af m.frames.length g.cf,.slice g.Ab m.blocks.length g.cb,.slice g.Ai m.inn.length g.ci,.slice g.Ao m.out.length g.co,.int .i64 m.status,.int .i64 m.trap],.int .i64 (dw fs)])∧Cw w.heap.size w [ap (.slice g.Af m.frames.length g.cf) m.frames,ap (.slice g.Ab m.blocks.length g.cb) m.blocks,ap (.slice g.Ai m.inn.length g.ci) m.inn,ap (.slice g.Ao m.out.length g.co) m.out] w':=by
 refine enter Tryz.func22 rfl Tryz.ntmps22 rfl ?_
 refine ac<|aa<|ag (bH rfl rfl rfl) rfl rfl (fun g1 _=>?_)
 refine ag (aS aR rfl rfl) rfl rfl (fun g2 _=>?_)
 refine rn 1 [1,2] rfl<|ae<|ac<|ac<|aa<|af (aN (vs:= [_]) fc bQ bB rfl rfl (by rfl) rfl) rfl rfl ?_
 refine ag (aY rfl rfl rfl IS (fun w hw=>pe Ap cp fs w (hw.ro hs))) rfl rfl (fun _ _=>?_)
 refine rn 1 [1,2,4] rfl<|ae<|ac<|aa<|rn 2 [1,2,4,8] rfl<|ae ?_
 unfold nJ at hmm
 refine bY rfl (fun h=>?_) (fun h=>?_)
 ·rw[if_neg h] at hmm
  subst hmm
  refine ac<|aa<|af (bN (cs:= [_,_,_,_,_,_]) ij aR rfl rfl (by rfl)) rfl rfl ?_
  refine rn 1 [2,9,10] rfl<|ag (aJ _ fc ay rfl rfl rfl rfl rfl (by rfl) rfl (by rfl)) rfl rfl (fun _ _=>?_)
  refine rn 1 [2,3] rfl<|ae<|aq (ai ?_)
  refine bt Tryz.results22 (dH (cs:= [_,_,_,_,_,_]) fc aT ay rfl) (an rfl) ?_
  intro w hw
  exact⟨⟨none,0,none,0,none,0,none,0⟩,trivial,rfl,(gJ hw).msub ms⟩
 have h:dw fs=0:=h
 rw[if_pos h] at hmm
 subst hmm
 refine ar (am ?_)
 refine ac<|aa<|af (aN (vs:= [_]) fc bQ bB rfl rfl (by rfl) rfl) rfl rfl ?_
 refine ag (cO rfl rfl rfl Tryz.call72 (fun w hw=>CZ Ap cp fs w (hw.ro hs) (oC h) (by have:=((iL (nn h).p (oC h)).1.op 0 (iL (nn h).p (oC h)).2).par 0 (oC h) |>.2;omega))) rfl rfl (fun g _=>?_)
 refine ag (aJ _ fc ay rfl rfl rfl rfl rfl (by rfl) rfl (by rfl)) rfl rfl (fun _ _=>?_)
 refine rn 1 [2,3] rfl<|ae<|aq<|bt Tryz.results22 (dH (cs:= [_,_,_,_,_,_]) fc aT ay rfl) (an rfl) ?_
 intro w hw
 exact⟨g,trivial,by rw[h],hw.msub ms⟩
set_option maxRecDepth 100000 in
set_option maxHeartbeats 1000000 in
theorem pA (Ap:Option Addr) (cp:Nat) (fs:List aA) (a:MA) (m m2:aG) (hm2:lW fs m=m2) (w:World) (hs:Sl w (.slice Ap fs.length cp) fs) (hm:dQ w.heap.size w a m) (hfit:gz m.frames) :
  Calls Tryz.prog 23 #[.agg #[.slice Ap fs.length cp],.agg #[.slice a.Af m.frames.length a.cf,.slice a.Ab m.blocks.length a.cb,.slice a.Ai m.inn.length a.ci,.slice a.Ao m.out.length a.co,.int .i64 m.status,.int .i64 m.trap]] w fun e w'=> ∃g:MA,True∧
   e= .returned (.tuple #[.agg #[.slice g.Af m2.frames.length g.cf,.slice g.Ab m2.blocks.length g.cb,.slice g.Ai m2.inn.length g.ci,.slice g.Ao m2.out.length g.co,.int .i64 m2.status,.int .i64 m2.trap],.int .i64 (cQ fs m)])∧Cw w.heap.size w [ap (.slice g.Af m2.frames.length g.cf) m2.frames,ap (.slice g.Ab m2.blocks.length g.cb) m2.blocks,ap (.slice g.Ai m2.inn.length g.ci) m2.inn,ap (.slice g.Ao m2.out.length g.co) m2.out] w':=by
 refine enter Tryz.func23 rfl Tryz.ntmps23 rfl ?_
 refine ac<|aa<|ag (bH rfl rfl rfl) rfl rfl (fun g1 _=>?_)
 refine ag (bH rfl rfl rfl) rfl rfl (fun g2 _=>?_)
 refine ag (aS aR rfl rfl) rfl rfl (fun g3 _=>?_)
 refine rn 1 [2,3,4] rfl<|ae<|ac<|ac<|aa<|af (aN (vs:= [_]) fc bQ bB rfl rfl (by rfl) rfl) rfl rfl ?_
 refine af (aN (vs:= [_,_,_,_,_,_]) fc aT ay rfl rfl (by rfl) rfl) rfl rfl ?_
 refine ag (aY rfl rfl rfl uo (fun w hw=>jI Ap cp fs a m w (hw.ro hs) (dQ.ro hw hm) hfit)) rfl rfl (fun _ _=>?_)
 refine rn 1 [2,3,4,6] rfl<|ae<|ac<|aa<|rn 2 [2,3,4,6,11] rfl<|ae ?_
 unfold lW at hm2
 refine bY rfl (fun h=>?_) (fun h=>?_)
 ·rw[if_neg h] at hm2
  subst hm2
  refine ac<|aa<|af (bN (cs:= [_,_,_,_,_,_]) ij aR rfl rfl (by rfl)) rfl rfl ?_
  refine rn 1 [4,12,13] rfl<|ag (aJ _ fc ay rfl rfl rfl rfl rfl (by rfl) rfl (by rfl)) rfl rfl (fun _ _=>?_)
  refine rn 1 [4,5] rfl<|ae<|aq (ai ?_)
  refine bt Tryz.results23 (dH (cs:= [_,_,_,_,_,_]) fc aT ay rfl) (an rfl) ?_
  intro w hw
  exact⟨⟨none,0,none,0,none,0,none,0⟩,trivial,rfl,(gJ hw).msub ms⟩
 have h:cQ fs m=0:=h
 rw[if_pos h] at hm2
 have h1:dw fs=0:=by
  unfold cQ at h
  split at h
  ·rename_i h2;exact absurd h h2
  rename_i h2;exact Classical.not_not.1 h2
 have hR:du fs m:=mY.1 (by unfold cQ at h;rwa [if_neg (fun h2=>h2 h1)] at h)
 refine ar (am ?_)
 refine ac<|aa<|af (aN (vs:= [_]) fc bQ bB rfl rfl (by rfl) rfl) rfl rfl ?_
 refine af (aN (vs:= [_,_,_,_,_,_]) fc aT ay rfl rfl (by rfl) rfl) rfl rfl ?_
 refine ag (cO rfl rfl rfl Tryz.call73 (fun w hw=>xT Ap cp fs a m m2 hm2 w (hw.ro hs) (dQ.ro hw hm) (nZ (nn h1) hR) (fun hst=>tK hs (nn h1) hR hst))) rfl rfl (fun g _=>?_)
 refine ag (aJ _ fc ay rfl rfl rfl rfl rfl (by rfl) rfl (by rfl)) rfl rfl (fun _ _=>?_)
 refine rn 1 [4,5] rfl<|ae<|aq<|bt Tryz.results23 (dH (cs:= [_,_,_,_,_,_]) fc aT ay rfl) (an rfl) ?_
 intro w hw
 exact⟨g,trivial,by rw[h],hw.msub ms⟩
end
section
def dU (l:List Int):List UInt8:=a9 l.length::l.flatMap da
def dG (v:aX):List UInt8:=a9 (if v.ref=true then 1 else 0)::da v.n
def fj (l:List aX):List UInt8:=a9 l.length::l.flatMap dG
def dV (x:aO):List UInt8:=a9 x.func::a9 x.pc::(fj x.locals++fj x.stack)
def eR (m:aG):List UInt8:=
 a9 m.status::a9 m.trap::(dU m.inn++(dU m.out++(a9 m.blocks.length::(m.blocks.flatMap dU++(a9 m.frames.length::m.frames.flatMap dV)))))
abbrev gW (α:Type):=List UInt8→Option (α×List UInt8)
def eQ:gW Int
 | []=>none
 | b::l=>some ((b.toNat:Int),l)
def fK:gW Int:=fun s=>if s.length<4 then none else some (dr (s.take 4),s.drop 4)
def ey {α:Type} (p:gW α):Nat→gW (List α)
 | 0,s=>some ([],s)
 | k+1,s=>match p s with
  | none=>none
  | some (x,r)=>match ey p k r with
   | none=>none
   | some (l,t)=>some (x::l,t)
def dR {α:Type} (p:gW α):gW (List α):=fun s=>match eQ s with
 | none=>none
 | some (n,r)=>ey p n.toNat r
def eC:gW (List Int):=dR fK
def eO:gW aX:=fun s=>match eQ s with
 | none=>none
 | some (n,r)=>if 1<n then none else match fK r with
  | none=>none
  | some (z,t)=>some (⟨decide (n=1),z⟩,t)
def fT:gW (List aX):=dR eO
def dW:gW aO:=fun s=>match eQ s with
 | none=>none
 | some (f,s1)=>match eQ s1 with
  | none=>none
  | some (p,s2)=>match fT s2 with
   | none=>none
   | some (l,s3)=>match fT s3 with
    | none=>none
    | some (t,s4)=>some (⟨f,p,l,t⟩,s4)
def gF:gW aG:=fun s=>match eQ s with
 | none=>none
 | some (st,s1)=>match eQ s1 with
  | none=>none
  | some (tr,s2)=>match eC s2 with
   | none=>none
   | some (i,s3)=>match eC s3 with
    | none=>none
    | some (o,s4)=>match dR eC s4 with
     | none=>none
     | some (b,s5)=>match dR dW s5 with
      | none=>none
      | some (f,s6)=>some (⟨f,b,i,o,st,tr⟩,s6)
def fq (s:List UInt8):Option aG:=match gF s with
 | none=>none
 | some (m,r)=>if r= [] then some m else none
def kV {α:Type} (p:gW α) (x:α) (b:List UInt8):Prop:= ∀r,p (b++r)=some (x,r)
theorem mr {n:Int} (h:0≤n∧n≤255):kV eQ n [a9 n]:=fun r=>by
 show some ((((a9 n).toNat:Nat):Int),r)=_
 rw[ww h]
theorem rq (n:Int):(da n).length=4:=rfl
theorem vW {n:Int} (h:cF n=true):kV fK n (da n):=fun r=>by
 unfold fK
 rw[if_neg (by rw[List.length_append,rq];omega),List.take_left' (rq n),List.drop_left' (rq n),o4 n h]
theorem vO {α:Type} {p:gW α} {f:α→List UInt8} :∀(l:List α),(∀x∈l,kV p x (f x))→kV (ey p l.length) l (l.flatMap f)
 | [],_=>fun r=>rfl
 | x::l,h=>fun r=>by
  rw[List.length_cons,ey,List.flatMap_cons,List.append_assoc,h x (by simp),]
  simp only
  rw[vO l (fun y hy=>h y (by simp[hy]))]
theorem ou {α:Type} {p:gW α} {f:α→List UInt8} (l:List α) (hl:l.length≤255) (h:∀x∈l,kV p x (f x)):kV (dR p) l (a9 l.length::l.flatMap f):=fun r=>by
 unfold dR
 have:=mr (n:=l.length) (by omega) (l.flatMap f++r)
 rw[List.singleton_append] at this
 rw[List.cons_append,this]
 simp only[Int.toNat_natCast]
 exact vO l h r
theorem rf {l:List Int} (hl:l.length≤255) (h:∀n∈l,cF n=true):kV eC l (dU l):=ou l hl fun n hn=>vW (h n hn)
theorem zO {v:aX} (h:cF v.n=true):kV eO v (dG v):=fun r=>by
 obtain⟨b,n⟩:=v
 unfold eO dG
 have h1:=mr (n:=if b=true then 1 else 0) (by cases b <;> decide) (da n++r)
 rw[List.singleton_append] at h1
 rw[List.cons_append,h1]
 simp only
 rw[if_neg (by cases b <;> decide),vW h]
 cases b <;> rfl
theorem rC {l:List aX} (hl:l.length≤255) (h:∀v∈l,cF v.n=true):kV fT l (fj l):=ou l hl fun n hn=>zO (h n hn)
structure D1 (x:aO):Prop where
 f:0≤x.func∧x.func≤255
 p:0≤x.pc∧x.pc≤255
 l:x.locals.length≤255∧∀v∈x.locals,cF v.n=true
 s:x.stack.length≤255∧∀v∈x.stack,cF v.n=true
theorem Bu {x:aO} (h:D1 x):kV dW x (dV x):=fun r=>by
 unfold dW dV
 have h1:=mr h.f (a9 x.pc::(fj x.locals++fj x.stack)++r)
 rw[List.singleton_append] at h1
 rw[List.cons_append,h1]
 have h2:=mr h.p ((fj x.locals++fj x.stack)++r)
 rw[List.singleton_append] at h2
 rw[List.cons_append,]
 simp only
 rw[h2]
 simp only
 rw[List.append_assoc,rC h.l.1 h.l.2]
 simp only
 rw[rC h.s.1 h.s.2]
structure MI (m:aG):Prop where
 s:0≤m.status∧m.status≤255
 t:0≤m.trap∧m.trap≤255
 i:m.inn.length≤255∧∀n∈m.inn,cF n=true
 o:m.out.length≤255∧∀n∈m.out,cF n=true
 b:m.blocks.length≤255∧∀l∈m.blocks,l.length≤255∧∀n∈l,cF n=true
 f:m.frames.length≤255∧∀x∈m.frames,D1 x
theorem C2 {m:aG} (h:MI m):kV gF m (eR m):=fun r=>by
 have h1:=fun r=>mr h.s r
 have h2:=fun r=>mr h.t r
 have h5:=ou (p:=eC) m.blocks h.b.1 fun l hl=>rf (h.b.2 l hl).1 (h.b.2 l hl).2
 have h6:=ou (p:=dW) m.frames h.f.1 fun x hx=>Bu (h.f.2 x hx)
 simp only[List.singleton_append] at h1 h2
 unfold gF eR
 rw[List.cons_append,h1]
 simp only
 rw[List.cons_append,h2]
 simp only
 rw[List.append_assoc,rf h.i.1 h.i.2]
 simp only
 rw[List.append_assoc,rf h.o.1 h.o.2]
 simp only
 rw[show (a9 m.blocks.length::(m.blocks.flatMap dU++(a9 m.frames.length::m.frames.flatMap dV)))++r=(a9 m.blocks.length::m.blocks.flatMap dU)++((a9 m.frames.length::m.frames.flatMap dV)++r) from by simp,h5]
 simp only
 rw[h6]
theorem yv {m:aG} (h:MI m):fq (eR m)=some m:=by
 unfold fq
 have:=C2 h []
 rw[List.append_nil] at this
 rw[this]
 rfl
def kT {α:Type} (p:gW α) (f:α→List UInt8):Prop:= ∀s x r,p s=some (x,r)→s=f x++r
theorem kv:kT eQ fun n=> [a9 n]:=fun s x r h=>by
 cases s with
 | nil=>cases h
 | cons b l=>
  obtain⟨rfl,rfl⟩:(b.toNat:Int)=x∧l=r:=by simpa [eQ] using h
  show _= [a9 (b.toNat:Int)]++l
  rw[wx]
  rfl
theorem tu {s:List UInt8} {x:Int} {r:List UInt8} (h:eQ s=some (x,r)):0≤x∧x≤255:=by
 cases s with
 | nil=>cases h
 | cons b l=>
  obtain⟨rfl,rfl⟩:(b.toNat:Int)=x∧l=r:=by simpa [eQ] using h
  have:=b.toNat_lt
  omega
theorem EQ:∀(s:List UInt8),¬s.length<4→∃a b c d l,s=a::b::c::d::l
 | [],h=>absurd (by simp) h
 | [_],h=>absurd (by simp) h
 | [_,_],h=>absurd (by simp) h
 | [_,_,_],h=>absurd (by simp) h
 | a::b::c::d::l,_=>⟨a,b,c,d,l,rfl⟩
theorem sm:kT fK da:=fun s x r h=>by
 unfold fK at h
 split at h
 ·cases h
 obtain⟨rfl,rfl⟩:dr (s.take 4)=x∧s.drop 4=r:=by simpa using h
 obtain⟨a,b,c,d,l,rfl⟩:∃a b c d l,s=a::b::c::d::l:=EQ s (by assumption)
 show _=da (dr [a,b,c,d])++l
 rw[o5]
 rfl
theorem r8 {α:Type} {p:gW α} {f:α→List UInt8} (h:kT p f):∀k,kT (ey p k) (fun l=>l.flatMap f)
 | 0=>fun s x r e=>by
  obtain⟨rfl,rfl⟩: []=x∧s=r:=by simpa [ey] using e
  rfl
 | k+1=>fun s x r e=>by
  unfold ey at e
  split at e
  ·cases e
  rename_i y t e1
  split at e
  ·cases e
  rename_i l u e2
  obtain⟨rfl,rfl⟩:y::l=x∧u=r:=by simpa using e
  rw[h _ _ _ e1,r8 h k _ _ _ e2]
  show _=(y::l).flatMap f++u
  rw[List.flatMap_cons,List.append_assoc]
theorem pB {α:Type} {p:gW α} :∀k s x r,ey p k s=some (x,r)→x.length=k
 | 0,s,x,r,e=>by
  obtain⟨rfl,rfl⟩: []=x∧s=r:=by simpa [ey] using e
  rfl
 | k+1,s,x,r,e=>by
  unfold ey at e
  split at e
  ·cases e
  rename_i y t e1
  split at e
  ·cases e
  rename_i l u e2
  obtain⟨rfl,rfl⟩:y::l=x∧u=r:=by simpa using e
  rw[List.length_cons,pB k _ _ _ e2]
theorem lY {α:Type} {p:gW α} {f:α→List UInt8} (h:kT p f):kT (dR p) (fun l=>a9 l.length::l.flatMap f):=fun s x r e=>by
 unfold dR at e
 split at e
 ·cases e
 rename_i n t e1
 have h1:=tu e1
 have:=pB _ _ _ _ e
 rw[kv _ _ _ e1,r8 h _ _ _ _ e,show (n:Int)=(x.length:Int) from by omega]
 rfl
theorem wY:kT eO dG:=fun s x r e=>by
 unfold eO at e
 split at e
 ·cases e
 rename_i n t e1
 have h1:=tu e1
 split at e
 ·cases e
 split at e
 ·cases e
 rename_i z u e2
 obtain⟨rfl,rfl⟩:(⟨decide (n=1),z⟩:aX)=x∧u=r:=by simpa using e
 rw[kv _ _ _ e1,sm _ _ _ e2]
 unfold dG
 rw[show (if decide (n=1)=true then (1:Int) else 0)=n from by
  by_cases h:n=1
  ·simp[h]
  simp[h];omega]
 rfl
theorem pf:kT fT fj:=lY wY
theorem oH:kT eC dU:=lY sm
theorem xh:kT dW dV:=fun s x r e=>by
 unfold dW at e
 split at e
 ·cases e
 rename_i f s1 e1
 split at e
 ·cases e
 rename_i p s2 e2
 split at e
 ·cases e
 rename_i l s3 e3
 split at e
 ·cases e
 rename_i t s4 e4
 obtain⟨rfl,rfl⟩:(⟨f,p,l,t⟩:aO)=x∧s4=r:=by simpa using e
 rw[kv _ _ _ e1,kv _ _ _ e2,pf _ _ _ e3,pf _ _ _ e4]
 simp[dV]
theorem yV:kT gF eR:=fun s x r e=>by
 unfold gF at e
 split at e
 ·cases e
 rename_i f s1 e1
 split at e
 ·cases e
 rename_i p s2 e2
 split at e
 ·cases e
 rename_i l s3 e3
 split at e
 ·cases e
 rename_i t s4 e4
 split at e
 ·cases e
 rename_i b s5 e5
 split at e
 ·cases e
 rename_i fr s6 e6
 obtain⟨rfl,rfl⟩:(⟨fr,b,l,t,f,p⟩:aG)=x∧s6=r:=by simpa using e
 rw[kv _ _ _ e1,kv _ _ _ e2,oH _ _ _ e3,oH _ _ _ e4,lY oH _ _ _ e5,lY xh _ _ _ e6]
 simp[eR]
theorem y7 {s:List UInt8} {m:aG} (h:fq s=some m):eR m=s:=by
 unfold fq at h
 split at h
 ·cases h
 rename_i x r e
 split at h
 ·subst_vars
  obtain rfl:=Option.some.inj h
  rw[yV _ _ _ e,List.append_nil]
 cases h
theorem uT {nb:Nat} {v:aX} (hn:nb≤8) (h:ec nb v=true):cF v.n=true:=by
 unfold ec at h
 split at h
 ·have:=dv.1 h
  unfold cF
  simp only[Bool.and_eq_true,decide_eq_true_eq]
  omega
 exact h
theorem BO {l:List (List Int)} {x:List Int} (h:x∈l):x.length≤dg l:=by
 unfold dg
 induction l with
 | nil=>cases h
 | cons y l ih=>
  rw[List.map_cons,List.sum_cons]
  rcases List.mem_cons.1 h with rfl | h
  ·omega
  have:=ih h
  omega
theorem Ch {fs:List aA} {l:List aO} {i:Nat} {t:List Int} (h:gQ fs l i=some t):∃t',eA fs (ik fs l i) (bh l i).pc=some t':=by
 unfold gQ at h
 split at h
 ·exact⟨t,h⟩
 split at h
 ·cases h
 split at h
 ·cases h
 cases h5:eA fs (ik fs l i) (bh l i).pc with
 | none=>rw[h5] at h;cases h
 | some t'=>exact⟨t',rfl⟩
theorem Hb {fs:List aA} (hF:fp fs) {m:aG} (h:du fs m) {i:Nat} (hi:i<m.frames.length):D1 (bh m.frames i):=by
 obtain⟨t,hw,hl,hs⟩:=h.fr i hi
 obtain⟨t',he⟩:=Ch hw
 have hz:=h.fn _ (eU hi)
 have hk:(bh m.frames i).func.toNat<fs.length:=by omega
 have h5:fs.length≤5:=by
  have:=hF.p
  unfold dm at this
  split at this
  ·cases this
  split at this
  ·cases this
  omega
 obtain⟨p0,p1,_⟩:=(hF.e _ hk).at_ _ _ he
 have h40:=(iL hF.p hk).1.n40
 have h6:=(jp ((iH hF.p).2.2 _ (iZ hk))).1
 have hb:=(kB h.bl).1
 have hsm:=(rp hF h hi).1
 have hll:=hl.len
 unfold ik at hll
 exact⟨by omega,by omega,⟨by omega,fun v hv=>uT hb (hl.val v hv)⟩,⟨by omega,fun v hv=>uT hb (hs.val v hv)⟩⟩
theorem q5 {fs:List aA} (hF:fp fs) {m:aG} (h:du fs m):MI m where
 s:=by have:=h.st;omega
 t:=by
  by_cases e:m.status=3
  ·have:=h.t3 e;omega
  have:=h.t0 e;omega
 i:=⟨by have:=h.ib;omega,h.ii⟩
 o:=⟨by have:=h.ob;omega,h.oi⟩
 b:=by
  obtain⟨h1,h2,h3⟩:=nv h.bl
  refine⟨by omega,fun l hl=>⟨by have:=BO hl;omega,fun n hn=>?_⟩⟩
  refine Classical.byContradiction fun hno=>?_
  have:m.blocks.any dk=true:=List.any_eq_true.2 ⟨l,hl,by unfold dk;exact List.any_eq_true.2 ⟨n,hn,by simpa using hno⟩⟩
  rw[h3] at this
  cases this
 f:=by
  refine⟨by have:=h.n6;omega,fun x hx=>?_⟩
  obtain⟨i,hi,rfl⟩:=List.getElem_of_mem hx
  have:=Hb hF h hi
  unfold bh at this
  rwa [List.getD_eq_getElem?_getD,List.getElem?_eq_getElem hi] at this
end
section
section
variable {B:Nat} {w0:World} {H:List a7}
def zy (B:Nat) (w0:World) (H:List a7) (gb:Nat) (bs:List UInt8) (e:Ending) (w':World):Prop:= ∃g:Option Addr×Nat,True∧e= .returned (.tuple #[])∧Cw B w0 (ak gb [.slice g.1 bs.length g.2] 134::ap (.slice g.1 bs.length g.2) bs::H) w'
set_option maxRecDepth 100000 in
set_option maxHeartbeats 1000000 in
theorem j9 (gb:Nat) (xs:List Int) (A:Option Addr) (c:Nat) (hs:SF B w0 H A xs.length c xs) (bs:List UInt8) (Ab:Option Addr) (cb:Nat) (hbd:bs.length+xs.length≤1000000) (w:World) (hw:Cw B w0 (ak gb [.slice Ab bs.length cb] 134::ap (.slice Ab bs.length cb) bs::H) w) :
  Calls Tryz.prog 99 #[.pointer (some ⟨gb,0,none⟩),.slice A xs.length c] w (zy B w0 H gb (bs++xs.map a9)):=by
 refine bS Tryz.func99 rfl Tryz.ntmps99 rfl hw ?_
 refine ac<|aa<|rn 1 [0,6] rfl<|af (aM ah rfl rfl) rfl rfl<|rn 1 [0,6,7,8] rfl<|ae<|aB (bI (fun g:Nat×Option Addr×Nat=>g.1≤xs.length) (fun g=>xs.length - g.1) (fun g=> [(0,.pointer (some ⟨gb,0,none⟩)),(6,.slice A xs.length c),(7,.int .i64 (xs.length:Int)),(8,.int .i64 (g.1:Int))]) (fun g=> [ak gb [.slice g.2.1 (bs++(xs.take g.1).map a9).length g.2.2] 134,ap (.slice g.2.1 (bs++(xs.take g.1).map a9).length g.2.2) (bs++(xs.take g.1).map a9)]++H) (0,Ab,cb) (Nat.zero_le _) ⟨rfl,rfl,rfl,rfl,trivial⟩ (fun _ h=>by simpa using h) ?_)
 rintro⟨j,Aj,cj⟩ hj'
 try dsimp only
 have hj:j≤xs.length:=hj'
 have hlj:(bs++(xs.take j).map a9).length≤bs.length+xs.length:=by rw[List.length_append,List.length_map,List.length_take];omega
 refine ac<|aa<|rn 1 [0,6,7,8,9] rfl<|ae<|ac<|aw rfl (fun hlt=>?_) (fun hlt=>?_)
 ·have hjl:j<xs.length:=by omega
  refine ar (am ?_)
  refine ac<|aB<|ac<|aa<|af (aQ ah aF (.s (.s hs)) (by omega) rfl rfl rfl) rfl rfl<|af (a8 (SF.int (.s (.s hs)) (by omega)) rfl rfl au) rfl rfl<|rn 1 [0,5,6,7,8] rfl<|ae<|aa<|rn 4 [0,5,6,7,8,12,15] rfl<|af (aj fc Cd rfl rfl (by rfl)) rfl rfl ?_
  refine rn 1 [0,6,7,8,12,16,17] rfl<|af (AH o9 lQ rfl rfl) rfl rfl<|ag (bu (cs:= [_]) je Tryz.sizeOf5 Tryz.zeroValue5 rfl rfl rfl rfl rfl) rfl rfl (fun g1 _=>?_)
  refine ag (dJ (α:=UInt8) (bytes:=1) (a9 (xs.getD j 0)) [] (C1 hjl) je (cU pT) rfl (fV fc fc) (eD trivial) (by omega) (by omega) rfl rfl rfl) rfl rfl (fun⟨A4,c4⟩ _=>?_)
  try dsimp only
  refine rn 2 [0,6,7,8,20,22] rfl<|ag (aJ _ fc HD rfl rfl rfl rfl rfl (by rfl) rfl (by rfl)) rfl rfl (fun _ _=>?_)
  refine bC (aH (am ?_))
  refine aa<|af (br rfl rfl rfl (by omega)) rfl rfl<|rn 1 [0,6,7,8] rfl<|a5 (j+1,A4,c4) (by show j+1≤_;omega) (by show _ - _<_ - _;omega) ⟨rfl,rfl,rfl,rfl,trivial⟩ (fun _ h=>h.msub ms)
 obtain rfl:j=xs.length:=by omega
 refine bz (aD (aD (bO ?_)))
 refine cq Tryz.results99 ?_
 intro w hw
 refine⟨(Aj,cj),trivial,rfl,?_⟩
 rw[List.take_length] at hw
 exact hw.msub ms
theorem iz {α:Type} {f:α→List UInt8} {l:List α} {k:Nat} (hk:k<l.length) (d:α) (b:List UInt8):b++(l.take (k+1)).flatMap f=(b++(l.take k).flatMap f)++f (l.getD k d):=by
 rw[List.take_succ_eq_append_getElem hk,List.flatMap_append,List.append_assoc,List.getD_eq_getElem?_getD,List.getElem?_eq_getElem hk]
 simp
theorem lw {α:Type} {f:α→List UInt8} {m:Nat} (l:List α) (h:∀x∈l,(f x).length≤m) (k:Nat):((l.take k).flatMap f).length≤m*l.length:=by
 induction l generalizing k with
 | nil=>simp
 | cons x l ih=>
  cases k with
  | zero=>simp
  | succ k=>
   have h1:=h x (by simp)
   have h2:=ih (fun y hy=>h y (by simp[hy])) k
   rw[List.take_succ_cons,List.flatMap_cons,List.length_append,List.length_cons,Nat.mul_add]
   omega
theorem pG {α:Type} {f:α→List UInt8} {m:Nat} (l:List α) (h:∀x∈l,(f x).length≤m):(l.flatMap f).length≤m*l.length:=by
 have:=lw l h l.length
 rwa [List.take_length] at this
theorem AV (l:List Int):(dU l).length=1+(l.flatMap da).length:=by simp[dU];omega
theorem tD (l:List Int) (k:Nat):((l.take k).flatMap da).length≤4*l.length:=lw l (fun _ _=>Nat.le_refl 4) k
theorem nG (l:List aX) (k:Nat):((l.take k).flatMap dG).length≤5*l.length:=lw l (fun _ _=>Nat.le_refl 5) k
set_option maxRecDepth 100000 in
set_option maxHeartbeats 1000000 in
theorem pb (gb:Nat) (xs:List Int) (A:Option Addr) (c:Nat) (hs:bW w0 B (.slice A xs.length c) xs) (bs:List UInt8) (Ab:Option Addr) (cb:Nat) (hbd:bs.length+4*xs.length+1≤1000000) (w:World) (hw:Cw B w0 (ak gb [.slice Ab bs.length cb] 134::ap (.slice Ab bs.length cb) bs::H) w) :
  Calls Tryz.prog 100 #[.pointer (some ⟨gb,0,none⟩),.slice A xs.length c] w (zy B w0 H gb (bs++dU xs)):=by
 have hl1:(bs++ [a9 (xs.length:Int)]).length=bs.length+1:=by simp
 refine bS Tryz.func100 rfl Tryz.ntmps100 rfl hw ?_
 refine ac<|aa<|rn 2 [0,1,6,7] rfl<|af (aM ah rfl rfl) rfl rfl<|ag (bu (cs:= [_]) ah aF a6 rfl rfl rfl rfl rfl) rfl rfl (fun g1 _=>?_)
 refine fl (fun w h=>cE (α:=Int) (m:=1) [(xs.length:Int)] rfl (gD (by unfold be;omega)) rfl (by decide) h) ?_
 refine ag (bg rfl rfl rfl qw (fun w hw=>j9 gb [(xs.length:Int)] _ _ (.own rfl .a) bs Ab cb (by show _+1≤_;omega) w (hw.msub (.s fc (.s fc .r))))) rfl rfl (fun⟨A1,c1⟩ _=>?_)
 try dsimp only
 refine ae<|ac<|aa<|rn 1 [0,11] rfl<|af (aM ah rfl rfl) rfl rfl<|rn 1 [0,11,12,13] rfl<|ae<|aB (bI (fun g:Nat×Option Addr×Nat=>g.1≤xs.length) (fun g=>xs.length - g.1) (fun g=> [(0,.pointer (some ⟨gb,0,none⟩)),(11,.slice A xs.length c),(12,.int .i64 (xs.length:Int)),(13,.int .i64 (g.1:Int))]) (fun g=> [ak gb [.slice g.2.1 ((bs++ [a9 xs.length])++(xs.take g.1).flatMap da).length g.2.2] 134,ap (.slice g.2.1 ((bs++ [a9 xs.length])++(xs.take g.1).flatMap da).length g.2.2) ((bs++ [a9 xs.length])++(xs.take g.1).flatMap da)]++H) (0,A1,c1) (Nat.zero_le _) ⟨rfl,rfl,rfl,rfl,trivial⟩ (fun w h=>by have h:=h.msub (T:=ak gb _ _::ap _ (bs++ [a9 (xs.length:Int)])::H) ms;simpa using h) ?_)
 rintro⟨j,Aj,cj⟩ hj'
 try dsimp only
 have hj:j≤xs.length:=hj'
 have h4:=tD xs j
 have hlj:((bs++ [a9 (xs.length:Int)])++(xs.take j).flatMap da).length≤bs.length+1+4*xs.length:=by rw[List.length_append,hl1];omega
 refine ac<|aa<|rn 1 [0,11,12,13,14] rfl<|ae<|ac<|aw rfl (fun hlt=>?_) (fun hlt=>?_)
 ·have hjl:j<xs.length:=by omega
  refine ar (am ?_)
  refine ac<|aB<|ac<|aa<|af (aQ ah aF (.ro hs) (by omega) rfl rfl rfl) rfl rfl<|af (a8 (SF.int (.ro hs) (by omega)) rfl rfl au) rfl rfl<|rn 1 [0,5,11,12,13] rfl<|ae<|fL (.still 0 (.still 1 (.still 2 (.still 3 (.still 4 (.still 5 (.pick 6 (.pick 7 (.still 8 (.still 9 (.pick 10 .done .stop))) .stop) .stop))))))) [10] rfl (by kernel_rfl) (by kernel_rfl) [ak gb [.slice Aj ((bs++ [a9 (xs.length:Int)])++(xs.take j).flatMap da).length cj] 134] ?_
  refine aU ha 4 [0,5,11,12,13,17,20] rfl<|ax rfl (aj fc Cd rfl rfl (by rfl)) rfl rfl ha ?_
  refine aU ha 1 [0,11,12,13,17,21,22] rfl<|aK rfl (aY rfl rfl rfl Tryz.call129 (fun w hw=>vV (xs.getD j 0) w)) rfl rfl (.inr fun _=>ha) (fun _ _=>?_) aE
  refine aK rfl (xY (bytes:=1) (iz hjl 0 _) je fu (cU pT) rfl fc (by show _+4≤_;omega) (by show (_+4)*1≤_;omega) rfl rfl rfl) rfl rfl (.inr fun _=>ha) (fun⟨A4,c4⟩ _=>?_) aE
  try dsimp only
  refine aU ha 2 [0,11,12,13,24,26] rfl<|aK rfl (aJ _ fc HD rfl rfl rfl rfl rfl (by rfl) rfl (by rfl)) rfl rfl (.inl rfl) (fun _ _=>?_) aE
  refine df (aH (am ?_))
  refine aa<|af (br rfl rfl rfl (by omega)) rfl rfl<|rn 1 [0,11,12,13] rfl<|a5 (j+1,A4,c4) (by show j+1≤_;omega) (by show _ - _<_ - _;omega) ⟨rfl,rfl,rfl,rfl,trivial⟩ (fun _ h=>h.msub ms)
 obtain rfl:j=xs.length:=by omega
 refine bz (aD (aD (bO ?_)))
 refine cq Tryz.results100 ?_
 intro w hw
 refine⟨(Aj,cj),trivial,rfl,?_⟩
 rw[List.take_length,show (bs++ [a9 (xs.length:Int)])++xs.flatMap da=bs++dU xs from by simp[dU]] at hw
 exact hw.msub ms
set_option maxRecDepth 100000 in
set_option maxHeartbeats 2000000 in
theorem tG (gb:Nat) (xs:List aX) (A:Option Addr) (c:Nat) (hs:bW w0 B (.slice A xs.length c) xs) (bs:List UInt8) (Ab:Option Addr) (cb:Nat) (hbd:bs.length+5*xs.length+3≤1000000) (w:World) (hw:Cw B w0 (ak gb [.slice Ab bs.length cb] 134::ap (.slice Ab bs.length cb) bs::H) w) :
  Calls Tryz.prog 101 #[.pointer (some ⟨gb,0,none⟩),.slice A xs.length c] w (zy B w0 H gb (bs++fj xs)):=by
 have hl1:(bs++ [a9 (xs.length:Int)]).length=bs.length+1:=by simp
 refine bS Tryz.func101 rfl Tryz.ntmps101 rfl hw ?_
 refine ac<|aa<|rn 2 [0,1,7,8] rfl<|af (aM aI rfl rfl) rfl rfl<|ag (bu (cs:= [_]) ah aF a6 rfl rfl rfl rfl rfl) rfl rfl (fun g1 _=>?_)
 refine fl (fun w h=>cE (α:=Int) (m:=1) [(xs.length:Int)] rfl (gD (by unfold be;omega)) rfl (by decide) h) ?_
 refine ag (bg rfl rfl rfl qw (fun w hw=>j9 gb [(xs.length:Int)] _ _ (.own rfl .a) bs Ab cb (by show _+1≤_;omega) w (hw.msub (.s fc (.s fc .r))))) rfl rfl (fun⟨A1,c1⟩ _=>?_)
 try dsimp only
 refine ae<|ac<|aa<|rn 1 [0,12] rfl<|af (aM aI rfl rfl) rfl rfl<|rn 1 [0,12,13,14] rfl<|ae<|aB (bI (fun g:Nat×Option Addr×Nat=>g.1≤xs.length) (fun g=>xs.length - g.1) (fun g=> [(0,.pointer (some ⟨gb,0,none⟩)),(12,.slice A xs.length c),(13,.int .i64 (xs.length:Int)),(14,.int .i64 (g.1:Int))]) (fun g=> [ak gb [.slice g.2.1 ((bs++ [a9 xs.length])++(xs.take g.1).flatMap dG).length g.2.2] 134,ap (.slice g.2.1 ((bs++ [a9 xs.length])++(xs.take g.1).flatMap dG).length g.2.2) ((bs++ [a9 xs.length])++(xs.take g.1).flatMap dG)]++H) (0,A1,c1) (Nat.zero_le _) ⟨rfl,rfl,rfl,rfl,trivial⟩ (fun w h=>by have h:=h.msub (T:=ak gb _ _::ap _ (bs++ [a9 (xs.length:Int)])::H) ms;simpa using h) ?_)
 rintro⟨j,Aj,cj⟩ hj'
 try dsimp only
 have hj:j≤xs.length:=hj'
 have h4:=nG xs j
 have hlj:((bs++ [a9 (xs.length:Int)])++(xs.take j).flatMap dG).length≤bs.length+1+5*xs.length:=by rw[List.length_append,hl1];omega
 refine ac<|aa<|rn 1 [0,12,13,14,15] rfl<|ae<|ac<|aw rfl (fun hlt=>?_) (fun hlt=>?_)
 ·have hjl:j<xs.length:=by omega
  obtain⟨V,hV⟩:∃V,xs.getD j default=V:=⟨_,rfl⟩
  have hstep:=iz (f:=dG) hjl default (bs++ [a9 (xs.length:Int)])
  rw[hV] at hstep
  refine ar (am ?_)
  refine ac<|aB<|ac<|aa<|af (aQ aI aV (.ro hs) (by omega) rfl rfl rfl) rfl rfl<|af (cY (SF.val (.ro hs) hjl default) rfl rfl dZ aV) rfl rfl<|ag (aS cy rfl rfl) rfl rfl (fun g2 _=>?_)
  refine ag (aJ _ fc aV rfl rfl rfl rfl rfl (by rfl) rfl (by rfl)) rfl rfl (fun _ _=>?_)
  refine ae<|ac<|aa<|rn 1 [0,5,6,12,13,14] rfl<|ae<|ac<|ac<|aa<|rn 1 [0,5,6,12,13,14,18] rfl<|af (aj fc dx rfl rfl (by rfl)) rfl rfl ?_
  refine ae ?_
  rw[hV]
  refine ir (fun _:Unit=>True) (fun _=> [(0,.pointer (some ⟨gb,0,none⟩)),(5,.pointer (some ⟨g2,0,none⟩)),(6,.int .i64 (if V.ref=true then 1 else 0)),(12,.slice A xs.length c),(13,.int .i64 (xs.length:Int)),(14,.int .i64 (j:Int))]) (fun _=> [ak g2 [.bool V.ref,.int .i64 V.n] 103,ak gb [.slice Aj ((bs++ [a9 (xs.length:Int)])++(xs.take j).flatMap dG).length cj] 134,ap (.slice Aj ((bs++ [a9 (xs.length:Int)])++(xs.take j).flatMap dG).length cj) ((bs++ [a9 (xs.length:Int)])++(xs.take j).flatMap dG)]++H) ?_ ?_
  ·refine cg rfl (fun hr=>?_) (fun hr=>?_)
   ·rw[if_pos hr]
    refine aa<|rn 1 [0,5,6,12,13,14] rfl<|gC () (trivial) ⟨rfl,rfl,rfl,rfl,rfl,rfl,trivial⟩ (fun _ h=>h.msub ms)
   rw[if_neg (by rw[hr];decide)]
   refine ar<|bq () (trivial) ⟨rfl,rfl,rfl,rfl,rfl,rfl,trivial⟩ (fun _ h=>h.msub ms)
  rintro _ _
  try dsimp only
  refine ac<|aa<|rn 2 [0,5,12,13,14,20,21] rfl<|ag (bu (cs:= [_]) ah aF a6 rfl rfl rfl rfl rfl) rfl rfl (fun g3 _=>?_)
  refine fl (fun w h=>cE (α:=Int) (m:=1) [(if V.ref=true then 1 else 0:Int)] rfl (gD (by unfold be;split <;> omega)) rfl (by decide) h) ?_
  refine ag (bg rfl rfl rfl qw (fun w hw=>j9 gb [(if V.ref=true then 1 else 0:Int)] _ _ (.own rfl .a) ((bs++ [a9 (xs.length:Int)])++(xs.take j).flatMap dG) Aj cj (by show _+1≤_;omega) w (hw.msub (.s fc (.s fc .r))))) rfl rfl (fun⟨A2,c2⟩ _=>?_)
  try dsimp only
  refine ae ?_
  have hl2:(((bs++ [a9 (xs.length:Int)])++(xs.take j).flatMap dG)++ [(if V.ref=true then 1 else 0:Int)].map a9).length≤bs.length+2+5*xs.length:=by rw[List.length_append];show _+1≤_;omega
  refine fL (.still 0 (.still 1 (.still 2 (.still 3 (.still 4 (.still 5 (.still 6 (.pick 7 (.pick 8 (.still 9 (.still 10 (.pick 11 .done .stop))) .stop) .stop)))))))) [11] rfl (by kernel_rfl) (by kernel_rfl) [ak gb [.slice A2 (((bs++ [a9 (xs.length:Int)])++(xs.take j).flatMap dG)++ [(if V.ref=true then 1 else 0:Int)].map a9).length c2] 134,ak g2 [.bool V.ref,.int .i64 V.n] 103] ?_
  refine aU ha 4 [0,5,12,13,14,24,27] rfl<|ax rfl (aj fc Cd rfl rfl (by rfl)) rfl rfl ha ?_
  refine aU ha 1 [0,12,13,14,24,28,29] rfl<|ax rfl (aj fc au rfl rfl (by rfl)) rfl rfl ha ?_
  refine aK rfl (aY rfl rfl rfl Tryz.call129 (fun w hw=>vV V.n w)) rfl rfl (.inr fun _=>ha) (fun _ _=>?_) aE
  refine aK rfl (xY (bytes:=1) (xs:=((bs++ [a9 (xs.length:Int)])++(xs.take j).flatMap dG)++ [(if V.ref=true then 1 else 0:Int)].map a9) (xs':=(bs++ [a9 (xs.length:Int)])++(xs.take (j+1)).flatMap dG) (by rw[hstep];simp[dG]) je fu (cU pT) rfl fc (by show _+4≤_;omega) (by show (_+4)*1≤_;omega) rfl rfl rfl) rfl rfl (.inr fun _=>ha) (fun⟨A4,c4⟩ _=>?_) aE
  try dsimp only
  refine aU ha 2 [0,12,13,14,32,34] rfl<|aK rfl (aJ _ fc HD rfl rfl rfl rfl rfl (by rfl) rfl (by rfl)) rfl rfl (.inl rfl) (fun _ _=>?_) aE
  refine df (aH (am ?_))
  refine aa<|af (br rfl rfl rfl (by omega)) rfl rfl<|rn 1 [0,12,13,14] rfl<|a5 (j+1,A4,c4) (by show j+1≤_;omega) (by show _ - _<_ - _;omega) ⟨rfl,rfl,rfl,rfl,trivial⟩ (fun _ h=>h.msub ms)
 obtain rfl:j=xs.length:=by omega
 refine bz (aD (aD (bO ?_)))
 refine cq Tryz.results101 ?_
 intro w hw
 refine⟨(Aj,cj),trivial,rfl,?_⟩
 rw[List.take_length,show (bs++ [a9 (xs.length:Int)])++xs.flatMap dG=bs++fj xs from by simp[fj]] at hw
 exact hw.msub ms
end
end
section
abbrev HN (s:List UInt8):Value:= .string ⟨s.toArray⟩
def mx:List PanicEntry:=F6 (.iface 139 (.agg #[]))
section
variable {B:Nat} {w0:World} {H:List a7}
def jl {α γ:Type} (B:Nat) (w0:World) (gr:Nat) (r:Option (α×List UInt8)) (val:α→γ→Value) (H':α→γ→List a7) (H:List a7) (e:Ending) (w':World):Prop:=
 (∃g:(α×List UInt8)×γ,r=some g.1∧e= .returned (val g.1.1 g.2)∧Cw B w0 (ak gr [.string ⟨g.1.2.toArray⟩] 143::H' g.1.1 g.2) w')∨∃ch,e= .panicked ch∧(r=none∧ch=mx)∧Cw B w0 H w'
theorem Fp {s:List UInt8} {k:Nat} (h:k≤s.length):fQ s (k:Int)=(s.take k,s.drop k,true):=by
 unfold fQ
 rw[if_neg (by omega),Int.toNat_natCast]
theorem Fq {s:List UInt8} {k:Nat} (h:s.length<k):fQ s (k:Int)=([],[],false):=by
 unfold fQ
 rw[if_pos (by omega)]
def ix (k:Nat):gW (List UInt8):=fun s=>if s.length<k then none else some (s.take k,s.drop k)
set_option maxRecDepth 100000 in
theorem pq (gr k:Nat) (s:List UInt8) (hl:s.length≤140737488355328) (w:World) (hw:Cw B w0 (ak gr [.string ⟨s.toArray⟩] 143::H) w) :
  Calls Tryz.prog 170 #[.pointer (some ⟨gr,0,none⟩),.int .i64 (k:Int)] w (jl B w0 gr (ix k s) (fun a (_:Unit)=>HN a) (fun _ _=>H) H):=by
 refine bS Tryz.func170 rfl Tryz.ntmps170 rfl hw ?_
 refine ac<|aa<|rn 1 [0,1] rfl<|ae<|ac<|aa<|rn 3 [0,1,11] rfl<|af (aj fc qv rfl rfl (by rfl)) rfl rfl ?_
 refine rn 1 [0,12,13] rfl<|ag (aY rfl rfl rfl Tryz.call211 (fun w hw=>Fo s (k:Int) w (by omega) hl)) rfl rfl (fun _ _=>?_)
 refine rn 7 [0,5,6,7] rfl<|ae<|ac<|ac<|aa<|rn 2 [0,5,6,19] rfl<|ae ?_
 by_cases h:s.length<k
 ·rw[Fq h]
  have hn:ix k s=none:=by unfold ix;rw[if_pos h]
  refine cN (t:=19) (v':= .bool true) rfl (rfl) ?_
  refine bA rfl<|aa<|af (bN (cs:= []) vB sU rfl rfl (by rfl)) rfl rfl ?_
  refine af (nh Ca rfl rfl) rfl rfl<|iV rfl rfl rfl ?_
  intro a w hf hw
  exact⟨hf.2.1,.inr ⟨_,rfl,⟨hn,rfl⟩,hw.msub ms⟩⟩
 rw[Fp (by omega)]
 have hn:ix k s=some (s.take k,s.drop k):=by unfold ix;rw[if_neg h]
 refine cN (t:=19) (v':= .bool false) rfl (rfl) ?_
 refine bZ rfl<|ar (am ?_)
 refine ac<|aa<|rn 4 [5,23,25] rfl<|ag (aJ _ fc Tryz.sizeOf9 rfl rfl rfl rfl rfl (by rfl) rfl (by rfl)) rfl rfl (fun _ _=>?_)
 refine ae<|ac<|aa<|rn 2 [4] rfl<|ae<|aq<|av Tryz.results170 (an rfl) ?_
 intro w hw
 exact .inl ⟨((s.take k,s.drop k),()),hn,rfl,hw⟩
theorem GU {s a r:List UInt8} (h:ix 1 s=some (a,r)):∃b,s=b::r∧a= [b]:=by
 unfold ix at h
 split at h
 ·cases h
 cases s with
 | nil=>simp at *
 | cons b l=>
  simp at h
  exact⟨b,by rw[h.2],h.1.symm⟩
theorem Co {s:List UInt8} (h:ix 1 s=none):eQ s=none:=by
 unfold ix at h
 split at h
 ·rename_i h1
  have:s= []:=List.eq_nil_of_length_eq_zero (by omega)
  rw[this];rfl
 cases h
theorem p7 (s:List UInt8):fK s=(ix 4 s).map fun p=>(dr p.1,p.2):=by
 unfold fK ix
 split <;> rfl
theorem qW {k:Nat} {s a r:List UInt8} (h:ix k s=some (a,r)):a.length≤s.length∧r.length≤s.length:=by
 unfold ix at h
 split at h
 ·cases h
 simp at h
 obtain⟨rfl,rfl⟩:=h
 rw[List.length_take,List.length_drop]
 omega
set_option maxRecDepth 100000 in
theorem ko (gr:Nat) (s:List UInt8) (hl:s.length≤140737488355328) (w:World) (hw:Cw B w0 (ak gr [.string ⟨s.toArray⟩] 143::H) w) :
  Calls Tryz.prog 133 #[.pointer (some ⟨gr,0,none⟩)] w (jl B w0 gr (eQ s) (fun a (_:Unit)=> .int .i64 a) (fun _ _=>H) H):=by
 refine bS Tryz.func133 rfl Tryz.ntmps133 rfl hw ?_
 refine ac<|aa<|rn 1 [0] rfl<|ae<|ac<|aa<|rn 1 [3] rfl<|ed (di rfl rfl rfl Iv (fun w hw=>pq gr 1 s hl w hw)) rfl rfl (fun _ _ _ hf hp=>⟨hf.2.1,.inr ⟨_,rfl,⟨Co hp.1.1,hp.1.2⟩,hp.2⟩⟩) (fun⟨⟨a,r⟩,_⟩ hr=>?_)
 try dsimp only
 obtain⟨b,rfl,rfl⟩:=GU hr
 refine af (tm (k:=0) fu (by simp) rfl rfl rfl) rfl rfl ?_
 refine af (AL lQ o9 rfl rfl) rfl rfl<|rn 1 [2] rfl<|ae<|aq<|av Tryz.results133 (an rfl) ?_
 intro w hw
 exact .inl ⟨(((b.toNat:Int),r),()),rfl,rfl,hw⟩
theorem gX {s r:List UInt8} {z:Int} (h:eQ s=some (z,r)):r.length≤s.length∧(0≤z∧z≤255):=by
 have hb:=tu h
 cases s with
 | nil=>cases h
 | cons b l=>
  obtain⟨_,rfl⟩:(b.toNat:Int)=z∧l=r:=by simpa [eQ] using h
  exact⟨by simp,hb⟩
def nD {α:Type} (p:gW α):Prop:= ∀s x r,p s=some (x,r)→r.length≤s.length
theorem r7 {α:Type} {p:gW α} (h:nD p):∀k,nD (ey p k)
 | 0=>fun s x r e=>by
  obtain⟨rfl,rfl⟩: []=x∧s=r:=by simpa [ey] using e
  exact Nat.le_refl _
 | k+1=>fun s x r e=>by
  unfold ey at e
  split at e
  ·cases e
  rename_i y t e1
  split at e
  ·cases e
  rename_i l u e2
  obtain⟨rfl,rfl⟩:y::l=x∧u=r:=by simpa using e
  exact Nat.le_trans (r7 h k _ _ _ e2) (h _ _ _ e1)
theorem ow {α:Type} {p:gW α} (h:nD p):nD (dR p):=fun s x r e=>by
 unfold dR at e
 split at e
 ·cases e
 rename_i n t e1
 exact Nat.le_trans (r7 h _ _ _ _ e) (gX e1).1
theorem oS:nD fK:=fun s x r e=>by
 rw[p7] at e
 cases h:ix 4 s with
 | none=>rw[h] at e;cases e
 | some p=>
  rw[h] at e
  obtain⟨_,rfl⟩:dr p.1=x∧p.2=r:=by simpa using e
  exact(qW h).2
theorem pi {α:Type} {p:gW α} {s r:List UInt8} {x:List α} (e:dR p s=some (x,r)):x.length≤255:=by
 unfold dR at e
 split at e
 ·cases e
 rename_i n t e1
 rw[pB _ _ _ _ e]
 have:=(gX e1).2
 omega
theorem r6 {α:Type} {p:gW α} {acc:List α} {x:α} {u:List UInt8} {n:Nat} :Option.map (fun q:List α×List UInt8=>(acc++q.1,q.2)) (match ey p n u with
  | none=>none
  | some (l,t)=>some (x::l,t))=(ey p n u).map (fun q=>((acc++ [x])++q.1,q.2)):=by cases ey p n u <;> simp
theorem BQ {P:Program} {f:FuncId} {cap:List Value} {w:World} {R:Ending→World→Prop} (h:Calls P f cap.toArray w R):Calls P f (([]:List Value)++cap.toArray.toList).toArray w R:=by simpa using h
def Hr {α γ:Type} (B:Nat) (w0:World) (gr:Nat) (r:Option (List α×List UInt8)) (K:List α→γ→List a7) (H:List a7):Ending→World→Prop:=jl B w0 gr r (fun _ (_:γ)=> .tuple #[]) (fun a g=>K a g++H) H
set_option maxRecDepth 100000 in
set_option maxHeartbeats 1000000 in
theorem mW {α γ:Type} (gr:Nat) (f:FuncId) (cap:List Value) (p:gW α) (hpl:nD p) (K:List α→γ→List a7) (hcall:∀a w,(callFunc f a).run Tryz.prog w= .ok (.enter f a) w)
  (hdo:∀(s:List UInt8) (acc:List α) (g:γ) (w:World),s.length≤140737488355320→acc.length≤254→Cw B w0 (ak gr [.string ⟨s.toArray⟩] 143::(K acc g++H)) w→
   Calls Tryz.prog f cap.toArray w (jl B w0 gr (p s) (fun _ (_:γ)=> .tuple #[]) (fun x g'=>K (acc++ [x]) g'++H) H))
  (s:List UInt8) (g0:γ) (hl:s.length≤140737488355320) (w:World) (hw:Cw B w0 (ak gr [.string ⟨s.toArray⟩] 143::(K [] g0++H)) w) :
  Calls Tryz.prog 135 #[.pointer (some ⟨gr,0,none⟩),.func (.func f) #[] cap.toArray] w (Hr B w0 gr (dR p s) K H):=by
 refine bS Tryz.func135 rfl Tryz.ntmps135 rfl hw ?_
 refine ac<|aa<|rn 1 [1,5] rfl<|ed (di rfl rfl rfl rA (fun w hw=>ko gr s (by omega) w hw)) rfl rfl (fun _ _ _ hf hp=>⟨hf.2.1,.inr ⟨_,rfl,⟨by unfold dR;rw[hp.1.1],hp.1.2⟩,Cw.msub hp.2 (by exact⟨_,List.perm_append_comm⟩)⟩⟩) (fun⟨⟨n,r⟩,_⟩ hr=>?_)
 try dsimp only
 refine rn 1 [1,4] rfl<|ae ?_
 have hn:=gX hr
 have h8:dR p s=ey p n.toNat r:=by unfold dR;rw[hr]
 refine aB (bI (fun g:(Int×List α×List UInt8)×γ=>(dR p s=(ey p g.1.1.toNat g.1.2.2).map (fun q=>(g.1.2.1++q.1,q.2))∧(g.1.1≤255∧g.1.2.1.length+g.1.1.toNat≤255))∧g.1.2.2.length≤140737488355320) (fun g=>g.1.1.toNat) (fun g=> [(1,.func (.func f) #[] cap.toArray),(4,.int .i64 g.1.1)]) (fun g=>ak gr [.string ⟨g.1.2.2.toArray⟩] 143::(K g.1.2.1 g.2++H)) ((n,[],r),g0) (⟨⟨by rw[h8];cases ey p n.toNat r <;> simp,⟨hn.2.2,by show 0+n.toNat≤255;omega⟩⟩,by show r.length≤_;omega⟩) ⟨rfl,rfl,trivial⟩ me ?_)
 rintro⟨⟨k,acc,t⟩,g⟩ hj
 try dsimp only
 obtain⟨⟨hj1,hj2,hj3⟩,hj4⟩:(dR p s=(ey p k.toNat t).map (fun q=>(acc++q.1,q.2))∧(k≤255∧acc.length+k.toNat≤255))∧t.length≤140737488355320:=hj
 refine ac<|ac<|aa<|rn 2 [1,4,8] rfl<|ae<|aw rfl (fun hk=>?_) (fun hk=>?_)
 ·have hk1:k.toNat=(k - 1).toNat+1:=by omega
  rw[hk1,ey] at hj1
  refine ar (am ?_)
  refine ac<|aB<|aa<|rn 1 [1,4,11] rfl<|ed (tU rfl rfl rfl hcall (fun w hw=>BQ (hdo t acc g w hj4 (by omega) hw))) rfl rfl (fun _ _ _ hf hp=>⟨hf.2.1,.inr ⟨_,rfl,⟨by rw[hj1,hp.1.1];rfl,hp.1.2⟩,hp.2⟩⟩) (fun⟨⟨x,u⟩,g'⟩ hx=>?_)
  try dsimp only
  refine bC (aH (am ?_))
  refine aa<|rn 1 [1,9] rfl<|af (cH rfl rfl rfl (by omega)) rfl rfl<|rn 1 [1,4] rfl ?_
  have hx:p t=some (x,u):=hx
  have hu:=hpl _ _ _ hx
  rw[hx] at hj1
  refine a5 ((k - 1,acc++ [x],u),g') (⟨⟨hj1.trans r6,⟨by show k - 1≤_;omega,by show (acc++ [x]).length+(k - 1).toNat≤_;rw[List.length_append,List.length_singleton];omega⟩⟩,by show u.length≤_;omega⟩) (by show (k - 1).toNat<k.toNat;omega) ⟨rfl,rfl,trivial⟩ me
 have hk1:k.toNat=0:=by omega
 rw[hk1] at hj1
 refine bz (aD (aD (bO ?_)))
 refine cq Tryz.results135 ?_
 intro w hw
 exact .inl ⟨((acc,t),g),by rw[hj1];simp[ey],rfl,hw⟩
end
end
section
section
variable {B:Nat} {w0:World} {H:List a7}
theorem jl.map {α β γ δ:Type} {gr:Nat} {r:Option (α×List UInt8)} {r':Option (β×List UInt8)} {val:α→γ→Value} {val':β→δ→Value} {K:α→γ→List a7} {K':β→δ→List a7} {H H':List a7} {e:Ending} {w:World} (h:jl B w0 gr r val K H e w) (f:α→γ→β) (d:α→γ→δ)
  (h1:∀x t g,r=some (x,t)→r'=some (f x g,t)∧val x g=val' (f x g) (d x g)∧∀w,Cw B w0 (ak gr [.string ⟨t.toArray⟩] 143::K x g) w→Cw B w0 (ak gr [.string ⟨t.toArray⟩] 143::K' (f x g) (d x g)) w) (h2:r=none→r'=none) (h3:∀w,Cw B w0 H w→Cw B w0 H' w):jl B w0 gr r' val' K' H' e w:=by
 rcases h with ⟨⟨⟨x,t⟩,g⟩,e1,e2,e3⟩ | ⟨ch,e1,⟨e2,e3⟩,e4⟩
 ·obtain⟨k1,k2,k3⟩:=h1 x t g e1
  exact .inl ⟨((f x g,t),d x g),k1,e2.trans (congrArg _ k2),k3 _ e3⟩
 exact .inr ⟨ch,e1,⟨h2 e2,e3⟩,h3 _ e4⟩
theorem oI (l:List UInt8):be (dr l):=by
 have:=nY l
 unfold cF at this
 simp only[Bool.and_eq_true,decide_eq_true_eq] at this
 unfold be
 omega
set_option maxRecDepth 100000 in
set_option maxHeartbeats 1000000 in
theorem yD (gr go gp:Nat) (s:List UInt8) (acc:List Int) (A:Option Addr) (c:Nat) (hl:s.length≤140737488355320) (hac:acc.length≤254) (w:World)
  (hw:Cw B w0 (ak gr [.string ⟨s.toArray⟩] 143::ak go [.slice A acc.length c] 27::ap (.slice A acc.length c) acc::ak gp [.pointer (some ⟨gr,0,none⟩)] 141::H) w) :
  Calls Tryz.prog 171 #[.pointer (some ⟨go,0,none⟩),.pointer (some ⟨gp,0,none⟩)] w (jl B w0 gr (fK s) (fun _ (_:Option Addr×Nat)=> .tuple #[])
   (fun x g=>ak go [.slice g.1 (acc++ [x]).length g.2] 27::ap (.slice g.1 (acc++ [x]).length g.2) (acc++ [x])::ak gp [.pointer (some ⟨gr,0,none⟩)] 141::H) (ak gp [.pointer (some ⟨gr,0,none⟩)] 141::H)):=by
 refine bS Tryz.func171 rfl Tryz.ntmps171 rfl hw ?_
 refine pL (.still 0 (.still 1 (.pick 2 (.pick 3 (.pick 4 (.pick 5 (.pick 6 .done .stop) .stop) .stop) .stop) .stop))) [5,6] rfl (by kernel_rfl) (by kernel_rfl) [ak go [.slice A acc.length c] 27,ak gp [.pointer (some ⟨gr,0,none⟩)] 141] (fun ch w=>(fK s=none∧ch=mx)∧Cw B w0 (ak gp [.pointer (some ⟨gr,0,none⟩)] 141::H) w) (fun _ _ _ hf hp=>⟨hf,.inr ⟨_,rfl,hp⟩⟩) ?_
 refine ax rfl (aj fc aW rfl rfl (by rfl)) rfl rfl ha ?_
 refine ax rfl (aj fc fe rfl rfl (by rfl)) rfl rfl ha ?_
 refine vm rfl (di rfl rfl rfl Iv (fun w hw=>pq (H:=ak go [.slice A acc.length c] 27::ap (.slice A acc.length c) acc::ak gp [.pointer (some ⟨gr,0,none⟩)] 141::H) gr 4 s (by omega) w (hw.msub ms))) rfl rfl (.inr fun _=>ha) (fun _ _ hp=>⟨⟨by rw[p7,hp.1.1];rfl,hp.1.2⟩,hp.2.msub ms⟩) (fun⟨⟨a,r⟩,_⟩ hr=>?_) aE
 try dsimp only
 have hr:ix 4 s=some (a,r):=hr
 have hle:=qW hr
 have h4:fK s=some (dr a,r):=by rw[p7,hr];rfl
 refine aK rfl (aY rfl rfl rfl Tryz.call172 (fun w hw=>rW a w (by omega))) rfl rfl (.inr fun _=>ha) (fun _ _=>?_) aE
 refine aK rfl (bu (cs:= [_]) ah aF a6 rfl rfl rfl rfl rfl) rfl rfl (.inr fun _=>ha) (fun g1 _=>?_) aE
 refine aK rfl (dJ (α:=Int) (bytes:=8) (dr a) [] rfl ah (cU eE) rfl (fV fc fc) (eD (oI a)) (by omega) (by omega) rfl rfl rfl) rfl rfl (.inl rfl) (fun⟨A5,c5⟩ _=>?_) aE
 try dsimp only
 refine aK rfl (aJ _ fc cC rfl rfl rfl rfl rfl (by rfl) rfl (by rfl)) rfl rfl (.inl rfl) (fun _ _=>?_) aE
 refine qZ<|cq Tryz.results171 ?_
 intro w hw
 exact .inl ⟨((dr a,r),(A5,c5)),h4,rfl,hw.msub ms⟩
set_option maxRecDepth 100000 in
set_option maxHeartbeats 1000000 in
theorem pr (gr:Nat) (s:List UInt8) (hl:s.length≤140737488355320) (w:World) (hw:Cw B w0 (ak gr [.string ⟨s.toArray⟩] 143::H) w) :
  Calls Tryz.prog 134 #[.pointer (some ⟨gr,0,none⟩)] w (jl B w0 gr (eC s) (fun x (g:Option Addr×Nat)=> .slice g.1 x.length g.2) (fun x g=>ap (.slice g.1 x.length g.2) x::H) H):=by
 refine bS Tryz.func134 rfl Tryz.ntmps134 rfl hw ?_
 refine ac<|aa<|ag (bH rfl rfl rfl) rfl rfl (fun g1 _=>?_)
 refine rn 1 [1] rfl<|ae<|ac<|aa<|ag (aS j8 rfl rfl) rfl rfl (fun g2 _=>?_)
 refine ae<|ac<|aa<|af (aj fc fe rfl rfl (by rfl)) rfl rfl ?_
 refine rn 1 [3,4,5] rfl<|fl (fun w h=>Cw.nilO Int h) ?_
 refine ed (di rfl rfl rfl FA (fun w hw=>mW (H:=ak g1 [.pointer (some ⟨gr,0,none⟩)] 141::H) gr 171 [.pointer (some ⟨g2,0,none⟩),.pointer (some ⟨g1,0,none⟩)] fK oS (fun acc (g:Option Addr×Nat)=> [ak g2 [.slice g.1 acc.length g.2] 27,ap (.slice g.1 acc.length g.2) acc]) Tryz.call171 (fun s acc g w h1 h2 hw=>yD gr g2 g1 s acc g.1 g.2 h1 h2 w hw) s (none,0) hl w (hw.msub ms))) rfl rfl (fun _ _ _ hf hp=>⟨hf.2.1,.inr ⟨_,rfl,hp.1,hp.2.msub ms⟩⟩) (fun⟨⟨x,r⟩,⟨A,c⟩⟩ hr=>?_)
 try dsimp only
 refine ae<|ac<|aa<|af (aj fc aW rfl rfl (by rfl)) rfl rfl ?_
 refine rn 1 [2] rfl<|ae<|aq<|av Tryz.results134 (an rfl) ?_
 intro w hw
 exact .inl ⟨((x,r),(A,c)),hr,rfl,hw.msub ms⟩
theorem qC:nD eO:=fun s x r e=>by
 unfold eO at e
 split at e
 ·cases e
 rename_i n t e1
 split at e
 ·cases e
 split at e
 ·cases e
 rename_i z u e2
 obtain⟨_,rfl⟩:(⟨decide (n=1),z⟩:aX)=x∧u=r:=by simpa using e
 exact Nat.le_trans (oS _ _ _ e2) (gX e1).1
theorem yr {s r:List UInt8} {x:aX} (e:eO s=some (x,r)):be x.n:=by
 unfold eO at e
 split at e
 ·cases e
 rename_i n t e1
 split at e
 ·cases e
 split at e
 ·cases e
 rename_i z u e2
 ·obtain⟨rfl,_⟩:(⟨decide (n=1),z⟩:aX)=x∧u=r:=by simpa using e
  rw[p7] at e2
  cases h:ix 4 t with
  | none=>rw[h] at e2;cases e2
  | some p=>
   rw[h] at e2
   obtain⟨rfl,_⟩:dr p.1=z∧p.2=u:=by simpa using e2
   exact oI _
set_option maxRecDepth 100000 in
set_option maxHeartbeats 1000000 in
theorem yA (gr:Nat) (s:List UInt8) (hl:s.length≤140737488355320) (w:World) (hw:Cw B w0 (ak gr [.string ⟨s.toArray⟩] 143::H) w) :
  Calls Tryz.prog 174 #[.pointer (some ⟨gr,0,none⟩)] w (jl B w0 gr (eO s) (fun x (_:Unit)=> .agg #[.bool x.ref,.int .i64 x.n]) (fun _ _=>H) H):=by
 refine bS Tryz.func174 rfl Tryz.ntmps174 rfl hw ?_
 refine ac<|aa<|ag (aS cy rfl rfl) rfl rfl (fun g1 _=>?_)
 refine ae<|ac<|aa<|rn 1 [0,2,4] rfl<|ed (di rfl rfl rfl rA (fun w hw=>ko gr s (by omega) w (hw.msub (.s fc .r)))) rfl rfl (fun _ _ _ hf hp=>⟨hf.2.1,.inr ⟨_,rfl,⟨by unfold eO;rw[hp.1.1],hp.1.2⟩,hp.2.msub ms⟩⟩) (fun⟨⟨n,r⟩,_⟩ hr=>?_)
 try dsimp only
 refine rn 1 [0,2,3] rfl<|ae<|ac<|ac<|aa<|rn 2 [0,2,3,7] rfl<|ae ?_
 have hn:=gX hr
 refine aw rfl (fun h1=>?_) (fun h1=>?_)
 ·refine aa<|af (bN (cs:= []) vB sU rfl rfl (by rfl)) rfl rfl ?_
  refine af (nh Ca rfl rfl) rfl rfl<|iV rfl rfl rfl ?_
  intro a w hf hw
  exact⟨hf.2.1,.inr ⟨_,rfl,⟨by unfold eO;rw[hr];simp only;rw[if_pos h1],rfl⟩,hw.msub ms⟩⟩
 have hv:eO s=(fK r).map fun q=>((⟨decide (n=1),q.1⟩:aX),q.2):=by
  unfold eO
  rw[hr]
  simp only
  rw[if_neg h1]
  cases fK r <;> rfl
 refine ar (am ?_)
 refine ac<|aa<|rn 3 [2,11,12] rfl<|ed (di rfl rfl rfl Iv (fun w hw=>pq gr 4 r (by omega) w (hw.msub (.s fc .r)))) rfl rfl (fun _ _ _ hf hp=>⟨hf.2.1,.inr ⟨_,rfl,⟨by rw[hv,p7,hp.1.1];rfl,hp.1.2⟩,hp.2.msub ms⟩⟩) (fun⟨⟨a,t⟩,_⟩ ht=>?_)
 try dsimp only
 have ht:ix 4 r=some (a,t):=ht
 have hle:=qW ht
 refine ag (aY rfl rfl rfl Tryz.call172 (fun w hw=>rW a w (by omega))) rfl rfl (fun _ _=>?_)
 refine af (bN (cs:= [_,_]) nR cy rfl rfl (by rfl)) rfl rfl ?_
 refine ag (aJ _ fc aV rfl rfl rfl rfl rfl (by rfl) rfl (by rfl)) rfl rfl (fun _ _=>?_)
 refine ae<|aq<|av Tryz.results174 (dH (cs:= [_,_]) fc dZ aV rfl) ?_
 intro w hw
 exact .inl ⟨((⟨decide (n=1),dr a⟩,t),()),by rw[hv,p7,ht];rfl,rfl,hw.msub ms⟩
set_option maxRecDepth 100000 in
set_option maxHeartbeats 1000000 in
theorem yB (gr go gp:Nat) (s:List UInt8) (acc:List aX) (A:Option Addr) (c:Nat) (hl:s.length≤140737488355320) (hac:acc.length≤254) (w:World)
  (hw:Cw B w0 (ak gr [.string ⟨s.toArray⟩] 143::ak go [.slice A acc.length c] 95::ap (.slice A acc.length c) acc::ak gp [.pointer (some ⟨gr,0,none⟩)] 141::H) w) :
  Calls Tryz.prog 173 #[.pointer (some ⟨go,0,none⟩),.pointer (some ⟨gp,0,none⟩)] w (jl B w0 gr (eO s) (fun _ (_:Option Addr×Nat)=> .tuple #[])
   (fun x g=>ak go [.slice g.1 (acc++ [x]).length g.2] 95::ap (.slice g.1 (acc++ [x]).length g.2) (acc++ [x])::ak gp [.pointer (some ⟨gr,0,none⟩)] 141::H) (ak gp [.pointer (some ⟨gr,0,none⟩)] 141::H)):=by
 refine bS Tryz.func173 rfl Tryz.ntmps173 rfl hw ?_
 refine pL (.still 0 (.still 1 (.pick 2 (.pick 3 (.pick 4 (.pick 5 .done .stop) .stop) .stop) .stop))) [4,5] rfl (by kernel_rfl) (by kernel_rfl) [ak go [.slice A acc.length c] 95,ak gp [.pointer (some ⟨gr,0,none⟩)] 141] (fun ch w=>(eO s=none∧ch=mx)∧Cw B w0 (ak gp [.pointer (some ⟨gr,0,none⟩)] 141::H) w) (fun _ _ _ hf hp=>⟨hf,.inr ⟨_,rfl,hp⟩⟩) ?_
 refine ax rfl (aj fc cz rfl rfl (by rfl)) rfl rfl ha ?_
 refine ax rfl (aj fc fe rfl rfl (by rfl)) rfl rfl ha ?_
 refine vm rfl (di rfl rfl rfl Tryz.call174 (fun w hw=>yA (H:=ak go [.slice A acc.length c] 95::ap (.slice A acc.length c) acc::ak gp [.pointer (some ⟨gr,0,none⟩)] 141::H) gr s hl w (hw.msub ms))) rfl rfl (.inr fun _=>ha) (fun _ _ hp=>⟨hp.1,hp.2.msub ms⟩) (fun⟨⟨v,r⟩,_⟩ hr=>?_) aE
 try dsimp only
 refine aK rfl (bu (cs:= [_,_]) aI aV cy rfl rfl rfl rfl rfl) rfl rfl (.inr fun _=>ha) (fun g1 _=>?_) aE
 have hr:eO s=some (v,r):=hr
 refine aK rfl (dJ (α:=aX) (bytes:=16) v [] rfl aI (cU gg) rfl (fV fc fc) (eD (show be v.n from yr hr)) (by omega) (by omega) rfl rfl rfl) rfl rfl (.inl rfl) (fun⟨A5,c5⟩ _=>?_) aE
 try dsimp only
 refine aK rfl (aJ _ fc fd rfl rfl rfl rfl rfl (by rfl) rfl (by rfl)) rfl rfl (.inl rfl) (fun _ _=>?_) aE
 refine qZ<|cq Tryz.results173 ?_
 intro w hw
 exact .inl ⟨((v,r),(A5,c5)),hr,rfl,hw.msub ms⟩
set_option maxRecDepth 100000 in
set_option maxHeartbeats 1000000 in
theorem tN (gr:Nat) (s:List UInt8) (hl:s.length≤140737488355320) (w:World) (hw:Cw B w0 (ak gr [.string ⟨s.toArray⟩] 143::H) w) :
  Calls Tryz.prog 138 #[.pointer (some ⟨gr,0,none⟩)] w (jl B w0 gr (fT s) (fun x (g:Option Addr×Nat)=> .slice g.1 x.length g.2) (fun x g=>ap (.slice g.1 x.length g.2) x::H) H):=by
 refine bS Tryz.func138 rfl Tryz.ntmps138 rfl hw ?_
 refine ac<|aa<|ag (bH rfl rfl rfl) rfl rfl (fun g1 _=>?_)
 refine rn 1 [1] rfl<|ae<|ac<|aa<|ag (aS uJ rfl rfl) rfl rfl (fun g2 _=>?_)
 refine ae<|ac<|aa<|af (aj fc fe rfl rfl (by rfl)) rfl rfl ?_
 refine rn 1 [3,4,5] rfl<|fl (fun w h=>Cw.nilO aX h) ?_
 refine ed (di rfl rfl rfl FA (fun w hw=>mW (H:=ak g1 [.pointer (some ⟨gr,0,none⟩)] 141::H) gr 173 [.pointer (some ⟨g2,0,none⟩),.pointer (some ⟨g1,0,none⟩)] eO qC (fun acc (g:Option Addr×Nat)=> [ak g2 [.slice g.1 acc.length g.2] 95,ap (.slice g.1 acc.length g.2) acc]) Tryz.call173 (fun s acc g w h1 h2 hw=>yB gr g2 g1 s acc g.1 g.2 h1 h2 w hw) s (none,0) hl w (hw.msub ms))) rfl rfl (fun _ _ _ hf hp=>⟨hf.2.1,.inr ⟨_,rfl,hp.1,hp.2.msub ms⟩⟩) (fun⟨⟨x,r⟩,⟨A,c⟩⟩ hr=>?_)
 try dsimp only
 refine ae<|ac<|aa<|af (aj fc cz rfl rfl (by rfl)) rfl rfl ?_
 refine rn 1 [2] rfl<|ae<|aq<|av Tryz.results138 (an rfl) ?_
 intro w hw
 exact .inl ⟨((x,r),(A,c)),hr,rfl,hw.msub ms⟩
end
end
section
section
variable {B:Nat} {w0:World} {H:List a7}
theorem uk:(Tryz.prog.info? 27).map (fun i=>(i.zero,i.size,i.bytes))=some (some (.slice none 0 0),1,24):=by kernel_rfl
set_option maxRecDepth 100000 in
set_option maxHeartbeats 1000000 in
theorem yG (gr gm gp:Nat) (vf vi vo vs vt:Value) (s:List UInt8) (acc:List (List Int)) (A:Option Addr) (c:Nat) (hl:s.length≤140737488355320) (hac:acc.length≤254) (w:World)
  (hw:Cw B w0 (ak gr [.string ⟨s.toArray⟩] 143::ak gm [vf,.slice A acc.length c,vi,vo,vs,vt] 29::ap (.slice A acc.length c) acc::ak gp [.pointer (some ⟨gr,0,none⟩)] 141::H) w) :
  Calls Tryz.prog 136 #[.pointer (some ⟨gm,0,none⟩),.pointer (some ⟨gp,0,none⟩)] w (jl B w0 gr (eC s) (fun _ (_:Option Addr×Nat)=> .tuple #[])
   (fun x g=>ak gm [vf,.slice g.1 (acc++ [x]).length g.2,vi,vo,vs,vt] 29::ap (.slice g.1 (acc++ [x]).length g.2) (acc++ [x])::ak gp [.pointer (some ⟨gr,0,none⟩)] 141::H) (ak gp [.pointer (some ⟨gr,0,none⟩)] 141::H)):=by
 refine bS Tryz.func136 rfl Tryz.ntmps136 rfl hw ?_
 refine pL (.still 0 (.still 1 (.still 2 (.pick 3 (.pick 4 (.pick 5 (.calm 6 (.pick 7 .done .stop)) .stop) .stop) .stop)))) [5,6,7] rfl (by kernel_rfl) (by kernel_rfl) [ak gm [vf,.slice A acc.length c,vi,vo,vs,vt] 29,ak gp [.pointer (some ⟨gr,0,none⟩)] 141] (fun ch w=>(eC s=none∧ch=mx)∧Cw B w0 (ak gp [.pointer (some ⟨gr,0,none⟩)] 141::H) w) (fun _ _ _ hf hp=>⟨hf,.inr ⟨_,rfl,hp⟩⟩) ?_
 refine aU ha 1 [0,1,2] rfl<|ax rfl (aj fc dS rfl rfl (by rfl)) rfl rfl ha ?_
 refine ax rfl (aj fc fe rfl rfl (by rfl)) rfl rfl ha ?_
 refine vm rfl (di rfl rfl rfl Iz (fun w hw=>pr (H:=ak gm [vf,.slice A acc.length c,vi,vo,vs,vt] 29::ap (.slice A acc.length c) acc::ak gp [.pointer (some ⟨gr,0,none⟩)] 141::H) gr s hl w (hw.msub ms))) rfl rfl (.inr fun _=>ha) (fun _ _ hp=>⟨hp.1,hp.2.msub ms⟩) (fun⟨⟨x,r⟩,⟨Ax,cx⟩⟩ hr=>?_) aE
 try dsimp only
 refine aK rfl (bu (cs:= [_]) bF cC j8 rfl rfl rfl rfl rfl) rfl rfl (.inr fun _=>ha) (fun g1 _=>?_) aE
 have hr:eC s=some (x,r):=hr
 refine aK rfl (dJ (α:=List Int) (bytes:=24) x [ap (.slice Ax x.length cx) x] rfl bF (cU uk) rfl (yR fc fc fc) vT (by omega) (by omega) rfl rfl rfl) rfl rfl (.inl rfl) (fun⟨A5,c5⟩ _=>?_) aE
 try dsimp only
 refine gL 1 [7,8] rfl<|aK rfl (aJ _ fc Cb rfl rfl rfl rfl rfl (by rfl) rfl (by rfl)) rfl rfl (.inl rfl) (fun _ _=>?_) aE
 refine qZ<|cq Tryz.results136 ?_
 intro w hw
 exact .inl ⟨((x,r),(A5,c5)),hr,rfl,hw.msub ms⟩
theorem mw:nD fT:=ow qC
theorem l5:nD eC:=ow oS
theorem xg:nD dW:=fun s x r e=>by
 unfold dW at e
 split at e
 ·cases e
 rename_i f s1 e1
 split at e
 ·cases e
 rename_i p s2 e2
 split at e
 ·cases e
 rename_i l s3 e3
 split at e
 ·cases e
 rename_i t s4 e4
 obtain⟨_,rfl⟩:(⟨f,p,l,t⟩:aO)=x∧s4=r:=by simpa using e
 have:=(gX e1).1
 have:=(gX e2).1
 have:=mw _ _ _ e3
 have:=mw _ _ _ e4
 omega
set_option maxRecDepth 100000 in
set_option maxHeartbeats 2000000 in
theorem yF (gr gm gp:Nat) (vb vi vo vs vt:Value) (s:List UInt8) (acc:List aO) (A:Option Addr) (c:Nat) (hl:s.length≤140737488355320) (hac:acc.length≤254) (w:World)
  (hw:Cw B w0 (ak gr [.string ⟨s.toArray⟩] 143::ak gm [.slice A acc.length c,vb,vi,vo,vs,vt] 29::ap (.slice A acc.length c) acc::ak gp [.pointer (some ⟨gr,0,none⟩)] 141::H) w) :
  Calls Tryz.prog 137 #[.pointer (some ⟨gp,0,none⟩),.pointer (some ⟨gm,0,none⟩)] w (jl B w0 gr (dW s) (fun _ (_:Option Addr×Nat)=> .tuple #[])
   (fun x g=>ak gm [.slice g.1 (acc++ [x]).length g.2,vb,vi,vo,vs,vt] 29::ap (.slice g.1 (acc++ [x]).length g.2) (acc++ [x])::ak gp [.pointer (some ⟨gr,0,none⟩)] 141::H) (ak gp [.pointer (some ⟨gr,0,none⟩)] 141::H)):=by
 refine bS Tryz.func137 rfl Tryz.ntmps137 rfl hw ?_
 refine ac<|aa<|af (aj fc fe rfl rfl (by rfl)) rfl rfl ?_
 refine ed (di rfl rfl rfl rA (fun w hw=>ko (H:=ak gm [.slice A acc.length c,vb,vi,vo,vs,vt] 29::ap (.slice A acc.length c) acc::ak gp [.pointer (some ⟨gr,0,none⟩)] 141::H) gr s (by omega) w (hw.msub ms))) rfl rfl (fun _ _ _ hf hp=>⟨hf.2.1,.inr ⟨_,rfl,⟨by unfold dW;rw[hp.1.1],hp.1.2⟩,hp.2.msub ms⟩⟩) (fun⟨⟨f,s1⟩,_⟩ e1=>?_)
 try dsimp only
 refine af (bN (cs:= [_,_,_,_]) uL cP rfl rfl (by rfl)) rfl rfl ?_
 refine ag (aS cP rfl rfl) rfl rfl (fun g1 _=>?_)
 refine ag (aJ _ fc bn rfl rfl rfl rfl rfl (by rfl) rfl (by rfl)) rfl rfl (fun _ _=>?_)
 refine ae<|ac<|aa<|af (aj fc fe rfl rfl (by rfl)) rfl rfl ?_
 have e1:eQ s=some (f,s1):=e1
 have k1:=gX e1
 refine ed (di rfl rfl rfl rA (fun w hw=>ko (H:=ak g1 [.int .i64 f,.int .i64 0,.slice none 0 0,.slice none 0 0] 97::ak gm [.slice A acc.length c,vb,vi,vo,vs,vt] 29::ap (.slice A acc.length c) acc::ak gp [.pointer (some ⟨gr,0,none⟩)] 141::H) gr s1 (by omega) w (hw.msub ms))) rfl rfl (fun _ _ _ hf hp=>⟨hf.2.1,.inr ⟨_,rfl,⟨by unfold dW;rw[e1];simp only;rw[hp.1.1],hp.1.2⟩,hp.2.msub ms⟩⟩) (fun⟨⟨p,s2⟩,_⟩ e2=>?_)
 try dsimp only
 refine rn 1 [0,1,2,7,8] rfl<|ag (aJ _ fc aF rfl rfl rfl rfl rfl (by rfl) rfl (by rfl)) rfl rfl (fun _ _=>?_)
 refine ae<|ac<|aa<|af (aj fc fe rfl rfl (by rfl)) rfl rfl ?_
 have e2:eQ s1=some (p,s2):=e2
 have k2:=gX e2
 refine ed (di rfl rfl rfl Tryz.call138 (fun w hw=>tN (H:=ak g1 [.int .i64 f,.int .i64 p,.slice none 0 0,.slice none 0 0] 97::ak gm [.slice A acc.length c,vb,vi,vo,vs,vt] 29::ap (.slice A acc.length c) acc::ak gp [.pointer (some ⟨gr,0,none⟩)] 141::H) gr s2 (by omega) w (hw.msub ms))) rfl rfl (fun _ _ _ hf hp=>⟨hf.2.1,.inr ⟨_,rfl,⟨by unfold dW;rw[e1];simp only;rw[e2];simp only;rw[hp.1.1],hp.1.2⟩,hp.2.msub ms⟩⟩) (fun⟨⟨l,s3⟩,⟨Al,cl⟩⟩ e3=>?_)
 try dsimp only
 refine rn 1 [0,1,2,10,11] rfl<|ag (aJ _ fc fd rfl rfl rfl rfl rfl (by rfl) rfl (by rfl)) rfl rfl (fun _ _=>?_)
 refine ae<|ac<|aa<|af (aj fc fe rfl rfl (by rfl)) rfl rfl ?_
 have e3:fT s2=some (l,s3):=e3
 have k3:=mw _ _ _ e3
 refine ed (di rfl rfl rfl Tryz.call138 (fun w hw=>tN (H:=ak g1 [.int .i64 f,.int .i64 p,.slice Al l.length cl,.slice none 0 0] 97::ap (.slice Al l.length cl) l::ak gm [.slice A acc.length c,vb,vi,vo,vs,vt] 29::ap (.slice A acc.length c) acc::ak gp [.pointer (some ⟨gr,0,none⟩)] 141::H) gr s3 (by omega) w (hw.msub ms))) rfl rfl (fun _ _ _ hf hp=>⟨hf.2.1,.inr ⟨_,rfl,⟨by unfold dW;rw[e1];simp only;rw[e2];simp only;rw[e3];simp only;rw[hp.1.1],hp.1.2⟩,hp.2.msub ms⟩⟩) (fun⟨⟨t,s4⟩,⟨At,ct⟩⟩ e4=>?_)
 try dsimp only
 refine rn 1 [1,2,13,14] rfl<|ag (aJ _ fc fd rfl rfl rfl rfl rfl (by rfl) rfl (by rfl)) rfl rfl (fun _ _=>?_)
 refine ae<|aa<|rn 1 [1,2,15] rfl<|af (aj fc bP rfl rfl (by rfl)) rfl rfl ?_
 refine af (aN (vs:= [_,_,_,_]) fc gK bn rfl rfl (by rfl) rfl) rfl rfl ?_
 refine ag (bu (cs:= [_,_,_,_]) aP bn cP rfl rfl rfl rfl rfl) rfl rfl (fun g2 _=>?_)
 have e4:fT s3=some (t,s4):=e4
 have hx:dW s=some (⟨f,p,l,t⟩,s4):=by unfold dW;rw[e1];simp only;rw[e2];simp only;rw[e3];simp only;rw[e4]
 refine ag (dJ (α:=aO) (bytes:=64) ⟨f,p,l,t⟩ [ap (.slice Al l.length cl) l,ap (.slice At t.length ct) t] rfl aP (cU kR) rfl (yQ fc fc fc fc) (si (x:=⟨f,p,l,t⟩) ⟨⟨by show _≤f;omega,by show f≤_;omega⟩,⟨by show _≤p;omega,by show p≤_;omega⟩⟩) (by omega) (by omega) rfl rfl rfl) rfl rfl (fun⟨A5,c5⟩ _=>?_)
 try dsimp only
 refine rn 1 [19,20] rfl<|ag (aJ _ fc un rfl rfl rfl rfl rfl (by rfl) rfl (by rfl)) rfl rfl (fun _ _=>?_)
 refine bC<|cq Tryz.results137 ?_
 intro w hw
 exact .inl ⟨((⟨f,p,l,t⟩,s4),(A5,c5)),hx,rfl,hw.msub ms⟩
end
end
section
section
variable {B:Nat} {w0:World} {H:List a7}
theorem jJ {s:List UInt8} (h:gF s=none):fq s=none:=by unfold fq;rw[h]
set_option maxRecDepth 100000 in
set_option maxHeartbeats 4000000 in
theorem yE (gr:Nat) (s:List UInt8) (hl:s.length≤140737488355320) (w:World) (hw:Cw B w0 (ak gr [.string ⟨s.toArray⟩] 143::H) w) :
  Calls Tryz.prog 105 #[.pointer (some ⟨gr,0,none⟩)] w fun e w'=>(∃g:aG×MA,fq s=some g.1∧e= .returned (.agg #[.slice g.2.Af g.1.frames.length g.2.cf,.slice g.2.Ab g.1.blocks.length g.2.cb,.slice g.2.Ai g.1.inn.length g.2.ci,.slice g.2.Ao g.1.out.length g.2.co,.int .i64 g.1.status,.int .i64 g.1.trap])∧Cw B w0 (ap (.slice g.2.Af g.1.frames.length g.2.cf) g.1.frames::ap (.slice g.2.Ab g.1.blocks.length g.2.cb) g.1.blocks::ap (.slice g.2.Ai g.1.inn.length g.2.ci) g.1.inn::ap (.slice g.2.Ao g.1.out.length g.2.co) g.1.out::H) w')∨∃ch,e= .panicked ch∧(fq s=none∧ch=mx)∧Cw B w0 H w':=by
 refine bS Tryz.func105 rfl Tryz.ntmps105 rfl hw ?_
 refine ac<|aa<|ag (bH rfl rfl rfl) rfl rfl (fun g1 _=>?_)
 refine ag (aS aR rfl rfl) rfl rfl (fun g2 _=>?_)
 refine ae<|ac<|aa<|af (aj fc fe rfl rfl (by rfl)) rfl rfl ?_
 refine ed (di rfl rfl rfl rA (fun w hw=>ko (H:=ak g1 [.pointer (some ⟨gr,0,none⟩)] 141::ak g2 [.slice none 0 0,.slice none 0 0,.slice none 0 0,.slice none 0 0,.int .i64 0,.int .i64 0] 29::H) gr s (by omega) w (hw.msub ms))) rfl rfl (fun _ _ _ hf hp=>⟨hf.2.1,.inr ⟨_,rfl,⟨jJ (by unfold gF;rw[hp.1.1]),hp.1.2⟩,hp.2.msub ms⟩⟩) (fun⟨⟨st,s1⟩,_⟩ e1=>?_)
 try dsimp only
 refine af (bN (cs:= [_,_,_,_,_,_]) ij aR rfl rfl (by rfl)) rfl rfl ?_
 refine ag (aS aR rfl rfl) rfl rfl (fun g3 _=>?_)
 refine ag (aJ _ fc ay rfl rfl rfl rfl rfl (by rfl) rfl (by rfl)) rfl rfl (fun _ _=>?_)
 refine ae<|ac<|aa<|af (aj fc fe rfl rfl (by rfl)) rfl rfl ?_
 have e1:eQ s=some (st,s1):=e1
 have k1:=gX e1
 refine ed (di rfl rfl rfl rA (fun w hw=>ko (H:=ak g3 [.slice none 0 0,.slice none 0 0,.slice none 0 0,.slice none 0 0,.int .i64 st,.int .i64 0] 29::ak g1 [.pointer (some ⟨gr,0,none⟩)] 141::ak g2 [.slice none 0 0,.slice none 0 0,.slice none 0 0,.slice none 0 0,.int .i64 0,.int .i64 0] 29::H) gr s1 (by omega) w (hw.msub ms))) rfl rfl (fun _ _ _ hf hp=>⟨hf.2.1,.inr ⟨_,rfl,⟨jJ (by unfold gF;rw[e1];simp only;rw[hp.1.1]),hp.1.2⟩,hp.2.msub ms⟩⟩) (fun⟨⟨tr,s2⟩,_⟩ e2=>?_)
 try dsimp only
 refine rn 1 [1,2,3,8,9] rfl<|ag (aJ _ fc aF rfl rfl rfl rfl rfl (by rfl) rfl (by rfl)) rfl rfl (fun _ _=>?_)
 refine ae<|ac<|aa<|af (aj fc fe rfl rfl (by rfl)) rfl rfl ?_
 have e2:eQ s1=some (tr,s2):=e2
 have k2:=gX e2
 refine ed (di rfl rfl rfl Iz (fun w hw=>pr (H:=ak g3 [.slice none 0 0,.slice none 0 0,.slice none 0 0,.slice none 0 0,.int .i64 st,.int .i64 tr] 29::ak g1 [.pointer (some ⟨gr,0,none⟩)] 141::ak g2 [.slice none 0 0,.slice none 0 0,.slice none 0 0,.slice none 0 0,.int .i64 0,.int .i64 0] 29::H) gr s2 (by omega) w (hw.msub ms))) rfl rfl (fun _ _ _ hf hp=>⟨hf.2.1,.inr ⟨_,rfl,⟨jJ (by unfold gF;rw[e1];simp only;rw[e2];simp only;rw[hp.1.1]),hp.1.2⟩,hp.2.msub ms⟩⟩) (fun⟨⟨i,s3⟩,⟨Ai,ci⟩⟩ e3=>?_)
 try dsimp only
 refine rn 1 [1,2,3,11,12] rfl<|ag (aJ _ fc cC rfl rfl rfl rfl rfl (by rfl) rfl (by rfl)) rfl rfl (fun _ _=>?_)
 refine ae<|ac<|aa<|af (aj fc fe rfl rfl (by rfl)) rfl rfl ?_
 have e3:eC s2=some (i,s3):=e3
 have k3:=l5 _ _ _ e3
 refine ed (di rfl rfl rfl Iz (fun w hw=>pr (H:=ak g3 [.slice none 0 0,.slice none 0 0,.slice Ai i.length ci,.slice none 0 0,.int .i64 st,.int .i64 tr] 29::ap (.slice Ai i.length ci) i::ak g1 [.pointer (some ⟨gr,0,none⟩)] 141::ak g2 [.slice none 0 0,.slice none 0 0,.slice none 0 0,.slice none 0 0,.int .i64 0,.int .i64 0] 29::H) gr s3 (by omega) w (hw.msub ms))) rfl rfl (fun _ _ _ hf hp=>⟨hf.2.1,.inr ⟨_,rfl,⟨jJ (by unfold gF;rw[e1];simp only;rw[e2];simp only;rw[e3];simp only;rw[hp.1.1]),hp.1.2⟩,hp.2.msub ms⟩⟩) (fun⟨⟨o,s4⟩,⟨Ao,co⟩⟩ e4=>?_)
 try dsimp only
 refine rn 1 [1,2,3,14,15] rfl<|ag (aJ _ fc cC rfl rfl rfl rfl rfl (by rfl) rfl (by rfl)) rfl rfl (fun _ _=>?_)
 refine ae<|ac<|aa<|af (aj fc fe rfl rfl (by rfl)) rfl rfl ?_
 refine rn 1 [1,2,3,16,17] rfl ?_
 have e4:eC s3=some (o,s4):=e4
 have k4:=l5 _ _ _ e4
 refine fl (fun w h=>Cw.nilO (List Int) h) ?_
 refine ed (di rfl rfl rfl FA (fun w hw=>mW (H:=ak g1 [.pointer (some ⟨gr,0,none⟩)] 141::ap (.slice Ai i.length ci) i::ap (.slice Ao o.length co) o::ak g2 [.slice none 0 0,.slice none 0 0,.slice none 0 0,.slice none 0 0,.int .i64 0,.int .i64 0] 29::H) gr 136 [.pointer (some ⟨g3,0,none⟩),.pointer (some ⟨g1,0,none⟩)] eC l5 (fun acc (g:Option Addr×Nat)=> [ak g3 [.slice none 0 0,.slice g.1 acc.length g.2,.slice Ai i.length ci,.slice Ao o.length co,.int .i64 st,.int .i64 tr] 29,ap (.slice g.1 acc.length g.2) acc]) Tryz.call136 (fun s acc g w h1 h2 hw=>yG gr g3 g1 _ _ _ _ _ s acc g.1 g.2 h1 h2 w hw) s4 (none,0) (by omega) w (hw.msub ms))) rfl rfl (fun _ _ _ hf hp=>⟨hf.2.1,.inr ⟨_,rfl,⟨jJ (by unfold gF;rw[e1];simp only;rw[e2];simp only;rw[e3];simp only;rw[e4];simp only;rw[hp.1.1]),hp.1.2⟩,hp.2.msub ms⟩⟩) (fun⟨⟨b,s5⟩,⟨Ab,cb⟩⟩ e5=>?_)
 try dsimp only
 refine ae<|ac<|aa<|af (aj fc fe rfl rfl (by rfl)) rfl rfl ?_
 refine rn 1 [1,2,3,19,20] rfl ?_
 have e5:dR eC s4=some (b,s5):=e5
 have k5:=ow l5 _ _ _ e5
 refine fl (fun w h=>Cw.nilO aO h) ?_
 refine ed (di rfl rfl rfl FA (fun w hw=>mW (H:=ak g1 [.pointer (some ⟨gr,0,none⟩)] 141::ap (.slice Ab b.length cb) b::ap (.slice Ai i.length ci) i::ap (.slice Ao o.length co) o::ak g2 [.slice none 0 0,.slice none 0 0,.slice none 0 0,.slice none 0 0,.int .i64 0,.int .i64 0] 29::H) gr 137 [.pointer (some ⟨g1,0,none⟩),.pointer (some ⟨g3,0,none⟩)] dW xg (fun acc (g:Option Addr×Nat)=> [ak g3 [.slice g.1 acc.length g.2,.slice Ab b.length cb,.slice Ai i.length ci,.slice Ao o.length co,.int .i64 st,.int .i64 tr] 29,ap (.slice g.1 acc.length g.2) acc]) Tryz.call137 (fun s acc g w h1 h2 hw=>yF gr g3 g1 _ _ _ _ _ s acc g.1 g.2 h1 h2 w hw) s5 (none,0) (by omega) w (hw.msub ms))) rfl rfl (fun _ _ _ hf hp=>⟨hf.2.1,.inr ⟨_,rfl,⟨jJ (by unfold gF;rw[e1];simp only;rw[e2];simp only;rw[e3];simp only;rw[e4];simp only;rw[e5];simp only;rw[hp.1.1]),hp.1.2⟩,hp.2.msub ms⟩⟩) (fun⟨⟨f,s6⟩,⟨Af,cf⟩⟩ e6=>?_)
 try dsimp only
 refine ae<|ac<|ac<|aa<|af (aj fc fe rfl rfl (by rfl)) rfl rfl ?_
 refine rn 2 [2,3,24] rfl<|af (aj fc qv rfl rfl (by rfl)) rfl rfl ?_
 have e6:dR dW s5=some (f,s6):=e6
 have hm:gF s=some (⟨f,b,i,o,st,tr⟩,s6):=by unfold gF;rw[e1];simp only;rw[e2];simp only;rw[e3];simp only;rw[e4];simp only;rw[e5];simp only;rw[e6]
 refine af (FQ rfl rfl rfl) rfl rfl<|ae<|bY rfl (fun h7=>?_) (fun h7=>?_)
 ·have ht:fq s=none:=by unfold fq;rw[hm];simp only;rw[if_neg h7]
  refine aa<|af (bN (cs:= []) vB sU rfl rfl (by rfl)) rfl rfl ?_
  refine af (nh Ca rfl rfl) rfl rfl<|iV rfl rfl rfl ?_
  intro a w hf hw
  exact⟨hf.2.1,.inr ⟨_,rfl,⟨ht,rfl⟩,hw.msub ms⟩⟩
 have ht:fq s=some ⟨f,b,i,o,st,tr⟩:=by unfold fq;rw[hm];simp only;rw[if_pos h7]
 refine ar (am ?_)
 refine ac<|aa<|af (aN (vs:= [_,_,_,_,_,_]) fc aT ay rfl rfl (by rfl) rfl) rfl rfl ?_
 refine ag (aJ _ fc ay rfl rfl rfl rfl rfl (by rfl) rfl (by rfl)) rfl rfl (fun _ _=>?_)
 refine ae<|aq<|av Tryz.results105 (dH (cs:= [_,_,_,_,_,_]) fc aT ay rfl) ?_
 intro w hw
 exact .inl ⟨(⟨f,b,i,o,st,tr⟩,⟨Af,cf,Ab,cb,Ai,ci,Ao,co⟩),ht,rfl,hw.msub ms⟩
theorem wF (w:World):(binOp .neq 20 (.iface 139 (.agg #[])) .nilIface).run Tryz.prog w= .ok (.bool true) w:=by kernel_rfl
theorem rz (w:World):(Instr.typeAssert (.iface 139 (.agg #[])) 20 139 true).run Tryz.prog w= .ok (.tuple #[.agg #[],.bool true]) w:=by kernel_rfl
set_option maxRecDepth 100000 in
set_option maxHeartbeats 1000000 in
theorem yx (ga gb : Nat) (v1 v2 v3 v4 v5 v6 vb : Value) (w : World) (hw : Cw B w0 (ak ga [v1, v2, v3, v4, v5, v6] 29 :: ak gb [vb] 4 :: H) w) :
    CallsD Tryz.prog 104 #[.pointer (some ⟨ga, 0, none⟩), .pointer (some ⟨gb, 0, none⟩)] (.panicking mx) w fun e u' w' => (∃ v, e = .returned v) ∧ settle u' = .returning ∧ Cw B w0 (ak ga [.slice none 0 0, .slice none 0 0, .slice none 0 0, .slice none 0 0, .int .i64 0, .int .i64 0] 29 :: ak gb [.bool false] 4 :: H) w' := by
  refine callsD_of_wpS Tryz.func104 rfl fun c₀ cs hu => ?_
  apply wpS_seq
  apply wpS_region
  simp [wpOpsS, go_sem, recoverD, hu, Tryz.ntmps104, Exit.thenS, mx]
  refine wpS_of_wp ?_
  refine (show CW Tryz.prog ⟨17, []⟩ B w0 _ _ [(0, .pointer (some ⟨ga, 0, none⟩)), (1, .pointer (some ⟨gb, 0, none⟩)), (2, .iface 139 (.agg #[]))] (ak ga [v1, v2, v3, v4, v5, v6] 29 :: ak gb [vb] 4 :: H) from ?_) _ w ?_ hw
  · refine ac ?_
    refine aa ?_
    refine rn 1 [0, 1, 2, 6] rfl ?_
    refine af (lf rfl rfl rfl wF (fun _ => rfl)) rfl rfl ?_
    refine ae ?_
    refine cN (t := 7) (v' := .bool true) rfl (rfl) ?_
    refine bA rfl ?_
    refine ac ?_
    refine ac ?_
    refine aa ?_
    refine rn 1 [0, 1, 2, 9] rfl ?_
    refine af (rP rz rfl rfl) rfl rfl ?_
    refine rn 3 [0, 1, 2, 11, 12] rfl ?_
    refine ag (aS sU rfl rfl) rfl rfl (fun g1 _ => ?_)
    refine ag (aJ _ fc Tryz.sizeOf139 rfl rfl rfl rfl rfl (by rfl) rfl (by rfl)) rfl rfl (fun _ _ => ?_)
    refine rn 1 [0, 1, 2, 4] rfl ?_
    refine ae ?_
    refine ac ?_
    refine aa ?_
    refine rn 2 [0, 1, 2, 14] rfl ?_
    refine ae ?_
    refine cN (t := 14) (v' := .bool false) rfl (rfl) ?_
    refine bZ rfl ?_
    refine ar (am ?_)
    refine aa ?_
    refine af (bN (cs := [_, _, _, _, _, _]) ij aR rfl rfl (by rfl)) rfl rfl ?_
    refine ag (aJ _ fc ay rfl rfl rfl rfl rfl (by rfl) rfl (by rfl)) rfl rfl (fun _ _ => ?_)
    refine ag (aJ _ fc dK rfl rfl rfl rfl rfl (by rfl) rfl (by rfl)) rfl rfl (fun _ _ => ?_)
    intro a w hf hw
    refine ⟨hf.2.1, _, rfl, .tuple #[], ?_, ⟨_, rfl⟩, rfl, hw.msub ms⟩
    simp [results, Tryz.results104]
  · refine ⟨by simp, rfl, fun t v e => ?_⟩
    simp only [lk] at e
    split at e
    · rename_i h
      have h := Nat.eq_of_beq_eq_true h
      subst h
      injection e with e
      subst e
      exact ⟨by show _ < 17; decide, by simp⟩
    · split at e
      · rename_i h
        have h := Nat.eq_of_beq_eq_true h
        subst h
        injection e with e
        subst e
        exact ⟨by show _ < 17; decide, by simp⟩
      · split at e
        · rename_i h
          have h := Nat.eq_of_beq_eq_true h
          subst h
          injection e with e
          subst e
          exact ⟨by show _ < 17; decide, by simp⟩
        · cases e
set_option maxRecDepth 100000 in
set_option maxHeartbeats 1000000 in
theorem w3 (ga gb : Nat) (v1 v2 v3 v4 v5 v6 vb : Value) (w : World) (hw : Cw B w0 (ak ga [v1, v2, v3, v4, v5, v6] 29 :: ak gb [vb] 4 :: H) w) :
    CallsD Tryz.prog 104 #[.pointer (some ⟨ga, 0, none⟩), .pointer (some ⟨gb, 0, none⟩)] .returning w fun e u' w' => (∃ v, e = .returned v) ∧ u' = .returning ∧ Cw B w0 (ak ga [v1, v2, v3, v4, v5, v6] 29 :: ak gb [vb] 4 :: H) w' := by
  refine callsD_of_wpS Tryz.func104 rfl fun c₀ cs hu => ?_
  apply wpS_seq
  apply wpS_region
  simp [wpOpsS, go_sem, recoverD, hu, Tryz.ntmps104, Exit.thenS]
  refine wpS_of_wp ?_
  refine (show CW Tryz.prog ⟨17, []⟩ B w0 _ _ [(0, .pointer (some ⟨ga, 0, none⟩)), (1, .pointer (some ⟨gb, 0, none⟩)), (2, .nilIface)] (ak ga [v1, v2, v3, v4, v5, v6] 29 :: ak gb [vb] 4 :: H) from ?_) _ w ?_ hw
  · refine ac ?_
    refine aa ?_
    refine rn 1 [0, 1, 2, 6] rfl ?_
    refine af (lf rfl rfl rfl sO (fun _ => rfl)) rfl rfl ?_
    refine ae ?_
    refine cN (t := 7) (v' := .bool false) rfl (rfl) ?_
    refine bZ rfl ?_
    refine ar ?_
    intro a w hf hw
    refine ⟨hf.2.1, .returning, ?_, .tuple #[], ?_, ⟨_, rfl⟩, rfl, hw.msub ms⟩
    · rw [← hu]
    · simp [results, Tryz.results104]
  · refine ⟨by simp, rfl, fun t v e => ?_⟩
    simp only [lk] at e
    split at e
    · rename_i h
      have h := Nat.eq_of_beq_eq_true h
      subst h
      injection e with e
      subst e
      exact ⟨by show _ < 17; decide, by simp⟩
    · split at e
      · rename_i h
        have h := Nat.eq_of_beq_eq_true h
        subst h
        injection e with e
        subst e
        exact ⟨by show _ < 17; decide, by simp⟩
      · split at e
        · rename_i h
          have h := Nat.eq_of_beq_eq_true h
          subst h
          injection e with e
          subst e
          exact ⟨by show _ < 17; decide, by simp⟩
        · cases e
end
def ic (s:List UInt8):aG×Bool:=match fq s with
 | some m=>(m,true)
 | none=>(default,false)
set_option maxRecDepth 100000 in
set_option maxHeartbeats 2000000 in
theorem Cl (s : List UInt8) (r : aG × Bool) (hr : ic s = r) (hl : s.length ≤ 140737488355320) (w : World) :
    Calls Tryz.prog 56 #[.string ⟨s.toArray⟩] w fun e w' => ∃ g : MA, True ∧ e = .returned (.tuple #[.agg #[.slice g.Af r.1.frames.length g.cf, .slice g.Ab r.1.blocks.length g.cb, .slice g.Ai r.1.inn.length g.ci, .slice g.Ao r.1.out.length g.co, .int .i64 r.1.status, .int .i64 r.1.trap], .bool r.2]) ∧
      Cw w.heap.size w [ap (.slice g.Af r.1.frames.length g.cf) r.1.frames, ap (.slice g.Ab r.1.blocks.length g.cb) r.1.blocks, ap (.slice g.Ai r.1.inn.length g.ci) r.1.inn, ap (.slice g.Ao r.1.out.length g.co) r.1.out] w' := by
  have hw := Cw.nil_ w
  refine sx Tryz.func56 rfl Tryz.ntmps56 rfl hw ?_
  refine ac ?_
  refine aa ?_
  refine ag (aS aR rfl rfl) rfl rfl (fun g1 _ => ?_)
  refine ag (aS Tryz.zeroValue4 rfl rfl) rfl rfl (fun g2 _ => ?_)
  refine ae ?_
  refine ac ?_
  refine aa ?_
  refine rn 1 [0, 2, 3, 5] rfl ?_
  refine vd rfl rfl rfl rfl ?_
  refine ae ?_
  refine ac ?_
  refine aa ?_
  refine rn 1 [2, 3, 6] rfl ?_
  refine af (bN (cs := [_]) FZ Tryz.zeroValue143 rfl rfl (by rfl)) rfl rfl ?_
  refine ag (bH rfl rfl rfl) rfl rfl (fun g3 _ => ?_)
  refine rn 1 [2, 3, 4] rfl ?_
  refine ae ?_
  refine ac ?_
  refine aa ?_
  refine rn 1 [2, 3, 9] rfl ?_
  refine ed (di rfl rfl rfl Tryz.call105 (fun w hw => yE (H := ak g1 [.slice none 0 0, .slice none 0 0, .slice none 0 0, .slice none 0 0, .int .i64 0, .int .i64 0] 29 :: ak g2 [.bool false] 4 :: []) g3 s hl w (hw.msub ms))) rfl rfl (fun ch a w hf hp => by obtain ⟨⟨h1, rfl⟩, h2⟩ := hp; exact ux hf (fun _ => by simp [go_sem]) (yx g1 g2 _ _ _ _ _ _ _ w (h2.msub ms)) Tryz.results56 (dH (cs := [_, _, _, _, _, _]) .a aT ay rfl) (mo .b dx rfl) (fun w hw => by subst hr; unfold ic; rw [h1]; exact ⟨⟨none, 0, none, 0, none, 0, none, 0⟩, trivial, rfl, (gJ hw).msub ms⟩)) (fun ⟨m, u⟩ e1 => ?_)
  try dsimp only
  refine ag (aJ _ fc ay rfl rfl rfl rfl rfl (by rfl) rfl (by rfl)) rfl rfl (fun _ _ => ?_)
  refine ag (aJ _ fc dK rfl rfl rfl rfl rfl (by rfl) rfl (by rfl)) rfl rfl (fun _ _ => ?_)
  refine ae ?_
  have e1 : fq s = some m := e1
  refine aq ?_
  refine Ce (fun _ => by simp [go_sem]) (fun w hw => w3 g1 g2 _ _ _ _ _ _ _ w (hw.msub (.s fc (.s fc .r)))) Tryz.results56 (dH (cs := [_, _, _, _, _, _]) .a aT ay rfl) (mo .b dx rfl) (fun w hw => ?_)
  subst hr
  unfold ic
  rw [e1]
  exact ⟨u, trivial, rfl, hw.msub ms⟩
end
section
theorem Ds:Tryz.prog.eqGuardType Tryz.prog.depth 103=false:=by kernel_rfl
theorem G9:Tryz.prog.stoodInHeld 103=false:=by kernel_rfl
theorem GZ (w : World) (a c : Bool) (b d : Int) : (binOp .neq 103 (.agg #[.bool a, .int .i64 b]) (.agg #[.bool c, .int .i64 d])).run Tryz.prog w = .ok (.bool (!(a == c && b == d))) w := by
  have h := G9
  by_cases h1 : a = c <;> by_cases h2 : b = d <;> simp [go_sem, h, h1, h2]
theorem G3 (x y : Operand) (u v : Array Value) (w : World) : (eqGuard .neq 103 x y (.agg u) (.agg v)).run Tryz.prog w = .ok () w := by
  have h := Ds
  simp [eqGuard, go_sem, h]
theorem Gc {v u:aX} :(v.ref == u.ref && v.n == u.n)=decide (v=u):=by
 obtain⟨a,b⟩:=v
 obtain⟨c,d⟩:=u
 by_cases h1:a=c <;> by_cases h2:b=d <;> simp[h1,h2]
theorem qV {α:Type} {a b:List α} {i:Nat} (d:α) (h1:i<a.length) (h2:i<b.length) (h:a.take i=b.take i) (e:a.getD i d=b.getD i d):a.take (i+1)=b.take (i+1):=by
 rw[fx a i d h1,fx b i d h2,h,e]
theorem uZ {α:Type} {a b:List α} {i:Nat} (d:α) (e:¬a.getD i d=b.getD i d):¬a=b:=fun h=>e (by rw[h])
set_option maxRecDepth 100000 in
theorem nK (A1 A2:Option Addr) (c1 c2:Nat) (a b:List aX) (w:World) (h1:Sl w (.slice A1 a.length c1) a) (h2:Sl w (.slice A2 b.length c2) b) :
  Calls Tryz.prog 98 #[.slice A1 a.length c1,.slice A2 b.length c2] w fun e w'=>e= .returned (.bool (decide (a=b)))∧Below w.heap.size w w':=by
 have b1:=cn h1
 refine enter Tryz.func98 rfl Tryz.ntmps98 rfl ?_
 refine ac<|aa<|rn 1 [0,1] rfl<|ae<|ac<|ac<|aa<|rn 1 [0,1,6] rfl<|af (aM aI rfl rfl) rfl rfl<|rn 1 [0,1,7,8] rfl<|af (aM aI rfl rfl) rfl rfl<|rn 1 [0,1,10] rfl<|ae<|bY rfl (fun hl=>?_) (fun hl=>?_)
 ·refine ac<|aa<|rn 1 [4] rfl<|ae<|aq (ai ?_)
  refine av HF (an rfl) ?_
  intro w hw
  exact⟨bE (by rw[decide_eq_false (fun e=>hl (by rw[e]))]),hw.below⟩
 have hl:a.length=b.length:=by omega
 refine ar (am ?_)
 refine ac<|ac<|aa<|rn 1 [0,1,5] rfl<|ae<|aB (bI (fun i:Nat=>i≤a.length∧a.take i=b.take i) (fun i=>a.length - i) (fun i=> [(0,.slice A1 a.length c1),(1,.slice A2 b.length c2),(5,.int .i64 (i:Int))]) (fun _=> []) 0 (⟨Nat.zero_le _,rfl⟩) ⟨rfl,rfl,rfl,trivial⟩ me ?_)
 rintro i hi'
 obtain⟨hi,hj⟩:i≤a.length∧a.take i=b.take i:=hi'
 refine ac<|ac<|aa<|rn 2 [0,1,5,11,12] rfl<|af (aM aI rfl rfl) rfl rfl<|rn 1 [0,1,5,14] rfl<|ae<|aw rfl (fun hlt=>?_) (fun hlt=>?_)
 ·have hil:i<a.length:=by omega
  have hil2:i<b.length:=by omega
  refine ar (am ?_)
  refine ac<|aB<|ac<|cD (.still 0 (.still 1 (.still 2 (.still 3 (.still 4 (.still 5 (.still 6 (.still 7 (.still 8 .done))))))))) [] rfl (by kernel_rfl) (by kernel_rfl) ?_
  refine aU ha 2 [0,1,5,17,18] rfl<|ax rfl (aQ (k:=i) aI aV (.ro h1) (by omega) rfl rfl rfl) rfl rfl ha ?_
  refine ax rfl (cY (SF.val (SF.ro h1) hil default) rfl rfl dZ aV) rfl rfl ha ?_
  refine aU ha 2 [0,1,5,20,21,22] rfl<|ax rfl (aQ (k:=i) aI aV (.ro h2) (by omega) rfl rfl rfl) rfl rfl ha ?_
  refine ax rfl (cY (SF.val (SF.ro h2) hil2 default) rfl rfl dZ aV) rfl rfl ha ?_
  refine ax rfl (lf rfl rfl rfl (fun w=>GZ w _ _ _ _) (fun w=>G3 _ _ _ _ w)) rfl rfl ha ?_
  refine cT ?_
  rw[Gc]
  refine bY rfl (fun he=>?_) (fun he=>?_)
  ·refine ac<|aa<|rn 1 [4] rfl<|ae<|aq (aC (ai (ai (aC (ai ?_)))))
   refine av HF (an rfl) ?_
   intro w hw
   exact⟨bE (by rw[decide_eq_false (uZ default he)]),hw.below⟩
  refine ar (aH (am ?_))
  refine aa<|rn 1 [0,1,15] rfl<|af (br rfl rfl rfl (by omega)) rfl rfl<|rn 1 [0,1,5] rfl<|a5 (i+1) (⟨by show i+1≤_;omega,qV default hil hil2 hj he⟩) (by show _ - _<_ - _;omega) ⟨rfl,rfl,rfl,trivial⟩ me
 obtain rfl:i=a.length:=by omega
 rw[List.take_length,hl,List.take_length] at hj
 refine bz (aD (aD (bO (am ?_))))
 refine ac<|aa<|rn 1 [4] rfl<|ae<|aq<|av HF (an rfl) ?_
 intro w hw
 exact⟨bE (by rw[decide_eq_true hj]),hw.below⟩
set_option maxRecDepth 100000 in
theorem s9 (A1 A2:Option Addr) (c1 c2:Nat) (a b:List (List Int)) (w:World) (h1:Sl w (.slice A1 a.length c1) a) (h2:Sl w (.slice A2 b.length c2) b) :
  Calls Tryz.prog 97 #[.slice A1 a.length c1,.slice A2 b.length c2] w fun e w'=>e= .returned (.bool (decide (a=b)))∧Below w.heap.size w w':=by
 have b1:=cn h1
 refine enter Tryz.func97 rfl Tryz.ntmps97 rfl ?_
 refine ac<|aa<|rn 1 [0,1] rfl<|ae<|ac<|ac<|aa<|rn 1 [0,1,6] rfl<|af (aM bF rfl rfl) rfl rfl<|rn 1 [0,1,7,8] rfl<|af (aM bF rfl rfl) rfl rfl<|rn 1 [0,1,10] rfl<|ae<|bY rfl (fun hl=>?_) (fun hl=>?_)
 ·refine ac<|aa<|rn 1 [4] rfl<|ae<|aq (ai ?_)
  refine av HG (an rfl) ?_
  intro w hw
  exact⟨bE (by rw[decide_eq_false (fun e=>hl (by rw[e]))]),hw.below⟩
 have hl:a.length=b.length:=by omega
 refine ar (am ?_)
 refine ac<|ac<|aa<|rn 1 [0,1,5] rfl<|ae<|aB (bI (fun i:Nat=>i≤a.length∧a.take i=b.take i) (fun i=>a.length - i) (fun i=> [(0,.slice A1 a.length c1),(1,.slice A2 b.length c2),(5,.int .i64 (i:Int))]) (fun _=> []) 0 (⟨Nat.zero_le _,rfl⟩) ⟨rfl,rfl,rfl,trivial⟩ me ?_)
 rintro i hi'
 obtain⟨hi,hj⟩:i≤a.length∧a.take i=b.take i:=hi'
 refine ac<|ac<|aa<|rn 2 [0,1,5,11,12] rfl<|af (aM bF rfl rfl) rfl rfl<|rn 1 [0,1,5,14] rfl<|ae<|aw rfl (fun hlt=>?_) (fun hlt=>?_)
 ·have hil:i<a.length:=by omega
  have hil2:i<b.length:=by omega
  obtain⟨A3,c3,hb1,hc1⟩:=h1.sub hil
  obtain⟨A4,c4,hb2,hc2⟩:=h2.sub hil2
  refine ar (am ?_)
  refine ac<|aB<|ac<|cD (.still 0 (.still 1 (.still 2 (.still 3 (.still 4 (.still 5 (.still 6 (.still 7 (.pick 8 (.still 9 .done) .stop))))))))) [] rfl (by kernel_rfl) (by kernel_rfl) ?_
  refine aU ha 2 [0,1,5,17,18] rfl<|ax rfl (aQ (k:=i) bF cC (.ro h1) (by omega) rfl rfl rfl) rfl rfl ha ?_
  refine ax rfl (a8 (hc1 _) rfl rfl aW) rfl rfl ha ?_
  refine aU ha 2 [0,1,5,20,21,22] rfl<|ax rfl (aQ (k:=i) bF cC (.ro h2) (by omega) rfl rfl rfl) rfl rfl ha ?_
  refine ax rfl (a8 (hc2 _) rfl rfl aW) rfl rfl ha ?_
  refine aK rfl (aY rfl rfl rfl zL (fun w hw=>kI _ _ _ _ (a.getD i []) (b.getD i []) w (hw.ro hb1) (hw.ro hb2))) rfl rfl (.inr fun _=>ha) (fun _ _=>?_) aE
  refine aU ha 1 [0,1,5,26] rfl<|cT<|bY rfl (fun he=>?_) (fun he=>?_)
  ·refine ac<|aa<|rn 1 [4] rfl<|ae<|aq (aC (ai (ai (aC (ai ?_)))))
   refine av HG (an rfl) ?_
   intro w hw
   exact⟨bE (by rw[decide_eq_false (uZ [] he)]),hw.below⟩
  refine ar (aH (am ?_))
  refine aa<|rn 1 [0,1,15] rfl<|af (br rfl rfl rfl (by omega)) rfl rfl<|rn 1 [0,1,5] rfl<|a5 (i+1) (⟨by show i+1≤_;omega,qV [] hil hil2 hj he⟩) (by show _ - _<_ - _;omega) ⟨rfl,rfl,rfl,trivial⟩ me
 obtain rfl:i=a.length:=by omega
 rw[List.take_length,hl,List.take_length] at hj
 refine bz (aD (aD (bO (am ?_))))
 refine ac<|aa<|rn 1 [4] rfl<|ae<|aq<|av HG (an rfl) ?_
 intro w hw
 exact⟨bE (by rw[decide_eq_true hj]),hw.below⟩
theorem fG {α:Type} {f:aG→α} {m1 m2:aG} (h:¬f m1=f m2):¬m1=m2:=fun e=>h (by rw[e])
theorem EI {m1 m2:aG} (h1:m1.status=m2.status) (h2:m1.trap=m2.trap) (h3:m1.blocks=m2.blocks) (h4:m1.inn=m2.inn) (h5:m1.out=m2.out) (h6:m1.frames=m2.frames):m1=m2:=by
 cases m1;cases m2;simp_all
theorem uN {l1 l2:List aO} {i:Nat} {α:Type} {f:aO→α} (h:¬f (bh l1 i)=f (bh l2 i)):¬l1=l2:=fun e=>h (by rw[e])
theorem Gh {x y:aO} (h1:x.func=y.func) (h2:x.pc=y.pc) (h3:x.locals=y.locals) (h4:x.stack=y.stack):x=y:=by
 cases x;cases y;simp_all
theorem kw {p:Prop} [Decidable p] (h:(!decide p)=true):¬p:=by simpa using h
theorem jr {p:Prop} [Decidable p] (h:(!decide p)=false):p:=by simpa using h
set_option maxRecDepth 100000 in
set_option maxHeartbeats 4000000 in
theorem iN (a b:MA) (m1 m2:aG) (w:World) (h1:dQ w.heap.size w a m1) (h2:dQ w.heap.size w b m2) :
  Calls Tryz.prog 53 #[.agg #[.slice a.Af m1.frames.length a.cf,.slice a.Ab m1.blocks.length a.cb,.slice a.Ai m1.inn.length a.ci,.slice a.Ao m1.out.length a.co,.int .i64 m1.status,.int .i64 m1.trap],
   .agg #[.slice b.Af m2.frames.length b.cf,.slice b.Ab m2.blocks.length b.cb,.slice b.Ai m2.inn.length b.ci,.slice b.Ao m2.out.length b.co,.int .i64 m2.status,.int .i64 m2.trap]] w fun e w'=>e= .returned (.bool (decide (m1=m2)))∧Below w.heap.size w w':=by
 have b1:=cn h1.f
 refine enter Tryz.func53 rfl Tryz.ntmps53 rfl ?_
 refine ac<|aa<|ag (bH rfl rfl rfl) rfl rfl (fun g1 _=>?_)
 refine ag (bH rfl rfl rfl) rfl rfl (fun g2 _=>?_)
 refine rn 1 [2,3] rfl<|ae<|ac<|ac<|aa<|rn 1 [2,3,8] rfl<|af (aj fc au rfl rfl (by rfl)) rfl rfl ?_
 refine rn 1 [2,3,9,10] rfl<|af (aj fc au rfl rfl (by rfl)) rfl rfl ?_
 refine rn 2 [2,3,13] rfl<|bM (t:=13) rfl (fun e1=>?_) (fun e1=>?_)
 ·refine rn 39 [2,3,52] rfl<|ae<|bA rfl<|ac<|aa<|rn 1 [4] rfl<|ae<|aq (ai ?_)
  refine av gZ (an rfl) ?_
  intro w hw
  exact⟨bE (by rw[decide_eq_false (fG (f:=aG.status) (kw e1))]),hw.below⟩
 have e1:=jr e1
 refine rn 1 [2,3,13,14] rfl<|af (aj fc au rfl rfl (by rfl)) rfl rfl ?_
 refine rn 1 [2,3,13,15,16] rfl<|af (aj fc au rfl rfl (by rfl)) rfl rfl ?_
 refine rn 3 [2,3,20] rfl<|bM (t:=20) rfl (fun e2=>?_) (fun e2=>?_)
 ·refine rn 32 [2,3,52] rfl<|ae<|bA rfl<|ac<|aa<|rn 1 [4] rfl<|ae<|aq (ai ?_)
  refine av gZ (an rfl) ?_
  intro w hw
  exact⟨bE (by rw[decide_eq_false (fG (f:=aG.trap) (kw e2))]),hw.below⟩
 have e2:=jr e2
 refine rn 1 [2,3,20,21] rfl<|af (aj fc dS rfl rfl (by rfl)) rfl rfl ?_
 refine rn 1 [2,3,20,22,23] rfl<|af (aj fc dS rfl rfl (by rfl)) rfl rfl ?_
 refine ag (aY rfl rfl rfl Tryz.call97 (fun w hw=>s9 _ _ _ _ m1.blocks m2.blocks w (hw.ro h1.b) (hw.ro h2.b))) rfl rfl (fun _ _=>?_)
 refine rn 3 [2,3,28] rfl<|bM (t:=28) rfl (fun e3=>?_) (fun e3=>?_)
 ·refine rn 24 [2,3,52] rfl<|ae<|bA rfl<|ac<|aa<|rn 1 [4] rfl<|ae<|aq (ai ?_)
  refine av gZ (an rfl) ?_
  intro w hw
  exact⟨bE (by rw[decide_eq_false (fG (f:=aG.blocks) (kw e3))]),hw.below⟩
 have e3:=jr e3
 refine rn 1 [2,3,28,29] rfl<|af (aj fc aW rfl rfl (by rfl)) rfl rfl ?_
 refine rn 1 [2,3,28,30,31] rfl<|af (aj fc aW rfl rfl (by rfl)) rfl rfl ?_
 refine ag (aY rfl rfl rfl zL (fun w hw=>kI _ _ _ _ m1.inn m2.inn w (hw.ro h1.i) (hw.ro h2.i))) rfl rfl (fun _ _=>?_)
 refine rn 3 [2,3,36] rfl<|bM (t:=36) rfl (fun e4=>?_) (fun e4=>?_)
 ·refine rn 16 [2,3,52] rfl<|ae<|bA rfl<|ac<|aa<|rn 1 [4] rfl<|ae<|aq (ai ?_)
  refine av gZ (an rfl) ?_
  intro w hw
  exact⟨bE (by rw[decide_eq_false (fG (f:=aG.inn) (kw e4))]),hw.below⟩
 have e4:=jr e4
 refine rn 1 [2,3,36,37] rfl<|af (aj fc aW rfl rfl (by rfl)) rfl rfl ?_
 refine rn 1 [2,3,36,38,39] rfl<|af (aj fc aW rfl rfl (by rfl)) rfl rfl ?_
 refine ag (aY rfl rfl rfl zL (fun w hw=>kI _ _ _ _ m1.out m2.out w (hw.ro h1.o) (hw.ro h2.o))) rfl rfl (fun _ _=>?_)
 refine rn 3 [2,3,44] rfl<|bM (t:=44) rfl (fun e5=>?_) (fun e5=>?_)
 ·refine rn 8 [2,3,52] rfl<|ae<|bA rfl<|ac<|aa<|rn 1 [4] rfl<|ae<|aq (ai ?_)
  refine av gZ (an rfl) ?_
  intro w hw
  exact⟨bE (by rw[decide_eq_false (fG (f:=aG.out) (kw e5))]),hw.below⟩
 have e5:=jr e5
 refine rn 1 [2,3,44,45] rfl<|af (aj fc bP rfl rfl (by rfl)) rfl rfl ?_
 refine af (aM aP rfl rfl) rfl rfl<|rn 1 [2,3,44,47,48] rfl<|af (aj fc bP rfl rfl (by rfl)) rfl rfl ?_
 refine af (aM aP rfl rfl) rfl rfl<|rn 2 [2,3,52] rfl<|ae<|bY rfl (fun e6=>?_) (fun e6=>?_)
 ·refine ac<|aa<|rn 1 [4] rfl<|ae<|aq (ai ?_)
  refine av gZ (an rfl) ?_
  intro w hw
  exact⟨bE (by rw[decide_eq_false (fG (f:=fun m=>m.frames.length) (fun h=>e6 (by rw[show m1.frames.length=m2.frames.length from h])))]),hw.below⟩
 have e6:m1.frames.length=m2.frames.length:=by omega
 refine ar (am ?_)
 refine ac<|ac<|aa<|rn 1 [2,3,5] rfl<|ae<|aB (bI (fun i:Nat=>i≤m1.frames.length∧m1.frames.take i=m2.frames.take i) (fun i=>m1.frames.length - i) (fun i=> [(2,.pointer (some ⟨g1,0,none⟩)),(3,.pointer (some ⟨g2,0,none⟩)),(5,.int .i64 (i:Int))]) (fun _=> [ak g1 [.slice a.Af m1.frames.length a.cf,.slice a.Ab m1.blocks.length a.cb,.slice a.Ai m1.inn.length a.ci,.slice a.Ao m1.out.length a.co,.int .i64 m1.status,.int .i64 m1.trap] 29,ak g2 [.slice b.Af m2.frames.length b.cf,.slice b.Ab m2.blocks.length b.cb,.slice b.Ai m2.inn.length b.ci,.slice b.Ao m2.out.length b.co,.int .i64 m2.status,.int .i64 m2.trap] 29]) 0 (⟨Nat.zero_le _,rfl⟩) ⟨rfl,rfl,rfl,trivial⟩ me ?_)
 rintro i hi'
 obtain⟨hi,hj⟩:i≤m1.frames.length∧m1.frames.take i=m2.frames.take i:=hi'
 refine ac<|ac<|aa<|rn 2 [2,3,5,53,54] rfl<|af (aj fc bP rfl rfl (by rfl)) rfl rfl ?_
 refine af (aM aP rfl rfl) rfl rfl<|rn 1 [2,3,5,57] rfl<|ae<|aw rfl (fun hlt=>?_) (fun hlt=>?_)
 ·have hil:i<m1.frames.length:=by omega
  have hil2:i<m2.frames.length:=by omega
  obtain⟨A1,c1,A2,c2,hl1,hs1,hI1,hc1⟩:=h1.f.fr hil
  obtain⟨A3,c3,A4,c4,hl2,hs2,hI2,hc2⟩:=h2.f.fr hil2
  refine ar (am ?_)
  refine ac<|aB<|eb (fun _:Nat×Nat=>True) (fun g=> [(2,.pointer (some ⟨g1,0,none⟩)),(3,.pointer (some ⟨g2,0,none⟩)),(5,.int .i64 (i:Int)),(6,.pointer (some ⟨g.1,0,none⟩)),(7,.pointer (some ⟨g.2,0,none⟩))]) (fun g=> [ak g1 [.slice a.Af m1.frames.length a.cf,.slice a.Ab m1.blocks.length a.cb,.slice a.Ai m1.inn.length a.ci,.slice a.Ao m1.out.length a.co,.int .i64 m1.status,.int .i64 m1.trap] 29,ak g2 [.slice b.Af m2.frames.length b.cf,.slice b.Ab m2.blocks.length b.cb,.slice b.Ai m2.inn.length b.ci,.slice b.Ao m2.out.length b.co,.int .i64 m2.status,.int .i64 m2.trap] 29,ak g.1 [.int .i64 (bh m1.frames i).func,.int .i64 (bh m1.frames i).pc,.slice A1 (bh m1.frames i).locals.length c1,.slice A2 (bh m1.frames i).stack.length c2] 97,ak g.2 [.int .i64 (bh m2.frames i).func,.int .i64 (bh m2.frames i).pc,.slice A3 (bh m2.frames i).locals.length c3,.slice A4 (bh m2.frames i).stack.length c4] 97]) ?_ ?_
  ·refine fL (.still 0 (.still 1 (.still 2 (.still 3 (.still 4 (.still 5 (.still 6 (.still 7 (.still 8 (.still 9 (.pick 10 (.pick 11 (.pick 12 (.pick 13 .done .stop) .stop) .stop) (.pick 11 (.pick 10 (.pick 12 (.pick 13 .done .stop) .stop) .stop) .stop)))))))))))) [13] rfl (by kernel_rfl) (by kernel_rfl) [ak g1 [.slice a.Af m1.frames.length a.cf,.slice a.Ab m1.blocks.length a.cb,.slice a.Ai m1.inn.length a.ci,.slice a.Ao m1.out.length a.co,.int .i64 m1.status,.int .i64 m1.trap] 29,ak g2 [.slice b.Af m2.frames.length b.cf,.slice b.Ab m2.blocks.length b.cb,.slice b.Ai m2.inn.length b.ci,.slice b.Ao m2.out.length b.co,.int .i64 m2.status,.int .i64 m2.trap] 29] ?_
   refine aU ha 1 [2,3,5,60] rfl<|ax rfl (aj fc bP rfl rfl (by rfl)) rfl rfl ha ?_
   refine aU ha 1 [2,3,5,61,62] rfl<|ax rfl (aQ (k:=i) aP bn (.ro h1.f) (by omega) rfl rfl rfl) rfl rfl ha ?_
   refine ax rfl (cY (hc1 _) rfl rfl gK bn) rfl rfl ha ?_
   refine aU ha 1 [2,3,5,64,65] rfl<|ax rfl (aj fc bP rfl rfl (by rfl)) rfl rfl ha ?_
   refine aU ha 1 [2,3,5,64,66,67] rfl<|ax rfl (aQ (k:=i) aP bn (.ro h2.f) (by omega) rfl rfl rfl) rfl rfl ha ?_
   refine ax rfl (cY (hc2 _) rfl rfl gK bn) rfl rfl ha ?_
   refine aK rfl (aS cP rfl rfl) rfl rfl (.inr fun _=>ha) (fun q1 _=>?_) ?_
   ·refine aK rfl (aS cP rfl rfl) rfl rfl (.inr fun _=>ha) (fun q2 _=>?_) aE
    refine aK rfl (aJ [_,_,_,_] fc bn rfl rfl rfl rfl rfl (by rfl) rfl (by rfl)) rfl rfl (.inr fun _=>ha) (fun _ _=>?_) aE
    refine aK rfl (aJ [_,_,_,_] fc bn rfl rfl rfl rfl rfl (by rfl) rfl (by rfl)) rfl rfl (.inl rfl) (fun _ _=>?_) aE
    refine df<|bq (q1,q2) (trivial) ⟨rfl,rfl,rfl,rfl,rfl,trivial⟩ (fun _ h=>h.msub ms)
   refine aK rfl (aS cP rfl rfl) rfl rfl (.inr fun _=>ha) (fun q2 _=>?_) aE
   refine aK rfl (aS cP rfl rfl) rfl rfl (.inr fun _=>ha) (fun q1 _=>?_) aE
   refine aK rfl (aJ [_,_,_,_] fc bn rfl rfl rfl rfl rfl (by rfl) rfl (by rfl)) rfl rfl (.inr fun _=>ha) (fun _ _=>?_) aE
   refine aK rfl (aJ [_,_,_,_] fc bn rfl rfl rfl rfl rfl (by rfl) rfl (by rfl)) rfl rfl (.inl rfl) (fun _ _=>?_) aE
   refine df<|bq (q1,q2) (trivial) ⟨rfl,rfl,rfl,rfl,rfl,trivial⟩ (fun _ h=>h.msub ms)
  rintro⟨q1,q2⟩ _
  dsimp only
  refine ac<|aa<|rn 1 [2,3,5,6,7,70] rfl<|af (aj fc au rfl rfl (by rfl)) rfl rfl ?_
  refine rn 1 [2,3,5,6,7,71,72] rfl<|af (aj fc au rfl rfl (by rfl)) rfl rfl ?_
  refine rn 2 [2,3,5,6,7,75] rfl<|bM (t:=75) rfl (fun f1=>?_) (fun f1=>?_)
  ·refine rn 22 [2,3,5,97] rfl<|ae<|bA rfl<|ac<|aa<|rn 1 [4] rfl<|ae<|aq (aC (ai (ai (aC (ai ?_)))))
   refine av gZ (an rfl) ?_
   intro w hw
   exact⟨bE (by rw[decide_eq_false (fG (f:=aG.frames) (uN (i:=i) (f:=aO.func) (kw f1)))]),hw.below⟩
  have f1:=jr f1
  refine rn 1 [2,3,5,6,7,75,76] rfl<|af (aj fc au rfl rfl (by rfl)) rfl rfl ?_
  refine rn 1 [2,3,5,6,7,75,77,78] rfl<|af (aj fc au rfl rfl (by rfl)) rfl rfl ?_
  refine rn 3 [2,3,5,6,7,82] rfl<|bM (t:=82) rfl (fun f2=>?_) (fun f2=>?_)
  ·refine rn 15 [2,3,5,97] rfl<|ae<|bA rfl<|ac<|aa<|rn 1 [4] rfl<|ae<|aq (aC (ai (ai (aC (ai ?_)))))
   refine av gZ (an rfl) ?_
   intro w hw
   exact⟨bE (by rw[decide_eq_false (fG (f:=aG.frames) (uN (i:=i) (f:=aO.pc) (kw f2)))]),hw.below⟩
  have f2:=jr f2
  refine rn 1 [2,3,5,6,7,82,83] rfl<|af (aj fc cz rfl rfl (by rfl)) rfl rfl ?_
  refine rn 1 [2,3,5,6,7,82,84,85] rfl<|af (aj fc cz rfl rfl (by rfl)) rfl rfl ?_
  refine ag (aY rfl rfl rfl Tryz.call98 (fun w hw=>nK _ _ _ _ (bh m1.frames i).locals (bh m2.frames i).locals w (hw.ro hl1) (hw.ro hl2))) rfl rfl (fun _ _=>?_)
  refine rn 3 [2,3,5,6,7,90] rfl<|bM (t:=90) rfl (fun f3=>?_) (fun f3=>?_)
  ·refine rn 7 [2,3,5,97] rfl<|ae<|bA rfl<|ac<|aa<|rn 1 [4] rfl<|ae<|aq (aC (ai (ai (aC (ai ?_)))))
   refine av gZ (an rfl) ?_
   intro w hw
   exact⟨bE (by rw[decide_eq_false (fG (f:=aG.frames) (uN (i:=i) (f:=aO.locals) (kw f3)))]),hw.below⟩
  have f3:=jr f3
  refine rn 1 [2,3,5,7,90,91] rfl<|af (aj fc cz rfl rfl (by rfl)) rfl rfl ?_
  refine rn 1 [2,3,5,90,92,93] rfl<|af (aj fc cz rfl rfl (by rfl)) rfl rfl ?_
  refine ag (aY rfl rfl rfl Tryz.call98 (fun w hw=>nK _ _ _ _ (bh m1.frames i).stack (bh m2.frames i).stack w (hw.ro hs1) (hw.ro hs2))) rfl rfl (fun _ _=>?_)
  refine rn 2 [2,3,5,97] rfl<|ae<|bY rfl (fun f4=>?_) (fun f4=>?_)
  ·refine ac<|aa<|rn 1 [4] rfl<|ae<|aq (aC (ai (ai (aC (ai ?_)))))
   refine av gZ (an rfl) ?_
   intro w hw
   exact⟨bE (by rw[decide_eq_false (fG (f:=aG.frames) (uN (i:=i) (f:=aO.stack) f4))]),hw.below⟩
  refine ar (aH (am ?_))
  refine aa<|rn 1 [2,3,58] rfl<|af (br rfl rfl rfl (by omega)) rfl rfl<|rn 1 [2,3,5] rfl<|a5 (i+1) (⟨by show i+1≤_;omega,qV default hil hil2 hj (Gh f1 f2 f3 f4)⟩) (by show _ - _<_ - _;omega) ⟨rfl,rfl,rfl,trivial⟩ (fun w h=>h.msub ms)
 obtain rfl:i=m1.frames.length:=by omega
 rw[List.take_length,e6,List.take_length] at hj
 refine bz (aD (aD (bO (am ?_))))
 refine ac<|aa<|rn 1 [4] rfl<|ae<|aq<|av gZ (an rfl) ?_
 intro w hw
 exact⟨bE (by rw[decide_eq_true (EI e1 e2 e3 e4 e5 hj)]),hw.below⟩
end
section
def gE:aG:=⟨[⟨0,0,[],[]⟩],[],[],[],0,0⟩
def jO:aG:=⟨[⟨0,1,[],[⟨false,3⟩]⟩],[],[],[],0,0⟩
def rY:aG:=⟨[⟨0,0,[],[]⟩],[],[],[],1,0⟩
set_option maxRecDepth 100000 in
theorem r9:dw fw=0∧nJ fw=gE∧cQ fw gE=0∧lW fw gE=jO∧cQ fw jO=0∧dw mm=0∧nJ mm=gE∧cQ mm gE=0∧lW mm gE=rY:=by
 refine⟨?_,?_,?_,?_,?_,?_,?_,?_,?_⟩ <;> kernel_rfl
theorem qq:gz gE.frames:=by
 refine⟨by decide,fun x hx=>?_⟩
 have:x=⟨0,0,[],[]⟩:=by simpa [gE] using hx
 subst this
 decide
theorem ER:gz jO.frames:=by
 refine⟨by decide,fun x hx=>?_⟩
 have:x=⟨0,1,[],[⟨false,3⟩]⟩:=by simpa [jO] using hx
 subst this
 decide
section
variable {fs:List aA} {m:aG} {n:Nat}
theorem ny (hp:dw fs=0) (hm:nJ fs=gE) (hn:fs.length=n) (A:Option Addr) (c:Nat) (w:World) (hs:Sl w (.slice A n c) fs) :
  Calls Tryz.prog 22 #[.agg #[.slice A n c]] w fun e w'=> ∃g:MA,True∧
   e= .returned (.tuple #[.agg #[.slice g.Af 1 g.cf,.slice g.Ab 0 g.cb,.slice g.Ai 0 g.ci,.slice g.Ao 0 g.co,.int .i64 0,.int .i64 0],.int .i64 0])∧Cw w.heap.size w [ap (.slice g.Af 1 g.cf) gE.frames,ap (.slice g.Ab 0 g.cb) gE.blocks,ap (.slice g.Ai 0 g.ci) gE.inn,ap (.slice g.Ao 0 g.co) gE.out] w':=by
 subst hn
 have:=rX A c fs gE hm w hs
 rw[hp] at this
 exact this
theorem xE (hn:fs.length=n) {E:Int} (hE:cQ fs jO=E) (A:Option Addr) (c:Nat) (a:MA) (w:World) (hs:Sl w (.slice A n c) fs) (hm:dQ w.heap.size w a jO) :
  Calls Tryz.prog 27 #[.agg #[.slice A n c],.agg #[.slice a.Af 1 a.cf,.slice a.Ab 0 a.cb,.slice a.Ai 0 a.ci,.slice a.Ao 0 a.co,.int .i64 0,.int .i64 0]] w fun e w'=>e= .returned (.int .i64 E)∧Below w.heap.size w w':=by
 subst hn
 subst hE
 exact jI A c fs a jO w hs hm ER
theorem nx (hn:fs.length=n) (hE:cQ fs gE=0) (hm2:lW fs gE=jO) (A:Option Addr) (c:Nat) (a:MA) (w:World) (hs:Sl w (.slice A n c) fs) (hm:dQ w.heap.size w a gE) :
  Calls Tryz.prog 23 #[.agg #[.slice A n c],.agg #[.slice a.Af 1 a.cf,.slice a.Ab 0 a.cb,.slice a.Ai 0 a.ci,.slice a.Ao 0 a.co,.int .i64 0,.int .i64 0]] w fun e w'=> ∃g:MA,True∧
   e= .returned (.tuple #[.agg #[.slice g.Af 1 g.cf,.slice g.Ab 0 g.cb,.slice g.Ai 0 g.ci,.slice g.Ao 0 g.co,.int .i64 0,.int .i64 0],.int .i64 0])∧Cw w.heap.size w [ap (.slice g.Af 1 g.cf) jO.frames,ap (.slice g.Ab 0 g.cb) jO.blocks,ap (.slice g.Ai 0 g.ci) jO.inn,ap (.slice g.Ao 0 g.co) jO.out] w':=by
 subst hn
 have:=pA A c fs a gE jO hm2 w hs hm qq
 rw[hE] at this
 exact this
theorem nw (hn:fs.length=n) (hE:cQ fs gE=0) (hm2:lW fs gE=rY) (A:Option Addr) (c:Nat) (a:MA) (w:World) (hs:Sl w (.slice A n c) fs) (hm:dQ w.heap.size w a gE) :
  Calls Tryz.prog 23 #[.agg #[.slice A n c],.agg #[.slice a.Af 1 a.cf,.slice a.Ab 0 a.cb,.slice a.Ai 0 a.ci,.slice a.Ao 0 a.co,.int .i64 0,.int .i64 0]] w fun e w'=> ∃g:MA,True∧
   e= .returned (.tuple #[.agg #[.slice g.Af 1 g.cf,.slice g.Ab 0 g.cb,.slice g.Ai 0 g.ci,.slice g.Ao 0 g.co,.int .i64 1,.int .i64 0],.int .i64 0])∧Cw w.heap.size w [ap (.slice g.Af 1 g.cf) rY.frames,ap (.slice g.Ab 0 g.cb) rY.blocks,ap (.slice g.Ai 0 g.ci) rY.inn,ap (.slice g.Ao 0 g.co) rY.out] w':=by
 subst hn
 have:=pA A c fs a gE rY hm2 w hs hm qq
 rw[hE] at this
 exact this
end
section
variable {B:Nat} {w0 w:World} {H H1 H2 H3 H4:List a7}
theorem dz {g:MA} {m:aG} {nf nb ni no:Nat} (hw:Cw B w0 H w) (hf:cZ H (ap (.slice g.Af nf g.cf) m.frames) H1) (hb:cZ H (ap (.slice g.Ab nb g.cb) m.blocks) H2) (hi:cZ H (ap (.slice g.Ai ni g.ci) m.inn) H3) (ho:cZ H (ap (.slice g.Ao no g.co) m.out) H4) (e1:m.frames.length=nf) (e2:m.blocks.length=nb) (e3:m.inn.length=ni) (e4:m.out.length=no) (hs:be m.status) (ht:be m.trap):dQ w.heap.size w g m:=by
 subst e1 e2 e3 e4
 exact⟨SF.at_ (SF.own rfl hf) hw,SF.at_ (SF.own rfl hb) hw,SF.at_ (SF.own rfl hi) hw,SF.at_ (SF.own rfl ho) hw,hs,ht⟩
end
section
variable {P:Program} {n:NF} {B:Nat} {w0:World} {H H':List a7} {Q:Exit→Act→World→Prop} {env:cK} {x:Code}
structure Id (B:Nat) (w0:World) (X:a7) (k:Nat) (A:Option Addr) (c:Nat) (fr:List aO) (hs:List aZ):Prop where
 el:∀i,i<k→∃Al cl As cs,hs.getD i default=⟨(bh fr i).func,(bh fr i).pc,.slice Al (bh fr i).locals.length cl,.slice As (bh fr i).stack.length cs⟩∧
  (∀H H',cZ H X H'→SF B w0 H Al (bh fr i).locals.length cl (bh fr i).locals∧SF B w0 H As (bh fr i).stack.length cs (bh fr i).stack)
 len:hs.length=k
 back:∀H H' H'' w,cZ H (ap (.slice A k c) hs) H'→cZ H' X H''→Cw B w0 H w→Cw B w0 (ap (.slice A k c) fr::H'') w
theorem SF.hfr {A:Option Addr} {xs:List aZ} {m c k:Nat} {h:aZ} (hs:SF B w0 H A m c xs) (hk:k<m) (e:xs.getD k default=h):∀w,Cw B w0 H w→∀j v,([.int .i64 h.func,.int .i64 h.pc,h.lv,h.sv]:List Value)[j]? =some v→w.cell? ⟨ab A,ao A+k*4+j,none⟩=some v:=fun w hw j v hv=>SF.cell hs hk default (by rw[e];exact hv) w hw
theorem rN {l:List (aZ×aO)} {i:Nat} (hi:i<l.length) {w:World} (h:Cw B w0 (dY l::H) w):Sl w l[i].1.lv l[i].2.locals∧Sl w l[i].1.sv l[i].2.stack:=by
 have h1:Cw B w0 (ap l[i].1.lv l[i].2.locals::ap l[i].1.sv l[i].2.stack::(dY (l.eraseIdx i)::H)) w:=z9 hi h
 obtain⟨F1,k1,_⟩:=h1.rd cZ.a
 obtain⟨F2,k2,_⟩:=h1.rd (cZ.s cZ.a)
 exact⟨cL.sl k1,cL.sl k2⟩
theorem wd {A:Option Addr} {k c:Nat} {fr:List aO} (hk:fr.length=k) (hp:cZ H (ap (.slice A k c) fr) H')
  (h:∀(X:a7) (hs:List aZ),Id B w0 X k A c fr hs→CW P n B w0 x Q env (ap (.slice A k c) hs::X::H')):CW P n B w0 x Q env H:=fun a w hf hw=>by
 obtain⟨l,hl,hok,h3⟩:=AS (hw.perm hp)
 have hll:l.length=k:=by rw[←hk,←hl,List.length_map]
 refine h (dY l) (l.map Prod.fst) ⟨fun i hi=>?_,by rw[List.length_map,hll],fun H1 H2 H3 w f1 f2 hw=>?_⟩ a w hf h3
 ·have hi':i<l.length:=by omega
  obtain⟨s1,s2⟩:=rN hi' (h3.perm (List.Perm.swap ..))
  have hfr:bh fr i=l[i].2:=by
   unfold bh
   rw[←hl,List.getD_eq_getElem?_getD,List.getElem?_map,List.getElem?_eq_getElem hi']
   rfl
  have hfi:=hok l[i] (List.getElem_mem hi')
  obtain⟨Al,cl,e1,_⟩:=s1.form
  obtain⟨As,cs,e2,_⟩:=s2.form
  refine⟨Al,cl,As,cs,?_,fun H1 H2 f=>⟨⟨by rw[hfr],fun w hw=>?_⟩,⟨by rw[hfr],fun w hw=>?_⟩⟩⟩
  ·rw[List.getD_eq_getElem?_getD,List.getElem?_map,List.getElem?_eq_getElem hi',hfr,←e1,←e2]
   show l[i].1=_
   have h1:l[i].1.func=l[i].2.func:=hfi.1
   have h2:l[i].1.pc=l[i].2.pc:=hfi.2
   rw[←h1,←h2]
  ·have:=(rN hi' (hw.perm f)).1
   rw[e1] at this
   rw[hfr];exact this
  have:=(rN hi' (hw.perm f)).2
  rw[e2] at this
  rw[hfr];exact this
 have:=sF (v:= .slice A k c) (H:=H3) hok ((hw.perm f1).perm (List.Perm.cons _ f2))
 rw[hl] at this
 exact this
end
end
section
set_option maxRecDepth 100000 in
set_option maxHeartbeats 4000000 in
theorem rk (w:World):Calls Tryz.prog 26 #[] w fun e w'=>e= .returned (.bool true)∧Below w.heap.size w w':=by
 obtain⟨f1,f2,f3,f4,f5,f6,f7,f8,f9⟩:=r9
 refine enter Tryz.func26 rfl Tryz.ntmps26 rfl ?_
 refine ac<|aa<|rn 1 [] rfl<|ae<|ac<|aa<|ag (cO rfl rfl rfl lT (fun w hw=>fZ w)) rfl rfl (fun gp _=>?_)
 refine ag (cO rfl rfl rfl GT (fun w hw=>ny f1 f2 rfl _ _ w (SF.at_ (SF.own rfl fc) hw))) rfl rfl (fun a1 _=>?_)
 refine rn 3 [12,13] rfl<|ag (aS aR rfl rfl) rfl rfl (fun g1 _=>?_)
 refine ag (aJ _ fc ay rfl rfl rfl rfl rfl (by rfl) rfl (by rfl)) rfl rfl (fun _ _=>?_)
 refine rn 1 [1,2] rfl<|ae<|eb (fun _:Nat×MA=>True) (fun g=> [(2,.int .i64 0),(3,.pointer (some ⟨g.1,0,none⟩)),(4,.int .i64 0)]) (fun g=> [ak g.1 [.slice g.2.Af 1 g.2.cf,.slice g.2.Ab 0 g.2.cb,.slice g.2.Ai 0 g.2.ci,.slice g.2.Ao 0 g.2.co,.int .i64 0,.int .i64 0] 29,ap (.slice g.2.Af 1 g.2.cf) jO.frames,ap (.slice g.2.Ab 0 g.2.cb) jO.blocks,ap (.slice g.2.Ai 0 g.2.ci) jO.inn,ap (.slice g.2.Ao 0 g.2.co) jO.out]) ?_ ?_
 ·refine cD (.still 1 (.pick 0 (.pick 2 (.calm 3 (.calm 4 (.calm 5 (.pick 6 (.pick 7 (.calm 8 .done) .stop) .stop)))) (.pick 6 (.pick 2 (.calm 3 (.calm 4 (.calm 5 (.pick 7 (.calm 8 .done) .stop)))) .stop) .stop)) (.pick 6 (.pick 0 (.pick 2 (.calm 3 (.calm 4 (.calm 5 (.pick 7 (.calm 8 .done) .stop)))) .stop) .stop) .stop))) [2,3,4,5,7,8] rfl (by kernel_rfl) (by kernel_rfl) ?_
  refine ax rfl (aN (vs:= [_,_,_,_,_,_]) fc aT ay rfl rfl (by rfl) rfl) rfl rfl ha ?_
  refine aK rfl (cO rfl rfl rfl lT (fun w hw=>fZ w)) rfl rfl (.inr fun _=>ha) (fun gq _=>?_) ?_
  ·refine aK rfl (cO rfl rfl rfl qz (fun w hw=>nx rfl f3 f4 _ _ a1 w (SF.at_ (SF.own rfl fc) hw) (dz hw fc fc fc fc rfl rfl rfl rfl (by decide) (by decide)))) rfl rfl (.inl rfl) (fun a2 _=>?_) ?_
   ·refine gL 3 [2,18,19] rfl<|aK rfl (aS aR rfl rfl) rfl rfl (.inr fun _=>ha) (fun q _=>?_) aE
    refine aK rfl (aJ [_,_,_,_,_,_] fc ay rfl rfl rfl rfl rfl (by rfl) rfl (by rfl)) rfl rfl (.inl rfl) (fun _ _=>?_) aE
    refine gL 1 [2,3,4] rfl<|df<|bq (q,a2) (trivial) ⟨rfl,rfl,rfl,trivial⟩ (fun _ h=>h.msub ms)
   refine aK rfl (aS aR rfl rfl) rfl rfl (.inr fun _=>ha) (fun q _=>?_) aE
   refine aK rfl (cO rfl rfl rfl qz (fun w hw=>nx rfl f3 f4 _ _ a1 w (SF.at_ (SF.own rfl fc) hw) (dz hw fc fc fc fc rfl rfl rfl rfl (by decide) (by decide)))) rfl rfl (.inl rfl) (fun a2 _=>?_) aE
   refine gL 3 [2,3,18,19] rfl<|aK rfl (aJ [_,_,_,_,_,_] fc ay rfl rfl rfl rfl rfl (by rfl) rfl (by rfl)) rfl rfl (.inl rfl) (fun _ _=>?_) aE
   refine gL 1 [2,3,4] rfl<|df<|bq (q,a2) (trivial) ⟨rfl,rfl,rfl,trivial⟩ (fun _ h=>h.msub ms)
  refine aK rfl (aS aR rfl rfl) rfl rfl (.inr fun _=>ha) (fun q _=>?_) aE
  refine aK rfl (cO rfl rfl rfl lT (fun w hw=>fZ w)) rfl rfl (.inr fun _=>ha) (fun gq _=>?_) aE
  refine aK rfl (cO rfl rfl rfl qz (fun w hw=>nx rfl f3 f4 _ _ a1 w (SF.at_ (SF.own rfl fc) hw) (dz hw fc fc fc fc rfl rfl rfl rfl (by decide) (by decide)))) rfl rfl (.inl rfl) (fun a2 _=>?_) aE
  refine gL 3 [2,3,18,19] rfl<|aK rfl (aJ [_,_,_,_,_,_] fc ay rfl rfl rfl rfl rfl (by rfl) rfl (by rfl)) rfl rfl (.inl rfl) (fun _ _=>?_) aE
  refine gL 1 [2,3,4] rfl<|df<|bq (q,a2) (trivial) ⟨rfl,rfl,rfl,trivial⟩ (fun _ h=>h.msub ms)
 rintro⟨gn,a2⟩ _
 try dsimp only
 refine ac<|aa<|ag (cO rfl rfl rfl IP (fun w hw=>ot w)) rfl rfl (fun gs _=>?_)
 refine ag (cO rfl rfl rfl GT (fun w hw=>ny f6 f7 rfl _ _ w (SF.at_ (SF.own rfl fc) hw))) rfl rfl (fun a3 _=>?_)
 refine rn 3 [2,3,4,23,24] rfl<|ag (aS aR rfl rfl) rfl rfl (fun g2 _=>?_)
 refine ag (aJ _ fc ay rfl rfl rfl rfl rfl (by rfl) rfl (by rfl)) rfl rfl (fun _ _=>?_)
 refine rn 1 [2,3,4,5,6] rfl<|ae<|eb (fun _:Nat×MA=>True) (fun g=> [(2,.int .i64 0),(3,.pointer (some ⟨gn,0,none⟩)),(4,.int .i64 0),(6,.int .i64 0),(7,.pointer (some ⟨g.1,0,none⟩)),(8,.int .i64 0)]) (fun g=> [ak g.1 [.slice g.2.Af 1 g.2.cf,.slice g.2.Ab 0 g.2.cb,.slice g.2.Ai 0 g.2.ci,.slice g.2.Ao 0 g.2.co,.int .i64 1,.int .i64 0] 29,ap (.slice g.2.Af 1 g.2.cf) rY.frames,ak gn [.slice a2.Af 1 a2.cf,.slice a2.Ab 0 a2.cb,.slice a2.Ai 0 a2.ci,.slice a2.Ao 0 a2.co,.int .i64 0,.int .i64 0] 29,ap (.slice a2.Af 1 a2.cf) jO.frames,ap (.slice a2.Ab 0 a2.cb) jO.blocks,ap (.slice a2.Ai 0 a2.ci) jO.inn,ap (.slice a2.Ao 0 a2.co) jO.out]) ?_ ?_
 ·refine cD (.still 1 (.pick 0 (.pick 2 (.calm 3 (.calm 4 (.calm 5 (.pick 6 (.pick 7 (.calm 8 .done) .stop) .stop)))) (.pick 6 (.pick 2 (.calm 3 (.calm 4 (.calm 5 (.pick 7 (.calm 8 .done) .stop)))) .stop) .stop)) (.pick 6 (.pick 0 (.pick 2 (.calm 3 (.calm 4 (.calm 5 (.pick 7 (.calm 8 .done) .stop)))) .stop) .stop) .stop))) [2,3,4,5,7,8] rfl (by kernel_rfl) (by kernel_rfl) ?_
  refine ax rfl (aN (vs:= [_,_,_,_,_,_]) fc aT ay rfl rfl (by rfl) rfl) rfl rfl ha ?_
  refine aK rfl (cO rfl rfl rfl IP (fun w hw=>ot w)) rfl rfl (.inr fun _=>ha) (fun gq _=>?_) ?_
  ·refine aK rfl (cO rfl rfl rfl qz (fun w hw=>nw rfl f8 f9 _ _ a3 w (SF.at_ (SF.own rfl fc) hw) (dz hw fc fc fc fc rfl rfl rfl rfl (by decide) (by decide)))) rfl rfl (.inl rfl) (fun a4 _=>?_) ?_
   ·refine gL 3 [2,3,4,6,29,30] rfl<|aK rfl (aS aR rfl rfl) rfl rfl (.inr fun _=>ha) (fun q _=>?_) aE
    refine aK rfl (aJ [_,_,_,_,_,_] fc ay rfl rfl rfl rfl rfl (by rfl) rfl (by rfl)) rfl rfl (.inl rfl) (fun _ _=>?_) aE
    refine gL 1 [2,3,4,6,7,8] rfl<|df<|bq (q,a4) (trivial) ⟨rfl,rfl,rfl,rfl,rfl,rfl,trivial⟩ (fun _ h=>h.msub ms)
   refine aK rfl (aS aR rfl rfl) rfl rfl (.inr fun _=>ha) (fun q _=>?_) aE
   refine aK rfl (cO rfl rfl rfl qz (fun w hw=>nw rfl f8 f9 _ _ a3 w (SF.at_ (SF.own rfl fc) hw) (dz hw fc fc fc fc rfl rfl rfl rfl (by decide) (by decide)))) rfl rfl (.inl rfl) (fun a4 _=>?_) aE
   refine gL 3 [2,3,4,6,7,29,30] rfl<|aK rfl (aJ [_,_,_,_,_,_] fc ay rfl rfl rfl rfl rfl (by rfl) rfl (by rfl)) rfl rfl (.inl rfl) (fun _ _=>?_) aE
   refine gL 1 [2,3,4,6,7,8] rfl<|df<|bq (q,a4) (trivial) ⟨rfl,rfl,rfl,rfl,rfl,rfl,trivial⟩ (fun _ h=>h.msub ms)
  refine aK rfl (aS aR rfl rfl) rfl rfl (.inr fun _=>ha) (fun q _=>?_) aE
  refine aK rfl (cO rfl rfl rfl IP (fun w hw=>ot w)) rfl rfl (.inr fun _=>ha) (fun gq _=>?_) aE
  refine aK rfl (cO rfl rfl rfl qz (fun w hw=>nw rfl f8 f9 _ _ a3 w (SF.at_ (SF.own rfl fc) hw) (dz hw fc fc fc fc rfl rfl rfl rfl (by decide) (by decide)))) rfl rfl (.inl rfl) (fun a4 _=>?_) aE
  refine gL 3 [2,3,4,6,7,29,30] rfl<|aK rfl (aJ [_,_,_,_,_,_] fc ay rfl rfl rfl rfl rfl (by rfl) rfl (by rfl)) rfl rfl (.inl rfl) (fun _ _=>?_) aE
  refine gL 1 [2,3,4,6,7,8] rfl<|df<|bq (q,a4) (trivial) ⟨rfl,rfl,rfl,rfl,rfl,rfl,trivial⟩ (fun _ h=>h.msub ms)
 rintro⟨gw,a4⟩ _
 try dsimp only
 refine wd (k:=1) (c:=a2.cf) (A:=a2.Af) (fr:=jO.frames) rfl fc fun X hsX hX=>?_
 refine wd (k:=1) (c:=a4.cf) (A:=a4.Af) (fr:=rY.frames) rfl fc fun Y hsY hY=>?_
 obtain⟨B1,d1,B2,d2,e1,hX1⟩:=hX.el 0 (by decide)
 obtain⟨B3,d3,B4,d4,e2,hY1⟩:=hY.el 0 (by decide)
 have hS:∀H H',cZ H X H'→SF w.heap.size w H B2 1 d2 [(⟨false,3⟩:aX)]:=fun _ _ f=>(hX1 _ _ f).2
 refine ac<|cD (.still 0 (.still 1 (.still 2 (.still 3 (.still 4 (.still 5 (.still 6 (.still 7 (.still 8 (.still 9 (.still 10 (.still 11 (.still 12 (.still 13 (.still 14 (.still 16 (.pick 15 (.pick 17 (.still 18 (.still 19 (.still 20 (.still 21 (.still 22 (.still 23 (.still 24 (.still 25 (.still 26 (.still 27 (.still 28 (.still 29 (.still 30 (.still 31 (.still 32 (.still 33 (.still 34 (.still 35 (.still 36 (.still 37 (.still 38 (.still 39 (.still 40 (.still 41 (.still 42 (.still 43 (.still 44 (.still 45 (.still 46 (.still 47 (.still 48 (.still 49 (.still 50 (.still 51 (.still 52 (.still 53 (.still 54 (.still 55 (.still 56 (.still 57 (.still 58 (.still 59 (.still 60 (.still 61 (.still 62 (.still 63 (.still 64 (.still 65 (.still 66 (.still 67 .done)))))))))))))))))))))))))))))))))))))))))))))))))) .stop) .stop))))))))))))))))) [] rfl (by kernel_rfl) (by kernel_rfl) ?_
 refine aU ha 3 [3,4,6,7,8,33] rfl<|eq (t:=33) (v':= .bool true) rfl (rfl) ?_
 refine aU ha 4 [3,6,7,8,37] rfl<|eq (t:=37) (v':= .bool true) rfl (rfl) ?_
 refine aU ha 4 [3,7,8,41] rfl<|eq (t:=41) (v':= .bool true) rfl (rfl) ?_
 refine aU ha 4 [3,7,45] rfl<|eq (t:=45) (v':= .bool true) rfl (rfl) ?_
 refine ax rfl (aN (vs:= [_,_,_,_,_,_]) fc aT ay rfl rfl (by rfl) rfl) rfl rfl ha ?_
 refine aK rfl (cO rfl rfl rfl lT (fun w hw=>fZ w)) rfl rfl (.inr fun _=>ha) (fun gc _=>?_) aE
 refine aK rfl (aY rfl rfl rfl uo (fun w hw=>xE rfl f5 _ _ a2 w (SF.at_ (SF.own rfl fc) hw) ⟨SF.at_ (SF.own rfl .a) (hX.back _ _ _ w fc fc hw),SF.at_ (SF.own rfl fc) hw,SF.at_ (SF.own rfl fc) hw,SF.at_ (SF.own rfl fc) hw,by decide,by decide⟩)) rfl rfl (.inr fun _=>ha) (fun _ _=>?_) aE
 refine aU ha 3 [3,7,51] rfl<|eq (t:=51) (v':= .bool true) rfl (rfl) ?_
 refine aU ha 1 [3,7,51,52] rfl<|ax rfl (aj fc bP rfl rfl (by rfl)) rfl rfl ha ?_
 refine ax rfl (aM aP rfl rfl) rfl rfl ha ?_
 refine aU ha 3 [3,7,57] rfl<|eq (t:=57) (v':= .bool true) rfl (rfl) ?_
 refine aU ha 1 [3,7,57,58] rfl<|ax rfl (aj fc bP rfl rfl (by rfl)) rfl rfl ha ?_
 refine ax rfl (aQ (k:=0) aP bn (SF.own (α:=aZ) hX.len fc) (by omega) rfl rfl rfl) rfl rfl ha ?_
 refine aU ha 1 [3,7,57,61] rfl<|ax rfl (a8 (fun w hw=>(SF.hfr (SF.own (α:=aZ) hX.len fc) (k:=0) (by decide) e1) w hw 1 _ rfl) rfl rfl au) rfl rfl ha ?_
 refine aU ha 3 [3,7,65] rfl<|eq (t:=65) (v':= .bool true) rfl (rfl) ?_
 refine aU ha 1 [3,7,65,66] rfl<|ax rfl (aj fc bP rfl rfl (by rfl)) rfl rfl ha ?_
 refine ax rfl (aQ (k:=0) aP bn (SF.own (α:=aZ) hX.len fc) (by omega) rfl rfl rfl) rfl rfl ha ?_
 refine aU ha 1 [3,7,65,69] rfl<|ax rfl (a8 (fun w hw=>(SF.hfr (SF.own (α:=aZ) hX.len fc) (k:=0) (by decide) e1) w hw 3 _ rfl) rfl rfl cz) rfl rfl ha ?_
 refine ax rfl (aM aI rfl rfl) rfl rfl ha ?_
 refine aU ha 3 [3,7,74] rfl<|eq (t:=74) (v':= .bool true) rfl (rfl) ?_
 refine aU ha 1 [7,74,75] rfl<|ax rfl (aj fc bP rfl rfl (by rfl)) rfl rfl ha ?_
 refine ax rfl (aQ (k:=0) aP bn (SF.own (α:=aZ) hX.len fc) (by omega) rfl rfl rfl) rfl rfl ha ?_
 refine aU ha 1 [7,74,78] rfl<|ax rfl (a8 (fun w hw=>(SF.hfr (SF.own (α:=aZ) hX.len fc) (k:=0) (by decide) e1) w hw 3 _ rfl) rfl rfl cz) rfl rfl ha ?_
 refine ax rfl (aQ (k:=0) aI aV (hS _ _ fc) (by omega) rfl rfl rfl) rfl rfl ha ?_
 refine aU ha 1 [7,74,81] rfl<|ax rfl (a8 (fun w hw=>(SF.val (k:=0) (hS _ _ fc) (by decide) default) w hw 1 _ rfl) rfl rfl au) rfl rfl ha ?_
 refine aU ha 3 [7,85] rfl<|eq (t:=85) (v':= .bool true) rfl (rfl) ?_
 refine aU ha 1 [7,85,86] rfl<|ax rfl (aj fc au rfl rfl (by rfl)) rfl rfl ha ?_
 refine aU ha 3 [7,90] rfl<|eq (t:=90) (v':= .bool true) rfl (rfl) ?_
 refine aU ha 1 [90,91] rfl<|ax rfl (aj fc bP rfl rfl (by rfl)) rfl rfl ha ?_
 refine ax rfl (aQ (k:=0) aP bn (SF.own (α:=aZ) hY.len fc) (by omega) rfl rfl rfl) rfl rfl ha ?_
 refine aU ha 1 [90,94] rfl<|ax rfl (a8 (fun w hw=>(SF.hfr (SF.own (α:=aZ) hY.len fc) (k:=0) (by decide) e2) w hw 1 _ rfl) rfl rfl au) rfl rfl ha ?_
 refine aU ha 3 [0] rfl<|cT<|aq<|av Tryz.results26 (an rfl) ?_
 intro w hw
 exact⟨rfl,hw.below⟩
end
section
theorem Ga (a b:Int) (w:World):(Instr.field 49 (.agg #[.int .i64 a,.int .i64 b]) 0).run Tryz.prog w= .ok (.int .i64 a) w:=by kernel_rfl
theorem zR {fs:List aA} {m:aG} {li:List aO} {x:aO} (e:m.frames=li++ [x]):bh m.frames li.length=x∧m.frames.length=li.length+1∧cJ fs m=bG (az fs x.func.toNat).code x.pc.toNat:=by
 refine⟨by rw[e,jZ],by rw[e];simp,?_⟩
 unfold cJ gT
 rw[e,uz]
end
section
theorem kz {fs:List aA} {m:aG} (h:cQ fs m=0):fp fs∧du fs m:=by
 unfold cQ at h
 split at h
 ·rename_i h2;exact absurd h h2
 rename_i h2;exact⟨nn (Classical.not_not.1 h2),mY.1 h⟩
theorem uw {fs:List aA} {m:aG} (hp:dw fs=0) (h:du fs m):cQ fs m=0:=by
 unfold cQ
 rw[if_neg (fun h'=>h' hp)]
 exact mY.2 h
theorem tV {fs:List aA} {m:aG} (h:cQ fs m=0):dw fs=0:=by
 unfold cQ at h
 split at h
 ·rename_i h2;exact absurd h h2
 rename_i h2;exact Classical.not_not.1 h2
end
section
theorem mf {x:aO} (h:D1 x):(dV x).length≤2554:=by
 have h1:=nG x.locals x.locals.length
 have h2:=nG x.stack x.stack.length
 rw[List.take_length] at h1 h2
 have:=h.l.1
 have:=h.s.1
 simp only[dV,fj,List.length_cons,List.length_append]
 omega
theorem iE {l:List Int} (h:l.length≤255):(dU l).length≤1021:=by
 have h1:=tD l l.length
 rw[List.take_length] at h1
 rw[AV]
 omega
set_option maxRecDepth 100000 in
set_option maxHeartbeats 8000000 in
theorem y9 (a:MA) (m:aG) (w:World) (hm:dQ w.heap.size w a m) (hmi:MI m) :
  Calls Tryz.prog 54 #[.agg #[.slice a.Af m.frames.length a.cf,.slice a.Ab m.blocks.length a.cb,.slice a.Ai m.inn.length a.ci,.slice a.Ao m.out.length a.co,.int .i64 m.status,.int .i64 m.trap]] w fun e w'=>e= .returned (.string ⟨(eR m).toArray⟩)∧Below w.heap.size w w':=by
 obtain⟨hs1,ht1,⟨hi1,hi2⟩,⟨ho1,ho2⟩,⟨hb1,hb2⟩,hf1,hf2⟩:=hmi
 have qi:=iE hi1
 have qo:=iE ho1
 have qb:=fun k=>lw (f:=dU) m.blocks (fun l hl=>iE (hb2 l hl).1) k
 refine enter Tryz.func54 rfl Tryz.ntmps54 rfl ?_
 refine ac<|aa<|ag (bH rfl rfl rfl) rfl rfl (fun g1 _=>?_)
 refine rn 1 [1] rfl<|ae<|ac<|aa<|af (bN (cs:= [_]) F0 Tryz.zeroValue134 rfl rfl (by rfl)) rfl rfl ?_
 refine ag (bH rfl rfl rfl) rfl rfl (fun g2 _=>?_)
 refine rn 1 [1,3] rfl<|ae<|ac<|aa<|rn 2 [1,3,10,11] rfl<|af (aj fc au rfl rfl (by rfl)) rfl rfl ?_
 refine rn 1 [1,3,10,12,13] rfl<|af (aj fc au rfl rfl (by rfl)) rfl rfl ?_
 refine ag (bu (cs:= [_,_]) ah aF a6 rfl rfl rfl rfl rfl) rfl rfl (fun g3 _=>?_)
 refine fl (fun w h=>Cw.nilO UInt8 (cE (α:=Int) (m:=2) [m.status,m.trap] rfl (kl hm.s hm.t) rfl (by decide) h)) ?_
 refine ag (bg rfl rfl rfl qw (fun w hw=>j9 g2 [m.status,m.trap] _ _ (.own rfl .a) [] none 0 (by simp) w (hw.msub (.s fc (.s fc .r))))) rfl rfl (fun⟨A1,c1⟩ _=>?_)
 try dsimp only
 refine ae<|ac<|aa<|rn 2 [1,3,17,18] rfl<|af (aj fc aW rfl rfl (by rfl)) rfl rfl ?_
 obtain⟨b1,e1⟩:∃b,[]++ [m.status,m.trap].map a9=b:=⟨_,rfl⟩
 have l1:b1.length=2:=by rw[←e1];rfl
 rw[e1]
 refine ag (bg rfl rfl rfl ID (fun w hw=>pb g2 m.inn _ _ hm.i b1 A1 c1 (by omega) w (hw.msub (.s fc (.s fc .r))))) rfl rfl (fun⟨A2,c2⟩ _=>?_)
 try dsimp only
 refine ae<|ac<|aa<|rn 2 [1,3,21,22] rfl<|af (aj fc aW rfl rfl (by rfl)) rfl rfl ?_
 obtain⟨b2,e2⟩:∃b,b1++dU m.inn=b:=⟨_,rfl⟩
 have l2:b2.length≤1023:=by rw[←e2,List.length_append];omega
 rw[e2]
 refine ag (bg rfl rfl rfl ID (fun w hw=>pb g2 m.out _ _ hm.o b2 A2 c2 (by omega) w (hw.msub (.s fc (.s fc .r))))) rfl rfl (fun⟨A3,c3⟩ _=>?_)
 try dsimp only
 refine ae<|ac<|aa<|rn 2 [1,3,25,26] rfl<|af (aj fc dS rfl rfl (by rfl)) rfl rfl ?_
 refine af (aM bF rfl rfl) rfl rfl<|ag (bu (cs:= [_]) ah aF a6 rfl rfl rfl rfl rfl) rfl rfl (fun g4 _=>?_)
 obtain⟨b3,e3⟩:∃b,b2++dU m.out=b:=⟨_,rfl⟩
 have l3:b3.length≤2044:=by rw[←e3,List.length_append];omega
 rw[e3]
 refine fl (fun w h=>cE (α:=Int) (m:=1) [(m.blocks.length:Int)] rfl (gD (by unfold be;omega)) rfl (by decide) h) ?_
 refine ag (bg rfl rfl rfl qw (fun w hw=>j9 g2 [(m.blocks.length:Int)] _ _ (.own rfl .a) b3 A3 c3 (by show _+1≤_;omega) w (hw.msub (.s fc (.s fc .r))))) rfl rfl (fun⟨A4,c4⟩ _=>?_)
 try dsimp only
 refine ae<|ac<|ac<|aa<|rn 1 [1,3,31] rfl<|af (aj fc dS rfl rfl (by rfl)) rfl rfl ?_
 refine af (aM bF rfl rfl) rfl rfl<|rn 1 [1,3,32,33,34] rfl<|ae ?_
 obtain⟨b4,e4⟩:∃b,b3++ [(m.blocks.length:Int)].map a9=b:=⟨_,rfl⟩
 have l4:b4.length≤2045:=by rw[←e4,List.length_append];show _+1≤_;omega
 rw[e4]
 refine aB (bI (fun g:Nat×Option Addr×Nat=>g.1≤m.blocks.length) (fun g=>m.blocks.length - g.1) (fun g=> [(1,.pointer (some ⟨g1,0,none⟩)),(3,.pointer (some ⟨g2,0,none⟩)),(32,.slice a.Ab m.blocks.length a.cb),(33,.int .i64 (m.blocks.length:Int)),(34,.int .i64 (g.1:Int))]) (fun g=> [ak g2 [.slice g.2.1 (b4++(m.blocks.take g.1).flatMap dU).length g.2.2] 134,ap (.slice g.2.1 (b4++(m.blocks.take g.1).flatMap dU).length g.2.2) (b4++(m.blocks.take g.1).flatMap dU),ak g1 [.slice a.Af m.frames.length a.cf,.slice a.Ab m.blocks.length a.cb,.slice a.Ai m.inn.length a.ci,.slice a.Ao m.out.length a.co,.int .i64 m.status,.int .i64 m.trap] 29]) (0,A4,c4) (Nat.zero_le _) ⟨rfl,rfl,rfl,rfl,rfl,trivial⟩ (fun w h=>by have h:=h.msub (T:= [ak g2 _ _,ap _ b4,ak g1 [.slice a.Af m.frames.length a.cf,.slice a.Ab m.blocks.length a.cb,.slice a.Ai m.inn.length a.ci,.slice a.Ao m.out.length a.co,.int .i64 m.status,.int .i64 m.trap] 29]) ms;simpa using h) ?_)
 rintro⟨j,Aj,cj⟩ hj'
 try dsimp only
 have hj:j≤m.blocks.length:=hj'
 have hlj:(b4++(m.blocks.take j).flatMap dU).length≤2045+1021*m.blocks.length:=by rw[List.length_append];have:=qb j;omega
 refine ac<|aa<|rn 1 [1,3,32,33,34,35] rfl<|ae<|ac<|aw rfl (fun hlt=>?_) (fun hlt=>?_)
 ·have hjl:j<m.blocks.length:=by omega
  obtain⟨Ax,cx,hx,hcell⟩:=hm.b.sub hjl
  have hxl:(m.blocks.getD j []).length≤255:=(hb2 _ (ff hjl)).1
  refine ar (am ?_)
  refine ac<|aB<|ac<|aa<|af (aQ bF cC (.ro hm.b) (by omega) rfl rfl rfl) rfl rfl<|af (a8 (hcell _) rfl rfl aW) rfl rfl<|rn 1 [1,3,5,32,33,34] rfl<|ae<|aa<|rn 2 [1,3,32,33,34,38,39] rfl<|ag (bg rfl rfl rfl ID (fun w hw=>pb g2 (m.blocks.getD j []) _ _ hx (b4++(m.blocks.take j).flatMap dU) Aj cj (by omega) w (hw.msub (.s fc (.s fc .r))))) rfl rfl (fun⟨A5,c5⟩ _=>?_)
  try dsimp only
  refine bC (aH (am ?_))
  refine aa<|af (br rfl rfl rfl (by omega)) rfl rfl<|rn 1 [1,3,32,33,34] rfl ?_
  rw[←iz hjl [] b4]
  refine a5 (j+1,A5,c5) (by show j+1≤_;omega) (by show _ - _<_ - _;omega) ⟨rfl,rfl,rfl,rfl,rfl,trivial⟩ me
 obtain rfl:j=m.blocks.length:=by omega
 have e5:b4++(m.blocks.take m.blocks.length).flatMap dU=b4++m.blocks.flatMap dU:=by rw[List.take_length]
 rw[e5] at hlj
 rw[e5]
 obtain⟨b5,e6⟩:∃b,b4++m.blocks.flatMap dU=b:=⟨_,rfl⟩
 rw[e6] at hlj
 rw[e6]
 refine bz (aD (aD (bO (am ?_))))
 refine ac<|aa<|rn 2 [1,3,42,43] rfl<|af (aj fc bP rfl rfl (by rfl)) rfl rfl ?_
 refine af (aM aP rfl rfl) rfl rfl<|ag (bu (cs:= [_]) ah aF a6 rfl rfl rfl rfl rfl) rfl rfl (fun g5 _=>?_)
 refine fl (fun w h=>cE (α:=Int) (m:=1) [(m.frames.length:Int)] rfl (gD (by unfold be;omega)) rfl (by decide) h) ?_
 refine ag (bg rfl rfl rfl qw (fun w hw=>j9 g2 [(m.frames.length:Int)] _ _ (.own rfl .a) b5 Aj cj (by show _+1≤_;omega) w (hw.msub (.s fc (.s fc .r))))) rfl rfl (fun⟨A6,c6⟩ _=>?_)
 try dsimp only
 refine ae<|ac<|ac<|aa<|rn 1 [3,48] rfl<|af (aj fc bP rfl rfl (by rfl)) rfl rfl ?_
 refine af (aM aP rfl rfl) rfl rfl<|rn 1 [3,49,50,51] rfl<|ae ?_
 obtain⟨b6,e7⟩:∃b,b5++ [(m.frames.length:Int)].map a9=b:=⟨_,rfl⟩
 have l6:b6.length≤2046+1021*m.blocks.length:=by rw[←e7,List.length_append];show _+1≤_;omega
 rw[e7]
 refine aB (bI (fun g:Nat×Option Addr×Nat=>g.1≤m.frames.length) (fun g=>m.frames.length - g.1) (fun g=> [(3,.pointer (some ⟨g2,0,none⟩)),(49,.slice a.Af m.frames.length a.cf),(50,.int .i64 (m.frames.length:Int)),(51,.int .i64 (g.1:Int))]) (fun g=> [ak g2 [.slice g.2.1 (b6++(m.frames.take g.1).flatMap dV).length g.2.2] 134,ap (.slice g.2.1 (b6++(m.frames.take g.1).flatMap dV).length g.2.2) (b6++(m.frames.take g.1).flatMap dV)]) (0,A6,c6) (Nat.zero_le _) ⟨rfl,rfl,rfl,rfl,trivial⟩ (fun w h=>by have h:=h.msub (T:= [ak g2 _ _,ap _ b6]) ms;simpa using h) ?_)
 rintro⟨k,Ak,ck⟩ hk'
 try dsimp only
 have hk:k≤m.frames.length:=hk'
 have hlk:(b6++(m.frames.take k).flatMap dV).length≤2046+1021*m.blocks.length+2554*k:=by
  rw[List.length_append]
  have h1:=pG (m.frames.take k) (m:=2554) (f:=dV) (fun x hx=>mf (hf2 x (List.mem_of_mem_take hx)))
  rw[List.length_take,Nat.min_eq_left hk] at h1
  omega
 refine ac<|aa<|rn 1 [3,49,50,51,52] rfl<|ae<|ac<|aw rfl (fun hlt2=>?_) (fun hlt2=>?_)
 ·have hkl:k<m.frames.length:=by omega
  obtain⟨Al,cl,As,cs,hl,hst,hi64,hcell⟩:=hm.f.fr hkl
  have hfr:=hf2 _ (eU hkl)
  have hfl:=hfr.l.1
  have hfs:=hfr.s.1
  have hfb:=iz (f:=dV) hkl default b6
  obtain⟨X,hX⟩:∃X,bh m.frames k=X:=⟨_,rfl⟩
  rw[show m.frames.getD k default=X from hX] at hfb
  rw[hX] at hfl hfs hfr hi64 hl hst hcell
  obtain⟨b7,e8⟩:∃b,b6++(m.frames.take k).flatMap dV=b:=⟨_,rfl⟩
  rw[e8] at hlk hfb
  rw[e8]
  refine ar (am ?_)
  refine ac<|aB<|ac<|aa<|af (aQ aP bn (.ro hm.f) (by omega) rfl rfl rfl) rfl rfl<|af (cY (hcell _) rfl rfl gK bn) rfl rfl<|ag (aS cP rfl rfl) rfl rfl (fun g6 _=>?_)
  refine ag (aJ _ fc bn rfl rfl rfl rfl rfl (by rfl) rfl (by rfl)) rfl rfl (fun _ _=>?_)
  refine ae<|ac<|aa<|rn 2 [3,7,49,50,51,55,56] rfl<|af (aj fc au rfl rfl (by rfl)) rfl rfl ?_
  refine rn 1 [3,7,49,50,51,55,57,58] rfl<|af (aj fc au rfl rfl (by rfl)) rfl rfl ?_
  refine ag (bu (cs:= [_,_]) ah aF a6 rfl rfl rfl rfl rfl) rfl rfl (fun g7 _=>?_)
  refine fl (fun w h=>cE (α:=Int) (m:=2) [X.func,X.pc] rfl (kl hi64.1 hi64.2) rfl (by decide) h) ?_
  refine ag (bg rfl rfl rfl qw (fun w hw=>j9 g2 [X.func,X.pc] _ _ (.own rfl .a) b7 Ak ck (by show _+2≤_;omega) w (hw.msub (.s fc (.s fc .r))))) rfl rfl (fun⟨A7,c7⟩ _=>?_)
  try dsimp only
  refine ae<|ac<|aa<|rn 2 [3,7,49,50,51,62,63] rfl<|af (aj fc cz rfl rfl (by rfl)) rfl rfl ?_
  obtain⟨b8,e9⟩:∃b,b7++ [X.func,X.pc].map a9=b:=⟨_,rfl⟩
  have l8:b8.length=b7.length+2:=by rw[←e9,List.length_append];rfl
  rw[e9]
  refine ag (bg rfl rfl rfl Tryz.call101 (fun w hw=>tG g2 X.locals _ _ hl b8 A7 c7 (by omega) w (hw.msub (.s fc (.s fc .r))))) rfl rfl (fun⟨A8,c8⟩ _=>?_)
  try dsimp only
  refine ae<|aa<|rn 2 [3,49,50,51,66,67] rfl<|af (aj fc cz rfl rfl (by rfl)) rfl rfl ?_
  obtain⟨b9,e10⟩:∃b,b8++fj X.locals=b:=⟨_,rfl⟩
  have l9:b9.length≤b7.length+1278:=by
   have h1:=nG X.locals X.locals.length
   rw[List.take_length] at h1
   rw[←e10,List.length_append]
   simp only[fj,List.length_cons]
   omega
  rw[e10]
  refine ag (bg rfl rfl rfl Tryz.call101 (fun w hw=>tG g2 X.stack _ _ hst b9 A8 c8 (by omega) w (hw.msub (.s fc (.s fc .r))))) rfl rfl (fun⟨A9,c9⟩ _=>?_)
  try dsimp only
  refine bC (aH (am ?_))
  refine aa<|af (br rfl rfl rfl (by omega)) rfl rfl<|rn 1 [3,49,50,51] rfl ?_
  rw[show b9++fj X.stack=b6++(m.frames.take (k+1)).flatMap dV from by rw[hfb,←e10,←e9];simp[dV]]
  refine a5 (k+1,A9,c9) (by show k+1≤_;omega) (by show _ - _<_ - _;omega) ⟨rfl,rfl,rfl,rfl,trivial⟩ me
 obtain rfl:k=m.frames.length:=by omega
 have hall:b6++(m.frames.take m.frames.length).flatMap dV=eR m:=by
  rw[List.take_length,←e7,←e6,←e4,←e3,←e2,←e1]
  simp[eR]
 rw[hall]
 refine bz (aD (aD (bO (am ?_))))
 refine ac<|aa<|rn 3 [73] rfl<|af (aj fc Cd rfl rfl (by rfl)) rfl rfl ?_
 refine af (AK je fu lQ (SF.own rfl fc) rfl rfl) rfl rfl ?_
 refine rn 1 [2] rfl<|ae<|aq<|av Tryz.results54 (an rfl) ?_
 intro w hw
 exact⟨rfl,hw.below⟩
def iK (fs:List aA) (m:aG):List UInt8:=if cQ fs m=0 then eR m else []
set_option maxRecDepth 100000 in
set_option maxHeartbeats 1000000 in
theorem jt (Ap:Option Addr) (cp:Nat) (fs:List aA) (a:MA) (m:aG) (r:List UInt8) (hr:iK fs m=r) (w:World) (hs:Sl w (.slice Ap fs.length cp) fs) (hm:dQ w.heap.size w a m) (hfit:gz m.frames) :
  Calls Tryz.prog 13 #[.agg #[.slice Ap fs.length cp],.agg #[.slice a.Af m.frames.length a.cf,.slice a.Ab m.blocks.length a.cb,.slice a.Ai m.inn.length a.ci,.slice a.Ao m.out.length a.co,.int .i64 m.status,.int .i64 m.trap]] w fun e w'=>e= .returned (.tuple #[.string ⟨r.toArray⟩,.int .i64 (cQ fs m)])∧Below w.heap.size w w':=by
 unfold iK at hr
 refine enter Tryz.func13 rfl Tryz.ntmps13 rfl ?_
 refine ac<|aa<|ag (bH rfl rfl rfl) rfl rfl (fun g1 _=>?_)
 refine ag (bH rfl rfl rfl) rfl rfl (fun g2 _=>?_)
 refine rn 2 [2,3] rfl<|ae<|ac<|ac<|aa<|af (aN (vs:= [_]) fc bQ bB rfl rfl (by rfl) rfl) rfl rfl ?_
 refine af (aN (vs:= [_,_,_,_,_,_]) fc aT ay rfl rfl (by rfl) rfl) rfl rfl ?_
 refine ag (aY rfl rfl rfl uo (fun w hw=>jI Ap cp fs a m w (hw.ro hs) (dQ.ro hw hm) hfit)) rfl rfl (fun _ _=>?_)
 refine rn 1 [3,6] rfl<|ae<|ac<|aa<|rn 2 [3,6,11] rfl<|ae<|bY rfl (fun h=>?_) (fun h=>?_)
 ·rw[if_neg h] at hr
  subst hr
  refine ac<|aa<|rn 3 [4,5] rfl<|ae<|aq (ai ?_)
  refine bt Tryz.results13 (an rfl) (an rfl) ?_
  intro w hw
  exact⟨rfl,hw.below⟩
 have h:cQ fs m=0:=by simpa using h
 rw[if_pos h] at hr
 subst hr
 obtain⟨hF,hR⟩:=kz h
 refine ar (am ?_)
 refine ac<|aa<|af (aN (vs:= [_,_,_,_,_,_]) fc aT ay rfl rfl (by rfl) rfl) rfl rfl ?_
 refine ag (aY rfl rfl rfl Tryz.call54 (fun w hw=>y9 a m w (dQ.ro hw hm) (q5 hF hR))) rfl rfl (fun _ _=>?_)
 refine rn 2 [4,5] rfl<|ae<|aq<|bt Tryz.results13 (an rfl) (an rfl) ?_
 intro w hw
 rw[h]
 exact⟨rfl,hw.below⟩
def eL (fs:List aA) (s:List UInt8):Int:=if dw fs≠0 then dw fs else match fq s with
 | none=>1
 | some m=>ja fs m
def ig (fs:List aA) (s:List UInt8):aG:=if eL fs s=0 then (ic s).1 else default
theorem qT {s:List UInt8} {m:aG} (h:fq s=some m):be m.status∧be m.trap:=by
 unfold fq at h
 split at h
 ·cases h
 rename_i x r e
 split at h
 ·obtain rfl:=Option.some.inj h
  unfold gF at e
  split at e
  ·cases e
  rename_i st s1 e1
  split at e
  ·cases e
  rename_i tr s2 e2
  split at e
  ·cases e
  split at e
  ·cases e
  split at e
  ·cases e
  split at e
  ·cases e
  injection e with e
  injection e with e _
  subst e
  have h1:=(gX e1).2
  have h2:=(gX e2).2
  exact⟨⟨by show _≤st;omega,by show st≤_;omega⟩,⟨by show _≤tr;omega,by show tr≤_;omega⟩⟩
 cases h
theorem qS {s:List UInt8} {m:aG} (h:fq s=some m):gz m.frames:=by
 unfold fq at h
 split at h
 ·cases h
 rename_i x r e
 split at h
 ·obtain rfl:=Option.some.inj h
  unfold gF at e
  split at e
  ·cases e
  split at e
  ·cases e
  split at e
  ·cases e
  split at e
  ·cases e
  split at e
  ·cases e
  split at e
  ·cases e
  rename_i fr s6 e6
  injection e with e
  injection e with e _
  subst e
  have hl:=pi e6
  refine⟨by show fr.length*64≤_;omega,fun x hx=>?_⟩
  have hx:x∈fr:=hx
  have key:∀(k:Nat) (s r:List UInt8) (l:List aO),ey dW k s=some (l,r)→∀x∈l,x.locals.length≤255∧x.stack.length≤255:=by
   intro k
   induction k with
   | zero=>
    intro s r l e x hx
    obtain⟨rfl,_⟩: []=l∧s=r:=by simpa [ey] using e
    cases hx
   | succ k ih=>
    intro s r l e x hx
    unfold ey at e
    split at e
    ·cases e
    rename_i y t e1
    split at e
    ·cases e
    rename_i l2 u e2
    obtain⟨rfl,_⟩:y::l2=l∧u=r:=by simpa using e
    rcases List.mem_cons.1 hx with rfl | hx
    ·unfold dW at e1
     split at e1
     ·cases e1
     split at e1
     ·cases e1
     split at e1
     ·cases e1
     rename_i q3 s3 e3
     split at e1
     ·cases e1
     rename_i q4 s4 e4
     injection e1 with e1
     injection e1 with e1 _
     subst e1
     exact⟨pi e3,pi e4⟩
    exact ih _ _ _ e2 x hx
  unfold dR at e6
  split at e6
  ·cases e6
  have:=key _ _ _ _ e6 x hx
  omega
 cases h
set_option maxRecDepth 100000 in
set_option maxHeartbeats 2000000 in
theorem lH (Ap:Option Addr) (cp:Nat) (fs:List aA) (s:List UInt8) (m:aG) (hr:ig fs s=m) (hl:s.length≤140737488355320) (w:World) (hs:Sl w (.slice Ap fs.length cp) fs) :
  Calls Tryz.prog 14 #[.agg #[.slice Ap fs.length cp],.string ⟨s.toArray⟩] w fun e w'=> ∃g:MA,True∧
   e= .returned (.tuple #[.agg #[.slice g.Af m.frames.length g.cf,.slice g.Ab m.blocks.length g.cb,.slice g.Ai m.inn.length g.ci,.slice g.Ao m.out.length g.co,.int .i64 m.status,.int .i64 m.trap],.int .i64 (eL fs s)])∧Cw w.heap.size w [ap (.slice g.Af m.frames.length g.cf) m.frames,ap (.slice g.Ab m.blocks.length g.cb) m.blocks,ap (.slice g.Ai m.inn.length g.ci) m.inn,ap (.slice g.Ao m.out.length g.co) m.out] w':=by
 unfold ig at hr
 refine enter Tryz.func14 rfl Tryz.ntmps14 rfl ?_
 refine ac<|aa<|ag (bH rfl rfl rfl) rfl rfl (fun g1 _=>?_)
 refine ag (aS aR rfl rfl) rfl rfl (fun g2 _=>?_)
 refine rn 1 [1,2,4] rfl<|ae<|ac<|ac<|aa<|af (aN (vs:= [_]) fc bQ bB rfl rfl (by rfl) rfl) rfl rfl ?_
 refine ag (aY rfl rfl rfl IS (fun w hw=>pe Ap cp fs w (hw.ro hs))) rfl rfl (fun _ _=>?_)
 refine rn 1 [1,2,4,6] rfl<|ae<|ac<|aa<|rn 2 [1,2,4,6,13] rfl<|ae<|bY rfl (fun h=>?_) (fun h=>?_)
 ·have hE:eL fs s=dw fs:=by unfold eL;rw[if_pos h]
  rw[hE,if_neg h] at hr
  subst hr
  rw[hE]
  refine ac<|aa<|af (bN (cs:= [_,_,_,_,_,_]) ij aR rfl rfl (by rfl)) rfl rfl ?_
  refine rn 1 [4,14,15] rfl<|ag (aJ _ fc ay rfl rfl rfl rfl rfl (by rfl) rfl (by rfl)) rfl rfl (fun _ _=>?_)
  refine rn 1 [4,5] rfl<|ae<|aq (ai ?_)
  refine bt zK (dH (cs:= [_,_,_,_,_,_]) fc aT ay rfl) (an rfl) ?_
  intro w hw
  exact⟨⟨none,0,none,0,none,0,none,0⟩,trivial,rfl,(gJ hw).msub ms⟩
 have h:dw fs=0:=by simpa using h
 have hF:=nn h
 obtain⟨q,hq⟩:∃q,ic s=q:=⟨_,rfl⟩
 refine ar (am ?_)
 refine ac<|aa<|rn 1 [2,4,17] rfl<|ag (cO rfl rfl rfl Tryz.call56 (fun w hw=>Cl s q hq hl w)) rfl rfl (fun g0 _=>?_)
 refine rn 3 [2,4,19,20] rfl<|ag (aS aR rfl rfl) rfl rfl (fun g3 _=>?_)
 refine ag (aJ _ fc ay rfl rfl rfl rfl rfl (by rfl) rfl (by rfl)) rfl rfl (fun _ _=>?_)
 refine rn 1 [2,4,7,8] rfl<|ae<|ac<|ac<|aa<|rn 2 [2,4,7,22] rfl<|ae ?_
 obtain⟨q,b⟩:=q
 cases ht:fq s with
 | none=>
  have hE:eL fs s=1:=by unfold eL;rw[if_neg (fun e=>e h),ht]
  rw[hE,if_neg (by decide)] at hr
  subst hr
  have hb:b=false:=by
   unfold ic at hq
   rw[ht] at hq
   exact(Prod.mk.inj hq).2.symm
  subst hb
  rw[hE]
  refine cN (t:=22) (v':= .bool true) rfl (rfl) ?_
  refine bA rfl<|ac<|aa<|af (bN (cs:= [_,_,_,_,_,_]) ij aR rfl rfl (by rfl)) rfl rfl ?_
  refine ag (aJ _ fc ay rfl rfl rfl rfl rfl (by rfl) rfl (by rfl)) rfl rfl (fun _ _=>?_)
  refine rn 1 [4,5] rfl<|ae<|aq (ai ?_)
  refine bt zK (dH (cs:= [_,_,_,_,_,_]) fc aT ay rfl) (an rfl) ?_
  intro w hw
  exact⟨⟨none,0,none,0,none,0,none,0⟩,trivial,rfl,(gJ hw).msub ms⟩
 | some m0=>
  have hE:eL fs s=ja fs m0:=by unfold eL;rw[if_neg (fun e=>e h),ht]
  have hq2:m0=q∧true=b:=by
   unfold ic at hq
   rw[ht] at hq
   exact Prod.mk.inj hq
  obtain⟨rfl,rfl⟩:=hq2
  rw[hq] at hr
  have hfit:=qS ht
  refine cN (t:=22) (v':= .bool false) rfl (rfl) ?_
  refine bZ rfl<|ar (am ?_)
  refine ac<|ac<|aa<|af (aN (vs:= [_]) fc bQ bB rfl rfl (by rfl) rfl) rfl rfl ?_
  refine af (aN (vs:= [_,_,_,_,_,_]) fc aT ay rfl rfl (by rfl) rfl) rfl rfl ?_
  refine ag (aY rfl rfl rfl Tryz.call57 (fun w hw=>rZ Ap cp fs g0 m0 w (hw.ro hs) (dz hw fc fc fc fc rfl rfl rfl rfl (qT ht).1 (qT ht).2) hF hfit)) rfl rfl (fun _ _=>?_)
  refine rn 1 [4,7,9] rfl<|ae<|ac<|aa<|rn 2 [4,7,9,28] rfl<|ae ?_
  rw[hE]
  refine bY rfl (fun h2=>?_) (fun h2=>?_)
  ·rw[hE,if_neg h2] at hr
   subst hr
   refine ac<|aa<|af (bN (cs:= [_,_,_,_,_,_]) ij aR rfl rfl (by rfl)) rfl rfl ?_
   refine rn 1 [4,29,30] rfl<|ag (aJ _ fc ay rfl rfl rfl rfl rfl (by rfl) rfl (by rfl)) rfl rfl (fun _ _=>?_)
   refine rn 1 [4,5] rfl<|ae<|aq (ai ?_)
   refine bt zK (dH (cs:= [_,_,_,_,_,_]) fc aT ay rfl) (an rfl) ?_
   intro w hw
   exact⟨⟨none,0,none,0,none,0,none,0⟩,trivial,rfl,(gJ hw).msub ms⟩
  have h2:ja fs m0=0:=by simpa using h2
  rw[hE,if_pos h2] at hr
  subst hr
  rw[h2]
  refine ar (am ?_)
  refine ac<|aa<|af (aN (vs:= [_,_,_,_,_,_]) fc aT ay rfl rfl (by rfl) rfl) rfl rfl ?_
  refine ag (aJ _ fc ay rfl rfl rfl rfl rfl (by rfl) rfl (by rfl)) rfl rfl (fun _ _=>?_)
  refine rn 1 [4,5] rfl<|ae<|aq<|bt zK (dH (cs:= [_,_,_,_,_,_]) fc aT ay rfl) (an rfl) ?_
  intro w hw
  exact⟨g0,trivial,rfl,hw.msub ms⟩
end
section
def db (l:List aX):List Int:=(l.filter fun v=>v.ref && decide (0<v.n)).map fun v=>v.n
def mZ (m:aG):List Int:=m.frames.flatMap fun x=>db x.locals++db x.stack
theorem Dd (a b:List aX):db (a++b)=db a++db b:=by unfold db;rw[List.filter_append,List.map_append]
theorem Dc (v:aX):db [v]=if v.ref=true∧0<v.n then [v.n] else []:=by
 unfold db
 by_cases h:v.ref=true∧0<v.n
 ·rw[if_pos h,List.filter_cons_of_pos (by simp[h.1,h.2])];rfl
 rw[if_neg h,List.filter_cons_of_neg (by simpa using h)];rfl
theorem tZ {l:List aX} {k:Nat} (hk:k<l.length):db (l.take (k+1))=db (l.take k)++db [l.getD k default]:=by rw[fx l k default hk,Dd]
theorem ls (l:List aX):(db l).length≤l.length:=by
 unfold db
 rw[List.length_map]
 exact List.length_filter_le _ _
section
variable {B:Nat} {w0:World} {H:List a7}
theorem xI {A:Option Addr} {m c k:Nat} {xs:List aX} (h:bW w0 B (.slice A m c) xs) (hk:k<m):be (xs.getD k default).n:=by
 obtain⟨cs,⟨_,hi⟩,_⟩:=h.elr hk default
 exact hi
set_option maxRecDepth 100000 in
theorem wg (go b o:Nat) (v:aX) (hi:be v.n) (hv:∀(H:List a7) (w:World),Cw B w0 H w→∀j u,([.bool v.ref,.int .i64 v.n]:List Value)[j]? =some u→w.cell? ⟨b,o+j,none⟩=some u) (acc:List Int) (A:Option Addr) (c:Nat) (hb:acc.length≤1000000) (w:World)
  (hw:Cw B w0 (ak go [.slice A acc.length c] 27::ap (.slice A acc.length c) acc::H) w) :
  Calls Tryz.prog 123 #[.pointer (some ⟨b,o,none⟩),.pointer (some ⟨go,0,none⟩)] w fun e w'=> ∃g:Option Addr×Nat,True∧e= .returned (.tuple #[])∧Cw B w0 (ak go [.slice g.1 (acc++db [v]).length g.2] 27::ap (.slice g.1 (acc++db [v]).length g.2) (acc++db [v])::H) w':=by
 obtain⟨r,n⟩:=v
 have hg:=Dc ⟨r,n⟩
 refine bS Tryz.func123 rfl Tryz.ntmps123 rfl hw ?_
 refine ac<|aa<|rn 3 [0,1,5] rfl<|af (a8 (fun w hw=>hv _ w hw 0 _ rfl) rfl rfl dx) rfl rfl ?_
 refine rn 1 [0,1,7] rfl ?_
 cases r
 ·rw[if_neg (by simp)] at hg
  rw[hg,List.append_nil]
  refine bV (t:=7) (v':= .bool false) rfl (rfl) ?_
  refine rn 6 [0,1,13] rfl<|ae<|bZ rfl<|ar<|cq GQ ?_
  intro w hw
  exact⟨(A,c),trivial,rfl,hw.msub ms⟩
 refine bV (t:=7) (v':= .bool true) rfl (rfl) ?_
 refine rn 3 [0,1,7,10] rfl<|af (a8 (fun w hw=>hv _ w hw 1 _ rfl) rfl rfl au) rfl rfl ?_
 refine rn 2 [0,1,13] rfl<|ae<|aw rfl (fun hn=>?_) (fun hn=>?_)
 ·have hn:0<n:=hn
  rw[if_pos ⟨rfl,hn⟩] at hg
  rw[hg]
  refine fL (.still 0 (.still 1 (.still 2 (.still 3 (.still 4 (.pick 5 (.pick 6 (.pick 7 .done .stop) .stop) .stop)))))) [7] rfl (by kernel_rfl) (by kernel_rfl) [ak go [.slice A acc.length c] 27] ?_
  refine ax rfl (aj fc aW rfl rfl (by rfl)) rfl rfl ha ?_
  refine aU ha 3 [1,14,17] rfl<|ax rfl (a8 (fun w hw=>hv _ w hw 1 _ rfl) rfl rfl au) rfl rfl ha ?_
  refine aK rfl (bu (cs:= [_]) ah aF a6 rfl rfl rfl rfl rfl) rfl rfl (.inr fun _=>ha) (fun g1 _=>?_) aE
  refine aK rfl (dJ (α:=Int) (bytes:=8) n [] rfl ah (cU eE) rfl (fV fc fc) (tC hi) (by omega) (by omega) rfl rfl rfl) rfl rfl (.inr fun _=>ha) (fun⟨A3,c3⟩ _=>?_) aE
  try dsimp only
  refine aK rfl (aJ _ fc cC rfl rfl rfl rfl rfl (by rfl) rfl (by rfl)) rfl rfl (.inl rfl) (fun _ _=>?_) aE
  refine df<|cq GQ ?_
  intro w hw
  exact⟨(A3,c3),trivial,rfl,hw.msub ms⟩
 have hn:¬0<n:=hn
 rw[if_neg (fun h=>hn h.2)] at hg
 rw[hg,List.append_nil]
 refine ar<|cq GQ ?_
 intro w hw
 exact⟨(A,c),trivial,rfl,hw.msub ms⟩
theorem tJ {m:aG} {i:Nat} (hi:i<m.frames.length):((m.frames.take (i+1)).flatMap fun x=>db x.locals++db x.stack)=((m.frames.take i).flatMap fun x=>db x.locals++db x.stack)++(db (bh m.frames i).locals++db (bh m.frames i).stack):=by
 rw[xK hi,List.flatMap_append]
 simp
theorem zf {m:aG} (_:m.frames.length≤6) (hf:∀x∈m.frames,x.locals.length≤1000∧x.stack.length≤8) (i:Nat):((m.frames.take i).flatMap fun x=>db x.locals++db x.stack).length≤1008*i:=by
 induction i with
 | zero=>simp
 | succ i ih=>
  by_cases h:i<m.frames.length
  ·rw[tJ h,List.length_append,List.length_append]
   have h1:=hf _ (eU h)
   have h2:=ls (bh m.frames i).locals
   have h3:=ls (bh m.frames i).stack
   omega
  rw[List.take_of_length_le (by omega)]
  rw[List.take_of_length_le (by omega)] at ih
  omega
set_option maxRecDepth 100000 in
set_option maxHeartbeats 4000000 in
theorem BF (g go:Nat) (a:MA) (m:aG) (hm:dQ B w0 a m) (hn6:m.frames.length≤6) (hfs:∀x∈m.frames,x.locals.length≤1000∧x.stack.length≤8) (A:Option Addr) (c:Nat) (w:World)
  (hw:Cw B w0 (ak g [.slice a.Af m.frames.length a.cf,.slice a.Ab m.blocks.length a.cb,.slice a.Ai m.inn.length a.ci,.slice a.Ao m.out.length a.co,.int .i64 m.status,.int .i64 m.trap] 29::ak go [.slice A 0 c] 27::ap (.slice A 0 c) ([]:List Int)::H) w) :
  Calls Tryz.prog 122 #[.pointer (some ⟨g,0,none⟩),.func (.func 123) #[] #[.pointer (some ⟨go,0,none⟩)]] w fun e w'=> ∃q:Option Addr×Nat,True∧e= .returned (.tuple #[])∧Cw B w0 (ak g [.slice a.Af m.frames.length a.cf,.slice a.Ab m.blocks.length a.cb,.slice a.Ai m.inn.length a.ci,.slice a.Ao m.out.length a.co,.int .i64 m.status,.int .i64 m.trap] 29::ak go [.slice q.1 (mZ m).length q.2] 27::ap (.slice q.1 (mZ m).length q.2) (mZ m)::H) w':=by
 have bf:=cn hm.f
 refine bS Tryz.func122 rfl Tryz.ntmps122 rfl hw ?_
 refine ac<|aa<|rn 3 [0,1,10] rfl<|af (aj fc bP rfl rfl (by rfl)) rfl rfl ?_
 refine af (aM aP rfl rfl) rfl rfl<|rn 1 [0,1,12,13] rfl<|ae<|aB (bI (fun g2:Nat×(Option Addr×Nat)=>g2.1≤m.frames.length) (fun g2=>m.frames.length - g2.1) (fun g2=> [(0,.pointer (some ⟨g,0,none⟩)),(1,.func (.func 123) #[] #[.pointer (some ⟨go,0,none⟩)]),(12,.int .i64 (m.frames.length:Int)),(13,.int .i64 (g2.1:Int))]) (fun g2=>ak g [.slice a.Af m.frames.length a.cf,.slice a.Ab m.blocks.length a.cb,.slice a.Ai m.inn.length a.ci,.slice a.Ao m.out.length a.co,.int .i64 m.status,.int .i64 m.trap] 29::ak go [.slice g2.2.1 ((m.frames.take g2.1).flatMap fun x=>db x.locals++db x.stack).length g2.2.2] 27::ap (.slice g2.2.1 ((m.frames.take g2.1).flatMap fun x=>db x.locals++db x.stack).length g2.2.2) ((m.frames.take g2.1).flatMap fun x=>db x.locals++db x.stack)::H) (0,(A,c)) (Nat.zero_le _) ⟨rfl,rfl,rfl,rfl,trivial⟩ (fun w h=>h.msub ms) ?_)
 rintro⟨i,⟨A1,c1⟩⟩ hi'
 try dsimp only
 have hi:i≤m.frames.length:=hi'
 have hsm:=zf hn6 hfs i
 refine ac<|aa<|rn 1 [0,1,12,13,14] rfl<|ae<|ac<|aw rfl (fun hlt=>?_) (fun hlt=>?_)
 ·have hil:i<m.frames.length:=by omega
  obtain⟨F1,d1,F2,d2,hl,hst,hI,hcell⟩:=hm.f.fr hil
  have hxs:=hfs _ (eU hil)
  have hsn:=tJ hil
  generalize hacc:((m.frames.take i).flatMap fun x=>db x.locals++db x.stack)=acc at hsm hsn
  generalize hx:bh m.frames i=x at hl hst hI hcell hxs hsn
  have hg1:=ls x.locals
  have hg2:=ls x.stack
  refine ar (am ?_)
  refine ac<|aB<|ac<|aa<|rn 2 [0,1,4,12,13] rfl<|ae<|ac<|cD (.still 0 (.still 1 (.still 2 (.still 3 (.still 4 (.still 5 (.still 6 (.still 7 (.still 8 (.still 9 (.still 10 (.still 11 (.still 12 (.still 13 (.still 14 (.still 15 (.still 18 (.pick 16 (.still 17 .done) .stop)))))))))))))))))) [] rfl (by kernel_rfl) (by kernel_rfl) ?_
  refine aU ha 3 [0,1,4,12,13,18] rfl<|ax rfl (aj fc bP rfl rfl (by rfl)) rfl rfl ha ?_
  refine aU ha 1 [0,1,4,12,13,19,20] rfl<|ax rfl (aQ (k:=i) aP bn (.ro hm.f) (by omega) rfl rfl rfl) rfl rfl ha ?_
  refine aU ha 1 [0,1,4,12,13,22] rfl<|ax rfl (a8 (fun w hw=>hcell _ w hw 2 _ rfl) rfl rfl cz) rfl rfl ha ?_
  refine aU ha 3 [0,1,4,12,13,23,26] rfl<|ax rfl (aj fc bP rfl rfl (by rfl)) rfl rfl ha ?_
  refine aU ha 1 [0,1,12,13,23,27,28] rfl<|ax rfl (aQ (k:=i) aP bn (.ro hm.f) (by omega) rfl rfl rfl) rfl rfl ha ?_
  refine aU ha 1 [0,1,12,13,23,30] rfl<|ax rfl (a8 (fun w hw=>hcell _ w hw 3 _ rfl) rfl rfl cz) rfl rfl ha ?_
  refine aU ha 1 [0,1,12,13,23,31,34] rfl<|aK rfl (bu (cs:= [_,_]) ei fd uJ rfl rfl rfl rfl rfl) rfl rfl (.inr fun _=>ha) (fun g1 _=>?_) aE
  refine ax rfl (aM ei rfl rfl) rfl rfl ha ?_
  refine cT<|aB (bI (fun q:Nat×(Option Addr×Nat)=>q.1≤2) (fun q=>2 - q.1) (fun q=> [(0,.pointer (some ⟨g,0,none⟩)),(1,.func (.func 123) #[] #[.pointer (some ⟨go,0,none⟩)]),(12,.int .i64 (m.frames.length:Int)),(13,.int .i64 (i:Int)),(32,.slice (some ⟨g1,0,none⟩) 2 2),(33,.int .i64 2),(34,.int .i64 (q.1:Int))]) (fun q=>ak go [.slice q.2.1 (acc++(if q.1=0 then [] else if q.1=1 then db x.locals else db x.locals++db x.stack)).length q.2.2] 27::ap (.slice q.2.1 (acc++(if q.1=0 then [] else if q.1=1 then db x.locals else db x.locals++db x.stack)).length q.2.2) (acc++(if q.1=0 then [] else if q.1=1 then db x.locals else db x.locals++db x.stack))::ak g1 [.slice F1 x.locals.length d1,.slice F2 x.stack.length d2] 95::ak g [.slice a.Af m.frames.length a.cf,.slice a.Ab m.blocks.length a.cb,.slice a.Ai m.inn.length a.ci,.slice a.Ao m.out.length a.co,.int .i64 m.status,.int .i64 m.trap] 29::H) (0,(A1,c1)) (Nat.zero_le _) ⟨rfl,rfl,rfl,rfl,rfl,rfl,rfl,trivial⟩ (fun w h=>(show Cw _ _ (ak go [.slice A1 (acc++ []).length c1] 27::ap (.slice A1 (acc++ []).length c1) (acc++ [])::ak g1 [.slice F1 x.locals.length d1,.slice F2 x.stack.length d2] 95::ak g [.slice a.Af m.frames.length a.cf,.slice a.Ab m.blocks.length a.cb,.slice a.Ai m.inn.length a.ci,.slice a.Ao m.out.length a.co,.int .i64 m.status,.int .i64 m.trap] 29::H) w from by rw[List.append_nil];exact h.msub ms)) ?_)
  rintro⟨j,⟨A2,c2⟩⟩ hj'
  try dsimp only
  have hj:j≤2:=hj'
  refine ac<|aa<|rn 1 [0,1,12,13,32,33,34,35] rfl<|ae<|ac<|aw rfl (fun hlt2=>?_) (fun hlt2=>?_)
  ·rcases(show j=0∨j=1 by omega) with rfl | rfl
   ·try dsimp only
    rw[if_pos rfl,List.append_nil]
    refine ar (am ?_)
    refine ac<|aB<|ac<|aa<|af (iq (k:=0) ei fd rfl (by decide) rfl rfl rfl) rfl rfl ?_
    refine af (a8 (fun w hw=>eV (v:= .slice F1 x.locals.length d1) fc rfl w hw) rfl rfl cz) rfl rfl ?_
    refine rn 1 [0,1,6,12,13,32,33,34] rfl<|ae<|ac<|aa<|rn 1 [0,1,6,12,13,32,33,34,38] rfl<|af (aM aI rfl rfl) rfl rfl<|rn 1 [0,1,6,12,13,32,33,34,39,40] rfl<|ae<|aB (bI (fun q:Nat×(Option Addr×Nat)=>q.1≤x.locals.length) (fun q=>x.locals.length - q.1) (fun q=> [(0,.pointer (some ⟨g,0,none⟩)),(1,.func (.func 123) #[] #[.pointer (some ⟨go,0,none⟩)]),(6,.slice F1 x.locals.length d1),(12,.int .i64 (m.frames.length:Int)),(13,.int .i64 (i:Int)),(32,.slice (some ⟨g1,0,none⟩) 2 2),(33,.int .i64 2),(34,.int .i64 0),(39,.int .i64 (x.locals.length:Int)),(40,.int .i64 (q.1:Int))]) (fun q=>ak go [.slice q.2.1 (acc++db (x.locals.take q.1)).length q.2.2] 27::ap (.slice q.2.1 (acc++db (x.locals.take q.1)).length q.2.2) (acc++db (x.locals.take q.1))::ak g1 [.slice F1 x.locals.length d1,.slice F2 x.stack.length d2] 95::ak g [.slice a.Af m.frames.length a.cf,.slice a.Ab m.blocks.length a.cb,.slice a.Ai m.inn.length a.ci,.slice a.Ao m.out.length a.co,.int .i64 m.status,.int .i64 m.trap] 29::H) (0,(A2,c2)) (Nat.zero_le _) ⟨rfl,rfl,rfl,rfl,rfl,rfl,rfl,rfl,rfl,rfl,trivial⟩ (fun w h=>(show Cw _ _ (ak go [.slice A2 (acc++db (x.locals.take 0)).length c2] 27::ap (.slice A2 (acc++db (x.locals.take 0)).length c2) (acc++db (x.locals.take 0))::ak g1 [.slice F1 x.locals.length d1,.slice F2 x.stack.length d2] 95::ak g [.slice a.Af m.frames.length a.cf,.slice a.Ab m.blocks.length a.cb,.slice a.Ai m.inn.length a.ci,.slice a.Ao m.out.length a.co,.int .i64 m.status,.int .i64 m.trap] 29::H) w from by rw[List.take_zero,show db []= [] from rfl,List.append_nil];exact h.msub ms)) ?_)
    rintro⟨k,⟨A3,c3⟩⟩ hk'
    try dsimp only
    have hk:k≤x.locals.length:=hk'
    refine ac<|aa<|rn 1 [0,1,6,12,13,32,33,34,39,40,41] rfl<|ae<|ac<|aw rfl (fun hlt3=>?_) (fun hlt3=>?_)
    ·have hkl:k<x.locals.length:=by omega
     have hgk:=ls (x.locals.take k)
     rw[List.length_take] at hgk
     have hsk:=tZ hkl
     refine ar (am ?_)
     refine ac<|aB<|ac<|aa<|rn 2 [0,1,6,7,12,13,32,33,34,39,40] rfl<|ae<|aa<|rn 3 [0,1,6,12,13,32,33,34,39,40,43,44,45] rfl<|af (aQ (k:=k) aI aV (.ro hl) (by omega) rfl rfl rfl) rfl rfl<|ag (dL rfl rfl rfl Tryz.call123 (fun w hw=>wg go (ab F1) (ao F1+k*2) (x.locals.getD k default) (xI hl hkl) (fun H w hw j u hu=>SF.val (SF.ro hl) hkl default w hw j u hu) (acc++db (x.locals.take k)) A3 c3 (by simp only[List.length_append];omega) w (hw.msub (.s fc (.s fc .r))))) rfl rfl (fun⟨A4,c4⟩ _=>?_)
     try dsimp only
     refine bC (aH (am ?_))
     refine aa<|af (br rfl rfl rfl (by omega)) rfl rfl<|rn 1 [0,1,6,12,13,32,33,34,39,40] rfl ?_
     rw[List.append_assoc,←hsk]
     refine a5 (k+1,(A4,c4)) (by show k+1≤_;omega) (by show _ - _<_ - _;omega) ⟨rfl,rfl,rfl,rfl,rfl,rfl,rfl,rfl,rfl,rfl,trivial⟩ (fun w h=>h.msub ms)
    obtain rfl:k=x.locals.length:=by omega
    rw[List.take_length]
    refine bz (aD (aD (bO (aH (am ?_)))))
    refine aa<|af (br rfl rfl rfl (by omega)) rfl rfl<|rn 1 [0,1,12,13,32,33,34] rfl<|a5 (1,(A3,c3)) ((by decide:1≤2)) (by show 2 - 1<2 - 0;decide) ⟨rfl,rfl,rfl,rfl,rfl,rfl,rfl,trivial⟩ (fun w h=>h.msub ms)
   try dsimp only
   rw[if_neg (by decide),if_pos rfl]
   refine ar (am ?_)
   refine ac<|aB<|ac<|aa<|af (iq (k:=1) ei fd rfl (by decide) rfl rfl rfl) rfl rfl ?_
   refine af (a8 (fun w hw=>eV (v:= .slice F2 x.stack.length d2) fc rfl w hw) rfl rfl cz) rfl rfl ?_
   refine rn 1 [0,1,6,12,13,32,33,34] rfl<|ae<|ac<|aa<|rn 1 [0,1,6,12,13,32,33,34,38] rfl<|af (aM aI rfl rfl) rfl rfl<|rn 1 [0,1,6,12,13,32,33,34,39,40] rfl<|ae<|aB (bI (fun q:Nat×(Option Addr×Nat)=>q.1≤x.stack.length) (fun q=>x.stack.length - q.1) (fun q=> [(0,.pointer (some ⟨g,0,none⟩)),(1,.func (.func 123) #[] #[.pointer (some ⟨go,0,none⟩)]),(6,.slice F2 x.stack.length d2),(12,.int .i64 (m.frames.length:Int)),(13,.int .i64 (i:Int)),(32,.slice (some ⟨g1,0,none⟩) 2 2),(33,.int .i64 2),(34,.int .i64 1),(39,.int .i64 (x.stack.length:Int)),(40,.int .i64 (q.1:Int))]) (fun q=>ak go [.slice q.2.1 ((acc++db x.locals)++db (x.stack.take q.1)).length q.2.2] 27::ap (.slice q.2.1 ((acc++db x.locals)++db (x.stack.take q.1)).length q.2.2) ((acc++db x.locals)++db (x.stack.take q.1))::ak g1 [.slice F1 x.locals.length d1,.slice F2 x.stack.length d2] 95::ak g [.slice a.Af m.frames.length a.cf,.slice a.Ab m.blocks.length a.cb,.slice a.Ai m.inn.length a.ci,.slice a.Ao m.out.length a.co,.int .i64 m.status,.int .i64 m.trap] 29::H) (0,(A2,c2)) (Nat.zero_le _) ⟨rfl,rfl,rfl,rfl,rfl,rfl,rfl,rfl,rfl,rfl,trivial⟩ (fun w h=>(show Cw _ _ (ak go [.slice A2 ((acc++db x.locals)++db (x.stack.take 0)).length c2] 27::ap (.slice A2 ((acc++db x.locals)++db (x.stack.take 0)).length c2) ((acc++db x.locals)++db (x.stack.take 0))::ak g1 [.slice F1 x.locals.length d1,.slice F2 x.stack.length d2] 95::ak g [.slice a.Af m.frames.length a.cf,.slice a.Ab m.blocks.length a.cb,.slice a.Ai m.inn.length a.ci,.slice a.Ao m.out.length a.co,.int .i64 m.status,.int .i64 m.trap] 29::H) w from by rw[List.take_zero,show db []= [] from rfl,List.append_nil];exact h.msub ms)) ?_)
   rintro⟨k,⟨A3,c3⟩⟩ hk'
   try dsimp only
   have hk:k≤x.stack.length:=hk'
   refine ac<|aa<|rn 1 [0,1,6,12,13,32,33,34,39,40,41] rfl<|ae<|ac<|aw rfl (fun hlt3=>?_) (fun hlt3=>?_)
   ·have hkl:k<x.stack.length:=by omega
    have hgk:=ls (x.stack.take k)
    rw[List.length_take] at hgk
    have hsk:=tZ hkl
    refine ar (am ?_)
    refine ac<|aB<|ac<|aa<|rn 2 [0,1,6,7,12,13,32,33,34,39,40] rfl<|ae<|aa<|rn 3 [0,1,6,12,13,32,33,34,39,40,43,44,45] rfl<|af (aQ (k:=k) aI aV (.ro hst) (by omega) rfl rfl rfl) rfl rfl<|ag (dL rfl rfl rfl Tryz.call123 (fun w hw=>wg go (ab F2) (ao F2+k*2) (x.stack.getD k default) (xI hst hkl) (fun H w hw j u hu=>SF.val (SF.ro hst) hkl default w hw j u hu) ((acc++db x.locals)++db (x.stack.take k)) A3 c3 (by simp only[List.length_append];omega) w (hw.msub (.s fc (.s fc .r))))) rfl rfl (fun⟨A4,c4⟩ _=>?_)
    try dsimp only
    refine bC (aH (am ?_))
    refine aa<|af (br rfl rfl rfl (by omega)) rfl rfl<|rn 1 [0,1,6,12,13,32,33,34,39,40] rfl ?_
    rw[List.append_assoc,←hsk]
    refine a5 (k+1,(A4,c4)) (by show k+1≤_;omega) (by show _ - _<_ - _;omega) ⟨rfl,rfl,rfl,rfl,rfl,rfl,rfl,rfl,rfl,rfl,trivial⟩ (fun w h=>h.msub ms)
   obtain rfl:k=x.stack.length:=by omega
   rw[List.take_length]
   refine bz (aD (aD (bO (aH (am ?_)))))
   refine aa<|af (br rfl rfl rfl (by omega)) rfl rfl<|rn 1 [0,1,12,13,32,33,34] rfl ?_
   rw[List.append_assoc]
   refine a5 (2,(A3,c3)) ((by decide:2≤2)) (by show 2 - 2<2 - 1;decide) ⟨rfl,rfl,rfl,rfl,rfl,rfl,rfl,trivial⟩ (fun w h=>h.msub ms)
  obtain rfl:j=2:=by omega
  try dsimp only
  rw[if_neg (by decide),if_neg (by decide),←hsn]
  refine bz (aD (aD (bO (aH (am ?_)))))
  refine aa<|af (br rfl rfl rfl (by omega)) rfl rfl<|rn 1 [0,1,12,13] rfl<|a5 (i+1,(A2,c2)) (by show i+1≤_;omega) (by show _ - _<_ - _;omega) ⟨rfl,rfl,rfl,rfl,trivial⟩ (fun w h=>h.msub ms)
 obtain rfl:i=m.frames.length:=by omega
 rw[List.take_length]
 refine bz (aD (aD (bO ?_)))
 refine cq Tryz.results122 ?_
 intro w hw
 exact⟨(A1,c1),trivial,rfl,hw.msub ms⟩
end
end
section
theorem oP {l:List aX} {n:Int} :n∈db l↔0<n∧∃v∈l,v.ref=true∧v.n=n:=by
 unfold db
 rw[List.mem_map]
 constructor
 ·rintro⟨v,hv,rfl⟩
  obtain⟨h1,h2⟩:=List.mem_filter.1 hv
  simp only[Bool.and_eq_true,decide_eq_true_eq] at h2
  exact⟨h2.2,v,h1,h2.1,rfl⟩
 rintro⟨h0,v,hv,hr,rfl⟩
 exact⟨v,List.mem_filter.2 ⟨hv,by simp[hr,h0]⟩,rfl⟩
theorem Az {m:aG} {n:Int} :n∈mZ m↔0<n∧vU m n=true:=by
 unfold mZ
 rw[List.mem_flatMap,rm]
 constructor
 ·rintro⟨x,hx,h⟩
  rcases List.mem_append.1 h with h | h
  ·obtain⟨h0,v,hv,hr,e⟩:=oP.1 h
   exact⟨h0,x,hx,v,List.mem_append_left _ hv,hr,e⟩
  obtain⟨h0,v,hv,hr,e⟩:=oP.1 h
  exact⟨h0,x,hx,v,List.mem_append_right _ hv,hr,e⟩
 rintro⟨h0,x,hx,v,hv,hr,e⟩
 refine⟨x,hx,?_⟩
 rcases List.mem_append.1 hv with h | h
 ·exact List.mem_append_left _ (oP.2 ⟨h0,v,h,hr,e⟩)
 exact List.mem_append_right _ (oP.2 ⟨h0,v,h,hr,e⟩)
theorem Em {fs:List aA} {m:aG} (hR:du fs m):Lib.compact (jT (mZ m))=eM m:=by
 obtain⟨h1,h2⟩:=sB (tM (mZ m))
 refine mX h1 (w6 m) fun n=>?_
 rw[h2,q6]
 unfold jT
 rw[List.mem_mergeSort,Az]
 constructor
 ·rintro⟨h0,h⟩
  obtain⟨x,hx,v,hv,hr,rfl⟩:=rm.1 h
  have:=sX hR hx hv hr
  exact⟨by omega,h⟩
 rintro⟨h0,h⟩
 exact⟨by omega,h⟩
theorem AB {m:aG} :(eM m).length≤m.blocks.length:=by
 unfold eM
 rw[List.length_map]
 exact Nat.le_trans (List.length_filter_le _ _) (by rw[List.length_range];exact Nat.le_refl _)
theorem EK (w : World) : Calls Tryz.prog 202 #[.int .u64 0] w fun e w' => e = .returned (.int .i64 0) ∧ w = w' := by
  go_enter Tryz.func202, Tryz.ntmps202
  go_wp2
  all_goals (go_ret; exact ⟨dC (by kernel_rfl), rfl⟩)
set_option maxRecDepth 100000 in
theorem G6 (w : World) : Calls Tryz.prog 157 #[.int .u64 0] w fun e w' => e = .returned (.int .i64 0) ∧ w = w' := by
  go_enter Tryz.func157, Tryz.ntmps157
  go_wp2_with (first
    | (go_at_call 202; refine (EK _).mono ?_; rintro e w' ⟨rfl, rfl⟩))
  all_goals (go_ret; exact ⟨rfl, rfl⟩)
theorem C8 (A:Option Addr) (c:Nat) (w:World):Calls Tryz.prog 192 #[.slice A 0 c,.int .i64 0,.int .i64 0] w fun e w'=>e= .returned (.tuple #[])∧Below w.heap.size w w':=by
 refine enter Tryz.func192 rfl Tryz.ntmps192 rfl ?_
 refine ac<|aa<|rn 1 [0,1,2,8] rfl<|af (br rfl rfl rfl (by omega)) rfl rfl<|rn 1 [0,1,2,6] rfl<|ae<|aB (bI (fun _:Unit=>True) (fun _=>0) (fun _=> [(0,.slice A 0 c),(1,.int .i64 0),(2,.int .i64 0),(6,.int .i64 1)]) (fun _=> []) () (trivial) ⟨rfl,rfl,rfl,rfl,trivial⟩ me ?_)
 rintro _ _
 refine ac<|ac<|aa<|rn 3 [0,1,2,6,12] rfl<|ae<|aw rfl (fun h=>?_) (fun h=>?_)
 ·exact absurd h (by decide)
 refine bz (aD (aD (bO ?_)))
 refine cq Tryz.results192 ?_
 intro w hw
 exact⟨rfl,hw.below⟩
set_option maxRecDepth 100000 in
theorem CQ (A:Option Addr) (c:Nat) (l:Int) (w:World):Calls Tryz.prog 156 #[.slice A 0 c,.int .i64 0,.int .i64 0,.int .i64 l] w fun e w'=>e= .returned (.tuple #[])∧Below w.heap.size w w':=by
 refine enter Tryz.func156 rfl Tryz.ntmps156 rfl ?_
 refine ac<|aa<|rn 1 [0,1,2,3,8] rfl<|ae<|ac<|aa<|rn 1 [0,1,2,3,8,9] rfl<|ae<|aB (bI (fun _:Unit=>True) (fun _=>0) (fun _=> [(0,.slice A 0 c),(1,.int .i64 0),(2,.int .i64 0),(3,.int .i64 l),(8,.bool true),(9,.bool true)]) (fun _=> []) () (trivial) ⟨rfl,rfl,rfl,rfl,rfl,rfl,trivial⟩ me ?_)
 rintro _ _
 refine aB<|ac<|aa<|rn 2 [0,1,2,3,8,9,19,20] rfl<|af (cH rfl rfl rfl (by omega)) rfl rfl<|rn 1 [0,1,2,3,8,9,10] rfl<|ae<|ac<|ac<|aa<|rn 2 [0,1,2,3,8,9,10,23] rfl<|ae<|aw rfl (fun h=>?_) (fun h=>?_)
 ·refine ac<|aa<|rn 3 [24,25,26] rfl<|ag (aY rfl rfl rfl Tryz.call192 (fun w hw=>C8 A c w)) rfl rfl (fun _ _=>?_)
  refine ae<|aq (ai (aC (ai (aC ?_))))
  refine xG Tryz.results156 ?_
  intro w hw
  exact⟨rfl,hw.below⟩
 exact absurd (show (0:Int)≤12 by decide) h
set_option maxRecDepth 100000 in
theorem zZ (A : Option Addr) (c : Nat) (w : World) : Calls Tryz.prog 124 #[.slice A 0 c] w fun e w' => e = .returned (.tuple #[]) ∧ Below w.heap.size w w' := by
  go_enter Tryz.func124, Tryz.ntmps124
  go_wp2_with (first
    | (go_at_call 157; refine (G6 _).mono ?_; rintro e w' ⟨rfl, rfl⟩)
    | (go_at_call 156; refine (CQ _ _ _ _).mono ?_; rintro e w' ⟨rfl, hb⟩))
  all_goals (go_end0; exact ⟨rfl, (by repeat (first | exact Below.refl _ _ | assumption | refine Below.drew ?_ | refine Below.drewN_ ?_ _ | refine bU ?_ _ | refine cB (by assumption) ?_ | refine cM ?_ (by simp <;> omega) _))⟩)
theorem wk (A:Option Addr) (c:Nat) (w:World):Calls Tryz.prog 125 #[.slice A 0 c] w fun e w'=>e= .returned (.slice A 0 c)∧Below w.heap.size w w':=
 (Any.slices_Compact_int_empty Tryz.laysCompact A c w).mono fun _ _ ⟨h1,h2⟩=>⟨h1,by rw[h2];exact Below.refl _ _⟩
set_option maxRecDepth 100000 in
set_option maxHeartbeats 1000000 in
theorem vq (fs:List aA) (a:MA) (m:aG) (w:World) (hm:dQ w.heap.size w a m) (hF:fp fs) (hR:du fs m) :
  Calls Tryz.prog 88 #[.agg #[.slice a.Af m.frames.length a.cf,.slice a.Ab m.blocks.length a.cb,.slice a.Ai m.inn.length a.ci,.slice a.Ao m.out.length a.co,.int .i64 m.status,.int .i64 m.trap]] w fun e w'=> ∃q:Option Addr×Nat,True∧e= .returned (.slice q.1 (eM m).length q.2)∧Cw w.heap.size w [ap (.slice q.1 (eM m).length q.2) (eM m)] w':=by
 have hfs:∀x∈m.frames,x.locals.length≤1000∧x.stack.length≤8:=fun x hx=>by
  obtain⟨i,hi,rfl⟩:=List.getElem_of_mem hx
  have h:=rp hF hR hi
  have e:bh m.frames i=m.frames[i]:=by
   unfold bh
   rw[List.getD_eq_getElem?_getD,List.getElem?_eq_getElem hi]
   rfl
  rw[e] at h
  exact⟨h.2,h.1⟩
 have heq:=Em hR
 refine enter Tryz.func88 rfl Tryz.ntmps88 rfl ?_
 refine ac<|aa<|ag (bH rfl rfl rfl) rfl rfl (fun g1 _=>?_)
 refine rn 1 [1] rfl<|ae<|ac<|aa<|ag (aS j8 rfl rfl) rfl rfl (fun g2 _=>?_)
 refine ae<|dA (fun w h=>Cw.nilO Int h) ?_
 refine ac<|aa<|rn 1 [1,3,4] rfl<|ag (bg rfl rfl rfl Tryz.call122 (fun w hw=>BF g1 g2 a m hm hR.n6 hfs none 0 w (hw.msub (.s fc (.s fc (.s fc .r)))))) rfl rfl (fun⟨A1,c1⟩ _=>?_)
 try dsimp only
 refine ae<|ac<|aa<|af (aj fc aW rfl rfl (by rfl)) rfl rfl ?_
 generalize mZ m=l at heq⊢
 generalize eM m=r at heq⊢
 subst heq
 rcases l with _ | ⟨x,l⟩
 ·rw[show jT ([]:List Int)= [] from by unfold jT;simp,show Lib.compact ([]:List Int)= [] from by decide]
  refine ag (aY rfl rfl rfl IB (fun w hw=>zZ A1 c1 w)) rfl rfl (fun _ _=>?_)
  refine ae<|ac<|aa<|af (aj fc aW rfl rfl (by rfl)) rfl rfl ?_
  refine ag (aY rfl rfl rfl IA (fun w hw=>wk A1 c1 w)) rfl rfl (fun _ _=>?_)
  refine rn 1 [2] rfl<|ae<|aq<|av Tryz.results88 (an rfl) ?_
  intro w hw
  exact⟨(A1,c1),trivial,rfl,hw.msub ms⟩
 have hsl:(jT (x::l)).length=(x::l).length:=by unfold jT;exact List.length_mergeSort _
 refine ag (bg rfl rfl rfl IB (fun w hw=>u7 (hw.msub (.s fc .r)) (Nat.succ_pos _) (tp hw fc))) rfl rfl (fun _ _=>?_)
 refine ae<|ac<|aa<|af (aj fc aW rfl rfl (by rfl)) rfl rfl ?_
 refine ag (bg rfl rfl rfl IA (fun w hw=>qI (hw.msub (.s fc .r)) (Nat.succ_pos _) (tp hw fc))) rfl rfl (fun _ _=>?_)
 refine rn 1 [2] rfl<|ae<|aq<|av Tryz.results88 (an rfl) ?_
 intro w hw
 exact⟨(A1,c1),trivial,rfl,hw.msub ms⟩
end
end Go.Proofs.YtpacloheigifkaaGreat
