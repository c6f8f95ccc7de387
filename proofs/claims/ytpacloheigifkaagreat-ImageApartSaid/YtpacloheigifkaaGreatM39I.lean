/- Texts of one proof, one behind the other: lemmas alone. -/
import Derived.Test.YtpacloheigifkaaGreatM0I
import Derived.Test.YtpacloheigifkaaGreatM38I
import Derived.Test.YtpacloheigifkaaGreatM27I
import Derived.Test.YtpacloheigifkaaGreatM22I
import Derived.Test.YtpacloheigifkaaGreatM34I
import Derived.Test.YtpacloheigifkaaGreatM23I
import Derived.Test.YtpacloheigifkaaGreatM28I
import Derived.Test.YtpacloheigifkaaGreatM32I
import Derived.Test.YtpacloheigifkaaGreatM25I
import Derived.Test.YtpacloheigifkaaGreatM35I

namespace Go.Proofs.YtpacloheigifkaaGreat
open Go.RowKit
section
theorem BA {l:List Int} {v:Int} (h:v∈l):∃k:Nat,mh l v=k∧k<l.length∧l.getD k 0=v:=by
 unfold mh
 cases e:l.findIdx? (· == v) with
 | none=>
  rw[List.findIdx?_eq_none_iff] at e
  have:=e v h
  simp at this
 | some k=>
  rw[List.findIdx?_eq_some_iff_getElem] at e
  obtain⟨h1,h2,_⟩:=e
  refine⟨k,rfl,h1,?_⟩
  rw[List.getD_eq_getElem?_getD,List.getElem?_eq_getElem h1]
  simpa using h2
def iw {α:Type} (l:List α) (f:α→α) (k:Nat):List α:=(l.take k).map f++l.drop k
section
variable {B:Nat} {w0:World} {H:List a7}
set_option maxRecDepth 100000 in
set_option maxHeartbeats 1000000 in
theorem wh (g4 g6:Nat) (R:List Int) (r:Int→Int) (hri:∀n∈R,be (r n)) (T1 R1:Option Addr) (t1 r1:Nat) (A:Option Addr) (m c k:Nat) (xs:List aX) (hk:k<m) (hok:DS (fun n=>n∈R) (xs.getD k default)) (hpos:(xs.getD k default).ref=true→0≤(xs.getD k default).n) (w:World)
  (hw:Cw B w0 (ap (.slice A m c) xs::ak g6 [.slice T1 (R.map r).length t1] 27::ap (.slice T1 (R.map r).length t1) (R.map r)::ak g4 [.slice R1 R.length r1] 27::ap (.slice R1 R.length r1) R::H) w) :
  Calls Tryz.prog 127 #[.pointer (some ⟨ab A,ao A+k*2,none⟩),.pointer (some ⟨g6,0,none⟩),.pointer (some ⟨g4,0,none⟩)] w fun e w'=> ∃_:Unit,True∧e= .returned (.tuple #[])∧Cw B w0 (ap (.slice A m c) (xs.set k (ee r (xs.getD k default)))::ak g6 [.slice T1 (R.map r).length t1] 27::ap (.slice T1 (R.map r).length t1) (R.map r)::ak g4 [.slice R1 R.length r1] 27::ap (.slice R1 R.length r1) R::H) w':=by
 have hl:xs.length=m:=by
  obtain⟨F,h,_⟩:=hw.rd cZ.a
  exact bW.len_eq (cL.sl (show cL w F _ xs from h))
 have hself:xs.set k (xs.getD k default)=xs:=by
  apply List.ext_getElem?
  intro i
  rw[List.getElem?_set]
  split
  ·rename_i e
   subst e
   rw[List.getD_eq_getElem?_getD,if_pos (by omega),List.getElem?_eq_getElem (by omega)]
   rfl
  rfl
 generalize hv:xs.getD k default=v at hok hpos hself⊢
 refine bS Tryz.func127 rfl Tryz.ntmps127 rfl hw ?_
 refine ac<|aa<|rn 3 [0,1,2,6] rfl<|af (a8 (fun w hw=>(SF.val (SF.own hl fc) hk default) w hw 0 _ rfl) rfl rfl dx) rfl rfl ?_
 refine rn 1 [0,1,2,8] rfl ?_
 rw[hv]
 rcases Bool.eq_false_or_eq_true v.ref with hr | hr
 ·rw[hr]
  refine bV (t:=8) (v':= .bool true) rfl (rfl) ?_
  refine rn 3 [0,1,2,8,11] rfl<|af (a8 (fun w hw=>(SF.val (SF.own hl fc) hk default) w hw 1 _ rfl) rfl rfl au) rfl rfl ?_
  refine rn 2 [0,1,2,14] rfl<|ae ?_
  rw[hv]
  refine aw rfl (fun hn=>?_) (fun hn=>?_)
  ·have hn:0<v.n:=hn
   have hin:=hok hr (by omega)
   obtain⟨q,hq1,hq2,hq3⟩:=BA hin
   have hqm:q<(R.map r).length:=by rw[List.length_map];exact hq2
   have hren:ee r v=⟨true,r v.n⟩:=by unfold ee;rw[if_pos ⟨hr,by omega⟩]
   have hat:(R.map r).getD q 0=r v.n:=by
    rw[List.getD_eq_getElem?_getD,List.getElem?_map,List.getElem?_eq_getElem hq2]
    rw[List.getD_eq_getElem?_getD,List.getElem?_eq_getElem hq2] at hq3
    show r R[q]=_
    rw[show R[q]=v.n from hq3]
   refine cD (.still 0 (.still 1 (.still 2 (.still 3 (.still 4 (.still 5 (.still 6 (.pick 7 (.still 8 (.still 9 (.still 10 (.still 11 (.pick 12 .done .stop))))) .stop)))))))) [12] rfl (by kernel_rfl) (by kernel_rfl) ?_
   refine aU ha 1 [0,1,2,15] rfl<|ax rfl (aj fc aW rfl rfl (by rfl)) rfl rfl ha ?_
   refine ax rfl (aj fc aW rfl rfl (by rfl)) rfl rfl ha ?_
   refine aU ha 3 [15,16,17,20] rfl<|ax rfl (a8 (fun w hw=>(SF.val (SF.own hl fc) hk default) w hw 1 _ rfl) rfl rfl au) rfl rfl ha ?_
   rw[hv]
   refine aK rfl (aY rfl rfl rfl Tryz.call128 ((fun w hw=>fm ((fun w hw=>tX _ R v.n w (SF.at_ (SF.own rfl fc) hw)) w hw)))) rfl rfl (.inr fun _=>ha) (fun _ _=>?_) aE
   rw[hq1]
   refine ax rfl (aQ (k:=q) ah aF (SF.own (xs:=R.map r) rfl fc) (by omega) rfl rfl rfl) rfl rfl ha ?_
   refine ax rfl (a8 (SF.int (SF.own (xs:=R.map r) rfl fc) (by omega)) rfl rfl au) rfl rfl ha ?_
   refine aU ha 2 [24,26] rfl ?_
   rw[hat]
   refine aK rfl (vE (α:=aX) (f:=1) (us:= [.int .i64 (r v.n)]) ⟨true,r v.n⟩ default (xs':=xs.set k (ee r v)) (by rw[hren]) fc hk (hri _ hin) aF rfl rfl rfl rfl rfl rfl (by rw[hv];show [Value.bool v.ref,_]=_;rw[hr];rfl) rfl) rfl rfl (.inl rfl) (fun _ _=>?_) aE
   refine df<|cq GP ?_
   intro w hw
   exact⟨(),trivial,rfl,hw.msub ms⟩
  have hn:¬0<v.n:=hn
  have hren:ee r v=v:=by unfold ee;rw[if_neg (fun h=>by have:=hpos hr;have:=h.2;omega)]
  rw[hren,hself]
  refine ar<|cq GP ?_
  intro w hw
  exact⟨(),trivial,rfl,hw.msub ms⟩
 rw[hr]
 have hren:ee r v=v:=CC hr
 rw[hren,hself]
 refine bV (t:=8) (v':= .bool false) rfl (rfl) ?_
 refine rn 6 [0,1,2,14] rfl<|ae<|bZ rfl<|ar<|cq GP ?_
 intro w hw
 exact⟨(),trivial,rfl,hw.msub ms⟩
theorem sY {α:Type} (l:List α) (f:α→α):iw l f 0=l:=by unfold iw;simp
theorem uW {α:Type} (l:List α) (f:α→α):iw l f l.length=l.map f:=by unfold iw;simp
theorem uV {α:Type} (l:List α) (f:α→α) (k:Nat):(iw l f k).length=l.length:=by unfold iw;simp;omega
theorem yt {α:Type} [Inhabited α] {l:List α} {f:α→α} {k:Nat} (hk:k<l.length):(iw l f k).getD k default=l.getD k default:=by
 unfold iw
 rw[List.getD_eq_getElem?_getD,List.getElem?_append_right (by simp;omega),List.length_map,List.length_take,Nat.min_eq_left (by omega),Nat.sub_self,List.getElem?_drop,List.getD_eq_getElem?_getD]
 rfl
theorem uU {α:Type} [Inhabited α] {l:List α} {f:α→α} {k:Nat} (hk:k<l.length):(iw l f k).set k (f (l.getD k default))=iw l f (k+1):=by
 unfold iw
 have h1:((l.take k).map f).length=k:=by rw[List.length_map,List.length_take];omega
 rw[List.set_append_right _ _ (by omega),h1,Nat.sub_self,fx l k default hk,List.map_append,List.append_assoc]
 congr 1
 rw[List.drop_eq_getElem_cons hk,List.set_cons_zero]
 rfl
def gR (r:Int→Int) (p:aZ×aO):aZ×aO:=(p.1,ke r p.2)
def er (l:List (aZ×aO)) (r:Int→Int) (i:Nat):List (aZ×aO):=(iw l (gR r) i).eraseIdx i
theorem CB {l:List (aZ×aO)} {i:Nat} (hi:i<l.length) {w:World} (h:Cw B w0 (dY l::H) w):∃A1 c1 A2 c2,l[i].1.lv= .slice A1 l[i].2.locals.length c1∧l[i].1.sv= .slice A2 l[i].2.stack.length c2:=by
 obtain⟨s1,s2⟩:=rN hi h
 obtain⟨A1,c1,e1,_⟩:=s1.form
 obtain⟨A2,c2,e2,_⟩:=s2.form
 exact⟨A1,c1,A2,c2,e1,e2⟩
set_option maxRecDepth 100000 in
set_option maxHeartbeats 4000000 in
theorem BE (g3 g4 g6:Nat) (R:List Int) (r:Int→Int) (hri:∀n∈R,be (r n)) (T1 R1 Af:Option Addr) (t1 r1 n cf:Nat) (rest:List Value) (l:List (aZ×aO)) (hs:List aZ) (hln:l.length=n) (hls:l.map Prod.fst=hs) (hn6:n≤6)
  (hok:∀p∈l,rU (fun n=>n∈R) p.2) (hpos:∀p∈l,∀v∈p.2.locals++p.2.stack,v.ref=true→0≤v.n) (w:World)
  (hw:Cw B w0 (ak g3 (.slice Af n cf::rest) 29::ap (.slice Af n cf) hs::dY l::ak g6 [.slice T1 (R.map r).length t1] 27::ap (.slice T1 (R.map r).length t1) (R.map r)::ak g4 [.slice R1 R.length r1] 27::ap (.slice R1 R.length r1) R::H) w) :
  Calls Tryz.prog 122 #[.pointer (some ⟨g3,0,none⟩),.func (.func 127) #[] #[.pointer (some ⟨g6,0,none⟩),.pointer (some ⟨g4,0,none⟩)]] w fun e w'=> ∃_:Unit,True∧e= .returned (.tuple #[])∧Cw B w0 (ak g3 (.slice Af n cf::rest) 29::ap (.slice Af n cf) hs::dY (l.map (gR r))::ak g6 [.slice T1 (R.map r).length t1] 27::ap (.slice T1 (R.map r).length t1) (R.map r)::ak g4 [.slice R1 R.length r1] 27::ap (.slice R1 R.length r1) R::H) w':=by
 have hhl:hs.length=n:=by rw[←hls,List.length_map,hln]
 refine bS Tryz.func122 rfl Tryz.ntmps122 rfl hw ?_
 refine ac<|aa<|rn 3 [0,1,10] rfl<|af (aj fc bP rfl rfl (by rfl)) rfl rfl ?_
 refine af (aM aP rfl rfl) rfl rfl<|rn 1 [0,1,12,13] rfl<|ae<|aB (bI (fun i:Nat=>i≤n) (fun i=>n - i) (fun i=> [(0,.pointer (some ⟨g3,0,none⟩)),(1,.func (.func 127) #[] #[.pointer (some ⟨g6,0,none⟩),.pointer (some ⟨g4,0,none⟩)]),(12,.int .i64 (n:Int)),(13,.int .i64 (i:Int))]) (fun i=>dY (iw l (gR r) i)::ak g3 (.slice Af n cf::rest) 29::ap (.slice Af n cf) hs::ak g6 [.slice T1 (R.map r).length t1] 27::ap (.slice T1 (R.map r).length t1) (R.map r)::ak g4 [.slice R1 R.length r1] 27::ap (.slice R1 R.length r1) R::H) 0 (Nat.zero_le _) ⟨rfl,rfl,rfl,rfl,trivial⟩ (fun w h=>(show Cw _ _ (dY (iw l (gR r) 0)::ak g3 (.slice Af n cf::rest) 29::ap (.slice Af n cf) hs::ak g6 [.slice T1 (R.map r).length t1] 27::ap (.slice T1 (R.map r).length t1) (R.map r)::ak g4 [.slice R1 R.length r1] 27::ap (.slice R1 R.length r1) R::H) w from by rw[sY];exact h.msub ms)) ?_)
 rintro i hi'
 have hi:i≤n:=hi'
 refine ac<|aa<|rn 1 [0,1,12,13,14] rfl<|ae<|ac<|aw rfl (fun hlt=>?_) (fun hlt=>?_)
 ·have hil:i<l.length:=by omega
  have hul:=uV l (gR r) i
  have hatI:(iw l (gR r) i)[i]'(by omega)=l[i]:=by
   have:=yt (f:=gR r) hil
   rw[List.getD_eq_getElem?_getD,List.getElem?_eq_getElem (by omega),List.getD_eq_getElem?_getD,List.getElem?_eq_getElem hil] at this
   exact this
  refine fO (p:= ∃A1 c1 A2 c2,l[i].1.lv= .slice A1 l[i].2.locals.length c1∧l[i].1.sv= .slice A2 l[i].2.stack.length c2) (fun w hw=>by
   have:=CB (l:=iw l (gR r) i) (i:=i) (by omega) hw
   rw[hatI] at this
   exact this) fun⟨A1,c1,A2,c2,e1,e2⟩=>?_
  refine dA (fun w h=>z9 (l:=iw l (gR r) i) (k:=i) (by omega) h) ?_
  rw[hatI]
  have hset:(iw l (gR r) i).set i (gR r l[i])=iw l (gR r) (i+1):=by
   have:=uU (f:=gR r) hil
   rw[List.getD_eq_getElem?_getD,List.getElem?_eq_getElem hil] at this
   exact this
  have hmemI:=List.getElem_mem hil
  obtain⟨hok1,hok2⟩:=hok _ hmemI
  have hpos1:∀v∈l[i].2.locals,v.ref=true→0≤v.n:=fun v hv=>hpos _ hmemI v (List.mem_append_left _ hv)
  have hpos2:∀v∈l[i].2.stack,v.ref=true→0≤v.n:=fun v hv=>hpos _ hmemI v (List.mem_append_right _ hv)
  have hhd:hs.getD i default=⟨l[i].1.func,l[i].1.pc,.slice A1 l[i].2.locals.length c1,.slice A2 l[i].2.stack.length c2⟩:=by
   rw[←hls,List.getD_eq_getElem?_getD,List.getElem?_map,List.getElem?_eq_getElem hil,←e1,←e2]
   rfl
  have hback:∀w,Cw B w0 (ap l[i].1.lv (gR r l[i]).2.locals::ap l[i].1.sv (gR r l[i]).2.stack::dY (er l r i)::ak g3 (.slice Af n cf::rest) 29::ap (.slice Af n cf) hs::ak g6 [.slice T1 (R.map r).length t1] 27::ap (.slice T1 (R.map r).length t1) (R.map r)::ak g4 [.slice R1 R.length r1] 27::ap (.slice R1 R.length r1) R::H) w→Cw B w0 (dY (iw l (gR r) (i+1))::ak g3 (.slice Af n cf::rest) 29::ap (.slice Af n cf) hs::ak g6 [.slice T1 (R.map r).length t1] 27::ap (.slice T1 (R.map r).length t1) (R.map r)::ak g4 [.slice R1 R.length r1] 27::ap (.slice R1 R.length r1) R::H) w:=fun w h=>by
   have:=Eh (l:=iw l (gR r) i) (k:=i) (q:=gR r l[i]) (by omega) h
   rwa [hset] at this
  show CW _ _ _ _ _ _ _ (ap l[i].1.lv l[i].2.locals::ap l[i].1.sv l[i].2.stack::dY (er l r i)::ak g3 (.slice Af n cf::rest) 29::ap (.slice Af n cf) hs::ak g6 [.slice T1 (R.map r).length t1] 27::ap (.slice T1 (R.map r).length t1) (R.map r)::ak g4 [.slice R1 R.length r1] 27::ap (.slice R1 R.length r1) R::H)
  rw[e1,e2] at hback⊢
  have hrl:(gR r l[i]).2.locals=l[i].2.locals.map (ee r):=rfl
  have hrs:(gR r l[i]).2.stack=l[i].2.stack.map (ee r):=rfl
  rw[hrl,hrs] at hback
  generalize l[i].1.func=hf0 at hhd
  generalize l[i].1.pc=hp0 at hhd
  generalize l[i].2.locals=L1 at *
  generalize l[i].2.stack=L2 at *
  refine fO (p:=L1.length≤140737488355328∧L2.length≤140737488355328) (fun w hw=>⟨cn (SF.at_ (SF.own (α:=aX) (xs:=L1) rfl fc) hw),cn (SF.at_ (SF.own (α:=aX) (xs:=L2) rfl fc) hw)⟩) fun⟨lb1,lb2⟩=>?_
  refine ar (am ?_)
  refine ac<|aB<|ac<|aa<|rn 2 [0,1,4,12,13] rfl<|ae<|ac<|cD (.still 0 (.still 1 (.still 2 (.still 3 (.still 4 (.still 5 (.still 6 (.still 7 (.still 8 (.still 9 (.still 10 (.still 11 (.still 12 (.still 13 (.still 14 (.still 15 (.still 18 (.pick 16 (.still 17 .done) .stop)))))))))))))))))) [] rfl (by kernel_rfl) (by kernel_rfl) ?_
  refine aU ha 3 [0,1,4,12,13,18] rfl<|ax rfl (aj fc bP rfl rfl (by rfl)) rfl rfl ha ?_
  refine aU ha 1 [0,1,4,12,13,19,20] rfl<|ax rfl (aQ (k:=i) aP bn (SF.own (α:=aZ) hhl fc) (by omega) rfl rfl rfl) rfl rfl ha ?_
  refine aU ha 1 [0,1,4,12,13,22] rfl<|ax rfl (a8 (fun w hw=>(SF.hfr (SF.own (α:=aZ) hhl fc) (k:=i) (by omega) hhd) w hw 2 _ rfl) rfl rfl cz) rfl rfl ha ?_
  refine aU ha 3 [0,1,4,12,13,23,26] rfl<|ax rfl (aj fc bP rfl rfl (by rfl)) rfl rfl ha ?_
  refine aU ha 1 [0,1,12,13,23,27,28] rfl<|ax rfl (aQ (k:=i) aP bn (SF.own (α:=aZ) hhl fc) (by omega) rfl rfl rfl) rfl rfl ha ?_
  refine aU ha 1 [0,1,12,13,23,30] rfl<|ax rfl (a8 (fun w hw=>(SF.hfr (SF.own (α:=aZ) hhl fc) (k:=i) (by omega) hhd) w hw 3 _ rfl) rfl rfl cz) rfl rfl ha ?_
  refine aU ha 1 [0,1,12,13,23,31,34] rfl<|aK rfl (bu (cs:= [_,_]) ei fd uJ rfl rfl rfl rfl rfl) rfl rfl (.inr fun _=>ha) (fun g1 _=>?_) aE
  refine ax rfl (aM ei rfl rfl) rfl rfl ha ?_
  refine cT<|aB (bI (fun j:Nat=>j≤2) (fun j=>2 - j) (fun j=> [(0,.pointer (some ⟨g3,0,none⟩)),(1,.func (.func 127) #[] #[.pointer (some ⟨g6,0,none⟩),.pointer (some ⟨g4,0,none⟩)]),(12,.int .i64 (n:Int)),(13,.int .i64 (i:Int)),(32,.slice (some ⟨g1,0,none⟩) 2 2),(33,.int .i64 2),(34,.int .i64 (j:Int))]) (fun j=>ap (.slice A1 L1.length c1) (if j=0 then L1 else L1.map (ee r))::ap (.slice A2 L2.length c2) (if j=2 then L2.map (ee r) else L2)::dY (er l r i)::ak g1 [.slice A1 L1.length c1,.slice A2 L2.length c2] 95::ak g3 (.slice Af n cf::rest) 29::ap (.slice Af n cf) hs::ak g6 [.slice T1 (R.map r).length t1] 27::ap (.slice T1 (R.map r).length t1) (R.map r)::ak g4 [.slice R1 R.length r1] 27::ap (.slice R1 R.length r1) R::H) 0 (Nat.zero_le _) ⟨rfl,rfl,rfl,rfl,rfl,rfl,rfl,trivial⟩ (fun w h=>h.msub ms) ?_)
  rintro j hj'
  have hj:j≤2:=hj'
  refine ac<|aa<|rn 1 [0,1,12,13,32,33,34,35] rfl<|ae<|ac<|aw rfl (fun hlt2=>?_) (fun hlt2=>?_)
  ·rcases(show j=0∨j=1 by omega) with rfl | rfl
   ·rw[if_pos rfl,if_neg (by decide)]
    refine ar (am ?_)
    refine ac<|aB<|ac<|aa<|af (iq (k:=0) ei fd rfl (by decide) rfl rfl rfl) rfl rfl ?_
    refine af (a8 (fun w hw=>eV (v:= .slice A1 L1.length c1) fc rfl w hw) rfl rfl cz) rfl rfl ?_
    refine rn 1 [0,1,6,12,13,32,33,34] rfl<|ae<|ac<|aa<|rn 1 [0,1,6,12,13,32,33,34,38] rfl<|af (aM aI rfl rfl) rfl rfl<|rn 1 [0,1,6,12,13,32,33,34,39,40] rfl<|ae<|aB (bI (fun k:Nat=>k≤L1.length) (fun k=>L1.length - k) (fun k=> [(0,.pointer (some ⟨g3,0,none⟩)),(1,.func (.func 127) #[] #[.pointer (some ⟨g6,0,none⟩),.pointer (some ⟨g4,0,none⟩)]),(6,.slice A1 L1.length c1),(12,.int .i64 (n:Int)),(13,.int .i64 (i:Int)),(32,.slice (some ⟨g1,0,none⟩) 2 2),(33,.int .i64 2),(34,.int .i64 0),(39,.int .i64 (L1.length:Int)),(40,.int .i64 (k:Int))]) (fun k=>ap (.slice A1 L1.length c1) (iw L1 (ee r) k)::ap (.slice A2 L2.length c2) L2::dY (er l r i)::ak g1 [.slice A1 L1.length c1,.slice A2 L2.length c2] 95::ak g3 (.slice Af n cf::rest) 29::ap (.slice Af n cf) hs::ak g6 [.slice T1 (R.map r).length t1] 27::ap (.slice T1 (R.map r).length t1) (R.map r)::ak g4 [.slice R1 R.length r1] 27::ap (.slice R1 R.length r1) R::H) 0 (Nat.zero_le _) ⟨rfl,rfl,rfl,rfl,rfl,rfl,rfl,rfl,rfl,rfl,trivial⟩ (fun w h=>(show Cw _ _ (ap (.slice A1 L1.length c1) (iw L1 (ee r) 0)::ap (.slice A2 L2.length c2) L2::dY (er l r i)::ak g1 [.slice A1 L1.length c1,.slice A2 L2.length c2] 95::ak g3 (.slice Af n cf::rest) 29::ap (.slice Af n cf) hs::ak g6 [.slice T1 (R.map r).length t1] 27::ap (.slice T1 (R.map r).length t1) (R.map r)::ak g4 [.slice R1 R.length r1] 27::ap (.slice R1 R.length r1) R::H) w from by rw[sY];exact h.msub ms)) ?_)
    rintro k hk'
    have hk:k≤L1.length:=hk'
    have hul:=uV L1 (ee r) k
    refine ac<|aa<|rn 1 [0,1,6,12,13,32,33,34,39,40,41] rfl<|ae<|ac<|aw rfl (fun hlt3=>?_) (fun hlt3=>?_)
    ·have hkl:k<L1.length:=by omega
     have hat:=yt (f:=ee r) hkl
     have hmem:=ff (d:=(default:aX)) hkl
     refine ar (am ?_)
     refine ac<|aB<|ac<|aa<|rn 2 [0,1,6,7,12,13,32,33,34,39,40] rfl<|ae<|aa<|rn 3 [0,1,6,12,13,32,33,34,39,40,43,44,45] rfl<|af (aQ (k:=k) aI aV (SF.own (xs:=iw L1 (ee r) k) hul fc) (by omega) rfl rfl rfl) rfl rfl ?_
     refine ag (dL rfl rfl rfl Tryz.call127 (fun w hw=>wh g4 g6 R r hri T1 R1 t1 r1 A1 L1.length c1 k (iw L1 (ee r) k) hkl (by rw[hat];exact hok1 _ hmem) (by rw[hat];exact hpos1 _ hmem) w (hw.msub (.s fc (.s fc (.s fc (.s fc (.s fc .r)))))))) rfl rfl (fun _ _=>?_)
     refine bC (aH (am ?_))
     refine aa<|af (br rfl rfl rfl (by omega)) rfl rfl<|rn 1 [0,1,6,12,13,32,33,34,39,40] rfl ?_
     rw[hat,uU hkl]
     refine a5 (k+1) (by show k+1≤_;omega) (by show _ - _<_ - _;omega) ⟨rfl,rfl,rfl,rfl,rfl,rfl,rfl,rfl,rfl,rfl,trivial⟩ (fun w h=>h.msub ms)
    obtain rfl:k=L1.length:=by omega
    rw[uW]
    refine bz (aD (aD (bO (aH (am ?_)))))
    refine aa<|af (br rfl rfl rfl (by omega)) rfl rfl<|rn 1 [0,1,12,13,32,33,34] rfl<|a5 1 ((by decide:1≤2)) (by show 2 - 1<2 - 0;decide) ⟨rfl,rfl,rfl,rfl,rfl,rfl,rfl,trivial⟩ (fun w h=>h.msub ms)
   rw[if_neg (by decide),if_neg (by decide)]
   refine ar (am ?_)
   refine ac<|aB<|ac<|aa<|af (iq (k:=1) ei fd rfl (by decide) rfl rfl rfl) rfl rfl ?_
   refine af (a8 (fun w hw=>eV (v:= .slice A2 L2.length c2) fc rfl w hw) rfl rfl cz) rfl rfl ?_
   refine rn 1 [0,1,6,12,13,32,33,34] rfl<|ae<|ac<|aa<|rn 1 [0,1,6,12,13,32,33,34,38] rfl<|af (aM aI rfl rfl) rfl rfl<|rn 1 [0,1,6,12,13,32,33,34,39,40] rfl<|ae<|aB (bI (fun k:Nat=>k≤L2.length) (fun k=>L2.length - k) (fun k=> [(0,.pointer (some ⟨g3,0,none⟩)),(1,.func (.func 127) #[] #[.pointer (some ⟨g6,0,none⟩),.pointer (some ⟨g4,0,none⟩)]),(6,.slice A2 L2.length c2),(12,.int .i64 (n:Int)),(13,.int .i64 (i:Int)),(32,.slice (some ⟨g1,0,none⟩) 2 2),(33,.int .i64 2),(34,.int .i64 1),(39,.int .i64 (L2.length:Int)),(40,.int .i64 (k:Int))]) (fun k=>ap (.slice A2 L2.length c2) (iw L2 (ee r) k)::ap (.slice A1 L1.length c1) (L1.map (ee r))::dY (er l r i)::ak g1 [.slice A1 L1.length c1,.slice A2 L2.length c2] 95::ak g3 (.slice Af n cf::rest) 29::ap (.slice Af n cf) hs::ak g6 [.slice T1 (R.map r).length t1] 27::ap (.slice T1 (R.map r).length t1) (R.map r)::ak g4 [.slice R1 R.length r1] 27::ap (.slice R1 R.length r1) R::H) 0 (Nat.zero_le _) ⟨rfl,rfl,rfl,rfl,rfl,rfl,rfl,rfl,rfl,rfl,trivial⟩ (fun w h=>(show Cw _ _ (ap (.slice A2 L2.length c2) (iw L2 (ee r) 0)::ap (.slice A1 L1.length c1) (L1.map (ee r))::dY (er l r i)::ak g1 [.slice A1 L1.length c1,.slice A2 L2.length c2] 95::ak g3 (.slice Af n cf::rest) 29::ap (.slice Af n cf) hs::ak g6 [.slice T1 (R.map r).length t1] 27::ap (.slice T1 (R.map r).length t1) (R.map r)::ak g4 [.slice R1 R.length r1] 27::ap (.slice R1 R.length r1) R::H) w from by rw[sY];exact h.msub ms)) ?_)
   rintro k hk'
   have hk:k≤L2.length:=hk'
   have hul:=uV L2 (ee r) k
   refine ac<|aa<|rn 1 [0,1,6,12,13,32,33,34,39,40,41] rfl<|ae<|ac<|aw rfl (fun hlt3=>?_) (fun hlt3=>?_)
   ·have hkl:k<L2.length:=by omega
    have hat:=yt (f:=ee r) hkl
    have hmem:=ff (d:=(default:aX)) hkl
    refine ar (am ?_)
    refine ac<|aB<|ac<|aa<|rn 2 [0,1,6,7,12,13,32,33,34,39,40] rfl<|ae<|aa<|rn 3 [0,1,6,12,13,32,33,34,39,40,43,44,45] rfl<|af (aQ (k:=k) aI aV (SF.own (xs:=iw L2 (ee r) k) hul fc) (by omega) rfl rfl rfl) rfl rfl ?_
    refine ag (dL rfl rfl rfl Tryz.call127 (fun w hw=>wh g4 g6 R r hri T1 R1 t1 r1 A2 L2.length c2 k (iw L2 (ee r) k) hkl (by rw[hat];exact hok2 _ hmem) (by rw[hat];exact hpos2 _ hmem) w (hw.msub (.s fc (.s fc (.s fc (.s fc (.s fc .r)))))))) rfl rfl (fun _ _=>?_)
    refine bC (aH (am ?_))
    refine aa<|af (br rfl rfl rfl (by omega)) rfl rfl<|rn 1 [0,1,6,12,13,32,33,34,39,40] rfl ?_
    rw[hat,uU hkl]
    refine a5 (k+1) (by show k+1≤_;omega) (by show _ - _<_ - _;omega) ⟨rfl,rfl,rfl,rfl,rfl,rfl,rfl,rfl,rfl,rfl,trivial⟩ (fun w h=>h.msub ms)
   obtain rfl:k=L2.length:=by omega
   rw[uW]
   refine bz (aD (aD (bO (aH (am ?_)))))
   refine aa<|af (br rfl rfl rfl (by omega)) rfl rfl<|rn 1 [0,1,12,13,32,33,34] rfl<|a5 2 ((by decide:2≤2)) (by show 2 - 2<2 - 1;decide) ⟨rfl,rfl,rfl,rfl,rfl,rfl,rfl,trivial⟩ (fun w h=>h.msub ms)
  obtain rfl:j=2:=by omega
  rw[if_neg (by decide),if_pos rfl]
  refine bz (aD (aD (bO (aH (am ?_)))))
  refine aa<|af (br rfl rfl rfl (by omega)) rfl rfl<|rn 1 [0,1,12,13] rfl<|a5 (i+1) (by show i+1≤_;omega) (by show _ - _<_ - _;omega) ⟨rfl,rfl,rfl,rfl,trivial⟩ (fun w h=>hback w (h.msub ms))
 obtain rfl:i=n:=by omega
 rw[←hln,uW]
 refine bz (aD (aD (bO ?_)))
 refine cq Tryz.results122 ?_
 intro w hw
 exact⟨(),trivial,rfl,hw.msub ms⟩
end
end
section
theorem DD (m:aG):(jj m).frames.length=m.frames.length:=by unfold jj;simp
theorem CE (r:Int→Int) (l:List (aZ×aO)):(l.map (gR r)).map Prod.fst=l.map Prod.fst:=by rw[List.map_map];rfl
theorem CD (r:Int→Int) (l:List (aZ×aO)):(l.map (gR r)).map Prod.snd=(l.map Prod.snd).map (ke r):=by rw[List.map_map,List.map_map];rfl
theorem El {r:Int→Int} {l:List (aZ×aO)} (h:gh l):gh (l.map (gR r)):=fun p hp=>by
 obtain⟨q,hq,rfl⟩:=List.mem_map.1 hp
 exact h q hq
set_option maxRecDepth 100000 in
set_option maxHeartbeats 4000000 in
theorem Hh (fs:List aA) (a:MA) (m:aG) (w:World) (hm:dQ w.heap.size w a m) (hF:fp fs) (hR:du fs m) :
  Calls Tryz.prog 89 #[.agg #[.slice a.Af m.frames.length a.cf,.slice a.Ab m.blocks.length a.cb,.slice a.Ai m.inn.length a.ci,.slice a.Ao m.out.length a.co,.int .i64 m.status,.int .i64 m.trap]] w fun e w'=> ∃g:MA,True∧
   e= .returned (.agg #[.slice g.Af (jj m).frames.length g.cf,.slice g.Ab (jj m).blocks.length g.cb,.slice g.Ai (jj m).inn.length g.ci,.slice g.Ao (jj m).out.length g.co,.int .i64 (jj m).status,.int .i64 (jj m).trap])∧Cw w.heap.size w [ap (.slice g.Af (jj m).frames.length g.cf) (jj m).frames,ap (.slice g.Ab (jj m).blocks.length g.cb) (jj m).blocks,ap (.slice g.Ai (jj m).inn.length g.ci) (jj m).inn,ap (.slice g.Ao (jj m).out.length g.co) (jj m).out] w':=by
 have hb8:=(kB hR.bl).1
 have hrl:=AB (m:=m)
 have hin:∀r∈eM m,0≤r∧r≤m.blocks.length:=fun r hr=>by have:=(q6.1 hr).1;omega
 have hri:∀n∈eM m,be (ft m.blocks (eM m) n):=fun n hn=>by
  have h1:=hin n hn
  have h2:=ma m.blocks (eM m) n.toNat
  unfold ft
  split
  ·exact⟨by omega,by omega⟩
  exact⟨by omega,by omega⟩
 rw[DD]
 refine enter Tryz.func89 rfl Tryz.ntmps89 rfl ?_
 refine ac<|aa<|ag (bH rfl rfl rfl) rfl rfl (fun g1 _=>?_)
 refine ag (aS aR rfl rfl) rfl rfl (fun g2 _=>?_)
 refine ae<|ac<|aa<|af (aN (vs:= [_,_,_,_,_,_]) fc aT ay rfl rfl (by rfl) rfl) rfl rfl ?_
 refine ag (cO rfl rfl rfl rB (fun w hw=>lj a m w (dQ.ro hw hm) (nZ hF hR))) rfl rfl (fun g0 _=>?_)
 refine ag (aS aR rfl rfl) rfl rfl (fun g3 _=>?_)
 refine ag (aJ _ fc ay rfl rfl rfl rfl rfl (by rfl) rfl (by rfl)) rfl rfl (fun _ _=>?_)
 refine ae<|ac<|aa<|af (aN (vs:= [_,_,_,_,_,_]) fc aT ay rfl rfl (by rfl) rfl) rfl rfl ?_
 refine ag (cO rfl rfl rfl Tryz.call88 (fun w hw=>vq fs a m w (dQ.ro hw hm) hF hR)) rfl rfl (fun⟨R1,r1⟩ _=>?_)
 try dsimp only
 refine ag (aS j8 rfl rfl) rfl rfl (fun g4 _=>?_)
 refine ag (aJ _ fc cC rfl rfl rfl rfl rfl (by rfl) rfl (by rfl)) rfl rfl (fun _ _=>?_)
 refine ae<|ac<|aa<|rn 1 [2,3,4,12] rfl<|af (aj fc dS rfl rfl (by rfl)) rfl rfl ?_
 refine af (aj fc aW rfl rfl (by rfl)) rfl rfl ?_
 refine ag (cO rfl rfl rfl Tryz.call126 (fun w hw=>G7 a.Ab R1 a.cb r1 m.blocks (eM m) w (hw.ro hm.b) (SF.at_ (SF.own rfl fc) hw) (qP.of_check hR.bl) hin (by omega))) rfl rfl (fun⟨⟨K1,k1⟩,⟨T1,t1⟩⟩ _=>?_)
 try dsimp only
 refine rn 3 [2,3,4,16,17] rfl<|ag (aS j8 rfl rfl) rfl rfl (fun g5 _=>?_)
 refine rn 1 [2,3,4,5,6,17] rfl<|ag (aJ _ fc cC rfl rfl rfl rfl rfl (by rfl) rfl (by rfl)) rfl rfl (fun _ _=>?_)
 refine ae<|ac<|aa<|rn 2 [2,3,4,6,18,19] rfl<|ag (aJ _ fc Cb rfl rfl rfl rfl rfl (by rfl) rfl (by rfl)) rfl rfl (fun _ _=>?_)
 refine ae<|BM (xs:=m.frames) (v:= .slice g0.Af m.frames.length g0.cf) fc fun l hl hok=>?_
 have hll:l.length=m.frames.length:=by rw[←hl,List.length_map]
 have hmem:∀p∈l,p.2∈m.frames:=fun p hp=>by rw[←hl];exact List.mem_map_of_mem hp
 refine ac<|aa<|rn 1 [2,3,20] rfl<|ag (bg rfl rfl rfl Tryz.call122 (fun w hw=>BE g3 g4 g5 (eM m) (ft m.blocks (eM m)) hri T1 R1 g0.Af t1 r1 m.frames.length g0.cf [.slice K1 (dI m.blocks (eM m) m.blocks.length).length k1,.slice g0.Ai m.inn.length g0.ci,.slice g0.Ao m.out.length g0.co,.int .i64 m.status,.int .i64 m.trap] l (l.map Prod.fst) hll rfl hR.n6 (fun p hp=>GA hR _ (hmem p hp)) (fun p hp v hv hr=>(sX hR (hmem p hp) hv hr).1) w (hw.msub (.s fc (.s fc (.s fc (.s fc (.s fc (.s fc (.s fc .r)))))))))) rfl rfl (fun _ _=>?_)
 refine ae<|ac<|aa<|af (aN (vs:= [_,_,_,_,_,_]) fc aT ay rfl rfl (by rfl) rfl) rfl rfl ?_
 refine ag (aJ _ fc ay rfl rfl rfl rfl rfl (by rfl) rfl (by rfl)) rfl rfl (fun _ _=>?_)
 refine ae<|aq<|av Tryz.results89 (dH (cs:= [_,_,_,_,_,_]) fc aT ay rfl) ?_
 intro w hw
 refine⟨⟨g0.Af,g0.cf,K1,k1,g0.Ai,g0.ci,g0.Ao,g0.co⟩,trivial,rfl,?_⟩
 have h1:=sF (v:= .slice g0.Af m.frames.length g0.cf) (l:=l.map (gR (ft m.blocks (eM m)))) (H:= [ap (.slice K1 (dI m.blocks (eM m) m.blocks.length).length k1) (dI m.blocks (eM m) m.blocks.length),ap (.slice g0.Ai m.inn.length g0.ci) m.inn,ap (.slice g0.Ao m.out.length g0.co) m.out]) (El hok) (by rw[CE];exact hw.msub ms)
 rw[CD,hl] at h1
 exact h1
def HT (fs:List aA) (m:aG):aG×Int:=if cQ fs m=0 then (jj m,(m.blocks.length:Int) - (jj m).blocks.length) else (default,0)
end
section
theorem sA (c:Int) (w:World):Calls Tryz.prog 86 #[.int .i64 c] w fun e w'=>e= .returned (.int .i64 (eu c))∧Below w.heap.size w w':=by
 refine enter Tryz.func86 rfl Tryz.ntmps86 rfl ?_
 refine ac<|aa<|rn 1 [0] rfl<|ae<|ac<|ac<|aa<|rn 1 [3] rfl<|ae<|aB<|ac<|aa<|rn 2 [3,4] rfl<|ae<|aw rfl (fun h1=>?_) (fun h1=>?_)
 ·have h1:c=14:=h1
  refine ac<|aa<|rn 1 [2] rfl<|ae<|aq (aC (ai ?_))
  refine av HH (an rfl) ?_
  intro w hw
  exact⟨by rw[h1];rfl,hw.below⟩
 have h1:¬c=14:=h1
 refine ac<|aa<|rn 2 [6] rfl<|ae<|aw rfl (fun h2=>?_) (fun h2=>?_)
 ·have h2:c=12:=h2
  refine ac<|aa<|rn 1 [2] rfl<|ae<|aq (aC (ai ?_))
  refine av HH (an rfl) ?_
  intro w hw
  exact⟨by rw[h2];rfl,hw.below⟩
 have h2:¬c=12:=h2
 refine ar (aH (am ?_))
 refine ac<|aa<|rn 1 [2] rfl<|ae<|aq<|av HH (an rfl) ?_
 intro w hw
 exact⟨by unfold eu;rw[if_neg h1,if_neg h2],hw.below⟩
set_option maxRecDepth 100000 in
theorem CT (Ap:Option Addr) (cp:Nat) (fs:List aA) (a:MA) (m:aG) (w:World) (hs:Sl w (.slice Ap fs.length cp) fs) (hm:dQ w.heap.size w a m) (hF:fp fs) (hR:du fs m) (hne:m.frames≠[]) :
  Calls Tryz.prog 154 #[.agg #[.slice Ap fs.length cp],.agg #[.slice a.Af m.frames.length a.cf,.slice a.Ab m.blocks.length a.cb,.slice a.Ai m.inn.length a.ci,.slice a.Ao m.out.length a.co,.int .i64 m.status,.int .i64 m.trap]] w fun e w'=>e= .returned (.agg #[.int .i64 (cJ fs m).c,.int .i64 (cJ fs m).a])∧Below w.heap.size w w':=by
 have b1:=cn hm.f
 obtain⟨li,x,e⟩:∃li x,m.frames=li++ [x]:=by
  rcases List.eq_nil_or_concat m.frames with h1 | ⟨l,z,h1⟩
  ·exact absurd h1 hne
  exact⟨l,z,by rw[h1];simp⟩
 obtain⟨hx,hk,hop⟩:=zR (fs:=fs) e
 obtain⟨k,hkl⟩:∃k,li.length=k:=⟨_,rfl⟩
 rw[hkl] at hx hk
 obtain⟨hfn,hloc,t,he,hts⟩:=hR.top e
 obtain⟨hp0,hp1,_⟩:=(hF.e x.func.toNat (by omega)).at_ _ _ he
 obtain⟨A1,c1,A2,c2,h1,h2,hi,hc⟩:=hm.f.fr (k:=k) (by omega)
 rw[hx] at h1 h2 hi hc
 obtain⟨kf,hkf⟩:∃kf:Nat,x.func=kf:=⟨x.func.toNat,by omega⟩
 obtain⟨kp,hkp⟩:∃kp:Nat,x.pc=kp:=⟨x.pc.toNat,by omega⟩
 rw[hkf,Int.toNat_natCast] at hp1 hop
 rw[hkp,Int.toNat_natCast] at hop
 rw[hkp] at hp1
 have hkfl:kf<fs.length:=by omega
 have hkpl:kp<(az fs kf).code.length:=by omega
 obtain⟨F1,d1,F2,d2,hfl,hfc,hfi,hfcell⟩:=hs.fn hkfl
 have bp:=cn hs
 have bc:=cn hfc
 rw[hop]
 refine enter Tryz.func154 rfl Tryz.ntmps154 rfl ?_
 refine ac<|aa<|ag (bH rfl rfl rfl) rfl rfl (fun g1 _=>?_)
 refine ag (bH rfl rfl rfl) rfl rfl (fun g2 _=>?_)
 refine ag (aS bL rfl rfl) rfl rfl (fun g3 _=>?_)
 refine ae<|ac<|aa<|rn 1 [2,3,4,6] rfl<|af (aj fc bP rfl rfl (by rfl)) rfl rfl ?_
 refine rn 1 [2,4,7,8] rfl<|af (aj fc bP rfl rfl (by rfl)) rfl rfl ?_
 refine af (aM aP rfl rfl) rfl rfl<|af (cH rfl rfl rfl (by omega)) rfl rfl<|bV (t:=11) (v':= .int .i64 (k:Int)) rfl (congrArg (Value.int .i64) (by omega)) ?_
 refine af (aQ (k:=k) aP bn (.ro hm.f) (by omega) rfl rfl rfl) rfl rfl<|af (cY (hc _) rfl rfl gK bn) rfl rfl<|ag (aS cP rfl rfl) rfl rfl (fun g4 _=>?_)
 refine ag (aJ _ fc bn rfl rfl rfl rfl rfl (by rfl) rfl (by rfl)) rfl rfl (fun _ _=>?_)
 refine ae<|ac<|cD (.still 0 (.still 1 (.still 2 (.still 3 (.still 4 (.still 5 (.still 6 (.still 7 (.still 8 (.still 9 (.still 10 (.pick 11 .done .stop)))))))))))) [11] rfl (by kernel_rfl) (by kernel_rfl) ?_
 refine aU ha 1 [4,5,14] rfl<|ax rfl (aj fc cV rfl rfl (by rfl)) rfl rfl ha ?_
 refine aU ha 1 [4,5,15,16] rfl<|ax rfl (aj fc au rfl rfl (by rfl)) rfl rfl ha ?_
 refine eq (t:=17) (v':= .int .i64 (kf:Int)) rfl (congrArg (Value.int .i64) hkf) ?_
 refine ax rfl (aQ (k:=kf) bJ bD (.ro hs) (by omega) rfl rfl rfl) rfl rfl ha ?_
 refine aU ha 1 [4,5,19] rfl<|ax rfl (a8 (fun w hw=>hfcell _ w hw 3 _ rfl) rfl rfl dB) rfl rfl ha ?_
 refine aU ha 1 [4,20,21] rfl<|ax rfl (aj fc au rfl rfl (by rfl)) rfl rfl ha ?_
 refine eq (t:=22) (v':= .int .i64 (kp:Int)) rfl (congrArg (Value.int .i64) hkp) ?_
 refine ax rfl (aQ (k:=kp) bw cG (.ro hfc) (by omega) rfl rfl rfl) rfl rfl ha ?_
 refine ax rfl (cY (cs:= [_,_]) (SF.op (.ro hfc) (by omega)) rfl rfl iJ cG) rfl rfl ha ?_
 refine aK rfl (aJ _ fc cG rfl rfl rfl rfl rfl (by rfl) rfl (by rfl)) rfl rfl (.inl rfl) (fun _ _=>?_) aE
 refine cT<|aq<|av Tryz.results154 (dH (cs:= [_,_]) fc iJ cG rfl) ?_
 intro w hw
 exact⟨rfl,hw.below⟩
def uO (o:cc):Int:=if d9 o=0 then eu o.c else 0
set_option maxRecDepth 100000 in
theorem DB (o:cc) (w:World):Calls Tryz.prog 29 #[.agg #[.int .i64 o.c,.int .i64 o.a]] w fun e w'=>e= .returned (.tuple #[.int .i64 (uO o),.int .i64 (d9 o)])∧Below w.heap.size w w':=by
 refine enter Tryz.func29 rfl Tryz.ntmps29 rfl ?_
 refine ac<|aa<|ag (bH rfl rfl rfl) rfl rfl (fun g1 _=>?_)
 refine rn 2 [1] rfl<|ae<|ac<|ac<|aa<|af (aN (vs:= [_,_]) fc iJ cG rfl rfl (by rfl) rfl) rfl rfl ?_
 refine ag (aY rfl rfl rfl Tryz.call85 (fun w hw=>ug o w)) rfl rfl (fun _ _=>?_)
 refine rn 1 [1,4] rfl<|ae<|ac<|aa<|rn 2 [1,4,8] rfl<|ae<|bY rfl (fun h=>?_) (fun h=>?_)
 ·have h:¬d9 o=0:=h
  refine ac<|aa<|rn 3 [2,3] rfl<|ae<|aq (ai ?_)
  refine bt Tryz.results29 (an rfl) (an rfl) ?_
  intro w hw
  exact⟨by unfold uO;rw[if_neg h],hw.below⟩
 have h:d9 o=0:=h
 refine ar (am ?_)
 refine ac<|aa<|rn 1 [10] rfl<|af (aj fc au rfl rfl (by rfl)) rfl rfl ?_
 refine ag (aY rfl rfl rfl Tryz.call86 (fun w hw=>sA o.c w)) rfl rfl (fun _ _=>?_)
 refine rn 2 [2,3] rfl<|ae<|aq<|bt Tryz.results29 (an rfl) (an rfl) ?_
 intro w hw
 exact⟨by unfold uO;rw[if_pos h,h],hw.below⟩
def oG (fs:List aA) (m:aG) (k:Int):aG×Int:=if fX m then (m,k) else if k<eu (cJ fs m).c then (m,k) else (dF fs m,k - eu (cJ fs m).c)
def nW (fs:List aA) (m:aG) (k:Int):Prop:= ¬fX m∧eu (cJ fs m).c≤k∧(dF fs m).status=0
instance (fs:List aA) (m:aG) (k:Int):Decidable (nW fs m k):=by unfold nW;infer_instance
theorem rc {fs:List aA} {m:aG} {k:Int} (h:fX m):oG fs m k=(m,k):=if_pos h
theorem vI {fs:List aA} {m:aG} {k:Int} (h:¬fX m) (h2:k<eu (cJ fs m).c):oG fs m k=(m,k):=(if_neg h).trans (if_pos h2)
theorem ra {fs:List aA} {m:aG} {k:Int} (h:¬fX m) (h2:¬k<eu (cJ fs m).c):oG fs m k=(dF fs m,k - eu (cJ fs m).c):=(if_neg h).trans (if_neg h2)
theorem xO (fs:List aA) (m:aG) (k:Int):jP fs m k=if nW fs m k then jP fs (oG fs m k).1 (oG fs m k).2 else oG fs m k:=by
 rw[xQ]
 by_cases h1:fX m
 ·rw[if_pos h1,if_neg (show¬nW fs m k from fun h=>h.1 h1),rc h1]
 rw[if_neg h1]
 by_cases h2:k<eu (cJ fs m).c
 ·rw[if_pos h2,if_neg (show¬nW fs m k from fun h=>by have:=h.2.1;omega),vI h1 h2]
 rw[if_neg h2,ra h1 h2]
 by_cases h3:(dF fs m).status=0
 ·rw[if_pos h3,if_pos (show nW fs m k from⟨h1,by omega,h3⟩)]
 rw[if_neg h3,if_neg (show¬nW fs m k from fun h=>h3 h.2.2)]
section
variable {B:Nat} {w0:World} {H:List a7}
set_option maxRecDepth 100000 in
set_option maxHeartbeats 4000000 in
theorem z8 (gd:Nat) (a:MA) (m:aG) (k:Int) (Ap:Option Addr) (cp:Nat) (fs:List aA) (hs:bW w0 B (.slice Ap fs.length cp) fs) (hF:fp fs) (hR:du fs m) (hk:0≤k∧k≤10000) (p:aG×Int) (hpe:oG fs m k=p) (w:World)
  (hw:Cw B w0 (ak gd [.slice a.Af m.frames.length a.cf,.slice a.Ab m.blocks.length a.cb,.slice a.Ai m.inn.length a.ci,.slice a.Ao m.out.length a.co,.int .i64 m.status,.int .i64 m.trap,.int .i64 k] 166::ap (.slice a.Af m.frames.length a.cf) m.frames::ap (.slice a.Ab m.blocks.length a.cb) m.blocks::ap (.slice a.Ai m.inn.length a.ci) m.inn::ap (.slice a.Ao m.out.length a.co) m.out::H) w) :
  Calls Tryz.prog 119 #[.pointer (some ⟨gd,0,none⟩),.agg #[.slice Ap fs.length cp]] w fun e w'=> ∃g:MA,True∧e= .returned (.bool (decide (nW fs m k)))∧
   Cw B w0 (ak gd [.slice g.Af p.1.frames.length g.cf,.slice g.Ab p.1.blocks.length g.cb,.slice g.Ai p.1.inn.length g.ci,.slice g.Ao p.1.out.length g.co,.int .i64 p.1.status,.int .i64 p.1.trap,.int .i64 p.2] 166::ap (.slice g.Af p.1.frames.length g.cf) p.1.frames::ap (.slice g.Ab p.1.blocks.length g.cb) p.1.blocks::ap (.slice g.Ai p.1.inn.length g.ci) p.1.inn::ap (.slice g.Ao p.1.out.length g.co) p.1.out::H) w':=by
 have hp:=jw (cJ fs m).c
 have hst:=hR.st
 have hst2:be m.status:=⟨by omega,by omega⟩
 have htr2:be m.trap:=by
  rcases Decidable.em (m.status=3) with h3 | h3
  ·have:=hR.t3 h3;exact⟨by omega,by omega⟩
  have:=hR.t0 h3;exact⟨by omega,by omega⟩
 refine bS Tryz.func119 rfl Tryz.ntmps119 rfl hw ?_
 refine ac<|aa<|ag (bH rfl rfl rfl) rfl rfl (fun g1 _=>?_)
 refine rn 1 [0,3] rfl<|ae<|ac<|ac<|aa<|rn 4 [0,3,9] rfl<|af (aj fc bP rfl rfl (by rfl)) rfl rfl ?_
 refine af (aM aP rfl rfl) rfl rfl<|rn 2 [0,3,13] rfl<|bM (t:=13) rfl (fun q1=>?_) (fun q1=>?_)
 ·have hh:fX m:= .inl (List.eq_nil_of_length_eq_zero (by have:=of_decide_eq_true q1;omega))
  have e:p=(m,k):=by rw[←hpe,rc hh]
  subst e
  refine rn 7 [0,3,20] rfl<|ae<|bA rfl<|ac<|aa<|rn 1 [4] rfl<|ae<|aq (ai ?_)
  refine av wQ (an rfl) ?_
  intro w hw
  exact⟨a,trivial,bE (decide_eq_false (fun h=>h.1 hh)).symm,hw.msub ms⟩
 have hne:m.frames≠[]:=fun e=>by have:=of_decide_eq_false q1;rw[e] at this;simp at this
 refine rn 4 [0,3,13,17] rfl<|af (aj fc au rfl rfl (by rfl)) rfl rfl ?_
 refine rn 2 [0,3,20] rfl<|ae<|aw rfl (fun q2=>?_) (fun q2=>?_)
 ·have hh:fX m:= .inr q2
  have e:p=(m,k):=by rw[←hpe,rc hh]
  subst e
  refine ac<|aa<|rn 1 [4] rfl<|ae<|aq (ai ?_)
  refine av wQ (an rfl) ?_
  intro w hw
  exact⟨a,trivial,bE (decide_eq_false (fun h=>h.1 hh)).symm,hw.msub ms⟩
 have q2:¬m.status=3:=q2
 have hh:¬fX m:=fun h=>h.elim hne q2
 have hst3:¬(m.status=2∨m.status=3):=(not_congr (Db hR)).1 hh
 obtain⟨c,hc⟩:∃c,eu (cJ fs m).c=c:=⟨_,rfl⟩
 refine ar (am ?_)
 refine ac<|cD (.still 0 (.still 1 (.still 2 (.still 3 (.still 4 (.pick 5 (.still 6 (.pick 7 (.still 8 .done) .stop)) .stop)))))) [] rfl (by kernel_rfl) (by kernel_rfl) ?_
 refine ax rfl (aN (vs:= [_]) fc bQ bB rfl rfl (by rfl) rfl) rfl rfl ha ?_
 refine aU ha 3 [0,3,21,24] rfl<|ax rfl (aN (vs:= [_,_,_,_,_,_]) fc aT ay rfl rfl (by rfl) rfl) rfl rfl ha ?_
 refine aK rfl (aY rfl rfl rfl Tryz.call154 (fun w hw=>CT Ap cp fs a m w (hw.ro hs) (dz hw fc fc fc fc rfl rfl rfl rfl hst2 htr2) hF hR hne)) rfl rfl (.inr fun _=>ha) (fun _ _=>?_) aE
 refine ax rfl (iD (Ga _ _) rfl rfl) rfl rfl ha ?_
 refine aK rfl (aY rfl rfl rfl Tryz.call86 (fun w hw=>sA _ w)) rfl rfl (.inr fun _=>ha) (fun _ _=>?_) aE
 refine aU ha 1 [0,3,5] rfl<|cT<|ac<|ac<|aa<|rn 4 [0,3,5,29,32] rfl<|af (aj fc au rfl rfl (by rfl)) rfl rfl ?_
 refine rn 1 [0,3,5,34] rfl<|ae ?_
 rw[hc] at hp
 rw[hc]
 have hc3:=Ft (cJ fs m).c
 refine aw rfl (fun q3=>?_) (fun q3=>?_)
 ·have q3:k<c:=q3
  have e:p=(m,k):=by rw[←hpe,vI hh (by rw[hc];exact q3)]
  subst e
  refine ac<|aa<|rn 1 [4] rfl<|ae<|aq (ai ?_)
  refine av wQ (an rfl) ?_
  intro w hw
  exact⟨a,trivial,bE (decide_eq_false (fun h=>by have:=h.2.1;omega)).symm,hw.msub ms⟩
 have q3:¬k<c:=q3
 obtain⟨m2,hm2⟩:∃m2,dF fs m=m2:=⟨_,rfl⟩
 have e:p=(m2,k - c):=by rw[←hpe,ra hh (by rw[hc];exact q3),hm2,hc]
 subst e
 have hon:nW fs m k↔m2.status=0:=by
  unfold nW
  rw[hm2,hc]
  exact⟨fun h=>h.2.2,fun h=>⟨hh,by omega,h⟩⟩
 refine ar (am ?_)
 refine ac<|aa<|rn 3 [0,3,5,35,37] rfl<|af (aj fc au rfl rfl (by rfl)) rfl rfl ?_
 refine rn 1 [0,3,35,38,39] rfl<|af (cH rfl rfl rfl (by omega)) rfl rfl<|rn 2 [0,3,40,42] rfl<|ag (aJ _ fc aF rfl rfl rfl rfl rfl (by rfl) rfl (by rfl)) rfl rfl (fun _ _=>?_)
 refine ae<|ac<|cD (.still 0 (.still 1 (.still 2 (.still 3 (.still 4 (.still 5 (.pick 6 (.still 7 (.still 8 (.pick 9 .done .stop))) .stop))))))) [9] rfl (by kernel_rfl) (by kernel_rfl) ?_
 refine aU ha 1 [0,3,43] rfl<|ax rfl (aN (vs:= [_]) fc bQ bB rfl rfl (by rfl) rfl) rfl rfl ha ?_
 refine aU ha 3 [0,43,44,47] rfl<|ax rfl (aN (vs:= [_,_,_,_,_,_]) fc aT ay rfl rfl (by rfl) rfl) rfl rfl ha ?_
 refine aK rfl (cO rfl rfl rfl Tryz.call73 (fun w hw=>xT Ap cp fs a m m2 hm2 w (hw.ro hs) (dz hw fc fc fc fc rfl rfl rfl rfl hst2 htr2) (nZ hF hR) (fun hst=>tK hs hF hR hst))) rfl rfl (.inr fun _=>ha) (fun g5 _=>?_) aE
 refine aU ha 2 [0,49,51] rfl<|aK rfl (aJ _ fc ay rfl rfl rfl rfl rfl (by rfl) rfl (by rfl)) rfl rfl (.inl rfl) (fun _ _=>?_) aE
 refine cT<|ac<|aa<|rn 4 [55] rfl<|af (aj fc au rfl rfl (by rfl)) rfl rfl ?_
 refine rn 2 [4] rfl<|ae<|aq<|av wQ (an rfl) ?_
 intro w hw
 exact⟨g5,trivial,bE (decide_eq_decide.2 hon).symm,hw.msub ms⟩
end
end
section
theorem AT {fs:List aA} (_:fp fs) {m:aG} (_:du fs m) {k:Int} (hon:nW fs m k):oG fs m k=(dF fs m,k - eu (cJ fs m).c):=by
 exact ra hon.1 (by have:=hon.2.1;omega)
set_option maxRecDepth 100000 in
set_option maxHeartbeats 4000000 in
theorem CV (Ap:Option Addr) (cp:Nat) (fs:List aA) (a:MA) (m:aG) (k:Int) (r:aG×Int) (hr:jP fs m k=r) (w:World) (hs:Sl w (.slice Ap fs.length cp) fs) (hm:dQ w.heap.size w a m) (hF:fp fs) (hR:du fs m) (hk:0≤k∧k≤10000) :
  Calls Tryz.prog 84 #[.agg #[.slice Ap fs.length cp],.agg #[.slice a.Af m.frames.length a.cf,.slice a.Ab m.blocks.length a.cb,.slice a.Ai m.inn.length a.ci,.slice a.Ao m.out.length a.co,.int .i64 m.status,.int .i64 m.trap],.int .i64 k] w fun e w'=> ∃g:MA,True∧
   e= .returned (.tuple #[.agg #[.slice g.Af r.1.frames.length g.cf,.slice g.Ab r.1.blocks.length g.cb,.slice g.Ai r.1.inn.length g.ci,.slice g.Ao r.1.out.length g.co,.int .i64 r.1.status,.int .i64 r.1.trap],.int .i64 r.2])∧Cw w.heap.size w [ap (.slice g.Af r.1.frames.length g.cf) r.1.frames,ap (.slice g.Ab r.1.blocks.length g.cb) r.1.blocks,ap (.slice g.Ai r.1.inn.length g.ci) r.1.inn,ap (.slice g.Ao r.1.out.length g.co) r.1.out] w':=by
 refine enter Tryz.func84 rfl Tryz.ntmps84 rfl ?_
 refine ac<|aa<|ag (bH rfl rfl rfl) rfl rfl (fun g1 _=>?_)
 refine ag (bH rfl rfl rfl) rfl rfl (fun g2 _=>?_)
 refine ag (aS aR rfl rfl) rfl rfl (fun g3 _=>?_)
 refine rn 1 [2,3,4,6] rfl<|ae<|ac<|aa<|af (aN (vs:= [_,_,_,_,_,_]) fc aT ay rfl rfl (by rfl) rfl) rfl rfl ?_
 refine ag (cO rfl rfl rfl rB (fun w hw=>lj a m w (dQ.ro hw hm) (nZ hF hR))) rfl rfl (fun g0 _=>?_)
 refine rn 1 [3,6,10,11] rfl<|af (bN (cs:= [_,_,_,_,_,_,_]) FW Tryz.zeroValue166 rfl rfl (by rfl)) rfl rfl ?_
 refine ag (bH rfl rfl rfl) rfl rfl (fun g4 _=>?_)
 refine rn 1 [3,6,8] rfl<|ae<|ac<|aB (bI (fun g:(aG×Int)×MA=>(du fs g.1.1∧0≤g.1.2∧g.1.2≤10000)∧jP fs g.1.1 g.1.2=r) (fun g=>g.1.2.toNat) (fun _=> [(3,.pointer (some ⟨g1,0,none⟩)),(6,.pointer (some ⟨g3,0,none⟩)),(8,.pointer (some ⟨g4,0,none⟩))]) (fun g=> [ak g4 [.slice g.2.Af g.1.1.frames.length g.2.cf,.slice g.2.Ab g.1.1.blocks.length g.2.cb,.slice g.2.Ai g.1.1.inn.length g.2.ci,.slice g.2.Ao g.1.1.out.length g.2.co,.int .i64 g.1.1.status,.int .i64 g.1.1.trap,.int .i64 g.1.2] 166,ap (.slice g.2.Af g.1.1.frames.length g.2.cf) g.1.1.frames,ap (.slice g.2.Ab g.1.1.blocks.length g.2.cb) g.1.1.blocks,ap (.slice g.2.Ai g.1.1.inn.length g.2.ci) g.1.1.inn,ap (.slice g.2.Ao g.1.1.out.length g.2.co) g.1.1.out,ak g1 [.slice Ap fs.length cp] 24,ak g3 [.slice none 0 0,.slice none 0 0,.slice none 0 0,.slice none 0 0,.int .i64 0,.int .i64 0] 29]) ((m,k),g0) (⟨⟨hR,hk⟩,hr⟩) ⟨rfl,rfl,rfl,trivial⟩ me ?_)
 rintro⟨⟨q,z⟩,g⟩ hq
 try dsimp only
 obtain⟨⟨hRq,hz⟩,hrq⟩:(du fs q∧0≤z∧z≤10000)∧jP fs q z=r:=hq
 obtain⟨p,hpe⟩:∃p,oG fs q z=p:=⟨_,rfl⟩
 refine ac<|ac<|aa<|rn 1 [3,6,8,14] rfl<|af (aN (vs:= [_]) fc bQ bB rfl rfl (by rfl) rfl) rfl rfl ?_
 refine ag (bg rfl rfl rfl Tryz.call119 (fun w hw=>z8 g4 g q z Ap cp fs hs hF hRq hz p hpe w (hw.msub (.s fc (.s fc (.s fc (.s fc (.s fc .r)))))))) rfl rfl (fun g5 _=>?_)
 refine ae<|aw rfl (fun hon=>?_) (fun hon=>?_)
 ·have hon:nW fs q z:=hon
  have e1:=(AT hF hRq hon).symm.trans hpe
  have hp:=jw (cJ fs q).c
  have h2:=hon.2.1
  refine ar (am ?_)
  refine aB<|ar (aH ?_)
  refine mv (p,g5) (by rw[←e1];exact⟨⟨kH hF hRq,by show 0≤z - _;omega,by show z - _≤_;omega⟩,by show jP fs (dF fs q) _=r;rw[←hrq,xO fs q z,if_pos hon,hpe,←e1]⟩) (by rw[←e1];show (z - _).toNat<z.toNat;omega) ⟨rfl,rfl,rfl,trivial⟩ me
 have hon:¬nW fs q z:=hon
 have e1:p=r:=by rw[←hrq,xO fs q z,if_neg hon,hpe]
 subst e1
 refine bz (aD (aD (bO (am ?_))))
 refine ac<|fL (.still 0 (.still 1 (.still 2 (.still 3 (.still 4 (.still 5 (.still 6 (.still 7 (.pick 8 (.still 9 .done) .stop))))))))) [] rfl (by kernel_rfl) (by kernel_rfl) [ak g4 [.slice g5.Af p.1.frames.length g5.cf,.slice g5.Ab p.1.blocks.length g5.cb,.slice g5.Ai p.1.inn.length g5.ci,.slice g5.Ao p.1.out.length g5.co,.int .i64 p.1.status,.int .i64 p.1.trap,.int .i64 p.2] 166] ?_
 refine aU ha 3 [6,8,19] rfl<|ax rfl (aN (vs:= [_,_,_,_,_,_]) fc aT ay rfl rfl (by rfl) rfl) rfl rfl ha ?_
 refine aU ha 3 [6,20,23] rfl<|ax rfl (aj fc au rfl rfl (by rfl)) rfl rfl ha ?_
 refine aK rfl (aJ _ fc ay rfl rfl rfl rfl rfl (by rfl) rfl (by rfl)) rfl rfl (.inr fun _=>ha) (fun _ _=>?_) aE
 refine aU ha 1 [6,7] rfl<|cT<|aq<|bt Tryz.results84 (dH (cs:= [_,_,_,_,_,_]) fc aT ay rfl) (an rfl) ?_
 intro w hw
 exact⟨g5,trivial,rfl,hw.msub ms⟩
def kJ (fs:List aA) (m:aG) (k:Int):Int:=if cQ fs m≠0 then cQ fs m else if k<0∨10000<k then 3 else 0
def po (fs:List aA) (m:aG) (k:Int):aG×Int:=if kJ fs m k=0 then jP fs m k else (default,0)
set_option maxRecDepth 100000 in
set_option maxHeartbeats 4000000 in
theorem oJ (Ap:Option Addr) (cp:Nat) (fs:List aA) (a:MA) (m:aG) (k:Int) (r:aG×Int) (hr:po fs m k=r) (w:World) (hs:Sl w (.slice Ap fs.length cp) fs) (hm:dQ w.heap.size w a m) (hfit:gz m.frames) :
  Calls Tryz.prog 28 #[.agg #[.slice Ap fs.length cp],.agg #[.slice a.Af m.frames.length a.cf,.slice a.Ab m.blocks.length a.cb,.slice a.Ai m.inn.length a.ci,.slice a.Ao m.out.length a.co,.int .i64 m.status,.int .i64 m.trap],.int .i64 k] w fun e w'=> ∃g:MA,True∧
   e= .returned (.tuple #[.agg #[.slice g.Af r.1.frames.length g.cf,.slice g.Ab r.1.blocks.length g.cb,.slice g.Ai r.1.inn.length g.ci,.slice g.Ao r.1.out.length g.co,.int .i64 r.1.status,.int .i64 r.1.trap],.int .i64 r.2,.int .i64 (kJ fs m k)])∧Cw w.heap.size w [ap (.slice g.Af r.1.frames.length g.cf) r.1.frames,ap (.slice g.Ab r.1.blocks.length g.cb) r.1.blocks,ap (.slice g.Ai r.1.inn.length g.ci) r.1.inn,ap (.slice g.Ao r.1.out.length g.co) r.1.out] w':=by
 refine enter Tryz.func28 rfl Tryz.ntmps28 rfl ?_
 refine ac<|aa<|ag (bH rfl rfl rfl) rfl rfl (fun g1 _=>?_)
 refine ag (bH rfl rfl rfl) rfl rfl (fun g2 _=>?_)
 refine ag (aS aR rfl rfl) rfl rfl (fun g3 _=>?_)
 refine rn 2 [2,3,4,6] rfl<|ae<|ac<|aa<|af (aN (vs:= [_]) fc bQ bB rfl rfl (by rfl) rfl) rfl rfl ?_
 refine af (aN (vs:= [_,_,_,_,_,_]) fc aT ay rfl rfl (by rfl) rfl) rfl rfl ?_
 refine ag (aY rfl rfl rfl uo (fun w hw=>jI Ap cp fs a m w (hw.ro hs) (dQ.ro hw hm) hfit)) rfl rfl (fun _ _=>?_)
 refine rn 1 [2,3,4,6,9] rfl<|ae<|ac<|ac<|aa<|rn 3 [2,3,4,6,9,17] rfl ?_
 unfold po at hr
 by_cases hE:cQ fs m=0
 ·obtain⟨hF,hR⟩:=kz hE
  have hE2:kJ fs m k=if k<0∨10000<k then 3 else 0:=by unfold kJ;rw[if_neg (fun h=>h hE)]
  rw[hE]
  refine bV (t:=17) (v':= .bool true) rfl (rfl) ?_
  refine rn 3 [2,3,4,6,9,17,20] rfl ?_
  by_cases hb0:k<0
  ·have hE3:kJ fs m k=3:=by rw[hE2,if_pos (.inl hb0)]
   rw[hE3,if_neg (by decide)] at hr
   subst hr
   rw[hE3]
   refine bV (t:=20) (v':= .bool true) rfl (congrArg Value.bool (decide_eq_true hb0)) ?_
   refine rn 4 [2,3,4,6,9,24] rfl<|ae<|bA rfl<|aa<|rn 1 [2,3,4,6,9] rfl<|ae<|ac<|ac<|aa<|rn 2 [2,3,4,6,9,26] rfl<|ae<|cN (t:=26) (v':= .bool true) rfl (rfl) ?_
   refine bA rfl<|ac<|aa<|af (bN (cs:= [_,_,_,_,_,_]) ij aR rfl rfl (by rfl)) rfl rfl ?_
   refine rn 1 [6,27,28] rfl<|ag (aJ _ fc ay rfl rfl rfl rfl rfl (by rfl) rfl (by rfl)) rfl rfl (fun _ _=>?_)
   refine rn 2 [6,7,8] rfl<|ae<|aq (ai ?_)
   refine p4 zJ (dH (cs:= [_,_,_,_,_,_]) fc aT ay rfl) (an rfl) (an rfl) ?_
   intro w hw
   exact⟨⟨none,0,none,0,none,0,none,0⟩,trivial,rfl,(gJ hw).msub ms⟩
  refine bV (t:=20) (v':= .bool false) rfl (congrArg Value.bool (decide_eq_false hb0)) ?_
  refine rn 4 [2,3,4,6,9,24] rfl<|ae ?_
  by_cases hb1:10000<k
  ·have hE3:kJ fs m k=3:=by rw[hE2,if_pos (.inr hb1)]
   rw[hE3,if_neg (by decide)] at hr
   subst hr
   rw[hE3]
   refine cN (t:=24) (v':= .bool true) rfl (congrArg Value.bool (decide_eq_true hb1)) ?_
   refine bA rfl<|aa<|rn 1 [2,3,4,6,9] rfl<|ae<|ac<|ac<|aa<|rn 2 [2,3,4,6,9,26] rfl<|ae<|cN (t:=26) (v':= .bool true) rfl (rfl) ?_
   refine bA rfl<|ac<|aa<|af (bN (cs:= [_,_,_,_,_,_]) ij aR rfl rfl (by rfl)) rfl rfl ?_
   refine rn 1 [6,27,28] rfl<|ag (aJ _ fc ay rfl rfl rfl rfl rfl (by rfl) rfl (by rfl)) rfl rfl (fun _ _=>?_)
   refine rn 2 [6,7,8] rfl<|ae<|aq (ai ?_)
   refine p4 zJ (dH (cs:= [_,_,_,_,_,_]) fc aT ay rfl) (an rfl) (an rfl) ?_
   intro w hw
   exact⟨⟨none,0,none,0,none,0,none,0⟩,trivial,rfl,(gJ hw).msub ms⟩
  have hE3:kJ fs m k=0:=by rw[hE2,if_neg (by omega)]
  rw[hE3,if_pos rfl] at hr
  rw[hE3]
  refine cN (t:=24) (v':= .bool false) rfl (congrArg Value.bool (decide_eq_false hb1)) ?_
  refine bZ rfl<|ar (am ?_)
  refine ac<|ac<|aa<|rn 2 [2,3,4,6,9,26] rfl<|ae<|cN (t:=26) (v':= .bool false) rfl (rfl) ?_
  refine bZ rfl<|ar (am ?_)
  refine ac<|aa<|af (aN (vs:= [_]) fc bQ bB rfl rfl (by rfl) rfl) rfl rfl ?_
  refine af (aN (vs:= [_,_,_,_,_,_]) fc aT ay rfl rfl (by rfl) rfl) rfl rfl ?_
  refine rn 1 [6,30,31,32] rfl<|ag (cO rfl rfl rfl Tryz.call84 (fun w hw=>CV Ap cp fs a m k r hr w (hw.ro hs) (dQ.ro hw hm) hF hR (by omega))) rfl rfl (fun g _=>?_)
  refine rn 3 [6,34,35] rfl<|ag (aS aR rfl rfl) rfl rfl (fun g4 _=>?_)
  refine ag (aJ _ fc ay rfl rfl rfl rfl rfl (by rfl) rfl (by rfl)) rfl rfl (fun _ _=>?_)
  refine rn 1 [6,10,11] rfl<|ae<|ac<|aa<|af (aN (vs:= [_,_,_,_,_,_]) fc aT ay rfl rfl (by rfl) rfl) rfl rfl ?_
  refine rn 1 [6,36,37] rfl<|ag (aJ _ fc ay rfl rfl rfl rfl rfl (by rfl) rfl (by rfl)) rfl rfl (fun _ _=>?_)
  refine rn 2 [6,7,8] rfl<|ae<|aq<|p4 zJ (dH (cs:= [_,_,_,_,_,_]) fc aT ay rfl) (an rfl) (an rfl) ?_
  intro w hw
  exact⟨g,trivial,rfl,hw.msub ms⟩
 have hE3:kJ fs m k=cQ fs m:=by unfold kJ;rw[if_pos hE]
 rw[hE3,if_neg hE] at hr
 subst hr
 rw[hE3]
 refine bV (t:=17) (v':= .bool false) rfl (congrArg Value.bool (decide_eq_false hE)) ?_
 refine rn 7 [2,3,4,6,9,24] rfl<|ae<|bZ rfl<|ar (am ?_)
 refine ac<|ac<|aa<|rn 2 [2,3,4,6,9,26] rfl<|ae<|cN (t:=26) (v':= .bool true) rfl (congrArg Value.bool (by simp[hE])) ?_
 refine bA rfl<|ac<|aa<|af (bN (cs:= [_,_,_,_,_,_]) ij aR rfl rfl (by rfl)) rfl rfl ?_
 refine rn 1 [6,27,28] rfl<|ag (aJ _ fc ay rfl rfl rfl rfl rfl (by rfl) rfl (by rfl)) rfl rfl (fun _ _=>?_)
 refine rn 2 [6,7,8] rfl<|ae<|aq (ai ?_)
 refine p4 zJ (dH (cs:= [_,_,_,_,_,_]) fc aT ay rfl) (an rfl) (an rfl) ?_
 intro w hw
 exact⟨⟨none,0,none,0,none,0,none,0⟩,trivial,rfl,(gJ hw).msub ms⟩
end
section
def r4:aG:=⟨[],[],[],[3,2,1],2,0⟩
def vM:aG:=⟨[⟨0,5,[],[⟨false,2⟩]⟩],[],[],[3],0,0⟩
set_option maxRecDepth 100000 in
theorem jd:kJ fw gE 100=0∧po fw gE 100=(r4,77)∧kJ fw gE 5=0∧po fw gE 5=(vM,0)∧d9 ⟨14,0⟩=0∧uO ⟨14,0⟩=3:=by
 refine⟨?_,?_,?_,?_,?_,?_⟩ <;> kernel_rfl
theorem oW (A:Option Addr) (c:Nat) (a:MA) (w:World) (hs:Sl w (.slice A 1 c) fw) (hm:dQ w.heap.size w a gE) :
  Calls Tryz.prog 28 #[.agg #[.slice A 1 c],.agg #[.slice a.Af 1 a.cf,.slice a.Ab 0 a.cb,.slice a.Ai 0 a.ci,.slice a.Ao 0 a.co,.int .i64 0,.int .i64 0],.int .i64 100] w fun e w'=> ∃g:MA,True∧
   e= .returned (.tuple #[.agg #[.slice g.Af 0 g.cf,.slice g.Ab 0 g.cb,.slice g.Ai 0 g.ci,.slice g.Ao 3 g.co,.int .i64 2,.int .i64 0],.int .i64 77,.int .i64 0])∧Cw w.heap.size w [ap (.slice g.Af 0 g.cf) r4.frames,ap (.slice g.Ab 0 g.cb) r4.blocks,ap (.slice g.Ai 0 g.ci) r4.inn,ap (.slice g.Ao 3 g.co) r4.out] w':=by
 have:=oJ A c fw a gE 100 _ jd.2.1 w hs hm qq
 rw[jd.1] at this
 exact this
theorem oV (A:Option Addr) (c:Nat) (a:MA) (w:World) (hs:Sl w (.slice A 1 c) fw) (hm:dQ w.heap.size w a gE) :
  Calls Tryz.prog 28 #[.agg #[.slice A 1 c],.agg #[.slice a.Af 1 a.cf,.slice a.Ab 0 a.cb,.slice a.Ai 0 a.ci,.slice a.Ao 0 a.co,.int .i64 0,.int .i64 0],.int .i64 5] w fun e w'=> ∃g:MA,True∧
   e= .returned (.tuple #[.agg #[.slice g.Af 1 g.cf,.slice g.Ab 0 g.cb,.slice g.Ai 0 g.ci,.slice g.Ao 1 g.co,.int .i64 0,.int .i64 0],.int .i64 0,.int .i64 0])∧Cw w.heap.size w [ap (.slice g.Af 1 g.cf) vM.frames,ap (.slice g.Ab 0 g.cb) vM.blocks,ap (.slice g.Ai 0 g.ci) vM.inn,ap (.slice g.Ao 1 g.co) vM.out] w':=by
 have:=oJ A c fw a gE 5 _ jd.2.2.2.1 w hs hm qq
 rw[jd.2.2.1] at this
 exact this
theorem zt (w:World):Calls Tryz.prog 29 #[.agg #[.int .i64 14,.int .i64 0]] w fun e w'=>e= .returned (.tuple #[.int .i64 3,.int .i64 0])∧Below w.heap.size w w':=by
 have:=DB ⟨14,0⟩ w
 rw[jd.2.2.2.2.1,jd.2.2.2.2.2] at this
 exact this
set_option maxRecDepth 100000 in
set_option maxHeartbeats 4000000 in
theorem tw (w:World):Calls Tryz.prog 33 #[] w fun e w'=>e= .returned (.bool true)∧Below w.heap.size w w':=by
 obtain⟨f1,f2,f3,f4,f5,f6,f7,f8,f9⟩:=r9
 refine enter Tryz.func33 rfl Tryz.ntmps33 rfl ?_
 refine ac<|aa<|rn 1 [] rfl<|ae<|ac<|aa<|ag (cO rfl rfl rfl lT (fun w hw=>fZ w)) rfl rfl (fun gp _=>?_)
 refine ag (cO rfl rfl rfl GT (fun w hw=>ny f1 f2 rfl _ _ w (SF.at_ (SF.own rfl fc) hw))) rfl rfl (fun a1 _=>?_)
 refine rn 3 [14,15] rfl<|ag (aS aR rfl rfl) rfl rfl (fun g1 _=>?_)
 refine ag (aJ _ fc ay rfl rfl rfl rfl rfl (by rfl) rfl (by rfl)) rfl rfl (fun _ _=>?_)
 refine rn 1 [1] rfl<|ae<|eb (fun _:Nat×MA=>True) (fun g=> [(1,.pointer (some ⟨g1,0,none⟩)),(3,.pointer (some ⟨g.1,0,none⟩)),(4,.int .i64 77),(5,.int .i64 0)]) (fun g=> [ak g.1 [.slice g.2.Af 0 g.2.cf,.slice g.2.Ab 0 g.2.cb,.slice g.2.Ai 0 g.2.ci,.slice g.2.Ao 3 g.2.co,.int .i64 2,.int .i64 0] 29,ap (.slice g.2.Ao 3 g.2.co) r4.out,ak g1 [.slice a1.Af 1 a1.cf,.slice a1.Ab 0 a1.cb,.slice a1.Ai 0 a1.ci,.slice a1.Ao 0 a1.co,.int .i64 0,.int .i64 0] 29,ap (.slice a1.Af 1 a1.cf) gE.frames,ap (.slice a1.Ab 0 a1.cb) gE.blocks,ap (.slice a1.Ai 0 a1.ci) gE.inn,ap (.slice a1.Ao 0 a1.co) gE.out]) ?_ ?_
 ·refine cD (.still 1 (.pick 0 (.pick 2 (.calm 3 (.calm 4 (.calm 5 (.calm 6 (.pick 7 (.pick 8 (.calm 9 (.calm 10 .done)) .stop) .stop))))) (.pick 7 (.pick 2 (.calm 3 (.calm 4 (.calm 5 (.calm 6 (.pick 8 (.calm 9 (.calm 10 .done)) .stop))))) .stop) .stop)) (.pick 7 (.pick 0 (.pick 2 (.calm 3 (.calm 4 (.calm 5 (.calm 6 (.pick 8 (.calm 9 (.calm 10 .done)) .stop))))) .stop) .stop) .stop))) [2,3,4,5,6,8,9,10] rfl (by kernel_rfl) (by kernel_rfl) ?_
  refine ax rfl (aN (vs:= [_,_,_,_,_,_]) fc aT ay rfl rfl (by rfl) rfl) rfl rfl ha ?_
  refine aK rfl (cO rfl rfl rfl lT (fun w hw=>fZ w)) rfl rfl (.inr fun _=>ha) (fun gq _=>?_) ?_
  ·refine aK rfl (cO rfl rfl rfl nF (fun w hw=>oW _ _ a1 w (SF.at_ (SF.own rfl fc) hw) (dz hw fc fc fc fc rfl rfl rfl rfl (by decide) (by decide)))) rfl rfl (.inl rfl) (fun a2 _=>?_) ?_
   ·refine gL 4 [1,20,21,22] rfl<|aK rfl (aS aR rfl rfl) rfl rfl (.inr fun _=>ha) (fun q _=>?_) aE
    refine aK rfl (aJ [_,_,_,_,_,_] fc ay rfl rfl rfl rfl rfl (by rfl) rfl (by rfl)) rfl rfl (.inl rfl) (fun _ _=>?_) aE
    refine gL 2 [1,3,4,5] rfl<|df<|bq (q,a2) (trivial) ⟨rfl,rfl,rfl,rfl,trivial⟩ (fun _ h=>h.msub ms)
   refine aK rfl (aS aR rfl rfl) rfl rfl (.inr fun _=>ha) (fun q _=>?_) aE
   refine aK rfl (cO rfl rfl rfl nF (fun w hw=>oW _ _ a1 w (SF.at_ (SF.own rfl fc) hw) (dz hw fc fc fc fc rfl rfl rfl rfl (by decide) (by decide)))) rfl rfl (.inl rfl) (fun a2 _=>?_) aE
   refine gL 4 [1,3,20,21,22] rfl<|aK rfl (aJ [_,_,_,_,_,_] fc ay rfl rfl rfl rfl rfl (by rfl) rfl (by rfl)) rfl rfl (.inl rfl) (fun _ _=>?_) aE
   refine gL 2 [1,3,4,5] rfl<|df<|bq (q,a2) (trivial) ⟨rfl,rfl,rfl,rfl,trivial⟩ (fun _ h=>h.msub ms)
  refine aK rfl (aS aR rfl rfl) rfl rfl (.inr fun _=>ha) (fun q _=>?_) aE
  refine aK rfl (cO rfl rfl rfl lT (fun w hw=>fZ w)) rfl rfl (.inr fun _=>ha) (fun gq _=>?_) aE
  refine aK rfl (cO rfl rfl rfl nF (fun w hw=>oW _ _ a1 w (SF.at_ (SF.own rfl fc) hw) (dz hw fc fc fc fc rfl rfl rfl rfl (by decide) (by decide)))) rfl rfl (.inl rfl) (fun a2 _=>?_) aE
  refine gL 4 [1,3,20,21,22] rfl<|aK rfl (aJ [_,_,_,_,_,_] fc ay rfl rfl rfl rfl rfl (by rfl) rfl (by rfl)) rfl rfl (.inl rfl) (fun _ _=>?_) aE
  refine gL 2 [1,3,4,5] rfl<|df<|bq (q,a2) (trivial) ⟨rfl,rfl,rfl,rfl,trivial⟩ (fun _ h=>h.msub ms)
 rintro⟨ga,a2⟩ _
 try dsimp only
 refine eb (fun _:Nat×MA=>True) (fun g=> [(3,.pointer (some ⟨ga,0,none⟩)),(4,.int .i64 77),(5,.int .i64 0),(6,.pointer (some ⟨g.1,0,none⟩)),(7,.int .i64 0),(8,.int .i64 0)]) (fun g=> [ak g.1 [.slice g.2.Af 1 g.2.cf,.slice g.2.Ab 0 g.2.cb,.slice g.2.Ai 0 g.2.ci,.slice g.2.Ao 1 g.2.co,.int .i64 0,.int .i64 0] 29,ap (.slice g.2.Af 1 g.2.cf) vM.frames,ak ga [.slice a2.Af 0 a2.cf,.slice a2.Ab 0 a2.cb,.slice a2.Ai 0 a2.ci,.slice a2.Ao 3 a2.co,.int .i64 2,.int .i64 0] 29,ap (.slice a2.Ao 3 a2.co) r4.out]) ?_ ?_
 ·refine cD (.still 1 (.pick 0 (.pick 2 (.calm 3 (.calm 4 (.calm 5 (.calm 6 (.pick 7 (.pick 8 (.calm 9 (.calm 10 .done)) .stop) .stop))))) (.pick 7 (.pick 2 (.calm 3 (.calm 4 (.calm 5 (.calm 6 (.pick 8 (.calm 9 (.calm 10 .done)) .stop))))) .stop) .stop)) (.pick 7 (.pick 0 (.pick 2 (.calm 3 (.calm 4 (.calm 5 (.calm 6 (.pick 8 (.calm 9 (.calm 10 .done)) .stop))))) .stop) .stop) .stop))) [2,3,4,5,6,8,9,10] rfl (by kernel_rfl) (by kernel_rfl) ?_
  refine ax rfl (aN (vs:= [_,_,_,_,_,_]) fc aT ay rfl rfl (by rfl) rfl) rfl rfl ha ?_
  refine aK rfl (cO rfl rfl rfl lT (fun w hw=>fZ w)) rfl rfl (.inr fun _=>ha) (fun gq _=>?_) ?_
  ·refine aK rfl (cO rfl rfl rfl nF (fun w hw=>oV _ _ a1 w (SF.at_ (SF.own rfl fc) hw) (dz hw fc fc fc fc rfl rfl rfl rfl (by decide) (by decide)))) rfl rfl (.inl rfl) (fun a3 _=>?_) ?_
   ·refine gL 4 [3,4,5,27,28,29] rfl<|aK rfl (aS aR rfl rfl) rfl rfl (.inr fun _=>ha) (fun q _=>?_) aE
    refine aK rfl (aJ [_,_,_,_,_,_] fc ay rfl rfl rfl rfl rfl (by rfl) rfl (by rfl)) rfl rfl (.inl rfl) (fun _ _=>?_) aE
    refine gL 2 [3,4,5,6,7,8] rfl<|df<|bq (q,a3) (trivial) ⟨rfl,rfl,rfl,rfl,rfl,rfl,trivial⟩ (fun _ h=>h.msub ms)
   refine aK rfl (aS aR rfl rfl) rfl rfl (.inr fun _=>ha) (fun q _=>?_) aE
   refine aK rfl (cO rfl rfl rfl nF (fun w hw=>oV _ _ a1 w (SF.at_ (SF.own rfl fc) hw) (dz hw fc fc fc fc rfl rfl rfl rfl (by decide) (by decide)))) rfl rfl (.inl rfl) (fun a3 _=>?_) aE
   refine gL 4 [3,4,5,6,27,28,29] rfl<|aK rfl (aJ [_,_,_,_,_,_] fc ay rfl rfl rfl rfl rfl (by rfl) rfl (by rfl)) rfl rfl (.inl rfl) (fun _ _=>?_) aE
   refine gL 2 [3,4,5,6,7,8] rfl<|df<|bq (q,a3) (trivial) ⟨rfl,rfl,rfl,rfl,rfl,rfl,trivial⟩ (fun _ h=>h.msub ms)
  refine aK rfl (aS aR rfl rfl) rfl rfl (.inr fun _=>ha) (fun q _=>?_) aE
  refine aK rfl (cO rfl rfl rfl lT (fun w hw=>fZ w)) rfl rfl (.inr fun _=>ha) (fun gq _=>?_) aE
  refine aK rfl (cO rfl rfl rfl nF (fun w hw=>oV _ _ a1 w (SF.at_ (SF.own rfl fc) hw) (dz hw fc fc fc fc rfl rfl rfl rfl (by decide) (by decide)))) rfl rfl (.inl rfl) (fun a3 _=>?_) aE
  refine gL 4 [3,4,5,6,27,28,29] rfl<|aK rfl (aJ [_,_,_,_,_,_] fc ay rfl rfl rfl rfl rfl (by rfl) rfl (by rfl)) rfl rfl (.inl rfl) (fun _ _=>?_) aE
  refine gL 2 [3,4,5,6,7,8] rfl<|df<|bq (q,a3) (trivial) ⟨rfl,rfl,rfl,rfl,rfl,rfl,trivial⟩ (fun _ h=>h.msub ms)
 rintro⟨gb,a3⟩ _
 try dsimp only
 refine wd (k:=1) (c:=a3.cf) (A:=a3.Af) (fr:=vM.frames) rfl fc fun X hsX hX=>?_
 obtain⟨B1,d1,B2,d2,e1,hX1⟩:=hX.el 0 (by decide)
 refine ac<|aa<|af (bN (cs:= [_,_]) ew bL rfl rfl (by rfl)) rfl rfl ?_
 refine ag (aY rfl rfl rfl Tryz.call29 (fun w hw=>zt w)) rfl rfl (fun _ _=>?_)
 refine rn 5 [3,4,5,6,7,8,9,10] rfl<|ae<|ac<|aa<|rn 3 [3,4,6,7,8,9,10,37] rfl<|bV (t:=37) (v':= .bool true) rfl (rfl) ?_
 refine rn 4 [3,4,6,7,9,10,41] rfl<|bV (t:=41) (v':= .bool true) rfl (rfl) ?_
 refine rn 4 [3,4,6,7,9,45] rfl<|bV (t:=45) (v':= .bool true) rfl (rfl) ?_
 refine rn 1 [3,4,6,7,9,45,46] rfl<|af (aj fc au rfl rfl (by rfl)) rfl rfl ?_
 refine rn 3 [3,4,6,7,9,50] rfl<|bV (t:=50) (v':= .bool true) rfl (rfl) ?_
 refine rn 1 [4,6,7,9,50,51] rfl<|af (aj fc aW rfl rfl (by rfl)) rfl rfl ?_
 refine ag (bu (cs:= [_,_,_]) ah aF a6 rfl rfl rfl rfl rfl) rfl rfl (fun g2 _=>?_)
 refine fl (fun w h=>cE (α:=Int) (m:=3) [3,2,1] rfl (by intro x hx;simp at hx;rcases hx with rfl | rfl | rfl <;> (show be _;decide)) rfl (by decide) (h.msub (T:= [ak g2 _ _,ap (.slice a3.Af 1 a3.cf) hsX,X,ak gb [.slice a3.Af 1 a3.cf,.slice a3.Ab 0 a3.cb,.slice a3.Ai 0 a3.ci,.slice a3.Ao 1 a3.co,.int .i64 0,.int .i64 0] 29,ak ga [.slice a2.Af 0 a2.cf,.slice a2.Ab 0 a2.cb,.slice a2.Ai 0 a2.ci,.slice a2.Ao 3 a2.co,.int .i64 2,.int .i64 0] 29,ap (.slice a2.Ao 3 a2.co) r4.out]) ms)) ?_
 refine ag (aY rfl rfl rfl zL (fun w hw=>kI a2.Ao (some ⟨g2,0,none⟩) a2.co 3 [3,2,1] [3,2,1] w (SF.at_ (SF.own (A:=a2.Ao) (m:=3) (c:=a2.co) (xs:=r4.out) rfl fc) hw) (SF.at_ (SF.own (A:=some ⟨g2,0,none⟩) (m:=3) (c:=3) (xs:= [3,2,1]) rfl fc) hw))) rfl rfl (fun _ _=>?_)
 refine rn 2 [4,6,7,9,56] rfl<|bV (t:=56) (v':= .bool true) rfl (congrArg Value.bool (decide_eq_true rfl)) ?_
 refine rn 4 [6,7,9,60] rfl<|bV (t:=60) (v':= .bool true) rfl (rfl) ?_
 refine rn 1 [6,7,9,60,61] rfl<|af (aj fc au rfl rfl (by rfl)) rfl rfl ?_
 refine rn 3 [6,7,9,65] rfl<|bV (t:=65) (v':= .bool true) rfl (rfl) ?_
 refine rn 4 [6,9,69] rfl<|bV (t:=69) (v':= .bool true) rfl (rfl) ?_
 refine rn 1 [9,69,70] rfl<|af (aj fc bP rfl rfl (by rfl)) rfl rfl ?_
 refine af (aQ (k:=0) aP bn (SF.own (α:=aZ) hX.len fc) (by omega) rfl rfl rfl) rfl rfl ?_
 refine rn 1 [9,69,73] rfl<|af (a8 (fun w hw=>(SF.hfr (SF.own (α:=aZ) hX.len fc) (k:=0) (by decide) e1) w hw 1 _ rfl) rfl rfl au) rfl rfl ?_
 refine rn 3 [9,77] rfl<|bV (t:=77) (v':= .bool true) rfl (rfl) ?_
 refine rn 4 [0] rfl<|ae<|aq<|av Tryz.results33 (an rfl) ?_
 intro w hw
 exact⟨rfl,hw.below⟩
end
section
def eJ:List aA:= [⟨0,[2],0,[⟨1,2⟩,⟨14,0⟩,⟨2,0⟩,⟨1,1⟩,⟨14,0⟩,⟨9,0⟩,⟨8,0⟩,⟨1,0⟩,⟨15,0⟩,⟨20,0⟩,⟨13,0⟩]⟩]
def gt:aG:=⟨[⟨0,0,[⟨true,0⟩],[]⟩],[],[],[],0,0⟩
def DW:aG:=⟨[⟨0,6,[⟨true,2⟩],[]⟩],[[0,0],[0]],[],[],0,0⟩
def H7:aG:=⟨[⟨0,6,[⟨true,1⟩],[]⟩],[[0]],[],[],0,0⟩
set_option maxRecDepth 100000 in
theorem mb (w:World):Calls Tryz.prog 71 #[] w fun e w'=> ∃g:Nat,True∧e= .returned (.agg #[.slice (some ⟨g,0,none⟩) 1 1])∧Cw w.heap.size w [ap (.slice (some ⟨g,0,none⟩) 1 1) eJ] w':=by
 refine enter Tryz.func71 rfl Tryz.ntmps71 rfl ?_
 refine ac<|aa<|ag (aS lP rfl rfl) rfl rfl (fun g1 _=>?_)
 refine ae<|ac<|aa<|ag (bu (cs:= [_]) ah aF a6 rfl rfl rfl rfl rfl) rfl rfl (fun g2 _=>?_)
 refine af (bN (cs:= [_,_]) ew bL rfl rfl (by rfl)) rfl rfl ?_
 refine af (bN (cs:= [_,_]) ew bL rfl rfl (by rfl)) rfl rfl ?_
 refine af (bN (cs:= [_,_]) ew bL rfl rfl (by rfl)) rfl rfl ?_
 refine af (bN (cs:= [_,_]) ew bL rfl rfl (by rfl)) rfl rfl ?_
 refine af (bN (cs:= [_,_]) ew bL rfl rfl (by rfl)) rfl rfl ?_
 refine af (bN (cs:= [_,_]) ew bL rfl rfl (by rfl)) rfl rfl ?_
 refine af (bN (cs:= [_,_]) ew bL rfl rfl (by rfl)) rfl rfl ?_
 refine af (bN (cs:= [_,_]) ew bL rfl rfl (by rfl)) rfl rfl ?_
 refine af (bN (cs:= [_,_]) ew bL rfl rfl (by rfl)) rfl rfl ?_
 refine af (bN (cs:= [_,_]) ew bL rfl rfl (by rfl)) rfl rfl ?_
 refine af (bN (cs:= [_,_]) ew bL rfl rfl (by rfl)) rfl rfl ?_
 refine ag (bu (cs:= [_,_,_,_,_,_,_,_,_,_,_,_,_,_,_,_,_,_,_,_,_,_]) bw cG bL rfl rfl rfl rfl rfl) rfl rfl (fun g3 _=>?_)
 refine af (bN (cs:= [_,_,_,_]) rS dT rfl rfl (by rfl)) rfl rfl ?_
 refine ag (bu (cs:= [_,_,_,_]) bJ bD dT rfl rfl rfl rfl rfl) rfl rfl (fun g4 _=>?_)
 refine af (bN (cs:= [_]) yP lP rfl rfl (by rfl)) rfl rfl ?_
 refine ag (aJ _ fc bB rfl rfl rfl rfl rfl (by rfl) rfl (by rfl)) rfl rfl (fun _ _=>?_)
 refine ae<|aq<|av Tryz.results71 (dH (cs:= [_]) fc bQ bB rfl) ?_
 intro w hw
 refine⟨_,trivial,rfl,?_⟩
 have h:=cE (α:=cc) (m:=11) [⟨1,2⟩,⟨14,0⟩,⟨2,0⟩,⟨1,1⟩,⟨14,0⟩,⟨9,0⟩,⟨8,0⟩,⟨1,0⟩,⟨15,0⟩,⟨20,0⟩,⟨13,0⟩] rfl (show∀o∈[(⟨1,2⟩:cc),⟨14,0⟩,⟨2,0⟩,⟨1,1⟩,⟨14,0⟩,⟨9,0⟩,⟨8,0⟩,⟨1,0⟩,⟨15,0⟩,⟨20,0⟩,⟨13,0⟩],be o.c∧be o.a from by decide) rfl (by decide) (hw.msub (T:= [ak g3 _ _,ak g2 _ _,ak g4 _ _]) ms)
 have h:=cE (α:=Int) (m:=1) [2] rfl (gD (by decide)) rfl (by decide) (h.msub (T:= [ak g2 _ _,ap (.slice (some ⟨g3,0,none⟩) 11 11) _,ak g4 _ _]) ms)
 refine p8 (H:= []) (xs:=eJ) (mP.cons (Hel:= [ap (.slice (some ⟨g2,0,none⟩) 1 1) [(2:Int)],ap (.slice (some ⟨g3,0,none⟩) 11 11) [(⟨1,2⟩:cc),⟨14,0⟩,⟨2,0⟩,⟨1,1⟩,⟨14,0⟩,⟨9,0⟩,⟨8,0⟩,⟨1,0⟩,⟨15,0⟩,⟨20,0⟩,⟨13,0⟩]]) (cs:= [_,_,_,_]) (sj (f:=⟨0,[2],0,[⟨1,2⟩,⟨14,0⟩,⟨2,0⟩,⟨1,1⟩,⟨14,0⟩,⟨9,0⟩,⟨8,0⟩,⟨1,0⟩,⟨15,0⟩,⟨20,0⟩,⟨13,0⟩]⟩) (by decide)) mP.nil_) rfl (by decide) ?_
 exact h.msub (T:= [ak g4 _ _,ap (.slice (some ⟨g2,0,none⟩) 1 1) _,ap (.slice (some ⟨g3,0,none⟩) 11 11) _]) ms
set_option maxRecDepth 100000 in
theorem pE:dw eJ=0∧nJ eJ=gt∧kJ eJ gt 10=0∧po eJ gt 10=(DW,0)∧cQ eJ DW=0∧HT eJ DW=(H7,1)∧eM DW= [2]:=by
 refine⟨?_,?_,?_,?_,?_,?_,?_⟩ <;> kernel_rfl
def vk (fs:List aA) (m:aG):List Int:=if cQ fs m=0 then eM m else []
set_option maxRecDepth 100000 in
theorem Hu (Ap:Option Addr) (cp:Nat) (fs:List aA) (a:MA) (m:aG) (r:List Int) (hr:vk fs m=r) (w:World) (hs:Sl w (.slice Ap fs.length cp) fs) (hm:dQ w.heap.size w a m) (hfit:gz m.frames) :
  Calls Tryz.prog 34 #[.agg #[.slice Ap fs.length cp],.agg #[.slice a.Af m.frames.length a.cf,.slice a.Ab m.blocks.length a.cb,.slice a.Ai m.inn.length a.ci,.slice a.Ao m.out.length a.co,.int .i64 m.status,.int .i64 m.trap]] w fun e w'=> ∃q:Option Addr×Nat,True∧e= .returned (.tuple #[.slice q.1 r.length q.2,.int .i64 (cQ fs m)])∧Cw w.heap.size w [ap (.slice q.1 r.length q.2) r] w':=by
 refine enter Tryz.func34 rfl Tryz.ntmps34 rfl ?_
 refine ac<|aa<|ag (bH rfl rfl rfl) rfl rfl (fun g1 _=>?_)
 refine ag (bH rfl rfl rfl) rfl rfl (fun g2 _=>?_)
 refine rn 2 [2,3] rfl<|ae<|ac<|ac<|aa<|af (aN (vs:= [_]) fc bQ bB rfl rfl (by rfl) rfl) rfl rfl ?_
 refine af (aN (vs:= [_,_,_,_,_,_]) fc aT ay rfl rfl (by rfl) rfl) rfl rfl ?_
 refine ag (aY rfl rfl rfl uo (fun w hw=>jI Ap cp fs a m w (hw.ro hs) (dQ.ro hw hm) hfit)) rfl rfl (fun _ _=>?_)
 refine rn 1 [3,6] rfl<|ae<|ac<|aa<|rn 2 [3,6,11] rfl<|ae<|bY rfl (fun h=>?_) (fun h=>?_)
 ·have h:¬cQ fs m=0:=h
  have e:r= []:=by rw[←hr];unfold vk;rw[if_neg h]
  subst e
  refine ac<|aa<|rn 3 [4,5] rfl<|ae<|aq (ai ?_)
  refine bt Tryz.results34 (an rfl) (an rfl) ?_
  intro w hw
  exact⟨(none,0),trivial,rfl,(Cw.nilO Int hw).msub ms⟩
 have h:cQ fs m=0:=h
 obtain⟨hF,hR⟩:=kz h
 have e:r=eM m:=by rw[←hr];unfold vk;rw[if_pos h]
 subst e
 refine ar (am ?_)
 refine ac<|aa<|af (aN (vs:= [_,_,_,_,_,_]) fc aT ay rfl rfl (by rfl) rfl) rfl rfl ?_
 refine ag (cO rfl rfl rfl Tryz.call88 (fun w hw=>vq fs a m w (dQ.ro hw hm) hF hR)) rfl rfl (fun⟨R1,r1⟩ _=>?_)
 try dsimp only
 refine rn 2 [4,5] rfl<|ae<|aq<|bt Tryz.results34 (an rfl) (an rfl) ?_
 intro w hw
 exact⟨(R1,r1),trivial,by rw[h],hw.msub ms⟩
theorem ES:gz gt.frames:=by
 refine⟨by decide,fun x hx=>?_⟩
 have:x=⟨0,0,[⟨true,0⟩],[]⟩:=by simpa [gt] using hx
 subst this
 decide
theorem za (A:Option Addr) (c:Nat) (w:World) (hs:Sl w (.slice A 1 c) eJ) :
  Calls Tryz.prog 22 #[.agg #[.slice A 1 c]] w fun e w'=> ∃g:MA,True∧
   e= .returned (.tuple #[.agg #[.slice g.Af 1 g.cf,.slice g.Ab 0 g.cb,.slice g.Ai 0 g.ci,.slice g.Ao 0 g.co,.int .i64 0,.int .i64 0],.int .i64 0])∧Cw w.heap.size w [ap (.slice g.Af 1 g.cf) gt.frames,ap (.slice g.Ab 0 g.cb) gt.blocks,ap (.slice g.Ai 0 g.ci) gt.inn,ap (.slice g.Ao 0 g.co) gt.out] w':=by
 have:=rX A c eJ gt pE.2.1 w hs
 rw[pE.1] at this
 exact this
end
section
def pD:List UInt8:=eR gt
set_option maxRecDepth 100000 in
theorem fW:cQ eJ gt=0∧pD.length=15∧eL eJ pD=0∧ig eJ pD=gt∧eL eJ (pD++ [122])=1:=by
 refine⟨?_,?_,?_,?_,?_⟩ <;> kernel_rfl
theorem Bo (A:Option Addr) (c:Nat) (a:MA) (w:World) (hs:Sl w (.slice A 1 c) eJ) (hm:dQ w.heap.size w a gt) :
  Calls Tryz.prog 13 #[.agg #[.slice A 1 c],.agg #[.slice a.Af 1 a.cf,.slice a.Ab 0 a.cb,.slice a.Ai 0 a.ci,.slice a.Ao 0 a.co,.int .i64 0,.int .i64 0]] w fun e w'=>e= .returned (.tuple #[.string ⟨pD.toArray⟩,.int .i64 0])∧Below w.heap.size w w':=by
 have:=jt A c eJ a gt pD (by unfold iK;rw[if_pos fW.1];rfl) w hs hm ES
 rw[fW.1] at this
 exact this
theorem Bp (A:Option Addr) (c:Nat) (w:World) (hs:Sl w (.slice A 1 c) eJ) :
  Calls Tryz.prog 14 #[.agg #[.slice A 1 c],.string ⟨pD.toArray⟩] w fun e w'=> ∃g:MA,True∧
   e= .returned (.tuple #[.agg #[.slice g.Af 1 g.cf,.slice g.Ab 0 g.cb,.slice g.Ai 0 g.ci,.slice g.Ao 0 g.co,.int .i64 0,.int .i64 0],.int .i64 0])∧Cw w.heap.size w [ap (.slice g.Af 1 g.cf) gt.frames,ap (.slice g.Ab 0 g.cb) gt.blocks,ap (.slice g.Ai 0 g.ci) gt.inn,ap (.slice g.Ao 0 g.co) gt.out] w':=by
 have:=lH A c eJ pD gt fW.2.2.2.1 (by rw[fW.2.1];decide) w hs
 rw[fW.2.2.1] at this
 exact this
theorem Da (A:Option Addr) (c:Nat) (w:World) (hs:Sl w (.slice A 1 c) eJ) :
  Calls Tryz.prog 14 #[.agg #[.slice A 1 c],.string ⟨(pD++ [122]).toArray⟩] w fun e w'=> ∃g:MA,True∧
   e= .returned (.tuple #[.agg #[.slice g.Af 0 g.cf,.slice g.Ab 0 g.cb,.slice g.Ai 0 g.ci,.slice g.Ao 0 g.co,.int .i64 0,.int .i64 0],.int .i64 1])∧Cw w.heap.size w [ap (.slice g.Af 0 g.cf) (default:aG).frames,ap (.slice g.Ab 0 g.cb) (default:aG).blocks,ap (.slice g.Ai 0 g.ci) (default:aG).inn,ap (.slice g.Ao 0 g.co) (default:aG).out] w':=by
 have:=lH A c eJ (pD++ [122]) default (by unfold ig;rw[fW.2.2.2.2];rfl) (by rw[List.length_append,fW.2.1];decide) w hs
 rw[fW.2.2.2.2] at this
 exact this
set_option maxRecDepth 100000 in
set_option maxHeartbeats 4000000 in
theorem lr (w:World):Calls Tryz.prog 20 #[] w fun e w'=>e= .returned (.bool true)∧Below w.heap.size w w':=by
 have hl:=fW.2.1
 refine enter Tryz.func20 rfl Tryz.ntmps20 rfl ?_
 refine ac<|aa<|rn 1 [] rfl<|ae<|ac<|aa<|ag (cO rfl rfl rfl GS (fun w hw=>mb w)) rfl rfl (fun gp _=>?_)
 refine ag (cO rfl rfl rfl GT (fun w hw=>za _ _ w (SF.at_ (SF.own rfl fc) hw))) rfl rfl (fun a1 _=>?_)
 refine rn 3 [12,13] rfl<|ag (aS aR rfl rfl) rfl rfl (fun g1 _=>?_)
 refine ag (aJ _ fc ay rfl rfl rfl rfl rfl (by rfl) rfl (by rfl)) rfl rfl (fun _ _=>?_)
 refine rn 1 [1] rfl<|ae<|eb (fun _:Unit=>True) (fun _=> [(1,.pointer (some ⟨g1,0,none⟩)),(3,.string ⟨pD.toArray⟩),(4,.int .i64 0)]) (fun _=> [ak g1 [.slice a1.Af 1 a1.cf,.slice a1.Ab 0 a1.cb,.slice a1.Ai 0 a1.ci,.slice a1.Ao 0 a1.co,.int .i64 0,.int .i64 0] 29,ap (.slice a1.Af 1 a1.cf) gt.frames,ap (.slice a1.Ab 0 a1.cb) gt.blocks,ap (.slice a1.Ai 0 a1.ci) gt.inn,ap (.slice a1.Ao 0 a1.co) gt.out]) ?_ ?_
 ·refine cD (.still 1 (.pick 0 (.pick 2 (.calm 3 (.calm 4 (.calm 5 (.calm 6 (.calm 7 .done))))) .stop) .stop)) [2,3,4,5,6,7] rfl (by kernel_rfl) (by kernel_rfl) ?_
  refine ax rfl (aN (vs:= [_,_,_,_,_,_]) fc aT ay rfl rfl (by rfl) rfl) rfl rfl ha ?_
  refine aK rfl (cO rfl rfl rfl GS (fun w hw=>mb w)) rfl rfl (.inr fun _=>ha) (fun gq _=>?_) aE
  refine aK rfl (aY rfl rfl rfl qA (fun w hw=>Bo _ _ a1 w (SF.at_ (SF.own rfl fc) hw) (dz (m:=gt) hw fc fc fc fc rfl rfl rfl rfl (by decide) (by decide)))) rfl rfl (.inl rfl) (fun _ _=>?_) aE
  refine gL 5 [1,3,4] rfl<|df<|bq () (trivial) ⟨rfl,rfl,rfl,trivial⟩ (fun _ h=>h.msub ms)
 rintro _ _
 try dsimp only
 refine ac<|aa<|ag (cO rfl rfl rfl GS (fun w hw=>mb w)) rfl rfl (fun gq _=>?_)
 refine rn 1 [1,3,4,21,22] rfl<|ag (cO rfl rfl rfl zM (fun w hw=>Bp _ _ w (SF.at_ (SF.own rfl fc) hw))) rfl rfl (fun a2 _=>?_)
 refine rn 3 [1,3,4,24,25] rfl<|ag (aS aR rfl rfl) rfl rfl (fun g2 _=>?_)
 refine ag (aJ _ fc ay rfl rfl rfl rfl rfl (by rfl) rfl (by rfl)) rfl rfl (fun _ _=>?_)
 refine rn 1 [1,3,4,5,6] rfl<|ae<|ac<|aa<|ag (cO rfl rfl rfl GS (fun w hw=>mb w)) rfl rfl (fun gr _=>?_)
 refine rn 1 [1,3,4,5,6,27,28] rfl<|af (fM (by rw[hl];decide) rfl rfl rfl) rfl rfl ?_
 refine ag (cO rfl rfl rfl zM (fun w hw=>Da _ _ w (SF.at_ (SF.own rfl fc) hw))) rfl rfl (fun a3 _=>?_)
 refine rn 3 [1,3,4,5,6,31,32] rfl<|ag (aS aR rfl rfl) rfl rfl (fun g3 _=>?_)
 refine ag (aJ _ fc ay rfl rfl rfl rfl rfl (by rfl) rfl (by rfl)) rfl rfl (fun _ _=>?_)
 refine rn 1 [1,3,4,5,6,8] rfl<|ae<|ac<|aa<|rn 3 [1,3,5,6,8,35] rfl<|bV (t:=35) (v':= .bool true) rfl (rfl) ?_
 refine rn 4 [1,3,5,8,39] rfl<|bV (t:=39) (v':= .bool true) rfl (rfl) ?_
 refine rn 4 [1,3,5,43] rfl<|bV (t:=43) (v':= .bool true) rfl (rfl) ?_
 refine rn 1 [1,5,43,44] rfl<|af (nP fu rfl rfl) rfl rfl<|rn 3 [1,5,48] rfl ?_
 rw[hl]
 refine bV (t:=48) (v':= .bool true) rfl (rfl) ?_
 refine af (aN (vs:= [_,_,_,_,_,_]) fc aT ay rfl rfl (by rfl) rfl) rfl rfl ?_
 refine af (aN (vs:= [_,_,_,_,_,_]) fc aT ay rfl rfl (by rfl) rfl) rfl rfl ?_
 refine ag (aY rfl rfl rfl qy (fun w hw=>iN a1 a2 gt gt w (dz (m:=gt) hw fc fc fc fc rfl rfl rfl rfl (by decide) (by decide)) (dz (m:=gt) hw fc fc fc fc rfl rfl rfl rfl (by decide) (by decide)))) rfl rfl (fun _ _=>?_)
 refine rn 2 [0] rfl<|ae<|aq<|av Tryz.results20 (an rfl) ?_
 intro w hw
 exact⟨by rw[decide_eq_true rfl],hw.below⟩
end
section
set_option maxRecDepth 100000 in
theorem gU (n:Int) (w:World):Calls Tryz.prog 60 #[.int .i64 n] w fun e w'=>e= .returned (.string ⟨[a9 n].toArray⟩)∧Below w.heap.size w w':=by
 refine enter Tryz.func60 rfl Tryz.ntmps60 rfl ?_
 refine ac<|aa<|rn 1 [0] rfl<|ae<|ac<|aa<|rn 1 [3] rfl<|af (AH o9 lQ rfl rfl) rfl rfl<|ag (bu (cs:= [_]) je Tryz.sizeOf5 Tryz.zeroValue5 rfl rfl rfl rfl rfl) rfl rfl (fun g1 _=>?_)
 refine fl (fun w h=>cE (α:=UInt8) (m:=1) [a9 n] rfl (fun _ _=>trivial) rfl (by decide) h) ?_
 refine af (AK (xs:= [a9 n]) (m:=1) je fu lQ (SF.own rfl fc) rfl rfl) rfl rfl ?_
 refine rn 1 [2] rfl<|ae<|aq<|av Tryz.results60 (an rfl) ?_
 intro w hw
 exact⟨rfl,hw.below⟩
set_option maxRecDepth 100000 in
set_option maxHeartbeats 1000000 in
theorem oy (A:Option Addr) (c:Nat) (xs:List Int) (w:World) (hs:Sl w (.slice A xs.length c) xs) (hi:∀n∈xs,cF n=true) (hb:xs.length≤255) :
  Calls Tryz.prog 61 #[.slice A xs.length c] w fun e w'=>e= .returned (.string ⟨(dU xs).toArray⟩)∧Below w.heap.size w w':=by
 refine enter Tryz.func61 rfl Tryz.ntmps61 rfl ?_
 refine ac<|aa<|rn 1 [0] rfl<|ae<|ac<|aa<|rn 1 [0,5] rfl<|af (aM ah rfl rfl) rfl rfl<|ag (aY rfl rfl rfl nE (fun w hw=>gU (xs.length:Int) w)) rfl rfl (fun _ _=>?_)
 refine rn 1 [0,3] rfl<|ae<|ac<|ac<|aa<|rn 1 [0,3,4] rfl<|ae<|aB (bI (fun j:Nat=>j≤xs.length) (fun j=>xs.length - j) (fun j=> [(0,.slice A xs.length c),(3,.string ⟨([a9 xs.length]++(xs.take j).flatMap da).toArray⟩),(4,.int .i64 (j:Int))]) (fun _=> []) 0 (Nat.zero_le _) ⟨rfl,rfl,rfl,trivial⟩ me ?_)
 rintro j hj'
 have hj:j≤xs.length:=hj'
 have h4:=tD xs j
 refine ac<|ac<|aa<|rn 2 [0,3,4,8,9] rfl<|af (aM ah rfl rfl) rfl rfl<|rn 1 [0,3,4,11] rfl<|ae<|aw rfl (fun hlt=>?_) (fun hlt=>?_)
 ·have hjl:j<xs.length:=by omega
  refine ar (am ?_)
  refine ac<|aB<|aa<|rn 3 [0,4,14,15,16] rfl<|af (aQ ah aF (.ro hs) (by omega) rfl rfl rfl) rfl rfl<|af (a8 (SF.int (.ro hs) (by omega)) rfl rfl au) rfl rfl<|ag (aY rfl rfl rfl IC (fun w hw=>pt (xs.getD j 0) w (hi _ (ff hjl)))) rfl rfl (fun _ _=>?_)
  refine af (fM (by rw[List.length_append];show 1+_+4≤_;omega) rfl rfl rfl) rfl rfl ?_
  refine rn 1 [0,3,4] rfl<|bC (aH (am ?_))
  refine aa<|rn 1 [0,3,12] rfl<|af (br rfl rfl rfl (by omega)) rfl rfl<|rn 1 [0,3,4] rfl ?_
  rw[←iz hjl 0 [a9 (xs.length:Int)]]
  refine a5 (j+1) (by show j+1≤_;omega) (by show _ - _<_ - _;omega) ⟨rfl,rfl,rfl,trivial⟩ me
 obtain rfl:j=xs.length:=by omega
 rw[List.take_length]
 refine bz (aD (aD (bO (am ?_))))
 refine ac<|aa<|rn 2 [2] rfl<|ae<|aq<|av Tryz.results61 (an rfl) ?_
 intro w hw
 exact⟨rfl,hw.below⟩
set_option maxRecDepth 100000 in
set_option maxHeartbeats 1000000 in
theorem rJ (A:Option Addr) (c:Nat) (xs:List aX) (w:World) (hs:Sl w (.slice A xs.length c) xs) (hi:∀v∈xs,cF v.n=true) (hb:xs.length≤255) :
  Calls Tryz.prog 62 #[.slice A xs.length c] w fun e w'=>e= .returned (.string ⟨(fj xs).toArray⟩)∧Below w.heap.size w w':=by
 refine enter Tryz.func62 rfl Tryz.ntmps62 rfl ?_
 refine ac<|aa<|rn 1 [0] rfl<|ae<|ac<|aa<|rn 1 [0,5] rfl<|af (aM aI rfl rfl) rfl rfl<|ag (aY rfl rfl rfl nE (fun w hw=>gU (xs.length:Int) w)) rfl rfl (fun _ _=>?_)
 refine rn 1 [0,3] rfl<|ae<|ac<|ac<|aa<|rn 1 [0,3,4] rfl<|ae<|aB (bI (fun j:Nat=>j≤xs.length) (fun j=>xs.length - j) (fun j=> [(0,.slice A xs.length c),(3,.string ⟨([a9 xs.length]++(xs.take j).flatMap dG).toArray⟩),(4,.int .i64 (j:Int))]) (fun _=> []) 0 (Nat.zero_le _) ⟨rfl,rfl,rfl,trivial⟩ me ?_)
 rintro j hj'
 have hj:j≤xs.length:=hj'
 have h4:=nG xs j
 refine ac<|ac<|aa<|rn 2 [0,3,4,8,9] rfl<|af (aM aI rfl rfl) rfl rfl<|rn 1 [0,3,4,11] rfl<|ae<|aw rfl (fun hlt=>?_) (fun hlt=>?_)
 ·have hjl:j<xs.length:=by omega
  obtain⟨V,hV⟩:∃V,xs.getD j default=V:=⟨_,rfl⟩
  have hstep:=iz (f:=dG) hjl default [a9 (xs.length:Int)]
  have hVi:cF V.n=true:=by rw[←hV];exact hi _ (ff hjl)
  refine ar (am ?_)
  refine eb (fun _:Unit=>True) (fun _=> [(0,.slice A xs.length c),(3,.string ⟨([a9 xs.length]++(xs.take (j+1)).flatMap dG).toArray⟩),(4,.int .i64 (j:Int))]) (fun _=> []) ?_ ?_
  ·refine aB<|ac<|aa<|rn 2 [0,3,4,14,15] rfl<|af (aQ aI aV (.ro hs) (by omega) rfl rfl rfl) rfl rfl<|rn 1 [0,3,4,17] rfl<|af (a8 (fun w hw=>SF.val (.ro hs) hjl default w hw 0 _ rfl) rfl rfl dx) rfl rfl ?_
   refine ae ?_
   rw[hV]
   refine cg rfl (fun hr=>?_) (fun hr=>?_)
   ·rw[hV,show dG V=a9 1::da V.n from by unfold dG;rw[if_pos hr]] at hstep
    refine aa<|rn 3 [0,4,19,20,21] rfl<|af (aQ aI aV (.ro hs) (by omega) rfl rfl rfl) rfl rfl<|rn 1 [0,4,19,23] rfl<|af (a8 (fun w hw=>SF.val (.ro hs) hjl default w hw 1 _ rfl) rfl rfl au) rfl rfl ?_
    rw[hV]
    refine ag (aY rfl rfl rfl IC (fun w hw=>pt V.n w hVi)) rfl rfl (fun _ _=>?_)
    refine af (fM (a:= [1]) (b:=da V.n) (by show 1+4≤_;omega) rfl rfl rfl) rfl rfl ?_
    refine af (fM (by rw[List.length_append];show 1+_+5≤_;omega) rfl rfl rfl) rfl rfl ?_
    refine rn 1 [0,3,4] rfl<|bC (aH ?_)
    rw[show ([a9 (xs.length:Int)]++(xs.take j).flatMap dG)++([1]++da V.n)= [a9 (xs.length:Int)]++(xs.take (j+1)).flatMap dG from hstep.symm]
    refine bq () (trivial) ⟨rfl,rfl,rfl,trivial⟩ me
   rw[hV,show dG V=a9 0::da V.n from by unfold dG;rw[if_neg (by rw[hr];decide)]] at hstep
   refine aa<|rn 3 [0,4,28,29,30] rfl<|af (aQ aI aV (.ro hs) (by omega) rfl rfl rfl) rfl rfl<|rn 1 [0,4,28,32] rfl<|af (a8 (fun w hw=>SF.val (.ro hs) hjl default w hw 1 _ rfl) rfl rfl au) rfl rfl ?_
   rw[hV]
   refine ag (aY rfl rfl rfl IC (fun w hw=>pt V.n w hVi)) rfl rfl (fun _ _=>?_)
   refine af (fM (a:= [0]) (b:=da V.n) (by show 1+4≤_;omega) rfl rfl rfl) rfl rfl ?_
   refine af (fM (by rw[List.length_append];show 1+_+5≤_;omega) rfl rfl rfl) rfl rfl ?_
   refine rn 1 [0,3,4] rfl<|bC (aH ?_)
   rw[show ([a9 (xs.length:Int)]++(xs.take j).flatMap dG)++([0]++da V.n)= [a9 (xs.length:Int)]++(xs.take (j+1)).flatMap dG from hstep.symm]
   refine bq () (trivial) ⟨rfl,rfl,rfl,trivial⟩ me
  rintro _ _
  try dsimp only
  refine aa<|rn 1 [0,3,12] rfl<|af (br rfl rfl rfl (by omega)) rfl rfl<|rn 1 [0,3,4] rfl<|a5 (j+1) (by show j+1≤_;omega) (by show _ - _<_ - _;omega) ⟨rfl,rfl,rfl,trivial⟩ me
 obtain rfl:j=xs.length:=by omega
 rw[List.take_length]
 refine bz (aD (aD (bO (am ?_))))
 refine ac<|aa<|rn 2 [2] rfl<|ae<|aq<|av Tryz.results62 (an rfl) ?_
 intro w hw
 exact⟨rfl,hw.below⟩
set_option maxRecDepth 100000 in
set_option maxHeartbeats 4000000 in
theorem vn (a:MA) (m:aG) (w:World) (hm:dQ w.heap.size w a m) (hmi:MI m) :
  Calls Tryz.prog 17 #[.agg #[.slice a.Af m.frames.length a.cf,.slice a.Ab m.blocks.length a.cb,.slice a.Ai m.inn.length a.ci,.slice a.Ao m.out.length a.co,.int .i64 m.status,.int .i64 m.trap]] w fun e w'=>e= .returned (.string ⟨(eR m).toArray⟩)∧Below w.heap.size w w':=by
 obtain⟨hs1,ht1,⟨hi1,hi2⟩,⟨ho1,ho2⟩,⟨hb1,hb2⟩,hf1,hf2⟩:=hmi
 have qi:=iE hi1
 have qo:=iE ho1
 have qb:=fun k=>lw (f:=dU) m.blocks (fun l hl=>iE (hb2 l hl).1) k
 have qf:=fun k=>lw (f:=dV) m.frames (fun x hx=>mf (hf2 x hx)) k
 obtain⟨b4,e4⟩:∃b,((([a9 m.status]++ [a9 m.trap])++dU m.inn)++dU m.out)++ [a9 m.blocks.length]=b:=⟨_,rfl⟩
 have l4:b4.length≤2045:=by rw[←e4];simp only[List.length_append,List.length_cons,List.length_nil];omega
 refine enter Tryz.func17 rfl Tryz.ntmps17 rfl ?_
 refine ac<|aa<|ag (bH rfl rfl rfl) rfl rfl (fun g1 _=>?_)
 refine rn 1 [1] rfl<|ae<|ac<|tE [(7,_),(8,_),(9,_),(10,_),(11,_),(12,_),(13,_),(14,_),(15,_),(16,_),(17,_),(18,_),(19,_),(20,_),(21,_),(22,_),(23,_),(24,_),(25,_),(26,_),(3,_)] [7,8,9,10,11,12,13,14,15,16,17,18,19,20,21,22,23,24,25,26,3] rfl (cR.s [] [(1,_)] rfl rfl trivial ⟨rfl,trivial⟩ (eP (qe rfl))<|cR.s [(7,_)] [] rfl rfl ⟨rfl,trivial⟩ trivial (eP (aj fc au rfl rfl (by rfl)))<|cR.s [(8,_)] [] rfl rfl ⟨rfl,trivial⟩ trivial (aY rfl rfl rfl nE (fun w hw=>gU m.status w))<|cR.s [] [(1,_)] rfl rfl trivial ⟨rfl,trivial⟩ (eP (qe rfl))<|cR.s [(10,_)] [] rfl rfl ⟨rfl,trivial⟩ trivial (eP (aj fc au rfl rfl (by rfl)))<|cR.s [(11,_)] [] rfl rfl ⟨rfl,trivial⟩ trivial (aY rfl rfl rfl nE (fun w hw=>gU m.trap w))<|cR.s [(9,_),(12,_)] [] rfl rfl ⟨rfl,rfl,trivial⟩ trivial (eP (fM (by simp) rfl rfl rfl))<|cR.s [] [(1,_)] rfl rfl trivial ⟨rfl,trivial⟩ (eP (qe rfl))<|cR.s [(14,_)] [] rfl rfl ⟨rfl,trivial⟩ trivial (eP (aj fc aW rfl rfl (by rfl)))<|cR.s [(15,_)] [] rfl rfl ⟨rfl,trivial⟩ trivial (aY rfl rfl rfl IR (fun w hw=>oy _ _ m.inn w (hw.ro hm.i) hi2 hi1))<|cR.s [(13,_),(16,_)] [] rfl rfl ⟨rfl,rfl,trivial⟩ trivial (eP (fM (by show 2+_≤_;omega) rfl rfl rfl))<|cR.s [] [(1,_)] rfl rfl trivial ⟨rfl,trivial⟩ (eP (qe rfl))<|cR.s [(18,_)] [] rfl rfl ⟨rfl,trivial⟩ trivial (eP (aj fc aW rfl rfl (by rfl)))<|cR.s [(19,_)] [] rfl rfl ⟨rfl,trivial⟩ trivial (aY rfl rfl rfl IR (fun w hw=>oy _ _ m.out w (hw.ro hm.o) ho2 ho1))<|cR.s [(17,_),(20,_)] [] rfl rfl ⟨rfl,rfl,trivial⟩ trivial (eP (fM (by simp only[List.length_append,List.length_cons,List.length_nil];omega) rfl rfl rfl))<|cR.s [] [(1,_)] rfl rfl trivial ⟨rfl,trivial⟩ (eP (qe rfl))<|cR.s [(22,_)] [] rfl rfl ⟨rfl,trivial⟩ trivial (eP (aj fc dS rfl rfl (by rfl)))<|cR.s [(23,_)] [] rfl rfl ⟨rfl,trivial⟩ trivial (eP (aM bF rfl rfl))<|cR.s [(24,_)] [] rfl rfl ⟨rfl,trivial⟩ trivial (aY rfl rfl rfl nE (fun w hw=>gU (m.blocks.length:Int) w))<|cR.s [(21,_),(25,_)] [] rfl rfl ⟨rfl,rfl,trivial⟩ trivial (eP (fM (by simp only[List.length_append,List.length_cons,List.length_nil];omega) rfl rfl rfl))<|cR.s [(26,_)] [] rfl rfl ⟨rfl,trivial⟩ trivial (eP (qe rfl))<|cR.z) (by kernel_rfl) rfl rfl (am ?_)
 rw[e4]
 refine ac<|ac<|aa<|rn 1 [1,3,4] rfl<|ae ?_
 rw[show b4=b4++(m.blocks.take 0).flatMap dU from by simp]
 refine aB (bI (fun j:Nat=>j≤m.blocks.length) (fun j=>m.blocks.length - j) (fun j=> [(1,.pointer (some ⟨g1,0,none⟩)),(3,.string ⟨(b4++(m.blocks.take j).flatMap dU).toArray⟩),(4,.int .i64 (j:Int))]) (fun _=> [ak g1 [.slice a.Af m.frames.length a.cf,.slice a.Ab m.blocks.length a.cb,.slice a.Ai m.inn.length a.ci,.slice a.Ao m.out.length a.co,.int .i64 m.status,.int .i64 m.trap] 29]) 0 (Nat.zero_le _) ⟨rfl,rfl,rfl,trivial⟩ me ?_)
 rintro j hj'
 have hj:j≤m.blocks.length:=hj'
 have hlj:(b4++(m.blocks.take j).flatMap dU).length≤2045+1021*m.blocks.length:=by rw[List.length_append];have:=qb j;omega
 refine ac<|ac<|aa<|rn 2 [1,3,4,27,28] rfl<|af (aj fc dS rfl rfl (by rfl)) rfl rfl ?_
 refine af (aM bF rfl rfl) rfl rfl<|rn 1 [1,3,4,31] rfl<|ae<|aw rfl (fun hlt=>?_) (fun hlt=>?_)
 ·have hjl:j<m.blocks.length:=by omega
  obtain⟨Ax,cx,hx,hcell⟩:=hm.b.sub hjl
  have hxl:(m.blocks.getD j []).length≤255:=(hb2 _ (ff hjl)).1
  have qx:=iE hxl
  refine ar (am ?_)
  refine ac<|aB<|aa<|rn 2 [1,4,34,35] rfl<|af (aj fc dS rfl rfl (by rfl)) rfl rfl ?_
  refine rn 1 [1,4,34,36,37] rfl<|af (aQ bF cC (by first | exact(.ro hm.b)) (by omega) rfl rfl rfl) rfl rfl ?_
  refine af (a8 (hcell _) rfl rfl aW) rfl rfl<|ag (aY rfl rfl rfl IR (fun w hw=>oy _ _ (m.blocks.getD j []) w (hw.ro hx) (hb2 _ (ff hjl)).2 hxl)) rfl rfl (fun _ _=>?_)
  refine af (fM (by omega) rfl rfl rfl) rfl rfl<|rn 1 [1,3,4] rfl<|bC (aH (am ?_))
  refine aa<|rn 1 [1,3,32] rfl<|af (br rfl rfl rfl (by omega)) rfl rfl<|rn 1 [1,3,4] rfl ?_
  rw[←iz hjl [] b4]
  refine a5 (j+1) (by show j+1≤_;omega) (by show _ - _<_ - _;omega) ⟨rfl,rfl,rfl,trivial⟩ me
 obtain rfl:j=m.blocks.length:=by omega
 have e5:b4++(m.blocks.take m.blocks.length).flatMap dU=b4++m.blocks.flatMap dU:=by rw[List.take_length]
 rw[e5] at hlj
 rw[e5]
 refine bz (aD (aD (bO (am ?_))))
 refine ac<|aa<|rn 2 [1,42,43] rfl<|af (aj fc bP rfl rfl (by rfl)) rfl rfl ?_
 refine af (aM aP rfl rfl) rfl rfl<|ag (aY rfl rfl rfl nE (fun w hw=>gU (m.frames.length:Int) w)) rfl rfl (fun _ _=>?_)
 refine af (fM (by show _+1≤_;omega) rfl rfl rfl) rfl rfl ?_
 refine rn 1 [1,3] rfl<|ae<|ac<|ac<|aa<|rn 1 [1,3,5] rfl<|ae ?_
 obtain⟨b6,e6⟩:∃b,(b4++m.blocks.flatMap dU)++ [a9 m.frames.length]=b:=⟨_,rfl⟩
 have l6:b6.length≤2046+1021*m.blocks.length:=by rw[←e6,List.length_append];show _+1≤_;omega
 rw[e6]
 rw[show b6=b6++(m.frames.take 0).flatMap dV from by simp]
 refine aB (bI (fun k:Nat=>k≤m.frames.length) (fun k=>m.frames.length - k) (fun k=> [(1,.pointer (some ⟨g1,0,none⟩)),(3,.string ⟨(b6++(m.frames.take k).flatMap dV).toArray⟩),(5,.int .i64 (k:Int))]) (fun _=> [ak g1 [.slice a.Af m.frames.length a.cf,.slice a.Ab m.blocks.length a.cb,.slice a.Ai m.inn.length a.ci,.slice a.Ao m.out.length a.co,.int .i64 m.status,.int .i64 m.trap] 29]) 0 (Nat.zero_le _) ⟨rfl,rfl,rfl,trivial⟩ me ?_)
 rintro k hk'
 have hk:k≤m.frames.length:=hk'
 have hlk:(b6++(m.frames.take k).flatMap dV).length≤2046+1021*m.blocks.length+2554*m.frames.length:=by rw[List.length_append];have:=qf k;omega
 refine ac<|ac<|aa<|rn 2 [1,3,5,48,49] rfl<|af (aj fc bP rfl rfl (by rfl)) rfl rfl ?_
 refine af (aM aP rfl rfl) rfl rfl<|rn 1 [1,3,5,52] rfl<|ae<|aw rfl (fun hlt2=>?_) (fun hlt2=>?_)
 ·have hkl:k<m.frames.length:=by omega
  obtain⟨Al,cl,As,cs,hl,hst,hi64,hcell⟩:=hm.f.fr hkl
  have hfr:=hf2 _ (eU hkl)
  have hfb:=iz (f:=dV) hkl default b6
  obtain⟨X,hX⟩:∃X,bh m.frames k=X:=⟨_,rfl⟩
  rw[show m.frames.getD k default=X from hX] at hfb
  rw[hX] at hfr hi64 hl hst hcell
  have hxb:=mf hfr
  have hxe:dV X=(([a9 X.func]++ [a9 X.pc])++fj X.locals)++fj X.stack:=by simp[dV]
  rw[hxe] at hfb hxb
  simp only[List.length_append,List.length_cons,List.length_nil] at hxb
  obtain⟨bk,ek⟩:∃b,b6++(m.frames.take k).flatMap dV=b:=⟨_,rfl⟩
  rw[ek] at hlk hfb
  rw[ek]
  refine ar (am ?_)
  refine ac<|aB<|ac<|aa<|rn 1 [1,3,5,55] rfl<|af (aj fc bP rfl rfl (by rfl)) rfl rfl ?_
  refine rn 1 [1,3,5,56,57] rfl<|af (aQ aP bn (by first | exact(.ro hm.f) | exact(.ro hm.b)) (by omega) rfl rfl rfl) rfl rfl ?_
  refine af (cY (hcell _) rfl rfl gK bn) rfl rfl<|ag (aS cP rfl rfl) rfl rfl (fun g2 _=>?_)
  refine ag (aJ _ fc bn rfl rfl rfl rfl rfl (by rfl) rfl (by rfl)) rfl rfl (fun _ _=>?_)
  refine ae<|tE [(60,_),(61,_),(62,_),(63,_),(64,_),(65,_),(66,_),(67,_),(68,_),(69,_),(70,_),(71,_),(72,_),(73,_),(74,_),(75,_),(76,_),(3,_)] [60,61,62,63,64,65,66,67,68,69,70,71,72,73,74,75,76,3] rfl (cR.s [] [(3,_)] rfl rfl trivial ⟨rfl,trivial⟩ (eP (qe rfl))<|cR.s [] [(6,_)] rfl rfl trivial ⟨rfl,trivial⟩ (eP (qe rfl))<|cR.s [(61,_)] [] rfl rfl ⟨rfl,trivial⟩ trivial (eP (aj fc au rfl rfl (by rfl)))<|cR.s [(62,_)] [] rfl rfl ⟨rfl,trivial⟩ trivial (aY rfl rfl rfl nE (fun w hw=>gU X.func w))<|cR.s [] [(6,_)] rfl rfl trivial ⟨rfl,trivial⟩ (eP (qe rfl))<|cR.s [(64,_)] [] rfl rfl ⟨rfl,trivial⟩ trivial (eP (aj fc au rfl rfl (by rfl)))<|cR.s [(65,_)] [] rfl rfl ⟨rfl,trivial⟩ trivial (aY rfl rfl rfl nE (fun w hw=>gU X.pc w))<|cR.s [(63,_),(66,_)] [] rfl rfl ⟨rfl,rfl,trivial⟩ trivial (eP (fM (by simp) rfl rfl rfl))<|cR.s [] [(6,_)] rfl rfl trivial ⟨rfl,trivial⟩ (eP (qe rfl))<|cR.s [(68,_)] [] rfl rfl ⟨rfl,trivial⟩ trivial (eP (aj fc cz rfl rfl (by rfl)))<|cR.s [(69,_)] [] rfl rfl ⟨rfl,trivial⟩ trivial (aY rfl rfl rfl Tryz.call62 (fun w hw=>rJ _ _ X.locals w (hw.ro hl) hfr.l.2 hfr.l.1))<|cR.s [(67,_),(70,_)] [] rfl rfl ⟨rfl,rfl,trivial⟩ trivial (eP (fM (by show 2+_≤_;omega) rfl rfl rfl))<|cR.s [] [(6,_)] rfl rfl trivial ⟨rfl,trivial⟩ (eP (qe rfl))<|cR.s [(72,_)] [] rfl rfl ⟨rfl,trivial⟩ trivial (eP (aj fc cz rfl rfl (by rfl)))<|cR.s [(73,_)] [] rfl rfl ⟨rfl,trivial⟩ trivial (aY rfl rfl rfl Tryz.call62 (fun w hw=>rJ _ _ X.stack w (hw.ro hst) hfr.s.2 hfr.s.1))<|cR.s [(71,_),(74,_)] [] rfl rfl ⟨rfl,rfl,trivial⟩ trivial (eP (fM (by simp only[List.length_append,List.length_cons,List.length_nil];omega) rfl rfl rfl))<|cR.s [(60,_),(75,_)] [] rfl rfl ⟨rfl,rfl,trivial⟩ trivial (eP (fM (a:=bk) (by simp only[List.length_append,List.length_cons,List.length_nil];omega) rfl rfl rfl))<|cR.s [(76,_)] [] rfl rfl ⟨rfl,trivial⟩ trivial (eP (qe rfl))<|cR.z) (by kernel_rfl) rfl rfl (aH (am ?_))
  refine aa<|rn 1 [1,3,53] rfl<|af (br rfl rfl rfl (by omega)) rfl rfl<|rn 1 [1,3,5] rfl ?_
  rw[←hfb]
  refine a5 (k+1) (by show k+1≤_;omega) (by show _ - _<_ - _;omega) ⟨rfl,rfl,rfl,trivial⟩ me
 obtain rfl:k=m.frames.length:=by omega
 have hall:b6++(m.frames.take m.frames.length).flatMap dV=eR m:=by
  rw[List.take_length,←e6,←e4]
  simp[eR]
 rw[hall]
 refine bz (aD (aD (bO (am ?_))))
 refine ac<|aa<|rn 2 [2] rfl<|ae<|aq<|av Tryz.results17 (an rfl) ?_
 intro w hw
 exact⟨rfl,hw.below⟩
end
section
structure dN {α:Type} (p:gW α) (s:List UInt8) (k:Nat) (b:Bool) (x:α) (k':Nat) (b':Bool):Prop where
 le:k'≤s.length
 t:b'=true→b=true∧p (s.drop k)=some (x,s.drop k')
 f:b'=false→b=true→p (s.drop k)=none
structure lO {α:Type} (p:gW α) (s:List UInt8) (b0:Bool) (tot:Option (List α×List UInt8)) (m k:Nat) (b:Bool) (acc:List α):Prop where
 le:k≤s.length
 t:b=true→b0=true∧tot=(ey p m (s.drop k)).map fun q=>(acc++q.1,q.2)
 f:b=false→b0=true→tot=none
theorem lZ {α:Type} {p:gW α} {s:List UInt8} {k0 k:Nat} {b0 b:Bool} {n:Int} (h:dN eQ s k0 b0 n k b):lO p s b0 (dR p (s.drop k0)) n.toNat k b []:=by
 refine⟨h.le,fun hb=>?_,fun hb h0=>?_⟩
 ·obtain⟨h1,h2⟩:=h.t hb
  refine⟨h1,?_⟩
  unfold dR
  rw[h2]
  show ey p n.toNat (s.drop k)=_
  cases ey p n.toNat (s.drop k) <;> simp
 unfold dR
 rw[h.f hb h0]
theorem m4 {α:Type} {p:gW α} {s:List UInt8} {b0 b':Bool} {tot:Option (List α×List UInt8)} {m k k':Nat} {acc:List α} {x:α} (h:lO p s b0 tot (m+1) k true acc) (hr:dN p s k true x k' b'):lO p s b0 tot m k' b' (acc++ [x]):=by
 obtain⟨h1,h2⟩:=h.t rfl
 refine⟨hr.le,fun hb=>⟨h1,?_⟩,fun hb _=>?_⟩
 ·rw[h2,ey,(hr.t hb).2]
  exact r6
 rw[h2,ey,hr.f hb rfl]
 rfl
theorem jo {α:Type} {p:gW α} {s:List UInt8} {k0 k:Nat} {b0 b:Bool} {m:Nat} {acc:List α} (h:lO p s b0 (dR p (s.drop k0)) m k b acc) (hm:b=true→m=0):dN (dR p) s k0 b0 acc k b:=by
 refine⟨h.le,fun hb=>?_,h.f⟩
 obtain⟨h1,h2⟩:=h.t hb
 rw[hm hb] at h2
 exact⟨h1,by rw[h2];simp[ey]⟩
theorem CG {s:List UInt8} {k k1 k2:Nat} {b1 b3:Bool} {n z:Int} (h1:dN eQ s k true n k1 b1) (h2:dN fK s k1 (b1 && decide (n<2)) z k2 b3):dN eO s k true ⟨decide (n=1),z⟩ k2 b3:=by
 refine⟨h2.le,fun hb=>⟨rfl,?_⟩,fun hb _=>?_⟩
 ·obtain⟨h3,h4⟩:=h2.t hb
  simp only[Bool.and_eq_true,decide_eq_true_eq] at h3
  unfold eO
  rw[(h1.t h3.1).2]
  simp only
  rw[if_neg (by omega),h4]
 unfold eO
 cases hb1:b1
 ·rw[h1.f hb1 rfl]
 rw[(h1.t hb1).2]
 simp only
 by_cases hn:1<n
 ·rw[if_pos hn]
 rw[if_neg hn,h2.f hb (by rw[hb1];simp;omega)]
section
variable {B:Nat} {w0:World} {H:List a7}
theorem dN.no {α:Type} {p:gW α} {s:List UInt8} {k:Nat} {b:Bool} {x:α} (hk:k≤s.length) (h:p (s.drop k)=none):dN p s k b x k false:=⟨hk,fun h=>(by cases h),fun _ _=>h⟩
theorem dN.yes {α:Type} {p:gW α} {s:List UInt8} {k k':Nat} {b:Bool} {x:α} (hk:k'≤s.length) (h:p (s.drop k)=some (x,s.drop k')):dN p s k b x k' b:=⟨hk,fun hb=>⟨hb,h⟩,fun h1 h2=>(by rw[h1] at h2;cases h2)⟩
set_option maxRecDepth 100000 in
theorem jH (ga gs gk:Nat) (s:List UInt8) (k:Nat) (b:Bool) (hk:k≤s.length) (hl:s.length≤140737488355320) (w:World) (hw:Cw B w0 (ak ga [.int .i64 (k:Int)] 3::ak gs [.string ⟨s.toArray⟩] 9::ak gk [.bool b] 4::H) w) :
  Calls Tryz.prog 63 #[.pointer (some ⟨ga,0,none⟩),.pointer (some ⟨gs,0,none⟩),.pointer (some ⟨gk,0,none⟩)] w fun e w'=> ∃g:Int×Nat×Bool,(dN eQ s k b g.1 g.2.1 g.2.2∧0≤g.1∧g.1≤255)∧e= .returned (.int .i64 g.1)∧Cw B w0 (ak ga [.int .i64 (g.2.1:Int)] 3::ak gs [.string ⟨s.toArray⟩] 9::ak gk [.bool g.2.2] 4::H) w':=by
 refine bS Tryz.func63 rfl Tryz.ntmps63 rfl hw ?_
 refine ac<|aa<|rn 1 [0,1,2] rfl<|ae<|ac<|ac<|aa<|af (aj fc au rfl rfl (by rfl)) rfl rfl ?_
 refine af (aj fc qv rfl rfl (by rfl)) rfl rfl ?_
 refine af (nP fu rfl rfl) rfl rfl<|rn 1 [0,1,2,7] rfl<|ae<|aw rfl (fun h=>?_) (fun h=>?_)
 ·have hd:s.drop k= []:=List.drop_of_length_le (by omega)
  refine ac<|aa<|ag (aJ _ fc dK rfl rfl rfl rfl rfl (by rfl) rfl (by rfl)) rfl rfl (fun _ _=>?_)
  refine ae<|ac<|aa<|rn 1 [3] rfl<|ae<|aq (ai ?_)
  refine av Tryz.results63 (an rfl) ?_
  intro w hw
  exact⟨(0,k,false),⟨.no hk (by rw[hd];rfl),by show (0:Int)≤0;decide,by show (0:Int)≤255;decide⟩,rfl,hw.msub ms⟩
 have hk2:k<s.length:=by omega
 refine ar (am ?_)
 refine ac<|aa<|af (aj fc au rfl rfl (by rfl)) rfl rfl ?_
 refine af (br rfl rfl rfl (by omega)) rfl rfl<|ag (aJ _ fc aF rfl rfl rfl rfl rfl (by rfl) rfl (by rfl)) rfl rfl (fun _ _=>?_)
 refine ae<|dA (H':=ak ga [.int .i64 ((k+1:Nat):Int)] 3::ak gs [.string ⟨s.toArray⟩] 9::ak gk [.bool b] 4::H) (fun w h=>by rw[show ((k+1:Nat):Int)=(k:Int)+1 from by omega];exact h.msub ms) ?_
 refine ac<|aa<|af (aj fc qv rfl rfl (by rfl)) rfl rfl ?_
 refine af (aj fc au rfl rfl (by rfl)) rfl rfl ?_
 refine af (cH rfl rfl rfl (by omega)) rfl rfl<|bV (t:=12) (v':= .int .i64 (k:Int)) rfl (by congr 1;omega) ?_
 refine af (tm (k:=k) fu hk2 rfl rfl rfl) rfl rfl<|af (AL lQ o9 rfl rfl) rfl rfl<|rn 1 [3] rfl<|ae<|aq<|av Tryz.results63 (an rfl) ?_
 intro w hw
 have hb:=(s.getD k 0).toNat_lt
 refine⟨(((s.getD k 0).toNat:Int),k+1,b),⟨.yes hk2 (by rw[BH hk2];rfl),by show (0:Int)≤((s.getD k 0).toNat:Int);omega,by show ((s.getD k 0).toNat:Int)≤255;omega⟩,rfl,hw.msub ms⟩
set_option maxRecDepth 100000 in
theorem x8 (ga gs gk:Nat) (s:List UInt8) (k:Nat) (b:Bool) (hk:k≤s.length) (hl:s.length≤140737488355320) (w:World) (hw:Cw B w0 (ak ga [.int .i64 (k:Int)] 3::ak gs [.string ⟨s.toArray⟩] 9::ak gk [.bool b] 4::H) w) :
  Calls Tryz.prog 64 #[.pointer (some ⟨gs,0,none⟩),.pointer (some ⟨ga,0,none⟩),.pointer (some ⟨gk,0,none⟩)] w fun e w'=> ∃g:Int×Nat×Bool,(dN fK s k b g.1 g.2.1 g.2.2∧be g.1)∧e= .returned (.int .i64 g.1)∧Cw B w0 (ak ga [.int .i64 (g.2.1:Int)] 3::ak gs [.string ⟨s.toArray⟩] 9::ak gk [.bool g.2.2] 4::H) w':=by
 refine bS Tryz.func64 rfl Tryz.ntmps64 rfl hw ?_
 refine ac<|aa<|rn 1 [0,1,2] rfl<|ae<|ac<|ac<|aa<|af (aj fc qv rfl rfl (by rfl)) rfl rfl ?_
 refine af (nP fu rfl rfl) rfl rfl<|af (aj fc au rfl rfl (by rfl)) rfl rfl ?_
 refine af (cH rfl rfl rfl (by omega)) rfl rfl<|rn 1 [0,1,2,8] rfl<|ae<|aw rfl (fun h=>?_) (fun h=>?_)
 ·refine ac<|aa<|ag (aJ _ fc dK rfl rfl rfl rfl rfl (by rfl) rfl (by rfl)) rfl rfl (fun _ _=>?_)
  refine ae<|ac<|aa<|rn 1 [3] rfl<|ae<|aq (ai ?_)
  refine av Tryz.results64 (an rfl) ?_
  intro w hw
  exact⟨(0,k,false),⟨.no hk (by unfold fK;rw[if_pos (by rw[List.length_drop];omega)]),by show be 0;decide⟩,rfl,hw.msub ms⟩
 have hk2:k+4≤s.length:=by omega
 refine ar (am ?_)
 refine ac<|aa<|af (aj fc au rfl rfl (by rfl)) rfl rfl ?_
 refine af (br rfl rfl rfl (by omega)) rfl rfl<|ag (aJ _ fc aF rfl rfl rfl rfl rfl (by rfl) rfl (by rfl)) rfl rfl (fun _ _=>?_)
 refine ae<|dA (H':=ak ga [.int .i64 ((k+4:Nat):Int)] 3::ak gs [.string ⟨s.toArray⟩] 9::ak gk [.bool b] 4::H) (fun w h=>by rw[show ((k+4:Nat):Int)=(k:Int)+4 from by omega];exact h.msub ms) ?_
 refine ac<|aa<|af (aj fc qv rfl rfl (by rfl)) rfl rfl ?_
 refine af (aj fc au rfl rfl (by rfl)) rfl rfl ?_
 refine af (cH rfl rfl rfl (by omega)) rfl rfl<|bV (t:=13) (v':= .int .i64 (k:Int)) rfl (by congr 1;omega) ?_
 refine ag (aY rfl rfl rfl Tryz.call65 (fun w hw=>fm (uu s (k:Int) w (by omega) (by omega) hl))) rfl rfl (fun _ _=>?_)
 refine rn 1 [3] rfl<|ae<|aq<|av Tryz.results64 (an rfl) ?_
 intro w hw
 refine⟨(dr ((s.drop k).take 4),k+4,b),⟨.yes hk2 (by unfold fK;rw[if_neg (by rw[List.length_drop];omega),List.drop_drop]),oI _⟩,eH (by rw[Int.toNat_natCast]),hw.msub ms⟩
set_option maxRecDepth 100000 in
set_option maxHeartbeats 2000000 in
theorem tv (ga gs gk go gf:Nat) (s:List UInt8) (k:Nat) (b:Bool) (hk:k≤s.length) (hl:s.length≤140737488355320) (w:World) (hw:Cw B w0 (ak ga [.int .i64 (k:Int)] 3::ak gs [.string ⟨s.toArray⟩] 9::ak gk [.bool b] 4::ak go [.func (.func 63) #[] #[.pointer (some ⟨ga,0,none⟩),.pointer (some ⟨gs,0,none⟩),.pointer (some ⟨gk,0,none⟩)]] 99::ak gf [.func (.func 64) #[] #[.pointer (some ⟨gs,0,none⟩),.pointer (some ⟨ga,0,none⟩),.pointer (some ⟨gk,0,none⟩)]] 99::H) w) :
  Calls Tryz.prog 66 #[.pointer (some ⟨go,0,none⟩),.pointer (some ⟨gk,0,none⟩),.pointer (some ⟨gf,0,none⟩)] w fun e w'=> ∃g:(List Int×Nat×Bool)×(Option Addr×Nat),(dN eC s k b g.1.1 g.1.2.1 g.1.2.2∧g.1.1.length≤255)∧e= .returned (.slice g.2.1 g.1.1.length g.2.2)∧
   Cw B w0 (ak ga [.int .i64 (g.1.2.1:Int)] 3::ak gs [.string ⟨s.toArray⟩] 9::ak gk [.bool g.1.2.2] 4::ap (.slice g.2.1 g.1.1.length g.2.2) g.1.1::ak go [.func (.func 63) #[] #[.pointer (some ⟨ga,0,none⟩),.pointer (some ⟨gs,0,none⟩),.pointer (some ⟨gk,0,none⟩)]] 99::ak gf [.func (.func 64) #[] #[.pointer (some ⟨gs,0,none⟩),.pointer (some ⟨ga,0,none⟩),.pointer (some ⟨gk,0,none⟩)]] 99::H) w':=by
 refine bS Tryz.func66 rfl Tryz.ntmps66 rfl hw ?_
 refine ac<|aa<|rn 1 [0,1,2] rfl<|ae<|ac<|aa<|rn 1 [0,1,2,4] rfl<|ae<|ac<|aa<|af (aj fc jf rfl rfl (by rfl)) rfl rfl ?_
 refine ag (dL rfl rfl rfl lU (fun w hw=>jH (H:=ak go [.func (.func 63) #[] #[.pointer (some ⟨ga,0,none⟩),.pointer (some ⟨gs,0,none⟩),.pointer (some ⟨gk,0,none⟩)]] 99::ak gf [.func (.func 64) #[] #[.pointer (some ⟨gs,0,none⟩),.pointer (some ⟨ga,0,none⟩),.pointer (some ⟨gk,0,none⟩)]] 99::H) ga gs gk s k b hk hl w (hw.msub ms))) rfl rfl (fun⟨n,k1,b1⟩ hn=>?_)
 try dsimp only
 refine rn 1 [1,2,4,5] rfl<|ae<|ac<|ac<|aa<|rn 1 [1,2,4,5,6] rfl<|ae ?_
 obtain⟨hn,hn0,hn1⟩:dN eQ s k b n k1 b1∧0≤n∧n≤255:=hn
 refine dA (fun w h=>Cw.nilO Int h) ?_
 refine aB (bI (fun g:(Nat×Nat×Bool×List Int)×(Option Addr×Nat)=>lO fK s b (eC (s.drop k)) (n.toNat - g.1.1) g.1.2.1 g.1.2.2.1 g.1.2.2.2∧g.1.1≤n.toNat∧g.1.2.2.2.length≤g.1.1) (fun g=>n.toNat - g.1.1) (fun g=> [(1,.pointer (some ⟨gk,0,none⟩)),(2,.pointer (some ⟨gf,0,none⟩)),(4,.slice g.2.1 g.1.2.2.2.length g.2.2),(5,.int .i64 n),(6,.int .i64 (g.1.1:Int))]) (fun g=>ak ga [.int .i64 (g.1.2.1:Int)] 3::ak gs [.string ⟨s.toArray⟩] 9::ak gk [.bool g.1.2.2.1] 4::ap (.slice g.2.1 g.1.2.2.2.length g.2.2) g.1.2.2.2::ak go [.func (.func 63) #[] #[.pointer (some ⟨ga,0,none⟩),.pointer (some ⟨gs,0,none⟩),.pointer (some ⟨gk,0,none⟩)]] 99::ak gf [.func (.func 64) #[] #[.pointer (some ⟨gs,0,none⟩),.pointer (some ⟨ga,0,none⟩),.pointer (some ⟨gk,0,none⟩)]] 99::H) ((0,k1,b1,[]),(none,0)) (⟨lZ hn,Nat.zero_le _,Nat.le_refl _⟩) ⟨rfl,rfl,rfl,rfl,rfl,trivial⟩ (fun _ h=>h.msub ms) ?_)
 rintro⟨⟨i,kj,bj,acc⟩,Aj,cj⟩ hj
 try dsimp only
 obtain⟨hj,hi1,hi2⟩:lO fK s b (eC (s.drop k)) (n.toNat - i) kj bj acc∧i≤n.toNat∧acc.length≤i:=hj
 refine ac<|ac<|aa<|rn 4 [1,2,4,5,6,12] rfl<|bM (t:=12) rfl (fun h1=>?_) (fun h1=>?_)
 ·have h1:=of_decide_eq_true h1
  refine af (aj fc dx rfl rfl (by rfl)) rfl rfl ?_
  refine rn 1 [1,2,4,5,6,14] rfl<|ae<|cg rfl (fun h2=>?_) (fun h2=>?_)
  ·have hb:bj=true:=h2
   subst hb
   rw[show n.toNat - i=(n.toNat - (i+1))+1 from by omega] at hj
   refine ar (am ?_)
   refine ac<|aB<|aa<|rn 1 [1,2,5,6,17] rfl<|af (aj fc jf rfl rfl (by rfl)) rfl rfl ?_
   refine ag (dL rfl rfl rfl Tryz.call64 (fun w hw=>x8 (H:=ap (.slice Aj acc.length cj) acc::ak go [.func (.func 63) #[] #[.pointer (some ⟨ga,0,none⟩),.pointer (some ⟨gs,0,none⟩),.pointer (some ⟨gk,0,none⟩)]] 99::ak gf [.func (.func 64) #[] #[.pointer (some ⟨gs,0,none⟩),.pointer (some ⟨ga,0,none⟩),.pointer (some ⟨gk,0,none⟩)]] 99::H) ga gs gk s kj true hj.le hl w (hw.msub ms))) rfl rfl (fun⟨z,k2,b2⟩ hz=>?_)
   try dsimp only
   refine ag (bu (cs:= [_]) ah aF a6 rfl rfl rfl rfl rfl) rfl rfl (fun g1 _=>?_)
   obtain⟨hz,hzi⟩:dN fK s kj true z k2 b2∧be z:=hz
   refine ag (dJ (α:=Int) (bytes:=8) z [] rfl ah (cU eE) rfl (fV fc fc) (eD hzi) (by omega) (by omega) rfl rfl rfl) rfl rfl (fun⟨A5,c5⟩ _=>?_)
   try dsimp only
   refine rn 1 [1,2,4,5,6] rfl<|bC (aH (am ?_))
   refine aa<|rn 1 [1,2,4,5,15] rfl<|af (br rfl rfl rfl (by omega)) rfl rfl<|rn 1 [1,2,4,5,6] rfl<|a5 ((i+1,k2,b2,acc++ [z]),(A5,c5)) (⟨m4 hj hz,by show i+1≤_;omega,by show (acc++ [z]).length≤i+1;rw[List.length_append,List.length_singleton];omega⟩) (by show n.toNat - (i+1)<n.toNat - i;omega) ⟨rfl,rfl,rfl,rfl,rfl,trivial⟩ (fun _ h=>h.msub ms)
  have hb:bj=false:=h2
  subst hb
  refine bz (aD (aD (bO (am ?_))))
  refine ac<|aa<|rn 2 [3] rfl<|ae<|aq<|av Tryz.results66 (an rfl) ?_
  intro w hw
  exact⟨((acc,kj,false),(Aj,cj)),⟨jo hj (fun h=>by cases h),by show acc.length≤255;omega⟩,rfl,hw.msub ms⟩
 have h1:=of_decide_eq_false h1
 refine rn 2 [1,2,4,5,6,14] rfl<|ae<|bZ rfl<|bz (aD (aD (bO (am ?_))))
 refine ac<|aa<|rn 2 [3] rfl<|ae<|aq<|av Tryz.results66 (an rfl) ?_
 intro w hw
 exact⟨((acc,kj,bj),(Aj,cj)),⟨jo hj (fun _=>by omega),by show acc.length≤255;omega⟩,rfl,hw.msub ms⟩
set_option maxRecDepth 100000 in
set_option maxHeartbeats 2000000 in
theorem x7 (ga gs gk go gf:Nat) (s:List UInt8) (k:Nat) (b:Bool) (hk:k≤s.length) (hl:s.length≤140737488355320) (w:World) (hw:Cw B w0 (ak ga [.int .i64 (k:Int)] 3::ak gs [.string ⟨s.toArray⟩] 9::ak gk [.bool b] 4::ak go [.func (.func 63) #[] #[.pointer (some ⟨ga,0,none⟩),.pointer (some ⟨gs,0,none⟩),.pointer (some ⟨gk,0,none⟩)]] 99::ak gf [.func (.func 64) #[] #[.pointer (some ⟨gs,0,none⟩),.pointer (some ⟨ga,0,none⟩),.pointer (some ⟨gk,0,none⟩)]] 99::H) w) :
  Calls Tryz.prog 67 #[.pointer (some ⟨go,0,none⟩),.pointer (some ⟨gk,0,none⟩),.pointer (some ⟨gf,0,none⟩)] w fun e w'=> ∃g:(List aX×Nat×Bool)×(Option Addr×Nat),(dN fT s k b g.1.1 g.1.2.1 g.1.2.2∧g.1.1.length≤255)∧e= .returned (.slice g.2.1 g.1.1.length g.2.2)∧
   Cw B w0 (ak ga [.int .i64 (g.1.2.1:Int)] 3::ak gs [.string ⟨s.toArray⟩] 9::ak gk [.bool g.1.2.2] 4::ap (.slice g.2.1 g.1.1.length g.2.2) g.1.1::ak go [.func (.func 63) #[] #[.pointer (some ⟨ga,0,none⟩),.pointer (some ⟨gs,0,none⟩),.pointer (some ⟨gk,0,none⟩)]] 99::ak gf [.func (.func 64) #[] #[.pointer (some ⟨gs,0,none⟩),.pointer (some ⟨ga,0,none⟩),.pointer (some ⟨gk,0,none⟩)]] 99::H) w':=by
 refine bS Tryz.func67 rfl Tryz.ntmps67 rfl hw ?_
 refine ac<|aa<|rn 1 [0,1,2] rfl<|ae<|ac<|aa<|rn 1 [0,1,2,4] rfl<|ae<|ac<|aa<|af (aj fc jf rfl rfl (by rfl)) rfl rfl ?_
 refine ag (dL rfl rfl rfl lU (fun w hw=>jH (H:=ak go [.func (.func 63) #[] #[.pointer (some ⟨ga,0,none⟩),.pointer (some ⟨gs,0,none⟩),.pointer (some ⟨gk,0,none⟩)]] 99::ak gf [.func (.func 64) #[] #[.pointer (some ⟨gs,0,none⟩),.pointer (some ⟨ga,0,none⟩),.pointer (some ⟨gk,0,none⟩)]] 99::H) ga gs gk s k b hk hl w (hw.msub ms))) rfl rfl (fun⟨n,k1,b1⟩ hn=>?_)
 try dsimp only
 refine rn 1 [0,1,2,4,5] rfl<|ae<|ac<|ac<|aa<|rn 1 [0,1,2,4,5,6] rfl<|ae ?_
 obtain⟨hn,hn0,hn1⟩:dN eQ s k b n k1 b1∧0≤n∧n≤255:=hn
 refine dA (fun w h=>Cw.nilO aX h) ?_
 refine aB (bI (fun g:(Nat×Nat×Bool×List aX)×(Option Addr×Nat)=>lO eO s b (fT (s.drop k)) (n.toNat - g.1.1) g.1.2.1 g.1.2.2.1 g.1.2.2.2∧g.1.1≤n.toNat∧g.1.2.2.2.length≤g.1.1) (fun g=>n.toNat - g.1.1) (fun g=> [(0,.pointer (some ⟨go,0,none⟩)),(1,.pointer (some ⟨gk,0,none⟩)),(2,.pointer (some ⟨gf,0,none⟩)),(4,.slice g.2.1 g.1.2.2.2.length g.2.2),(5,.int .i64 n),(6,.int .i64 (g.1.1:Int))]) (fun g=>ak ga [.int .i64 (g.1.2.1:Int)] 3::ak gs [.string ⟨s.toArray⟩] 9::ak gk [.bool g.1.2.2.1] 4::ap (.slice g.2.1 g.1.2.2.2.length g.2.2) g.1.2.2.2::ak go [.func (.func 63) #[] #[.pointer (some ⟨ga,0,none⟩),.pointer (some ⟨gs,0,none⟩),.pointer (some ⟨gk,0,none⟩)]] 99::ak gf [.func (.func 64) #[] #[.pointer (some ⟨gs,0,none⟩),.pointer (some ⟨ga,0,none⟩),.pointer (some ⟨gk,0,none⟩)]] 99::H) ((0,k1,b1,[]),(none,0)) (⟨lZ hn,Nat.zero_le _,Nat.le_refl _⟩) ⟨rfl,rfl,rfl,rfl,rfl,rfl,trivial⟩ (fun _ h=>h.msub ms) ?_)
 rintro⟨⟨i,kj,bj,acc⟩,Aj,cj⟩ hj
 try dsimp only
 obtain⟨hj,hi1,hi2⟩:lO eO s b (fT (s.drop k)) (n.toNat - i) kj bj acc∧i≤n.toNat∧acc.length≤i:=hj
 refine ac<|ac<|aa<|rn 4 [0,1,2,4,5,6,13] rfl<|bM (t:=13) rfl (fun h1=>?_) (fun h1=>?_)
 ·have h1:=of_decide_eq_true h1
  refine af (aj fc dx rfl rfl (by rfl)) rfl rfl ?_
  refine rn 1 [0,1,2,4,5,6,15] rfl<|ae<|cg rfl (fun h2=>?_) (fun h2=>?_)
  ·have hb:bj=true:=h2
   subst hb
   rw[show n.toNat - i=(n.toNat - (i+1))+1 from by omega] at hj
   refine ar (am ?_)
   refine ac<|aB<|ac<|aa<|af (aj fc jf rfl rfl (by rfl)) rfl rfl ?_
   refine ag (dL rfl rfl rfl lU (fun w hw=>jH (H:=ap (.slice Aj acc.length cj) acc::ak go [.func (.func 63) #[] #[.pointer (some ⟨ga,0,none⟩),.pointer (some ⟨gs,0,none⟩),.pointer (some ⟨gk,0,none⟩)]] 99::ak gf [.func (.func 64) #[] #[.pointer (some ⟨gs,0,none⟩),.pointer (some ⟨ga,0,none⟩),.pointer (some ⟨gk,0,none⟩)]] 99::H) ga gs gk s kj true hj.le hl w (hw.msub ms))) rfl rfl (fun⟨q,k2,b2⟩ hq=>?_)
   try dsimp only
   refine rn 1 [0,1,2,4,5,6,7] rfl<|ae ?_
   obtain⟨hq,hq0,hq1⟩:dN eQ s kj true q k2 b2∧0≤q∧q≤255:=hq
   refine eb (fun _:Unit=>True) (fun _=> [(0,.pointer (some ⟨go,0,none⟩)),(1,.pointer (some ⟨gk,0,none⟩)),(2,.pointer (some ⟨gf,0,none⟩)),(4,.slice Aj acc.length cj),(5,.int .i64 n),(6,.int .i64 (i:Int)),(7,.int .i64 q)]) (fun _=>ak ga [.int .i64 (k2:Int)] 3::ak gs [.string ⟨s.toArray⟩] 9::ak gk [.bool (b2 && decide (q<2))] 4::ap (.slice Aj acc.length cj) acc::ak go [.func (.func 63) #[] #[.pointer (some ⟨ga,0,none⟩),.pointer (some ⟨gs,0,none⟩),.pointer (some ⟨gk,0,none⟩)]] 99::ak gf [.func (.func 64) #[] #[.pointer (some ⟨gs,0,none⟩),.pointer (some ⟨ga,0,none⟩),.pointer (some ⟨gk,0,none⟩)]] 99::H) ?_ ?_
   ·refine aa<|af (aj fc dx rfl rfl (by rfl)) rfl rfl ?_
    refine rn 1 [0,1,2,4,5,6,7,21] rfl<|bM (t:=21) rfl (fun h3=>?_) (fun h3=>?_)
    ·have h3:b2=true:=h3
     subst h3
     refine rn 3 [0,1,2,4,5,6,7,24] rfl<|ag (aJ _ fc dK rfl rfl rfl rfl rfl (by rfl) rfl (by rfl)) rfl rfl (fun _ _=>?_)
     refine gC () (trivial) ⟨rfl,rfl,rfl,rfl,rfl,rfl,rfl,trivial⟩ (fun _ h=>h.msub ms)
    have h3:b2=false:=h3
    subst h3
    refine rn 3 [0,1,2,4,5,6,7,24] rfl<|ag (aJ _ fc dK rfl rfl rfl rfl rfl (by rfl) rfl (by rfl)) rfl rfl (fun _ _=>?_)
    refine gC () (trivial) ⟨rfl,rfl,rfl,rfl,rfl,rfl,rfl,trivial⟩ (fun _ h=>h.msub ms)
   rintro _ _
   try dsimp only
   refine aa<|rn 3 [0,1,2,5,6,25,27] rfl<|af (aj fc jf rfl rfl (by rfl)) rfl rfl ?_
   refine ag (dL rfl rfl rfl Tryz.call64 (fun w hw=>x8 (H:=ap (.slice Aj acc.length cj) acc::ak go [.func (.func 63) #[] #[.pointer (some ⟨ga,0,none⟩),.pointer (some ⟨gs,0,none⟩),.pointer (some ⟨gk,0,none⟩)]] 99::ak gf [.func (.func 64) #[] #[.pointer (some ⟨gs,0,none⟩),.pointer (some ⟨ga,0,none⟩),.pointer (some ⟨gk,0,none⟩)]] 99::H) ga gs gk s k2 (b2 && decide (q<2)) hq.le hl w (hw.msub ms))) rfl rfl (fun⟨z,k3,b3⟩ hz=>?_)
   try dsimp only
   refine af (bN (cs:= [_,_]) nR cy rfl rfl (by rfl)) rfl rfl ?_
   refine ag (bu (cs:= [_,_]) aI aV cy rfl rfl rfl rfl rfl) rfl rfl (fun g1 _=>?_)
   obtain⟨hz,hzi⟩:dN fK s k2 (b2 && decide (q<2)) z k3 b3∧be z:=hz
   refine ag (dJ (α:=aX) (bytes:=16) ⟨decide (q=1),z⟩ [] rfl aI (cU gg) rfl (fV fc fc) (eD hzi) (by omega) (by omega) rfl rfl rfl) rfl rfl (fun⟨A5,c5⟩ _=>?_)
   try dsimp only
   refine rn 1 [0,1,2,4,5,6] rfl<|bC (aH (am ?_))
   refine aa<|rn 1 [0,1,2,4,5,16] rfl<|af (br rfl rfl rfl (by omega)) rfl rfl<|rn 1 [0,1,2,4,5,6] rfl<|a5 ((i+1,k3,b3,acc++ [⟨decide (q=1),z⟩]),(A5,c5)) (⟨m4 hj (CG hq hz),by show i+1≤_;omega,by show (acc++ [_]).length≤i+1;rw[List.length_append,List.length_singleton];omega⟩) (by show n.toNat - (i+1)<n.toNat - i;omega) ⟨rfl,rfl,rfl,rfl,rfl,rfl,trivial⟩ (fun _ h=>h.msub ms)
  have hb:bj=false:=h2
  subst hb
  refine bz (aD (aD (bO (am ?_))))
  refine ac<|aa<|rn 2 [3] rfl<|ae<|aq<|av Tryz.results67 (an rfl) ?_
  intro w hw
  exact⟨((acc,kj,false),(Aj,cj)),⟨jo hj (fun h=>by cases h),by show acc.length≤255;omega⟩,rfl,hw.msub ms⟩
 have h1:=of_decide_eq_false h1
 refine rn 2 [0,1,2,4,5,6,15] rfl<|ae<|bZ rfl<|bz (aD (aD (bO (am ?_))))
 refine ac<|aa<|rn 2 [3] rfl<|ae<|aq<|av Tryz.results67 (an rfl) ?_
 intro w hw
 exact⟨((acc,kj,bj),(Aj,cj)),⟨jo hj (fun _=>by omega),by show acc.length≤255;omega⟩,rfl,hw.msub ms⟩
end
end
section
theorem yM {s:List UInt8} {k k1 k2 k3 k4:Nat} {b b1 b2 b3 b4:Bool} {f p:Int} {l t:List aX} (h1:dN eQ s k b f k1 b1) (h2:dN eQ s k1 b1 p k2 b2) (h3:dN fT s k2 b2 l k3 b3) (h4:dN fT s k3 b3 t k4 b4):dN dW s k b ⟨f,p,l,t⟩ k4 b4:=by
 refine⟨h4.le,fun hb=>?_,fun hb h0=>?_⟩
 ·obtain⟨c3,d3⟩:=h4.t hb
  obtain⟨c2,d2⟩:=h3.t c3
  obtain⟨c1,d1⟩:=h2.t c2
  obtain⟨c0,d0⟩:=h1.t c1
  refine⟨c0,?_⟩
  unfold dW
  rw[d0]
  simp only
  rw[d1]
  simp only
  rw[d2]
  simp only
  rw[d3]
 unfold dW
 by_cases e0:b1=true
 case neg=>rw[h1.f (by simpa using e0) h0]
 rw[(h1.t e0).2]
 simp only
 by_cases e1:b2=true
 case neg=>rw[h2.f (by simpa using e1) e0]
 rw[(h2.t e1).2]
 simp only
 by_cases e2:b3=true
 case neg=>rw[h3.f (by simpa using e2) e1]
 rw[(h3.t e2).2]
 simp only
 rw[h4.f hb e2]
theorem AD {s:List UInt8} {k1 k2 k3 k4 k5 k6:Nat} {b1 b2 b3 b4 b5 b6:Bool} {st tr:Int} {i o:List Int} {b:List (List Int)} {f:List aO} (h1:dN eQ s 0 true st k1 b1) (h2:dN eQ s k1 b1 tr k2 b2) (h3:dN eC s k2 b2 i k3 b3) (h4:dN eC s k3 b3 o k4 b4) (h5:dN (dR eC) s k4 b4 b k5 b5) (h6:dN (dR dW) s k5 b5 f k6 b6) :
  dN gF s 0 true ⟨f,b,i,o,st,tr⟩ k6 b6:=by
 refine⟨h6.le,fun hb=>?_,fun hb h0=>?_⟩
 ·obtain⟨c5,d5⟩:=h6.t hb
  obtain⟨c4,d4⟩:=h5.t c5
  obtain⟨c3,d3⟩:=h4.t c4
  obtain⟨c2,d2⟩:=h3.t c3
  obtain⟨c1,d1⟩:=h2.t c2
  obtain⟨c0,d0⟩:=h1.t c1
  refine⟨c0,?_⟩
  unfold gF
  rw[d0]
  simp only
  rw[d1]
  simp only
  rw[d2]
  simp only
  rw[d3]
  simp only
  rw[d4]
  simp only
  rw[d5]
 unfold gF
 by_cases e0:b1=true
 case neg=>rw[h1.f (by simpa using e0) h0]
 rw[(h1.t e0).2]
 simp only
 by_cases e1:b2=true
 case neg=>rw[h2.f (by simpa using e1) e0]
 rw[(h2.t e1).2]
 simp only
 by_cases e2:b3=true
 case neg=>rw[h3.f (by simpa using e2) e1]
 rw[(h3.t e2).2]
 simp only
 by_cases e3:b4=true
 case neg=>rw[h4.f (by simpa using e3) e2]
 rw[(h4.t e3).2]
 simp only
 by_cases e4:b5=true
 case neg=>rw[h5.f (by simpa using e4) e3]
 rw[(h5.t e4).2]
 simp only
 rw[h6.f hb e4]
theorem yu {s:List UInt8} {m:aG} {k:Nat} {b:Bool} (h:dN gF s 0 true m k b):ic s=if b=true∧¬k<s.length then (m,true) else (default,false):=by
 have h0:s.drop 0=s:=rfl
 unfold ic fq
 cases hb:b
 ·have:=h.f hb rfl
  rw[h0] at this
  rw[this,if_neg (by simp)]
 have:=(h.t hb).2
 rw[h0] at this
 rw[this]
 simp only
 by_cases hk:k<s.length
 ·rw[if_neg (by intro e;have:=congrArg List.length e;rw[List.length_drop,List.length_nil] at this;omega),if_neg (by simp[hk])]
 rw[if_pos (List.drop_of_length_le (by omega)),if_pos (by simp[hk])]
set_option maxRecDepth 100000 in
set_option maxHeartbeats 8000000 in
theorem tg (s:List UInt8) (r:aG×Bool) (hr:ic s=r) (hl:s.length≤140737488355320) (w:World) :
  Calls Tryz.prog 18 #[.string ⟨s.toArray⟩] w fun e w'=> ∃g:MA,True∧e= .returned (.tuple #[.agg #[.slice g.Af r.1.frames.length g.cf,.slice g.Ab r.1.blocks.length g.cb,.slice g.Ai r.1.inn.length g.ci,.slice g.Ao r.1.out.length g.co,.int .i64 r.1.status,.int .i64 r.1.trap],.bool r.2])∧
   Cw w.heap.size w [ap (.slice g.Af r.1.frames.length g.cf) r.1.frames,ap (.slice g.Ab r.1.blocks.length g.cb) r.1.blocks,ap (.slice g.Ai r.1.inn.length g.ci) r.1.inn,ap (.slice g.Ao r.1.out.length g.co) r.1.out] w':=by
 refine enter Tryz.func18 rfl Tryz.ntmps18 rfl ?_
 refine ac<|aa<|ag (bH rfl rfl rfl) rfl rfl (fun g1 _=>?_)
 refine ag (aS aR rfl rfl) rfl rfl (fun g2 _=>?_)
 refine rn 1 [1,2] rfl<|ae<|ac<|aa<|ag (aS a6 rfl rfl) rfl rfl (fun g3 _=>?_)
 refine ag (aS Tryz.zeroValue4 rfl rfl) rfl rfl (fun g4 _=>?_)
 refine ag (aJ _ fc aF rfl rfl rfl rfl rfl (by rfl) rfl (by rfl)) rfl rfl (fun _ _=>?_)
 refine ag (aJ _ fc dK rfl rfl rfl rfl rfl (by rfl) rfl (by rfl)) rfl rfl (fun _ _=>?_)
 refine ae<|ac<|aa<|rn 1 [1,2,4,5,15] rfl<|ag (aS Tryz.zeroValue99 rfl rfl) rfl rfl (fun g5 _=>?_)
 refine ag (aJ _ fc Tryz.sizeOf99 rfl rfl rfl rfl rfl (by rfl) rfl (by rfl)) rfl rfl (fun _ _=>?_)
 refine ae<|ac<|aa<|rn 1 [1,2,4,5,6,16] rfl<|ag (aS Tryz.zeroValue99 rfl rfl) rfl rfl (fun g6 _=>?_)
 refine ag (aJ _ fc Tryz.sizeOf99 rfl rfl rfl rfl rfl (by rfl) rfl (by rfl)) rfl rfl (fun _ _=>?_)
 refine ae<|ac<|aa<|rn 2 [1,2,4,5,6,7,8] rfl<|ae<|ac<|aa<|rn 2 [1,2,4,5,6,8,9] rfl<|ae<|ac<|aa<|ag (aS aR rfl rfl) rfl rfl (fun g7 _=>?_)
 refine ae<|ac<|aa<|af (aj fc jf rfl rfl (by rfl)) rfl rfl ?_
 refine ag (dL rfl rfl rfl lU (fun w hw=>jH g3 g1 g4 s 0 true (Nat.zero_le _) hl w (hw.msub (T:=_::_::_::ak g5 [.func (.func 63) #[] #[.pointer (some ⟨g3,0,none⟩),.pointer (some ⟨g1,0,none⟩),.pointer (some ⟨g4,0,none⟩)]] 99::ak g6 [.func (.func 64) #[] #[.pointer (some ⟨g1,0,none⟩),.pointer (some ⟨g3,0,none⟩),.pointer (some ⟨g4,0,none⟩)]] 99::ak g2 [.slice none 0 0,.slice none 0 0,.slice none 0 0,.slice none 0 0,.int .i64 0,.int .i64 0] 29::ak g7 [.slice none 0 0,.slice none 0 0,.slice none 0 0,.slice none 0 0,.int .i64 0,.int .i64 0] 29:: []) ms))) rfl rfl (fun⟨st,k1,b1⟩ h1=>?_)
 try dsimp only
 refine rn 1 [1,2,4,5,6,8,9,10,20,21] rfl<|ag (aJ _ fc aF rfl rfl rfl rfl rfl (by rfl) rfl (by rfl)) rfl rfl (fun _ _=>?_)
 refine ae<|ac<|aa<|af (aj fc jf rfl rfl (by rfl)) rfl rfl ?_
 obtain⟨h1,st0,st1⟩:dN eQ s 0 true st k1 b1∧0≤st∧st≤255:=h1
 refine ag (dL rfl rfl rfl lU (fun w hw=>jH g3 g1 g4 s k1 b1 h1.le hl w (hw.msub (T:=_::_::_::ak g5 [.func (.func 63) #[] #[.pointer (some ⟨g3,0,none⟩),.pointer (some ⟨g1,0,none⟩),.pointer (some ⟨g4,0,none⟩)]] 99::ak g6 [.func (.func 64) #[] #[.pointer (some ⟨g1,0,none⟩),.pointer (some ⟨g3,0,none⟩),.pointer (some ⟨g4,0,none⟩)]] 99::ak g2 [.slice none 0 0,.slice none 0 0,.slice none 0 0,.slice none 0 0,.int .i64 0,.int .i64 0] 29::ak g7 [.slice none 0 0,.slice none 0 0,.slice none 0 0,.slice none 0 0,.int .i64 st,.int .i64 0] 29:: []) ms))) rfl rfl (fun⟨tr,k2,b2⟩ h2=>?_)
 try dsimp only
 refine rn 1 [1,2,4,5,6,8,9,10,23,24] rfl<|ag (aJ _ fc aF rfl rfl rfl rfl rfl (by rfl) rfl (by rfl)) rfl rfl (fun _ _=>?_)
 refine ae<|ac<|aa<|rn 1 [1,2,4,5,6,8,9,10,25] rfl ?_
 obtain⟨h2,tr0,tr1⟩:dN eQ s k1 b1 tr k2 b2∧0≤tr∧tr≤255:=h2
 refine ag (dL rfl rfl rfl IQ (fun w hw=>tv g3 g1 g4 g5 g6 s k2 b2 h2.le hl w (hw.msub (T:=_::_::_::ak g5 [.func (.func 63) #[] #[.pointer (some ⟨g3,0,none⟩),.pointer (some ⟨g1,0,none⟩),.pointer (some ⟨g4,0,none⟩)]] 99::ak g6 [.func (.func 64) #[] #[.pointer (some ⟨g1,0,none⟩),.pointer (some ⟨g3,0,none⟩),.pointer (some ⟨g4,0,none⟩)]] 99::ak g2 [.slice none 0 0,.slice none 0 0,.slice none 0 0,.slice none 0 0,.int .i64 0,.int .i64 0] 29::ak g7 [.slice none 0 0,.slice none 0 0,.slice none 0 0,.slice none 0 0,.int .i64 st,.int .i64 tr] 29:: []) ms))) rfl rfl (fun⟨⟨i,k3,b3⟩,⟨Ai,ci⟩⟩ h3=>?_)
 try dsimp only
 refine rn 1 [1,2,4,5,6,8,9,10,26,27] rfl<|ag (aJ _ fc cC rfl rfl rfl rfl rfl (by rfl) rfl (by rfl)) rfl rfl (fun _ _=>?_)
 refine ae<|ac<|aa<|rn 1 [1,2,4,5,6,8,9,10,28] rfl ?_
 obtain⟨h3,hi255⟩:dN eC s k2 b2 i k3 b3∧i.length≤255:=h3
 refine ag (dL rfl rfl rfl IQ (fun w hw=>tv g3 g1 g4 g5 g6 s k3 b3 h3.le hl w (hw.msub (T:=_::_::_::ak g5 [.func (.func 63) #[] #[.pointer (some ⟨g3,0,none⟩),.pointer (some ⟨g1,0,none⟩),.pointer (some ⟨g4,0,none⟩)]] 99::ak g6 [.func (.func 64) #[] #[.pointer (some ⟨g1,0,none⟩),.pointer (some ⟨g3,0,none⟩),.pointer (some ⟨g4,0,none⟩)]] 99::ak g2 [.slice none 0 0,.slice none 0 0,.slice none 0 0,.slice none 0 0,.int .i64 0,.int .i64 0] 29::ak g7 [.slice none 0 0,.slice none 0 0,.slice Ai i.length ci,.slice none 0 0,.int .i64 st,.int .i64 tr] 29::ap (.slice Ai i.length ci) i:: []) ms))) rfl rfl (fun⟨⟨o,k4,b4⟩,⟨Ao,co⟩⟩ h4=>?_)
 try dsimp only
 refine rn 1 [1,2,4,5,6,8,9,10,29,30] rfl<|ag (aJ _ fc cC rfl rfl rfl rfl rfl (by rfl) rfl (by rfl)) rfl rfl (fun _ _=>?_)
 refine ae<|ac<|aa<|af (aj fc jf rfl rfl (by rfl)) rfl rfl ?_
 obtain⟨h4,ho255⟩:dN eC s k3 b3 o k4 b4∧o.length≤255:=h4
 refine ag (dL rfl rfl rfl lU (fun w hw=>jH g3 g1 g4 s k4 b4 h4.le hl w (hw.msub (T:=_::_::_::ak g5 [.func (.func 63) #[] #[.pointer (some ⟨g3,0,none⟩),.pointer (some ⟨g1,0,none⟩),.pointer (some ⟨g4,0,none⟩)]] 99::ak g6 [.func (.func 64) #[] #[.pointer (some ⟨g1,0,none⟩),.pointer (some ⟨g3,0,none⟩),.pointer (some ⟨g4,0,none⟩)]] 99::ak g2 [.slice none 0 0,.slice none 0 0,.slice none 0 0,.slice none 0 0,.int .i64 0,.int .i64 0] 29::ak g7 [.slice none 0 0,.slice none 0 0,.slice Ai i.length ci,.slice Ao o.length co,.int .i64 st,.int .i64 tr] 29::ap (.slice Ai i.length ci) i::ap (.slice Ao o.length co) o:: []) ms))) rfl rfl (fun⟨n,k5,b5⟩ h5=>?_)
 try dsimp only
 refine rn 1 [1,2,4,5,6,8,9,10,11] rfl<|ae<|ac<|ac<|aa<|rn 1 [1,2,4,5,6,8,9,10,11,12] rfl<|ae ?_
 obtain⟨h5,n0,n1⟩:dN eQ s k4 b4 n k5 b5∧0≤n∧n≤255:=h5
 refine ir (fun g:(List (List Int)×Nat×Bool)×(Option Addr×Nat)=>dN (dR eC) s k4 b4 g.1.1 g.1.2.1 g.1.2.2∧g.1.1.length≤255) (fun g=> [(1,.pointer (some ⟨g1,0,none⟩)),(2,.pointer (some ⟨g2,0,none⟩)),(4,.pointer (some ⟨g3,0,none⟩)),(5,.pointer (some ⟨g4,0,none⟩)),(6,.pointer (some ⟨g5,0,none⟩)),(9,.func (.func 67) #[] #[.pointer (some ⟨g5,0,none⟩),.pointer (some ⟨g4,0,none⟩),.pointer (some ⟨g6,0,none⟩)]),(10,.pointer (some ⟨g7,0,none⟩))]) (fun g=>ak g3 [.int .i64 (g.1.2.1:Int)] 3::ak g1 [.string ⟨s.toArray⟩] 9::ak g4 [.bool g.1.2.2] 4::ak g5 [.func (.func 63) #[] #[.pointer (some ⟨g3,0,none⟩),.pointer (some ⟨g1,0,none⟩),.pointer (some ⟨g4,0,none⟩)]] 99::ak g6 [.func (.func 64) #[] #[.pointer (some ⟨g1,0,none⟩),.pointer (some ⟨g3,0,none⟩),.pointer (some ⟨g4,0,none⟩)]] 99::ak g7 [.slice none 0 0,.slice g.2.1 g.1.1.length g.2.2,.slice Ai i.length ci,.slice Ao o.length co,.int .i64 st,.int .i64 tr] 29::ap (.slice g.2.1 g.1.1.length g.2.2) g.1.1::ap (.slice Ai i.length ci) i::ap (.slice Ao o.length co) o:: [ak g2 [.slice none 0 0,.slice none 0 0,.slice none 0 0,.slice none 0 0,.int .i64 0,.int .i64 0] 29]) ?_ ?_
 ·refine dA (fun w h=>Cw.nilO (List Int) h) ?_
  refine aB (bI (fun g:(Nat×Nat×Bool×List (List Int))×(Option Addr×Nat)=>lO eC s b4 (dR eC (s.drop k4)) (n.toNat - g.1.1) g.1.2.1 g.1.2.2.1 g.1.2.2.2∧g.1.1≤n.toNat∧g.1.2.2.2.length≤g.1.1) (fun g=>n.toNat - g.1.1) (fun g=> [(1,.pointer (some ⟨g1,0,none⟩)),(2,.pointer (some ⟨g2,0,none⟩)),(4,.pointer (some ⟨g3,0,none⟩)),(5,.pointer (some ⟨g4,0,none⟩)),(6,.pointer (some ⟨g5,0,none⟩)),(8,.func (.func 66) #[] #[.pointer (some ⟨g5,0,none⟩),.pointer (some ⟨g4,0,none⟩),.pointer (some ⟨g6,0,none⟩)]),(9,.func (.func 67) #[] #[.pointer (some ⟨g5,0,none⟩),.pointer (some ⟨g4,0,none⟩),.pointer (some ⟨g6,0,none⟩)]),(10,.pointer (some ⟨g7,0,none⟩)),(11,.int .i64 n),(12,.int .i64 (g.1.1:Int))]) (fun g=>ak g3 [.int .i64 (g.1.2.1:Int)] 3::ak g1 [.string ⟨s.toArray⟩] 9::ak g4 [.bool g.1.2.2.1] 4::ak g5 [.func (.func 63) #[] #[.pointer (some ⟨g3,0,none⟩),.pointer (some ⟨g1,0,none⟩),.pointer (some ⟨g4,0,none⟩)]] 99::ak g6 [.func (.func 64) #[] #[.pointer (some ⟨g1,0,none⟩),.pointer (some ⟨g3,0,none⟩),.pointer (some ⟨g4,0,none⟩)]] 99::ak g7 [.slice none 0 0,.slice g.2.1 g.1.2.2.2.length g.2.2,.slice Ai i.length ci,.slice Ao o.length co,.int .i64 st,.int .i64 tr] 29::ap (.slice g.2.1 g.1.2.2.2.length g.2.2) g.1.2.2.2::ap (.slice Ai i.length ci) i::ap (.slice Ao o.length co) o:: [ak g2 [.slice none 0 0,.slice none 0 0,.slice none 0 0,.slice none 0 0,.int .i64 0,.int .i64 0] 29]) ((0,k5,b5,[]),(none,0)) (⟨lZ h5,Nat.zero_le _,Nat.le_refl _⟩) ⟨rfl,rfl,rfl,rfl,rfl,rfl,rfl,rfl,rfl,rfl,trivial⟩ me ?_)
  rintro⟨⟨q,kj,bj,acc⟩,Aj,cj⟩ hj
  try dsimp only
  obtain⟨hj,hi1,hi2⟩:lO eC s b4 (dR eC (s.drop k4)) (n.toNat - q) kj bj acc∧q≤n.toNat∧acc.length≤q:=hj
  refine ac<|ac<|aa<|rn 4 [1,2,4,5,6,8,9,10,11,12,36] rfl<|bM (t:=36) rfl (fun e1=>?_) (fun e1=>?_)
  ·have e1:=of_decide_eq_true e1
   refine af (aj fc dx rfl rfl (by rfl)) rfl rfl ?_
   refine rn 1 [1,2,4,5,6,8,9,10,11,12,38] rfl<|ae<|cg rfl (fun e2=>?_) (fun e2=>?_)
   ·have hb:bj=true:=e2
    subst hb
    rw[show n.toNat - q=(n.toNat - (q+1))+1 from by omega] at hj
    refine ar (am ?_)
    refine ac<|aB<|fL (.still 0 (.still 1 (.still 2 (.pick 3 (.pick 4 (.pick 5 (.calm 6 (.pick 7 .done .stop)) .stop) .stop) .stop)))) [5,6,7] rfl (by kernel_rfl) (by kernel_rfl) [ak g7 [.slice none 0 0,.slice Aj acc.length cj,.slice Ai i.length ci,.slice Ao o.length co,.int .i64 st,.int .i64 tr] 29] ?_
    refine aU ha 1 [1,2,4,5,6,8,9,10,11,12,41] rfl<|ax rfl (aj fc dS rfl rfl (by rfl)) rfl rfl ha ?_
    refine aU ha 1 [1,2,4,5,6,8,9,10,11,12,42,43] rfl<|aK rfl (dL rfl rfl rfl IQ (fun w hw=>tv g3 g1 g4 g5 g6 s kj true hj.le hl w (hw.msub (T:=_::_::_::ak g5 [.func (.func 63) #[] #[.pointer (some ⟨g3,0,none⟩),.pointer (some ⟨g1,0,none⟩),.pointer (some ⟨g4,0,none⟩)]] 99::ak g6 [.func (.func 64) #[] #[.pointer (some ⟨g1,0,none⟩),.pointer (some ⟨g3,0,none⟩),.pointer (some ⟨g4,0,none⟩)]] 99::ak g7 [.slice none 0 0,.slice Aj acc.length cj,.slice Ai i.length ci,.slice Ao o.length co,.int .i64 st,.int .i64 tr] 29::ap (.slice Aj acc.length cj) acc::ap (.slice Ai i.length ci) i::ap (.slice Ao o.length co) o:: [ak g2 [.slice none 0 0,.slice none 0 0,.slice none 0 0,.slice none 0 0,.int .i64 0,.int .i64 0] 29]) ms))) rfl rfl (.inr fun _=>ha) (fun⟨⟨x,kx,bx⟩,⟨Ax,cx⟩⟩ hx=>?_) aE
    try dsimp only
    refine aK rfl (bu (cs:= [_]) bF cC j8 rfl rfl rfl rfl rfl) rfl rfl (.inr fun _=>ha) (fun g8 _=>?_) aE
    obtain⟨hx,hxl⟩:dN eC s kj true x kx bx∧x.length≤255:=hx
    refine aK rfl (dJ (α:=List Int) (bytes:=24) x [ap (.slice Ax x.length cx) x] rfl bF (cU uk) rfl (yR fc fc fc) vT (by omega) (by omega) rfl rfl rfl) rfl rfl (.inl rfl) (fun⟨A5,c5⟩ _=>?_) aE
    try dsimp only
    refine gL 1 [1,2,4,5,6,8,9,10,11,12,46,47] rfl<|aK rfl (aJ _ fc Cb rfl rfl rfl rfl rfl (by rfl) rfl (by rfl)) rfl rfl (.inl rfl) (fun _ _=>?_) aE
    refine df (aH (am ?_))
    refine aa<|rn 1 [1,2,4,5,6,8,9,10,11,39] rfl<|af (br rfl rfl rfl (by omega)) rfl rfl<|rn 1 [1,2,4,5,6,8,9,10,11,12] rfl<|a5 ((q+1,kx,bx,acc++ [x]),(A5,c5)) (⟨m4 hj hx,by show q+1≤_;omega,by show (acc++ [x]).length≤q+1;rw[List.length_append,List.length_singleton];omega⟩) (by show n.toNat - (q+1)<n.toNat - q;omega) ⟨rfl,rfl,rfl,rfl,rfl,rfl,rfl,rfl,rfl,rfl,trivial⟩ me
   have hb:bj=false:=e2
   subst hb
   refine bz (aD (aD (bO ?_)))
   refine bq ((acc,kj,false),(Aj,cj)) (⟨jo hj (fun h=>by cases h),by show acc.length≤255;omega⟩) ⟨rfl,rfl,rfl,rfl,rfl,rfl,rfl,trivial⟩ me
  have e1:=of_decide_eq_false e1
  refine rn 2 [1,2,4,5,6,8,9,10,11,12,38] rfl<|ae<|bZ rfl<|bz (aD (aD (bO ?_)))
  refine bq ((acc,kj,bj),(Aj,cj)) (⟨jo hj (fun _=>by omega),by show acc.length≤255;omega⟩) ⟨rfl,rfl,rfl,rfl,rfl,rfl,rfl,trivial⟩ me
 rintro⟨⟨bl,k6,b6⟩,Ab,cb⟩ h6
 obtain⟨h6,hbl⟩:dN (dR eC) s k4 b4 bl k6 b6∧bl.length≤255:=h6
 try dsimp only
 refine ac<|aa<|af (aj fc jf rfl rfl (by rfl)) rfl rfl ?_
 refine ag (dL rfl rfl rfl lU (fun w hw=>jH g3 g1 g4 s k6 b6 h6.le hl w (hw.msub (T:=_::_::_::ak g5 [.func (.func 63) #[] #[.pointer (some ⟨g3,0,none⟩),.pointer (some ⟨g1,0,none⟩),.pointer (some ⟨g4,0,none⟩)]] 99::ak g6 [.func (.func 64) #[] #[.pointer (some ⟨g1,0,none⟩),.pointer (some ⟨g3,0,none⟩),.pointer (some ⟨g4,0,none⟩)]] 99::ak g7 [.slice none 0 0,.slice Ab bl.length cb,.slice Ai i.length ci,.slice Ao o.length co,.int .i64 st,.int .i64 tr] 29::ap (.slice Ab bl.length cb) bl::ap (.slice Ai i.length ci) i::ap (.slice Ao o.length co) o:: [ak g2 [.slice none 0 0,.slice none 0 0,.slice none 0 0,.slice none 0 0,.int .i64 0,.int .i64 0] 29]) ms))) rfl rfl (fun⟨n2,k7,b7⟩ h7=>?_)
 try dsimp only
 refine rn 1 [1,2,4,5,6,9,10,11] rfl<|ae<|ac<|ac<|aa<|rn 1 [1,2,4,5,6,9,10,11,13] rfl<|ae ?_
 obtain⟨h7,n20,n21⟩:dN eQ s k6 b6 n2 k7 b7∧0≤n2∧n2≤255:=h7
 refine ir (fun g:(List aO×Nat×Bool)×(Option Addr×Nat)=>dN (dR dW) s k6 b6 g.1.1 g.1.2.1 g.1.2.2) (fun g=> [(1,.pointer (some ⟨g1,0,none⟩)),(2,.pointer (some ⟨g2,0,none⟩)),(4,.pointer (some ⟨g3,0,none⟩)),(5,.pointer (some ⟨g4,0,none⟩)),(10,.pointer (some ⟨g7,0,none⟩))]) (fun g=>ak g3 [.int .i64 (g.1.2.1:Int)] 3::ak g1 [.string ⟨s.toArray⟩] 9::ak g4 [.bool g.1.2.2] 4::ak g7 [.slice g.2.1 g.1.1.length g.2.2,.slice Ab bl.length cb,.slice Ai i.length ci,.slice Ao o.length co,.int .i64 st,.int .i64 tr] 29::ap (.slice g.2.1 g.1.1.length g.2.2) g.1.1::ap (.slice Ab bl.length cb) bl::ap (.slice Ai i.length ci) i::ap (.slice Ao o.length co) o:: [ak g2 [.slice none 0 0,.slice none 0 0,.slice none 0 0,.slice none 0 0,.int .i64 0,.int .i64 0] 29]) ?_ ?_
 ·refine dA (fun w h=>Cw.nilO aO h) ?_
  refine aB (bI (fun g:(Nat×Nat×Bool×List aO)×(Option Addr×Nat)=>lO dW s b6 (dR dW (s.drop k6)) (n2.toNat - g.1.1) g.1.2.1 g.1.2.2.1 g.1.2.2.2∧g.1.1≤n2.toNat∧g.1.2.2.2.length≤g.1.1) (fun g=>n2.toNat - g.1.1) (fun g=> [(1,.pointer (some ⟨g1,0,none⟩)),(2,.pointer (some ⟨g2,0,none⟩)),(4,.pointer (some ⟨g3,0,none⟩)),(5,.pointer (some ⟨g4,0,none⟩)),(6,.pointer (some ⟨g5,0,none⟩)),(9,.func (.func 67) #[] #[.pointer (some ⟨g5,0,none⟩),.pointer (some ⟨g4,0,none⟩),.pointer (some ⟨g6,0,none⟩)]),(10,.pointer (some ⟨g7,0,none⟩)),(11,.int .i64 n2),(13,.int .i64 (g.1.1:Int))]) (fun g=>ak g3 [.int .i64 (g.1.2.1:Int)] 3::ak g1 [.string ⟨s.toArray⟩] 9::ak g4 [.bool g.1.2.2.1] 4::ak g5 [.func (.func 63) #[] #[.pointer (some ⟨g3,0,none⟩),.pointer (some ⟨g1,0,none⟩),.pointer (some ⟨g4,0,none⟩)]] 99::ak g6 [.func (.func 64) #[] #[.pointer (some ⟨g1,0,none⟩),.pointer (some ⟨g3,0,none⟩),.pointer (some ⟨g4,0,none⟩)]] 99::ak g7 [.slice g.2.1 g.1.2.2.2.length g.2.2,.slice Ab bl.length cb,.slice Ai i.length ci,.slice Ao o.length co,.int .i64 st,.int .i64 tr] 29::ap (.slice g.2.1 g.1.2.2.2.length g.2.2) g.1.2.2.2::ap (.slice Ab bl.length cb) bl::ap (.slice Ai i.length ci) i::ap (.slice Ao o.length co) o:: [ak g2 [.slice none 0 0,.slice none 0 0,.slice none 0 0,.slice none 0 0,.int .i64 0,.int .i64 0] 29]) ((0,k7,b7,[]),(none,0)) (⟨lZ h7,Nat.zero_le _,Nat.le_refl _⟩) ⟨rfl,rfl,rfl,rfl,rfl,rfl,rfl,rfl,rfl,trivial⟩ me ?_)
  rintro⟨⟨q,kj,bj,acc⟩,Aj,cj⟩ hj
  try dsimp only
  obtain⟨hj,hi1,hi2⟩:lO dW s b6 (dR dW (s.drop k6)) (n2.toNat - q) kj bj acc∧q≤n2.toNat∧acc.length≤q:=hj
  refine ac<|ac<|aa<|rn 4 [1,2,4,5,6,9,10,11,13,53] rfl<|bM (t:=53) rfl (fun e1=>?_) (fun e1=>?_)
  ·have e1:=of_decide_eq_true e1
   refine af (aj fc dx rfl rfl (by rfl)) rfl rfl ?_
   refine rn 1 [1,2,4,5,6,9,10,11,13,55] rfl<|ae<|cg rfl (fun e2=>?_) (fun e2=>?_)
   ·have hb:bj=true:=e2
    subst hb
    rw[show n2.toNat - q=(n2.toNat - (q+1))+1 from by omega] at hj
    refine ar (am ?_)
    refine ac<|aB<|ac<|aa<|ag (aS cP rfl rfl) rfl rfl (fun g9 _=>?_)
    refine ae<|ac<|aa<|af (aj fc jf rfl rfl (by rfl)) rfl rfl ?_
    refine ag (dL rfl rfl rfl lU (fun w hw=>jH g3 g1 g4 s kj true hj.le hl w (hw.msub (T:=_::_::_::ak g5 [.func (.func 63) #[] #[.pointer (some ⟨g3,0,none⟩),.pointer (some ⟨g1,0,none⟩),.pointer (some ⟨g4,0,none⟩)]] 99::ak g6 [.func (.func 64) #[] #[.pointer (some ⟨g1,0,none⟩),.pointer (some ⟨g3,0,none⟩),.pointer (some ⟨g4,0,none⟩)]] 99::ak g9 [.int .i64 0,.int .i64 0,.slice none 0 0,.slice none 0 0] 97::ak g7 [.slice Aj acc.length cj,.slice Ab bl.length cb,.slice Ai i.length ci,.slice Ao o.length co,.int .i64 st,.int .i64 tr] 29::ap (.slice Aj acc.length cj) acc::ap (.slice Ab bl.length cb) bl::ap (.slice Ai i.length ci) i::ap (.slice Ao o.length co) o:: [ak g2 [.slice none 0 0,.slice none 0 0,.slice none 0 0,.slice none 0 0,.int .i64 0,.int .i64 0] 29]) ms))) rfl rfl (fun⟨f,ka,ba⟩ ha1=>?_)
    try dsimp only
    refine rn 1 [1,2,4,5,6,9,10,11,13,14,59,60] rfl<|ag (aJ _ fc aF rfl rfl rfl rfl rfl (by rfl) rfl (by rfl)) rfl rfl (fun _ _=>?_)
    refine ae<|ac<|aa<|af (aj fc jf rfl rfl (by rfl)) rfl rfl ?_
    obtain⟨ha1,f0,f1⟩:dN eQ s kj true f ka ba∧0≤f∧f≤255:=ha1
    refine ag (dL rfl rfl rfl lU (fun w hw=>jH g3 g1 g4 s ka ba ha1.le hl w (hw.msub (T:=_::_::_::ak g5 [.func (.func 63) #[] #[.pointer (some ⟨g3,0,none⟩),.pointer (some ⟨g1,0,none⟩),.pointer (some ⟨g4,0,none⟩)]] 99::ak g6 [.func (.func 64) #[] #[.pointer (some ⟨g1,0,none⟩),.pointer (some ⟨g3,0,none⟩),.pointer (some ⟨g4,0,none⟩)]] 99::ak g9 [.int .i64 f,.int .i64 0,.slice none 0 0,.slice none 0 0] 97::ak g7 [.slice Aj acc.length cj,.slice Ab bl.length cb,.slice Ai i.length ci,.slice Ao o.length co,.int .i64 st,.int .i64 tr] 29::ap (.slice Aj acc.length cj) acc::ap (.slice Ab bl.length cb) bl::ap (.slice Ai i.length ci) i::ap (.slice Ao o.length co) o:: [ak g2 [.slice none 0 0,.slice none 0 0,.slice none 0 0,.slice none 0 0,.int .i64 0,.int .i64 0] 29]) ms))) rfl rfl (fun⟨p,kb,bb⟩ hb1=>?_)
    try dsimp only
    refine rn 1 [1,2,4,5,6,9,10,11,13,14,62,63] rfl<|ag (aJ _ fc aF rfl rfl rfl rfl rfl (by rfl) rfl (by rfl)) rfl rfl (fun _ _=>?_)
    refine ae<|ac<|aa<|rn 1 [1,2,4,5,6,9,10,11,13,14,64] rfl ?_
    obtain⟨hb1,p0,p1⟩:dN eQ s ka ba p kb bb∧0≤p∧p≤255:=hb1
    refine ag (dL rfl rfl rfl Tryz.call67 (fun w hw=>x7 g3 g1 g4 g5 g6 s kb bb hb1.le hl w (hw.msub (T:=_::_::_::ak g5 [.func (.func 63) #[] #[.pointer (some ⟨g3,0,none⟩),.pointer (some ⟨g1,0,none⟩),.pointer (some ⟨g4,0,none⟩)]] 99::ak g6 [.func (.func 64) #[] #[.pointer (some ⟨g1,0,none⟩),.pointer (some ⟨g3,0,none⟩),.pointer (some ⟨g4,0,none⟩)]] 99::ak g9 [.int .i64 f,.int .i64 p,.slice none 0 0,.slice none 0 0] 97::ak g7 [.slice Aj acc.length cj,.slice Ab bl.length cb,.slice Ai i.length ci,.slice Ao o.length co,.int .i64 st,.int .i64 tr] 29::ap (.slice Aj acc.length cj) acc::ap (.slice Ab bl.length cb) bl::ap (.slice Ai i.length ci) i::ap (.slice Ao o.length co) o:: [ak g2 [.slice none 0 0,.slice none 0 0,.slice none 0 0,.slice none 0 0,.int .i64 0,.int .i64 0] 29]) ms))) rfl rfl (fun⟨⟨l,kc,bc⟩,⟨Al,cl⟩⟩ hc1=>?_)
    try dsimp only
    refine rn 1 [1,2,4,5,6,9,10,11,13,14,65,66] rfl<|ag (aJ _ fc fd rfl rfl rfl rfl rfl (by rfl) rfl (by rfl)) rfl rfl (fun _ _=>?_)
    refine ae<|ac<|aa<|rn 1 [1,2,4,5,6,9,10,11,13,14,67] rfl ?_
    obtain⟨hc1,hll⟩:dN fT s kb bb l kc bc∧l.length≤255:=hc1
    refine ag (dL rfl rfl rfl Tryz.call67 (fun w hw=>x7 g3 g1 g4 g5 g6 s kc bc hc1.le hl w (hw.msub (T:=_::_::_::ak g5 [.func (.func 63) #[] #[.pointer (some ⟨g3,0,none⟩),.pointer (some ⟨g1,0,none⟩),.pointer (some ⟨g4,0,none⟩)]] 99::ak g6 [.func (.func 64) #[] #[.pointer (some ⟨g1,0,none⟩),.pointer (some ⟨g3,0,none⟩),.pointer (some ⟨g4,0,none⟩)]] 99::ak g9 [.int .i64 f,.int .i64 p,.slice Al l.length cl,.slice none 0 0] 97::ap (.slice Al l.length cl) l::ak g7 [.slice Aj acc.length cj,.slice Ab bl.length cb,.slice Ai i.length ci,.slice Ao o.length co,.int .i64 st,.int .i64 tr] 29::ap (.slice Aj acc.length cj) acc::ap (.slice Ab bl.length cb) bl::ap (.slice Ai i.length ci) i::ap (.slice Ao o.length co) o:: [ak g2 [.slice none 0 0,.slice none 0 0,.slice none 0 0,.slice none 0 0,.int .i64 0,.int .i64 0] 29]) ms))) rfl rfl (fun⟨⟨t,kd,bd⟩,⟨At,ct⟩⟩ gt=>?_)
    try dsimp only
    refine rn 1 [1,2,4,5,6,9,10,11,13,14,68,69] rfl<|ag (aJ _ fc fd rfl rfl rfl rfl rfl (by rfl) rfl (by rfl)) rfl rfl (fun _ _=>?_)
    refine ae<|aa<|rn 1 [1,2,4,5,6,9,10,11,13,14,70] rfl<|af (aj fc bP rfl rfl (by rfl)) rfl rfl ?_
    refine af (aN (vs:= [_,_,_,_]) fc gK bn rfl rfl (by rfl) rfl) rfl rfl ?_
    refine ag (bu (cs:= [_,_,_,_]) aP bn cP rfl rfl rfl rfl rfl) rfl rfl (fun g10 _=>?_)
    obtain⟨gt,htl⟩:dN fT s kc bc t kd bd∧t.length≤255:=gt
    refine ag (dJ (α:=aO) (bytes:=64) ⟨f,p,l,t⟩ [ap (.slice Al l.length cl) l,ap (.slice At t.length ct) t] rfl aP (cU kR) rfl (yQ fc fc fc fc) (si (x:=⟨f,p,l,t⟩) ⟨⟨by show _≤f;omega,by show f≤_;omega⟩,⟨by show _≤p;omega,by show p≤_;omega⟩⟩) (by omega) (by omega) rfl rfl rfl) rfl rfl (fun⟨A5,c5⟩ _=>?_)
    try dsimp only
    refine rn 1 [1,2,4,5,6,9,10,11,13,74,75] rfl<|ag (aJ _ fc un rfl rfl rfl rfl rfl (by rfl) rfl (by rfl)) rfl rfl (fun _ _=>?_)
    refine bC (aH (am ?_))
    refine aa<|rn 1 [1,2,4,5,6,9,10,11,56] rfl<|af (br rfl rfl rfl (by omega)) rfl rfl<|rn 1 [1,2,4,5,6,9,10,11,13] rfl<|a5 ((q+1,kd,bd,acc++ [⟨f,p,l,t⟩]),(A5,c5)) (⟨m4 hj (yM ha1 hb1 hc1 gt),by show q+1≤_;omega,by show (acc++ [_]).length≤q+1;rw[List.length_append,List.length_singleton];omega⟩) (by show n2.toNat - (q+1)<n2.toNat - q;omega) ⟨rfl,rfl,rfl,rfl,rfl,rfl,rfl,rfl,rfl,trivial⟩ me
   have hb:bj=false:=e2
   subst hb
   refine bz (aD (aD (bO ?_)))
   refine bq ((acc,kj,false),(Aj,cj)) (jo hj (fun h=>by cases h)) ⟨rfl,rfl,rfl,rfl,rfl,trivial⟩ me
  have e1:=of_decide_eq_false e1
  refine rn 2 [1,2,4,5,6,9,10,11,13,55] rfl<|ae<|bZ rfl<|bz (aD (aD (bO ?_)))
  refine bq ((acc,kj,bj),(Aj,cj)) (jo hj (fun _=>by omega)) ⟨rfl,rfl,rfl,rfl,rfl,trivial⟩ me
 rintro⟨⟨fr,k8,b8⟩,Af,cf⟩ h8
 have h8:dN (dR dW) s k6 b6 fr k8 b8:=h8
 try dsimp only
 have key:=yu (AD h1 h2 h3 h4 h6 h8)
 rw[hr] at key
 refine ac<|ac<|aa<|af (aj fc dx rfl rfl (by rfl)) rfl rfl ?_
 refine rn 2 [1,2,4,10,78] rfl<|bM (t:=78) rfl (fun e1=>?_) (fun e1=>?_)
 ·have e1:b8=false:=by simpa using e1
  subst e1
  rw[if_neg (by simp)] at key
  subst key
  refine rn 5 [2,10,83] rfl<|ae<|bA rfl<|ac<|aa<|af (bN (cs:= [_,_,_,_,_,_]) ij aR rfl rfl (by rfl)) rfl rfl ?_
  refine ag (aJ _ fc ay rfl rfl rfl rfl rfl (by rfl) rfl (by rfl)) rfl rfl (fun _ _=>?_)
  refine rn 1 [2,3] rfl<|ae<|aq (ai ?_)
  refine bt HK (dH (cs:= [_,_,_,_,_,_]) fc aT ay rfl) (an rfl) ?_
  intro w hw
  exact⟨⟨none,0,none,0,none,0,none,0⟩,trivial,rfl,(gJ hw).msub ms⟩
 have e1:b8=true:=by simpa using e1
 subst e1
 refine af (aj fc au rfl rfl (by rfl)) rfl rfl ?_
 refine af (aj fc qv rfl rfl (by rfl)) rfl rfl ?_
 refine af (nP fu rfl rfl) rfl rfl<|rn 2 [2,10,83] rfl<|ae<|aw rfl (fun e2=>?_) (fun e2=>?_)
 ·rw[if_neg (by simp;omega)] at key
  subst key
  refine ac<|aa<|af (bN (cs:= [_,_,_,_,_,_]) ij aR rfl rfl (by rfl)) rfl rfl ?_
  refine ag (aJ _ fc ay rfl rfl rfl rfl rfl (by rfl) rfl (by rfl)) rfl rfl (fun _ _=>?_)
  refine rn 1 [2,3] rfl<|ae<|aq (ai ?_)
  refine bt HK (dH (cs:= [_,_,_,_,_,_]) fc aT ay rfl) (an rfl) ?_
  intro w hw
  exact⟨⟨none,0,none,0,none,0,none,0⟩,trivial,rfl,(gJ hw).msub ms⟩
 rw[if_pos ⟨rfl,by omega⟩] at key
 subst key
 refine ar (am ?_)
 refine ac<|aa<|af (aN (vs:= [_,_,_,_,_,_]) fc aT ay rfl rfl (by rfl) rfl) rfl rfl ?_
 refine ag (aJ _ fc ay rfl rfl rfl rfl rfl (by rfl) rfl (by rfl)) rfl rfl (fun _ _=>?_)
 refine rn 1 [2,3] rfl<|ae<|aq<|bt HK (dH (cs:= [_,_,_,_,_,_]) fc aT ay rfl) (an rfl) ?_
 intro w hw
 exact⟨⟨Af,cf,Ab,cb,Ai,ci,Ao,co⟩,trivial,rfl,hw.msub ms⟩
end
section
theorem Fw {r:Bool} {n t:Int} (h:1≤t∧t≤3):fa ⟨r,n⟩ t=if t=1 then !r else (r && (decide (t=2) || decide (n=0))):=by
 unfold fa
 rcases(show t=1∨t=2∨t=3 by omega) with rfl | rfl | rfl <;> cases r <;> simp
set_option maxRecDepth 100000 in
theorem tO (v:aX) (t:Int) (ht:1≤t∧t≤3) (w:World):Calls Tryz.prog 112 #[.agg #[.bool v.ref,.int .i64 v.n],.int .i64 t] w fun e w'=>e= .returned (.bool (fa v t))∧Below w.heap.size w w':=by
 obtain⟨r,n⟩:=v
 have h2:=Fw (r:=r) (n:=n) ht
 refine enter Tryz.func112 rfl Tryz.ntmps112 rfl ?_
 refine ac<|aa<|ag (bH rfl rfl rfl) rfl rfl (fun g1 _=>?_)
 refine rn 1 [1,2] rfl<|ae<|ac<|ac<|aa<|rn 2 [1,2,6] rfl<|ae<|aw rfl (fun h1=>?_) (fun h1=>?_)
 ·have h1:t=1:=h1
  rw[if_pos h1] at h2
  refine ac<|aa<|rn 1 [7] rfl<|af (aj fc dx rfl rfl (by rfl)) rfl rfl ?_
  refine rn 2 [4] rfl<|ae<|aq (ai ?_)
  refine av wS (an rfl) ?_
  intro w hw
  exact⟨bE h2.symm,hw.below⟩
 have h1:¬t=1:=h1
 rw[if_neg h1] at h2
 refine ar (am ?_)
 refine ac<|aa<|rn 1 [1,2,10] rfl<|af (aj fc dx rfl rfl (by rfl)) rfl rfl ?_
 refine rn 1 [1,2,12] rfl ?_
 cases r with
 | false=>
  refine bV (t:=12) (v':= .bool false) rfl (rfl) ?_
  refine rn 9 [4] rfl<|ae<|aq<|av wS (an rfl) ?_
  intro w hw
  exact⟨bE (by rw[h2];rfl),hw.below⟩
 | true=>
  refine bV (t:=12) (v':= .bool true) rfl (rfl) ?_
  refine rn 3 [2,12,15] rfl<|bM (t:=15) rfl (fun q=>?_) (fun q=>?_)
  ·have q:t=2:=of_decide_eq_true q
   refine rn 6 [4] rfl<|ae<|aq<|av wS (an rfl) ?_
   intro w hw
   exact⟨bE (by rw[h2];simp[q]),hw.below⟩
  have q:¬t=2:=of_decide_eq_false q
  refine rn 1 [12,15,16] rfl<|af (aj fc au rfl rfl (by rfl)) rfl rfl ?_
  refine rn 4 [4] rfl<|ae<|aq<|av wS (an rfl) ?_
  intro w hw
  exact⟨bE (by rw[h2];simp[q]),hw.below⟩
set_option maxRecDepth 100000 in
set_option maxHeartbeats 1000000 in
theorem yJ (Ap:Option Addr) (cp:Nat) (fs:List aA) (k:Nat) (pc:Int) (q:Option (List Int)) (hq:eA fs (az fs k) pc=q) (w:World) (hs:Sl w (.slice Ap fs.length cp) fs) (hk:k<fs.length) (hok:jR fs (az fs k)) (hty:mN fs (az fs k)) (hn0:0<(az fs k).code.length) :
  Calls Tryz.prog 113 #[.agg #[.slice Ap fs.length cp],.int .i64 (k:Int),.int .i64 pc] w fun e w'=> ∃g:Option Addr×Nat,True∧e= .returned (.tuple #[.slice g.1 (q.getD []).length g.2,.bool q.isSome])∧
   Cw w.heap.size w [il (.slice g.1 (q.getD []).length g.2) (q.getD [])] w':=by
 refine enter Tryz.func113 rfl Tryz.ntmps113 rfl ?_
 refine ac<|aa<|ag (bH rfl rfl rfl) rfl rfl (fun g1 _=>?_)
 refine rn 2 [1,2,3] rfl<|ae<|ac<|aa<|af (aN (vs:= [_]) fc bQ bB rfl rfl (by rfl) rfl) rfl rfl ?_
 refine rn 1 [2,12,13] rfl<|ag (cO rfl rfl rfl Tryz.call59 (fun w hw=>pu Ap cp fs k w (hw.ro hs) hk hok hty hn0)) rfl rfl (fun⟨⟨A1,c1⟩,es,L⟩ hre=>?_)
 try dsimp only
 refine rn 5 [2,8] rfl<|ae<|ac<|ac<|aa<|rn 1 [2,8,10] rfl<|ae ?_
 have hre:kU es L (cA fs (az fs k)).1:=hre
 have hl:=hre.len
 refine fO (p:=es.length≤140737488355328) (fun w hw=>cn (SF.at_ (SF.own (α:=gy) (xs:=es) rfl fc) hw)) fun b1=>?_
 refine aB (bI (fun i:Nat=>i≤es.length∧∀j,j<i→(hent es j).pc≠pc) (fun i=>es.length - i) (fun i=> [(2,.int .i64 pc),(8,.slice A1 es.length c1),(10,.int .i64 (i:Int))]) (fun _=> [ap (.slice A1 es.length c1) es,fi L]) 0 (⟨Nat.zero_le _,fun _ h=>absurd h (Nat.not_lt_zero _)⟩) ⟨rfl,rfl,rfl,trivial⟩ me ?_)
 rintro i hi'
 obtain⟨hi,hno⟩:i≤es.length∧∀j,j<i→(hent es j).pc≠pc:=hi'
 refine ac<|ac<|aa<|rn 2 [2,8,10,17,18] rfl<|af (aM fS rfl rfl) rfl rfl<|rn 1 [2,8,10,20] rfl<|ae<|aw rfl (fun hlt'=>?_) (fun hlt'=>?_)
 ·have hlt:i<es.length:=by omega
  have hlt2:i<(cA fs (az fs k)).1.length:=by omega
  obtain⟨e1,e2⟩:=hre.el i hlt hlt2
  refine ar (am ?_)
  refine ac<|aB<|ac<|aa<|rn 2 [2,8,10,23,24] rfl<|af (aQ (k:=i) fS lK (SF.own (xs:=es) rfl fc) (by omega) rfl rfl rfl) rfl rfl ?_
  refine rn 1 [2,8,10,26] rfl<|af (a8 (fun w hw=>SF.hent (SF.own (xs:=es) rfl fc) hlt w hw 0 _ rfl) rfl rfl au) rfl rfl ?_
  refine rn 2 [2,8,10,29] rfl<|ae<|aw rfl (fun hp=>?_) (fun hp=>?_)
  ·have hp:(hent es i).pc=pc:=hp
   have hq2:q=some (cA fs (az fs k)).1[i].stack:=by
    rw[←hq]
    unfold eA
    rw[ye hlt2 (by rw[←e1,←kA hlt];exact hp) (fun j hj h=>by
     have hj':j<es.length:=by omega
     have:=hno j hj
     rw[kA hj',(hre.el j hj' h).1] at this
     exact this)]
    rfl
   subst hq2
   rw[←kA hlt] at e2
   refine ac<|aa<|rn 2 [30,31] rfl<|af (aQ (k:=i) fS lK (SF.own (xs:=es) rfl fc) (by omega) rfl rfl rfl) rfl rfl ?_
   refine rn 1 [33] rfl<|af (a8 (fun w hw=>SF.hent (SF.own (xs:=es) rfl fc) hlt w hw 1 _ rfl) rfl rfl aW) rfl rfl ?_
   refine rn 2 [6,7] rfl<|ae<|aq (aC (ai (ai (aC (ai ?_)))))
   refine bt Tryz.results113 (an rfl) (an rfl) ?_
   intro w hw
   obtain⟨A5,c5,e5⟩:=e2.form hw fc
   rw[e5] at e2⊢
   exact⟨(A5,c5),trivial,rfl,(q9 e2 (hw.msub (T:=fi L:: []) ms)).msub ms⟩
  have hp:¬(hent es i).pc=pc:=hp
  refine ar (aH (am ?_))
  refine aa<|rn 1 [2,8,21] rfl<|af (br rfl rfl rfl (by omega)) rfl rfl<|rn 1 [2,8,10] rfl<|a5 (i+1) (⟨by show i+1≤_;omega,fun j hj=>(Nat.lt_or_ge j i).elim (hno j) (fun h=>by obtain rfl:j=i:=(by omega);exact hp)⟩) (by show _ - _<_ - _;omega) ⟨rfl,rfl,rfl,trivial⟩ me
 obtain rfl:i=es.length:=by omega
 have hq2:q=none:=by
  rw[←hq]
  unfold eA
  rw[yd (fun j hj=>by
   have hj':j<es.length:=by omega
   have:=hno j hj'
   rw[kA hj',(hre.el j hj' hj).1] at this
   exact this)]
  rfl
 subst hq2
 refine bz (aD (aD (bO (am ?_))))
 refine ac<|aa<|rn 2 [6,7] rfl<|ae<|aq<|bt Tryz.results113 (an rfl) (an rfl) ?_
 intro w hw
 exact⟨(none,0),trivial,rfl,(mB hw).msub ms⟩
end
section
theorem Dt:Tryz.prog.eqGuardType Tryz.prog.depth 49=false:=by kernel_rfl
theorem Ha:Tryz.prog.stoodInHeld 49=false:=by kernel_rfl
theorem G0 (w : World) (a b c d : Int) : (binOp .neq 49 (.agg #[.int .i64 a, .int .i64 b]) (.agg #[.int .i64 c, .int .i64 d])).run Tryz.prog w = .ok (.bool (!(a == c && b == d))) w := by
  have h := Ha
  by_cases h1 : a = c <;> by_cases h2 : b = d <;> simp [go_sem, h, h1, h2]
theorem Gb (x y : Operand) (u v : Array Value) (w : World) : (eqGuard .neq 49 x y (.agg u) (.agg v)).run Tryz.prog w = .ok () w := by
  have h := Dt
  simp [eqGuard, go_sem, h]
theorem BW {fs:List aA} (hF:fp fs) {kf:Nat} (hk:kf<fs.length) {pc to_:Int} (hc:fC (az fs kf) pc to_=true) {t0:List Int} (h0:eA fs (az fs kf) (pc - 1)=some t0) :
  (0≤to_∧to_<fs.length)∧∃t,eA fs (az fs kf) pc=some t∧((az fs to_.toNat).result≠0→1≤t.length):=by
 unfold fC at hc
 simp only[Bool.and_eq_true,decide_eq_true_eq] at hc
 obtain⟨hw,hcc,hca⟩:=hc
 have hw:=dv.1 hw
 obtain⟨_,h1,_,_,v0,hv0,hn0⟩:=(hF.e _ hk).at_ _ _ h0
 have hop:=(iL hF.p hk).1.op (pc - 1).toNat (by omega)
 generalize bG (az fs kf).code (pc - 1).toNat=oz at hcc hca hv0 hn0 hop
 have h2:=hop.call hcc
 rw[hca] at h2
 obtain⟨t,ht,hle⟩:=hn0 pc (by simp[dd,hcc])
 obtain⟨T0,V0,e0,_,_,_,rfl⟩:=hZ.1 hv0
 simp[tl,hcc] at e0
 obtain⟨rfl,rfl⟩:=e0
 rw[hca] at hle
 refine⟨h2,t,ht,fun hr=>?_⟩
 unfold bR at hle
 rw[if_neg hr] at hle
 have:=(qk hle).2.1
 omega
theorem FP {A:Option Addr} {m c k:Nat} {xs:List Int} {B:Nat} {w0 w:World} {H:List a7} (hk:k≤m) (h:Cw B w0 (il (.slice A m c) xs::H) w):Cw B w0 (il (.slice (iR A 0 c 1) k (c - 0)) (xs.take k)::H) w:=by
 refine h.upd fun F ho _=>⟨F,⟨ho.1,fun w' hw'=>?_⟩,rfl,rfl,rfl,Nat.le_refl _,fun _ _ _=>rfl,fun b hb=> .inl hb⟩
 have:=(ho.2 w' hw').cut 0 k (Nat.zero_le _) hk
 rw[Nat.sub_zero,List.drop_zero] at this
 exact this
theorem Ep {A:Option Addr} {c:Nat} {xs:List Int} {B:Nat} {w0 w:World} {H:List a7} (h:Cw B w0 (il (.slice A xs.length c) xs::H) w):Cw B w0 (il (.slice (iR A 0 c 1) xs.dropLast.length (c - 0)) xs.dropLast::H) w:=by
 have:=FP (k:=xs.length - 1) (by omega) h
 rw[←List.dropLast_eq_take,←List.length_dropLast] at this
 exact this
set_option maxRecDepth 100000 in
set_option maxHeartbeats 4000000 in
theorem yI (a:MA) (m:aG) (Ap:Option Addr) (cp:Nat) (fs:List aA) (i:Nat) (w:World) (hs:Sl w (.slice Ap fs.length cp) fs) (hm:dQ w.heap.size w a m) (hF:fp fs) (hfit:gz m.frames) (hi:i<m.frames.length) (hfn:∀x∈m.frames,0≤x.func∧x.func<fs.length) (E:Int) (hE:eS fs m.blocks.length m.frames i=E) :
  Calls Tryz.prog 70 #[.agg #[.slice Ap fs.length cp],.agg #[.slice a.Af m.frames.length a.cf,.slice a.Ab m.blocks.length a.cb,.slice a.Ai m.inn.length a.ci,.slice a.Ao m.out.length a.co,.int .i64 m.status,.int .i64 m.trap],.int .i64 (i:Int)] w fun e w'=>e= .returned (.int .i64 E)∧Below w.heap.size w w':=by
 have bf:=cn hm.f
 have bp:=cn hs
 have bb:=cn hm.b
 obtain⟨A1,c1,A2,c2,hl,hst,hI,hcell⟩:=hm.f.fr hi
 obtain⟨hb1,hb2⟩:=hfit.2 (bh m.frames i) (eU hi)
 have hx:=hfn _ (eU hi)
 obtain⟨kf,hkf⟩:∃kf:Nat,(bh m.frames i).func=kf:=⟨(bh m.frames i).func.toNat,by omega⟩
 have hkl:kf<fs.length:=by omega
 obtain⟨hok,hn0⟩:=iL hF.p hkl
 have hty:=ze hF.p hkl
 obtain⟨F1,d1,F2,d2,hfl,hfc,hfi,hfcell⟩:=hs.fn hkl
 have hfl6:(az fs kf).locals.length≤6:=(hok.op 0 hn0).par kf hkl |>.2
 have hlt2:=(jp ((iH hF.p).2.2 _ (iZ hkl))).2.2.2.1
 have hff:ik fs m.frames i=az fs kf:=by unfold ik;rw[hkf,Int.toNat_natCast]
 have hent:∀pc t,eA fs (az fs kf) pc=some t→Ty t:=fun pc t h=>((hF.e kf hkl).at_ pc t h).2.2.2.1
 have hbeh:∀{pc to_:Int} (_:fC (az fs kf) pc to_=true) {t0:List Int},eA fs (az fs kf) (pc - 1)=some t0→(0≤to_∧to_<fs.length)∧∃t,eA fs (az fs kf) pc=some t∧((az fs to_.toNat).result≠0→1≤t.length):=fun hc _ h0=>BW hF hkl hc h0
 unfold eS at hE
 obtain⟨q,hq⟩:∃q,gQ fs m.frames i=q:=⟨_,rfl⟩
 rw[hff,hq] at hE
 unfold gQ at hq
 rw[hff] at hq
 rw[hkf] at hcell
 have hrent:∀pc q0,eA fs (az fs kf) pc=q0→∀w1,Sl w1 (.slice Ap fs.length cp) fs→Calls Tryz.prog 113 #[.agg #[.slice Ap fs.length cp],.int .i64 (kf:Int),.int .i64 pc] w1 fun e w'=> ∃g:Option Addr×Nat,True∧e= .returned (.tuple #[.slice g.1 (q0.getD []).length g.2,.bool q0.isSome])∧
   Cw w1.heap.size w1 [il (.slice g.1 (q0.getD []).length g.2) (q0.getD [])] w':=fun pc q0 h w1 h1=>yJ Ap cp fs kf pc q0 h w1 h1 hkl hok hty hn0
 generalize az fs kf=f at hE hfl hfc hfi hfcell hfl6 hlt2 hent hbeh hq hrent
 obtain⟨l,hlm⟩:∃l,m.frames=l:=⟨_,rfl⟩
 generalize hxx:bh m.frames i=x at hE hl hst hI hcell hb1 hb2 hq
 have bx1:=cn hl
 have bx2:=cn hst
 have bc:=cn hfc
 refine enter Tryz.func70 rfl Tryz.ntmps70 rfl ?_
 refine ac<|aa<|ag (bH rfl rfl rfl) rfl rfl (fun g1 _=>?_)
 refine ag (bH rfl rfl rfl) rfl rfl (fun g2 _=>?_)
 refine rn 1 [2,3,4] rfl<|ae<|ac<|aa<|rn 1 [2,3,4,18] rfl<|af (aj fc bP rfl rfl (by rfl)) rfl rfl ?_
 refine rn 1 [2,3,4,19,20] rfl<|af (aQ (k:=i) aP bn (.ro hm.f) (by omega) rfl rfl rfl) rfl rfl<|af (cY (hcell _) rfl rfl gK bn) rfl rfl<|ag (aS cP rfl rfl) rfl rfl (fun g3 _=>?_)
 refine ag (aJ _ fc bn rfl rfl rfl rfl rfl (by rfl) rfl (by rfl)) rfl rfl (fun _ _=>?_)
 refine ae<|ac<|aa<|rn 1 [2,3,4,7,23] rfl<|af (aj fc cV rfl rfl (by rfl)) rfl rfl ?_
 refine rn 1 [2,3,4,7,24,25] rfl<|af (aj fc au rfl rfl (by rfl)) rfl rfl ?_
 refine af (aQ (k:=kf) bJ bD (.ro hs) (by omega) rfl rfl rfl) rfl rfl<|af (cY (hfcell _) rfl rfl eK bD) rfl rfl<|ag (aS dT rfl rfl) rfl rfl (fun g4 _=>?_)
 refine ag (aJ _ fc bD rfl rfl rfl rfl rfl (by rfl) rfl (by rfl)) rfl rfl (fun _ _=>?_)
 refine ae<|ac<|ac<|aa<|rn 1 [2,3,4,7,8,29] rfl<|af (aj fc cz rfl rfl (by rfl)) rfl rfl ?_
 refine af (aM aI rfl rfl) rfl rfl<|rn 1 [2,3,4,7,8,31,32] rfl<|af (aj fc aW rfl rfl (by rfl)) rfl rfl ?_
 refine af (aM ah rfl rfl) rfl rfl<|rn 1 [2,3,4,7,8,35] rfl<|ae<|bY rfl (fun h1=>?_) (fun h1=>?_)
 ·rw[if_pos (show x.locals.length≠f.locals.length from fun e=>h1 (by rw[e]))] at hE
  subst hE
  refine ac<|aa<|rn 1 [6] rfl<|ae<|aq (ai ?_)
  refine av gA (an rfl) ?_
  intro w hw
  exact⟨rfl,hw.below⟩
 have h1:x.locals.length=f.locals.length:=by omega
 rw[if_neg (fun h=>h h1)] at hE
 have hal:(x.locals++x.stack).length=x.locals.length+x.stack.length:=List.length_append
 refine ar (am ?_)
 refine eb (fun _:Option Addr×Nat=>True) (fun g=> [(2,.int .i64 (i:Int)),(3,.pointer (some ⟨g1,0,none⟩)),(4,.pointer (some ⟨g2,0,none⟩)),(7,.pointer (some ⟨g3,0,none⟩)),(8,.pointer (some ⟨g4,0,none⟩)),(9,.slice g.1 (x.locals++x.stack).length g.2)]) (fun g=> [ap (.slice g.1 (x.locals++x.stack).length g.2) (x.locals++x.stack),ak g3 [.int .i64 (kf:Int),.int .i64 x.pc,.slice A1 x.locals.length c1,.slice A2 x.stack.length c2] 97,ak g4 [.int .i64 f.params,.slice F1 f.locals.length d1,.int .i64 f.result,.slice F2 f.code.length d2] 110,ak g2 [.slice a.Af m.frames.length a.cf,.slice a.Ab m.blocks.length a.cb,.slice a.Ai m.inn.length a.ci,.slice a.Ao m.out.length a.co,.int .i64 m.status,.int .i64 m.trap] 29,ak g1 [.slice Ap fs.length cp] 24]) ?_ ?_
 ·refine cD (.still 1 (.still 2 (.still 4 (.still 5 (.pick 0 (.pick 3 (.pick 6 (.calm 7 .done) .stop) .stop) .stop))))) [6,7] rfl (by kernel_rfl) (by kernel_rfl) ?_
  refine aU ha 1 [2,3,4,7,8,37] rfl<|ax rfl (aj fc cz rfl rfl (by rfl)) rfl rfl ha ?_
  refine aU ha 1 [2,3,4,7,8,38,40] rfl<|ax rfl (aj fc cz rfl rfl (by rfl)) rfl rfl ha ?_
  refine aK rfl ((bu (cs:= []) aI aV cy rfl rfl rfl rfl rfl).mem (H'':=fun g=>ap (.slice (some ⟨g,0,none⟩) 0 0) ([]:List aX)::_) fun g w h=>cE (α:=aX) (m:=0) [] rfl (by simp) rfl (by decide) h) rfl rfl (.inr fun _=>ha) (fun ge _=>?_) aE
  refine aK rfl (iP (α:=aX) (bytes:=16) (xs:= []) (ys:=x.locals) (List.nil_append x.locals).symm aI (cU gg) rfl fc (.ro hl) (by simp only[List.length_nil];omega) (by simp only[List.length_nil];omega) rfl rfl rfl) rfl rfl (.inr fun _=>ha) (fun⟨A5,c5⟩ _=>?_) aE
  try dsimp only
  refine aK rfl (iP (α:=aX) (bytes:=16) (xs:=x.locals) (ys:=x.stack) rfl aI (cU gg) rfl fc (.ro hst) (by omega) (by omega) rfl rfl rfl) rfl rfl (.inl rfl) (fun⟨A6,c6⟩ _=>?_) aE
  try dsimp only
  refine gL 1 [2,3,4,7,8,9] rfl<|df<|bq (A6,c6) (trivial) ⟨rfl,rfl,rfl,rfl,rfl,rfl,trivial⟩ (fun _ h=>h.msub ms)
 rintro⟨A6,c6⟩ _
 try dsimp only
 refine ac<|ac<|aa<|rn 1 [2,3,4,7,8,9,10] rfl<|ae<|aB (bI (fun k:Nat=>k≤(x.locals++x.stack).length∧∀j,j<k→ec m.blocks.length ((x.locals++x.stack).getD j default)=true) (fun k=>(x.locals++x.stack).length - k) (fun k=> [(2,.int .i64 (i:Int)),(3,.pointer (some ⟨g1,0,none⟩)),(4,.pointer (some ⟨g2,0,none⟩)),(7,.pointer (some ⟨g3,0,none⟩)),(8,.pointer (some ⟨g4,0,none⟩)),(9,.slice A6 (x.locals++x.stack).length c6),(10,.int .i64 (k:Int))]) (fun _=> [ap (.slice A6 (x.locals++x.stack).length c6) (x.locals++x.stack),ak g3 [.int .i64 (kf:Int),.int .i64 x.pc,.slice A1 x.locals.length c1,.slice A2 x.stack.length c2] 97,ak g4 [.int .i64 f.params,.slice F1 f.locals.length d1,.int .i64 f.result,.slice F2 f.code.length d2] 110,ak g2 [.slice a.Af m.frames.length a.cf,.slice a.Ab m.blocks.length a.cb,.slice a.Ai m.inn.length a.ci,.slice a.Ao m.out.length a.co,.int .i64 m.status,.int .i64 m.trap] 29,ak g1 [.slice Ap fs.length cp] 24]) 0 (⟨Nat.zero_le _,fun _ h=>absurd h (Nat.not_lt_zero _)⟩) ⟨rfl,rfl,rfl,rfl,rfl,rfl,rfl,trivial⟩ me ?_)
 rintro k hk'
 obtain⟨hk,hno⟩:k≤(x.locals++x.stack).length∧∀j,j<k→ec m.blocks.length ((x.locals++x.stack).getD j default)=true:=hk'
 refine ac<|ac<|aa<|rn 2 [2,3,4,7,8,9,10,43,44] rfl<|af (aM aI rfl rfl) rfl rfl<|rn 1 [2,3,4,7,8,9,10,46] rfl<|ae<|aw rfl (fun hlt=>?_) (fun hlt=>?_)
 ·have hkl2:k<(x.locals++x.stack).length:=by omega
  obtain⟨vb,hvb⟩:∃b,ec m.blocks.length ((x.locals++x.stack).getD k default)=b:=⟨_,rfl⟩
  have hbad:vb=false→E=3:=fun e=>by rw[e] at hvb;rw[if_pos (yo hkl2 hvb)] at hE;exact hE.symm
  have hgood:vb=true→∀j,j<k+1→ec m.blocks.length ((x.locals++x.stack).getD j default)=true:=fun e j hj=>(Nat.lt_or_ge j k).elim (hno j) (fun h=>by obtain rfl:j=k:=(by omega);rw[hvb,e])
  refine ar (am ?_)
  refine ac<|aB<|ac<|cD (.still 0 (.still 1 (.still 2 (.still 3 (.still 4 (.still 5 (.still 6 (.still 7 (.still 8 (.still 9 (.still 10 (.still 11 (.still 12 (.still 13 (.pick 14 (.still 15 (.still 16 (.still 17 (.still 18 (.still 19 (.still 20 (.still 21 (.still 22 (.still 23 (.still 24 (.still 25 (.still 26 (.still 27 (.still 28 (.still 29 (.pick 30 (.still 31 (.still 32 (.still 33 .done))) .stop)))))))))))))))) .stop))))))))))))))) [] rfl (by kernel_rfl) (by kernel_rfl) ?_
  refine aU ha 2 [2,3,4,7,8,9,10,49,50] rfl<|ax rfl (aQ (k:=k) aI aV (SF.own rfl fc) (by omega) rfl rfl rfl) rfl rfl ha ?_
  refine aU ha 1 [2,3,4,7,8,9,10,52] rfl<|ax rfl (a8 (fun w hw=>(SF.val (SF.own rfl fc) hkl2 default) w hw 0 _ rfl) rfl rfl dx) rfl rfl ha ?_
  refine aU ha 1 [2,3,4,7,8,9,10,54] rfl ?_
  rcases Bool.eq_false_or_eq_true ((x.locals++x.stack).getD k default).ref with hr | hr
  ·have hvb2:bK ((x.locals++x.stack).getD k default).n 0 m.blocks.length=vb:=by rw[←hvb];unfold ec;rw[if_pos hr]
   rw[hr]
   refine eq (t:=54) (v':= .bool true) rfl (rfl) ?_
   refine aU ha 2 [2,3,4,7,8,9,10,54,55,56] rfl<|ax rfl (aQ (k:=k) aI aV (SF.own rfl fc) (by omega) rfl rfl rfl) rfl rfl ha ?_
   refine aU ha 1 [2,3,4,7,8,9,10,54,58] rfl<|ax rfl (a8 (fun w hw=>(SF.val (SF.own rfl fc) hkl2 default) w hw 1 _ rfl) rfl rfl au) rfl rfl ha ?_
   refine aU ha 1 [2,3,4,7,8,9,10,54,59,60] rfl<|ax rfl (aj fc dS rfl rfl (by rfl)) rfl rfl ha ?_
   refine ax rfl (aM bF rfl rfl) rfl rfl ha ?_
   refine aK rfl (aY rfl rfl rfl jm ((fun w hw=>fm ((fun w hw=>eW _ _ _ w) w hw)))) rfl rfl (.inr fun _=>ha) (fun _ _=>?_) aE
   refine aU ha 3 [2,3,4,7,8,9,10,66] rfl ?_
   rw[hvb2]
   cases vb
   ·refine eq (t:=66) (v':= .bool true) rfl (rfl) ?_
    refine aU ha 12 [2,3,4,7,8,9,10,66,73,78] rfl<|la rfl rfl rfl (.inr ha) ?_ aE
    refine aU ha 3 [2,3,4,7,8,9,10,82] rfl<|cT<|bA rfl<|ac<|aa<|rn 1 [6] rfl<|ae<|aq (aC (ai (ai (aC (ai ?_)))))
    refine av gA (an rfl) ?_
    intro w hw
    exact⟨by rw[hbad rfl],hw.below⟩
   refine eq (t:=66) (v':= .bool false) rfl (rfl) ?_
   refine aU ha 2 [2,3,4,7,8,9,10,66,67,68] rfl<|ax rfl (aQ (k:=k) aI aV (SF.own rfl fc) (by omega) rfl rfl rfl) rfl rfl ha ?_
   refine aU ha 1 [2,3,4,7,8,9,10,66,70] rfl<|ax rfl (a8 (fun w hw=>(SF.val (SF.own rfl fc) hkl2 default) w hw 0 _ rfl) rfl rfl dx) rfl rfl ha ?_
   refine aU ha 2 [2,3,4,7,8,9,10,66,73] rfl ?_
   rw[hr]
   refine eq (t:=73) (v':= .bool false) rfl (rfl) ?_
   refine aU ha 5 [2,3,4,7,8,9,10,66,73,78] rfl<|la rfl rfl rfl (.inr ha) ?_ aE
   refine aU ha 3 [2,3,4,7,8,9,10,82] rfl<|cT<|bZ rfl<|ar (aH (am ?_))
   refine aa<|rn 1 [2,3,4,7,8,9,47] rfl<|af (br rfl rfl rfl (by omega)) rfl rfl<|rn 1 [2,3,4,7,8,9,10] rfl<|a5 (k+1) (⟨by show k+1≤_;omega,hgood rfl⟩) (by show _ - _<_ - _;omega) ⟨rfl,rfl,rfl,rfl,rfl,rfl,rfl,trivial⟩ me
  have hvb2:cF ((x.locals++x.stack).getD k default).n=vb:=by rw[←hvb];unfold ec;rw[if_neg (by rw[hr];decide)]
  rw[hr]
  refine eq (t:=54) (v':= .bool false) rfl (rfl) ?_
  refine aU ha 8 [2,3,4,7,8,9,10,54,59,62] rfl<|la rfl rfl rfl (.inr ha) ?_ aE
  refine aU ha 5 [2,3,4,7,8,9,10,66,67,68] rfl<|ax rfl (aQ (k:=k) aI aV (SF.own rfl fc) (by omega) rfl rfl rfl) rfl rfl ha ?_
  refine aU ha 1 [2,3,4,7,8,9,10,66,70] rfl<|ax rfl (a8 (fun w hw=>(SF.val (SF.own rfl fc) hkl2 default) w hw 0 _ rfl) rfl rfl dx) rfl rfl ha ?_
  refine aU ha 2 [2,3,4,7,8,9,10,66,73] rfl ?_
  rw[hr]
  refine eq (t:=73) (v':= .bool true) rfl (rfl) ?_
  refine aU ha 2 [2,3,4,7,8,9,10,66,73,74,75] rfl<|ax rfl (aQ (k:=k) aI aV (SF.own rfl fc) (by omega) rfl rfl rfl) rfl rfl ha ?_
  refine aU ha 1 [2,3,4,7,8,9,10,66,73,77] rfl<|ax rfl (a8 (fun w hw=>(SF.val (SF.own rfl fc) hkl2 default) w hw 1 _ rfl) rfl rfl au) rfl rfl ha ?_
  refine aK rfl (aY rfl rfl rfl Tryz.call44 ((fun w hw=>fm ((fun w hw=>kK _ w) w hw)))) rfl rfl (.inr fun _=>ha) (fun _ _=>?_) aE
  refine aU ha 3 [2,3,4,7,8,9,10,82] rfl<|cT ?_
  rw[hvb2]
  cases vb
  ·refine cN (t:=82) (v':= .bool true) rfl (rfl) ?_
   refine bA rfl<|ac<|aa<|rn 1 [6] rfl<|ae<|aq (aC (ai (ai (aC (ai ?_)))))
   refine av gA (an rfl) ?_
   intro w hw
   exact⟨by rw[hbad rfl],hw.below⟩
  refine cN (t:=82) (v':= .bool false) rfl (rfl) ?_
  refine bZ rfl<|ar (aH (am ?_))
  refine aa<|rn 1 [2,3,4,7,8,9,47] rfl<|af (br rfl rfl rfl (by omega)) rfl rfl<|rn 1 [2,3,4,7,8,9,10] rfl<|a5 (k+1) (⟨by show k+1≤_;omega,hgood rfl⟩) (by show _ - _<_ - _;omega) ⟨rfl,rfl,rfl,rfl,rfl,rfl,rfl,trivial⟩ me
 obtain rfl:k=(x.locals++x.stack).length:=by omega
 rw[if_neg (wC hno)] at hE
 refine bz (aD (aD (bO (am ?_))))
 refine ac<|ac<|aa<|rn 1 [2,3,4,7,8,11] rfl<|ae<|aB (bI (fun k:Nat=>k≤x.locals.length∧∀j,j<k→fa (x.locals.getD j default) (f.locals.getD j 0)=true) (fun k=>x.locals.length - k) (fun k=> [(2,.int .i64 (i:Int)),(3,.pointer (some ⟨g1,0,none⟩)),(4,.pointer (some ⟨g2,0,none⟩)),(7,.pointer (some ⟨g3,0,none⟩)),(8,.pointer (some ⟨g4,0,none⟩)),(11,.int .i64 (k:Int))]) (fun _=> [ak g3 [.int .i64 (kf:Int),.int .i64 x.pc,.slice A1 x.locals.length c1,.slice A2 x.stack.length c2] 97,ak g4 [.int .i64 f.params,.slice F1 f.locals.length d1,.int .i64 f.result,.slice F2 f.code.length d2] 110,ak g2 [.slice a.Af m.frames.length a.cf,.slice a.Ab m.blocks.length a.cb,.slice a.Ai m.inn.length a.ci,.slice a.Ao m.out.length a.co,.int .i64 m.status,.int .i64 m.trap] 29,ak g1 [.slice Ap fs.length cp] 24]) 0 (⟨Nat.zero_le _,fun _ h=>absurd h (Nat.not_lt_zero _)⟩) ⟨rfl,rfl,rfl,rfl,rfl,rfl,trivial⟩ me ?_)
 rintro k hk'
 obtain⟨hk,hno2⟩:k≤x.locals.length∧∀j,j<k→fa (x.locals.getD j default) (f.locals.getD j 0)=true:=hk'
 refine ac<|ac<|aa<|rn 2 [2,3,4,7,8,11,83,84] rfl<|af (aj fc cz rfl rfl (by rfl)) rfl rfl ?_
 refine af (aM aI rfl rfl) rfl rfl<|rn 1 [2,3,4,7,8,11,87] rfl<|ae<|aw rfl (fun hlt=>?_) (fun hlt=>?_)
 ·have hkl2:k<x.locals.length:=by omega
  have ht2:=hlt2 (f.locals.getD k 0) (ff (d:=0) (by omega))
  refine ar (am ?_)
  refine ac<|aB<|ac<|cD (.still 0 (.still 1 (.still 2 (.still 3 (.still 4 (.still 5 (.still 6 (.still 7 (.still 8 (.still 9 (.pick 10 (.still 11 .done) .stop))))))))))) [] rfl (by kernel_rfl) (by kernel_rfl) ?_
  refine aU ha 1 [2,3,4,7,8,11,90] rfl<|ax rfl (aj fc cz rfl rfl (by rfl)) rfl rfl ha ?_
  refine aU ha 1 [2,3,4,7,8,11,91,92] rfl<|ax rfl (aQ (k:=k) aI aV (.ro hl) (by omega) rfl rfl rfl) rfl rfl ha ?_
  refine ax rfl (cY (SF.val (SF.ro hl) hkl2 default) rfl rfl dZ aV) rfl rfl ha ?_
  refine aU ha 1 [2,3,4,7,8,11,94,95] rfl<|ax rfl (aj fc aW rfl rfl (by rfl)) rfl rfl ha ?_
  refine aU ha 1 [2,3,4,7,8,11,94,96,97] rfl<|ax rfl (aQ (k:=k) ah aF (.ro hfl) (by omega) rfl rfl rfl) rfl rfl ha ?_
  refine ax rfl (a8 (SF.int (.ro hfl) (by omega)) rfl rfl au) rfl rfl ha ?_
  refine aK rfl (aY rfl rfl rfl Tryz.call112 (fun w hw=>tO (x.locals.getD k default) (f.locals.getD k 0) (by omega) w)) rfl rfl (.inr fun _=>ha) (fun _ _=>?_) aE
  refine aU ha 1 [2,3,4,7,8,11,101] rfl<|cT<|cg rfl (fun hb=>?_) (fun hb=>?_)
  ·have hb:fa (x.locals.getD k default) (f.locals.getD k 0)=false:=by simpa using hb
   rw[if_pos (qr hkl2 hb)] at hE
   subst hE
   refine ac<|aa<|rn 1 [6] rfl<|ae<|aq (aC (ai (ai (aC (ai ?_)))))
   refine av gA (an rfl) ?_
   intro w hw
   exact⟨rfl,hw.below⟩
  have hb:fa (x.locals.getD k default) (f.locals.getD k 0)=true:=by simpa using hb
  refine ar (aH (am ?_))
  refine aa<|rn 1 [2,3,4,7,8,88] rfl<|af (br rfl rfl rfl (by omega)) rfl rfl<|rn 1 [2,3,4,7,8,11] rfl<|a5 (k+1) (⟨by show k+1≤_;omega,fun j hj=>(Nat.lt_or_ge j k).elim (hno2 j) (fun h=>by obtain rfl:j=k:=(by omega);exact hb)⟩) (by show _ - _<_ - _;omega) ⟨rfl,rfl,rfl,rfl,rfl,rfl,trivial⟩ me
 obtain rfl:k=x.locals.length:=by omega
 rw[if_neg (by rw[jN.2 hno2];decide)] at hE
 obtain⟨q0,hq0⟩:∃q0,eA fs f x.pc=q0:=⟨_,rfl⟩
 rw[hq0] at hq
 refine bz (aD (aD (bO (am ?_))))
 refine ac<|aa<|af (aN (vs:= [_]) fc bQ bB rfl rfl (by rfl) rfl) rfl rfl ?_
 refine rn 1 [2,3,4,7,8,103,104] rfl<|af (aj fc au rfl rfl (by rfl)) rfl rfl ?_
 refine rn 1 [2,3,4,7,8,103,105,106] rfl<|af (aj fc au rfl rfl (by rfl)) rfl rfl ?_
 refine ag (cO rfl rfl rfl Tryz.call113 (fun w hw=>hrent x.pc q0 hq0 w (hw.ro hs))) rfl rfl (fun⟨A7,c7⟩ _=>?_)
 try dsimp only
 refine rn 5 [2,3,4,7,8,12,13] rfl<|ae<|ac<|ac<|aa<|rn 2 [2,3,4,7,8,12,13,111,112] rfl<|af (aj fc bP rfl rfl (by rfl)) rfl rfl ?_
 refine af (aM aP rfl rfl) rfl rfl<|af (cH rfl rfl rfl (by omega)) rfl rfl<|rn 1 [2,3,4,7,8,12,13,116] rfl<|ae<|ir (fun g:List Int×(Option Addr×Nat)=>q=some g.1∧Ty g.1) (fun g=> [(7,.pointer (some ⟨g3,0,none⟩)),(12,.slice g.2.1 g.1.length g.2.2)]) (fun g=> [il (.slice g.2.1 g.1.length g.2.2) g.1,ak g3 [.int .i64 (kf:Int),.int .i64 x.pc,.slice A1 x.locals.length c1,.slice A2 x.stack.length c2] 97,ak g4 [.int .i64 f.params,.slice F1 f.locals.length d1,.int .i64 f.result,.slice F2 f.code.length d2] 110,ak g2 [.slice a.Af m.frames.length a.cf,.slice a.Ab m.blocks.length a.cb,.slice a.Ai m.inn.length a.ci,.slice a.Ao m.out.length a.co,.int .i64 m.status,.int .i64 m.trap] 29,ak g1 [.slice Ap fs.length cp] 24]) ?_ ?_
 ·refine aw rfl (fun hi2=>?_) (fun hi2=>?_)
  ·have hi1:i+1<m.frames.length:=by omega
   obtain⟨A3,c3,A4,c4,_,_,hI2,hcell2⟩:=hm.f.fr (k:=i+1) hi1
   obtain⟨to_,hto⟩:∃t,(bh m.frames (i+1)).func=t:=⟨_,rfl⟩
   have hy:=hfn _ (eU hi1)
   rw[hto] at hy hcell2 hq
   rw[if_neg (by omega)] at hq
   obtain⟨cb,hcb⟩:∃b,fC f x.pc to_=b:=⟨_,rfl⟩
   have hbad:cb=false→E=5:=fun e=>by
    rw[hcb,e,if_pos rfl] at hq
    rw[←hq] at hE
    exact hE.symm
   refine ac<|aa<|rn 1 [2,3,7,8,12,117] rfl<|af (aj fc bP rfl rfl (by rfl)) rfl rfl ?_
   refine rn 1 [3,7,8,12,118,119] rfl<|af (br rfl rfl rfl (by omega)) rfl rfl<|bV (t:=120) (v':= .int .i64 ((i+1:Nat):Int)) rfl (congrArg (Value.int .i64) (by omega)) ?_
   refine af (aQ (k:=i+1) aP bn (.ro hm.f) (by omega) rfl rfl rfl) rfl rfl<|rn 1 [3,7,8,12,122] rfl<|af (a8 (fun w hw=>hcell2 _ w hw 0 _ rfl) rfl rfl au) rfl rfl ?_
   refine rn 1 [3,7,8,12,14] rfl<|ae<|ac<|ac<|aa<|rn 1 [3,7,8,12,14,124] rfl<|af (aj fc au rfl rfl (by rfl)) rfl rfl ?_
   refine rn 2 [3,7,8,12,14,127] rfl ?_
   by_cases p1:x.pc<1
   ·have hc0:cb=false:=by rw[←hcb];unfold fC;rw[show bK x.pc 1 f.code.length=false from by rw[Bool.eq_false_iff];exact fun h=>by have:=dv.1 h;omega];rfl
    refine bV (t:=127) (v':= .bool true) rfl (congrArg Value.bool (decide_eq_true p1)) ?_
    refine rn 19 [3,7,12,14,146] rfl<|ae<|bA rfl<|ac<|aa<|rn 1 [6] rfl<|ae<|aq (ai (ai ?_))
    refine av gA (an rfl) ?_
    intro w hw
    exact⟨by rw[hbad hc0],hw.below⟩
   refine bV (t:=127) (v':= .bool false) rfl (congrArg Value.bool (decide_eq_false p1)) ?_
   refine rn 1 [3,7,8,12,14,127,128] rfl<|af (aj fc au rfl rfl (by rfl)) rfl rfl ?_
   refine rn 1 [3,7,8,12,14,127,129,130] rfl<|af (aj fc dB rfl rfl (by rfl)) rfl rfl ?_
   refine af (aM bw rfl rfl) rfl rfl<|rn 3 [3,7,8,12,14,135] rfl ?_
   by_cases p2:(f.code.length:Int)<x.pc
   ·have hc0:cb=false:=by rw[←hcb];unfold fC;rw[show bK x.pc 1 f.code.length=false from by rw[Bool.eq_false_iff];exact fun h=>by have:=dv.1 h;omega];rfl
    refine bV (t:=135) (v':= .bool true) rfl (congrArg Value.bool (decide_eq_true p2)) ?_
    refine rn 11 [3,7,12,14,146] rfl<|ae<|bA rfl<|ac<|aa<|rn 1 [6] rfl<|ae<|aq (ai (ai ?_))
    refine av gA (an rfl) ?_
    intro w hw
    exact⟨by rw[hbad hc0],hw.below⟩
   obtain⟨kp,hkp⟩:∃kp:Nat,x.pc - 1=kp:=⟨(x.pc - 1).toNat,by omega⟩
   have hcb2:((bG f.code kp).c == 12 && (bG f.code kp).a == to_)=cb:=by
    rw[←hcb]
    unfold fC
    rw[dv.2 (by omega),hkp,Int.toNat_natCast,Bool.true_and]
    rfl
   refine bV (t:=135) (v':= .bool false) rfl (congrArg Value.bool (decide_eq_false p2)) ?_
   refine rn 1 [3,7,12,14,135,136] rfl<|af (aj fc dB rfl rfl (by rfl)) rfl rfl ?_
   refine rn 1 [3,7,12,14,135,137,138] rfl<|af (aj fc au rfl rfl (by rfl)) rfl rfl ?_
   refine af (cH rfl rfl rfl (by omega)) rfl rfl<|bV (t:=140) (v':= .int .i64 (kp:Int)) rfl (congrArg (Value.int .i64) hkp) ?_
   refine af (aQ (k:=kp) bw cG (.ro hfc) (by omega) rfl rfl rfl) rfl rfl<|af (cY (cs:= [_,_]) (SF.op (.ro hfc) (by omega)) rfl rfl iJ cG) rfl rfl<|rn 1 [3,7,12,14,135,142,143] rfl<|af (bN (cs:= [_,_]) ew bL rfl rfl (by rfl)) rfl rfl ?_
   refine af (lf rfl rfl rfl (fun w=>G0 w _ _ _ _) (fun w=>Gb _ _ _ _ w)) rfl rfl ?_
   refine rn 1 [3,7,12,14,146] rfl<|ae ?_
   rw[hcb2]
   cases cb
   ·refine cN (t:=146) (v':= .bool true) rfl (rfl) ?_
    refine bA rfl<|ac<|aa<|rn 1 [6] rfl<|ae<|aq (ai (ai ?_))
    refine av gA (an rfl) ?_
    intro w hw
    exact⟨by rw[hbad rfl],hw.below⟩
   refine cN (t:=146) (v':= .bool false) rfl (rfl) ?_
   refine bZ rfl<|ar (am ?_)
   refine ac<|aa<|af (aN (vs:= [_]) fc bQ bB rfl rfl (by rfl) rfl) rfl rfl ?_
   refine rn 1 [3,7,12,14,148,149] rfl<|af (aj fc au rfl rfl (by rfl)) rfl rfl ?_
   refine rn 1 [3,7,12,14,148,150,151] rfl<|af (aj fc au rfl rfl (by rfl)) rfl rfl ?_
   refine af (cH rfl rfl rfl (by omega)) rfl rfl ?_
   rw[hcb,if_neg (by decide)] at hq
   obtain⟨q1,hq1⟩:∃q1,eA fs f (x.pc - 1)=q1:=⟨_,rfl⟩
   rw[hq1] at hq
   refine ag (cO rfl rfl rfl Tryz.call113 (fun w hw=>hrent (x.pc - 1) q1 hq1 w (hw.ro hs))) rfl rfl (fun⟨A9,c9⟩ _=>?_)
   try dsimp only
   refine rn 5 [3,7,12,14,16] rfl<|ae<|ac<|ac<|aa<|rn 2 [3,7,12,14,158] rfl<|ae ?_
   cases q1 with
   | none=>
    rw[if_pos (show (none:Option (List Int)).isSome=false from rfl)] at hq
    rw[←hq] at hE
    refine cN (t:=158) (v':= .bool true) rfl (rfl) ?_
    refine bA rfl<|ac<|aa<|rn 1 [6] rfl<|ae<|aq (ai (ai ?_))
    refine av gA (an rfl) ?_
    intro w hw
    exact⟨by rw[←hE],hw.below⟩
   | some t0=>
    rw[if_neg (by simp)] at hq
    obtain⟨_,t,ht,htl⟩:=hbeh hcb hq1
    rw[hq0] at ht
    subst ht
    obtain⟨kt,hkt⟩:∃kt:Nat,to_=kt:=⟨to_.toNat,by omega⟩
    have hktl:kt<fs.length:=by omega
    obtain⟨G1,e1,G2,e2,_,_,hGi,hgcell⟩:=hs.fn hktl
    have hres:=(hty.res kt hktl).1
    have hTy:=hent _ _ hq0
    have hq:some (if (az fs kt).result≠0 then t.dropLast else t)=q:=by
     rw[←hq]
     unfold ik
     rw[hto,hkt,Int.toNat_natCast]
     rfl
    rw[hkt,Int.toNat_natCast] at htl
    refine cN (t:=158) (v':= .bool false) rfl (rfl) ?_
    refine bZ rfl<|ar (am ?_)
    refine ac<|aa<|rn 1 [7,12,14,159] rfl<|af (aj fc cV rfl rfl (by rfl)) rfl rfl ?_
    refine rn 1 [7,12,160,161] rfl<|bV (t:=161) (v':= .int .i64 (kt:Int)) rfl (congrArg (Value.int .i64) hkt) ?_
    refine af (aQ (k:=kt) bJ bD (.ro hs) (by omega) rfl rfl rfl) rfl rfl<|rn 1 [7,12,163] rfl<|af (a8 (fun w hw=>hgcell _ w hw 2 _ rfl) rfl rfl au) rfl rfl ?_
    refine rn 1 [7,12,165] rfl<|ae<|aw rfl (fun hr=>?_) (fun hr=>?_)
    ·have hr:0<(az fs kt).result:=hr
     rw[if_pos (by omega)] at hq
     have htl:=htl (by omega)
     have hgl:((some t).getD []).length=t.length:=rfl
     refine fO (p:=t.length≤140737488355328∧t.length≤c7) (fun w hw=>⟨cn (SF.at_ (SF.rd (xs:=t) (m:=t.length) (A:=A7) (c:=c7) rfl fc) hw),(SF.at_ (SF.rd (xs:=t) (m:=t.length) (A:=A7) (c:=c7) rfl fc) hw).cap⟩) fun⟨tb,tc⟩=>?_
     refine aa<|rn 2 [7,166,167] rfl<|af (aM ah rfl rfl) rfl rfl<|af (cH rfl rfl rfl (by omega)) rfl rfl<|bV (t:=169) (v':= .int .i64 ((t.length - 1:Nat):Int)) rfl (congrArg (Value.int .i64) (by omega)) ?_
     refine af (AG (lo:=0) (hi:=t.length - 1) (k:=t.dropLast.length) ah aF ⟨by omega,by omega⟩ (by rw[List.length_dropLast];rfl) rfl rfl rfl rfl) rfl rfl ?_
     refine rn 1 [7,12] rfl<|gC (t.dropLast,(iR A7 0 c7 1,c7 - 0)) (⟨hq.symm,fun y hy=>hTy y (List.dropLast_subset t hy)⟩) ⟨rfl,rfl,trivial⟩ (fun w h=>(Ep (h.msub (T:= [il (.slice A7 t.length c7) t,ak g3 [.int .i64 (kf:Int),.int .i64 x.pc,.slice A1 x.locals.length c1,.slice A2 x.stack.length c2] 97,ak g4 [.int .i64 f.params,.slice F1 f.locals.length d1,.int .i64 f.result,.slice F2 f.code.length d2] 110,ak g2 [.slice a.Af m.frames.length a.cf,.slice a.Ab m.blocks.length a.cb,.slice a.Ai m.inn.length a.ci,.slice a.Ao m.out.length a.co,.int .i64 m.status,.int .i64 m.trap] 29,ak g1 [.slice Ap fs.length cp] 24]) ms)).msub ms)
    rw[if_neg (by omega)] at hq
    refine ar<|bq (t,(A7,c7)) (⟨hq.symm,hTy⟩) ⟨rfl,rfl,trivial⟩ (fun w h=>h.msub ms)
  rw[if_pos (by omega)] at hq
  subst hq
  refine ac<|aa<|rn 2 [7,12,172] rfl<|ae ?_
  cases q0 with
  | none=>
   refine cN (t:=172) (v':= .bool true) rfl (rfl) ?_
   refine bA rfl<|ac<|aa<|rn 1 [6] rfl<|ae<|aq (ai ?_)
   refine av gA (an rfl) ?_
   intro w hw
   exact⟨by rw[←hE],hw.below⟩
  | some t=>
   refine cN (t:=172) (v':= .bool false) rfl (rfl) ?_
   refine bZ rfl<|ar<|bq (t,(A7,c7)) (⟨rfl,hent _ _ hq0⟩) ⟨rfl,rfl,trivial⟩ (fun w h=>h.msub ms)
 rintro⟨t,⟨A8,c8⟩⟩ hqt
 obtain⟨hqt,hTy⟩:q=some t∧Ty t:=hqt
 subst hqt
 dsimp only at hE
 try dsimp only
 refine ac<|ac<|aa<|rn 1 [7,12,173] rfl<|af (aM ah rfl rfl) rfl rfl<|rn 1 [7,12,174,175] rfl<|af (aj fc cz rfl rfl (by rfl)) rfl rfl ?_
 refine af (aM aI rfl rfl) rfl rfl<|rn 1 [7,12,178] rfl<|ae<|bY rfl (fun h2=>?_) (fun h2=>?_)
 ·rw[if_pos (show t.length≠x.stack.length from fun e=>h2 (by rw[e]))] at hE
  subst hE
  refine ac<|aa<|rn 1 [6] rfl<|ae<|aq (ai ?_)
  refine av gA (an rfl) ?_
  intro w hw
  exact⟨rfl,hw.below⟩
 have h2:t.length=x.stack.length:=by omega
 rw[if_neg (fun h=>h h2)] at hE
 refine ar (am ?_)
 refine ac<|ac<|aa<|rn 1 [7,12,17] rfl<|ae<|aB (bI (fun k:Nat=>k≤t.length∧∀j,j<k→fa (x.stack.getD j default) (t.getD j 0)=true) (fun k=>t.length - k) (fun k=> [(7,.pointer (some ⟨g3,0,none⟩)),(12,.slice A8 t.length c8),(17,.int .i64 (k:Int))]) (fun _=> [il (.slice A8 t.length c8) t,ak g3 [.int .i64 (kf:Int),.int .i64 x.pc,.slice A1 x.locals.length c1,.slice A2 x.stack.length c2] 97]) 0 (⟨Nat.zero_le _,fun _ h=>absurd h (Nat.not_lt_zero _)⟩) ⟨rfl,rfl,rfl,trivial⟩ me ?_)
 rintro k hk'
 obtain⟨hk,hno3⟩:k≤t.length∧∀j,j<k→fa (x.stack.getD j default) (t.getD j 0)=true:=hk'
 refine ac<|ac<|aa<|rn 2 [7,12,17,179,180] rfl<|af (aM ah rfl rfl) rfl rfl<|rn 1 [7,12,17,182] rfl<|ae<|aw rfl (fun hlt=>?_) (fun hlt=>?_)
 ·have hkl2:k<t.length:=by omega
  have hkl3:k<x.stack.length:=by omega
  refine ar (am ?_)
  refine ac<|aB<|ac<|cD (.still 0 (.still 1 (.still 2 (.still 3 (.still 4 (.still 5 (.still 6 (.still 7 (.still 8 (.pick 9 (.still 10 .done) .stop)))))))))) [] rfl (by kernel_rfl) (by kernel_rfl) ?_
  refine aU ha 1 [7,12,17,185] rfl<|ax rfl (aj fc cz rfl rfl (by rfl)) rfl rfl ha ?_
  refine aU ha 1 [7,12,17,186,187] rfl<|ax rfl (aQ (k:=k) aI aV (.ro hst) (by omega) rfl rfl rfl) rfl rfl ha ?_
  refine ax rfl (cY (SF.val (SF.ro hst) hkl3 default) rfl rfl dZ aV) rfl rfl ha ?_
  refine aU ha 2 [7,12,17,189,190,191] rfl<|ax rfl (aQ (k:=k) ah aF (SF.rd (xs:=t) rfl fc) (by omega) rfl rfl rfl) rfl rfl ha ?_
  refine ax rfl (a8 (SF.int (SF.rd (xs:=t) rfl fc) (by omega)) rfl rfl au) rfl rfl ha ?_
  refine aK rfl (aY rfl rfl rfl Tryz.call112 (fun w hw=>tO (x.stack.getD k default) (t.getD k 0) (hTy _ (ff (d:=0) hkl2)) w)) rfl rfl (.inr fun _=>ha) (fun _ _=>?_) aE
  refine aU ha 1 [7,12,17,195] rfl<|cT<|cg rfl (fun hb=>?_) (fun hb=>?_)
  ·have hb:fa (x.stack.getD k default) (t.getD k 0)=false:=by simpa using hb
   rw[if_pos (qr hkl2 hb)] at hE
   subst hE
   refine ac<|aa<|rn 1 [6] rfl<|ae<|aq (aC (ai (ai (aC (ai ?_)))))
   refine av gA (an rfl) ?_
   intro w hw
   exact⟨rfl,hw.below⟩
  have hb:fa (x.stack.getD k default) (t.getD k 0)=true:=by simpa using hb
  refine ar (aH (am ?_))
  refine aa<|rn 1 [7,12,183] rfl<|af (br rfl rfl rfl (by omega)) rfl rfl<|rn 1 [7,12,17] rfl<|a5 (k+1) (⟨by show k+1≤_;omega,fun j hj=>(Nat.lt_or_ge j k).elim (hno3 j) (fun h=>by obtain rfl:j=k:=(by omega);exact hb)⟩) (by show _ - _<_ - _;omega) ⟨rfl,rfl,rfl,trivial⟩ me
 obtain rfl:k=t.length:=by omega
 rw[if_neg (by rw[jN.2 hno3];decide)] at hE
 subst hE
 refine bz (aD (aD (bO (am ?_))))
 refine ac<|aa<|rn 1 [6] rfl<|ae<|aq<|av gA (an rfl) ?_
 intro w hw
 exact⟨rfl,hw.below⟩
end
section
theorem yl {l r:List Int} :dk (l++r)=true↔dk l=true∨dk r=true:=by
 unfold dk
 rw[List.any_append,Bool.or_eq_true]
theorem GC {l:List Int} {k:Nat} (hk:k<l.length) (h:cF (l.getD k 0)=false):dk l=true:=List.any_eq_true.2 ⟨_,ff (d:=0) hk,by rw[h];rfl⟩
theorem GB {l:List Int} (h:∀j,j<l.length→cF (l.getD j 0)=true):¬dk l=true:=fun hb=>by
 obtain⟨x,hx,h2⟩:=List.any_eq_true.1 hb
 obtain⟨j,hj,rfl⟩:=List.getElem_of_mem hx
 have:=h j hj
 rw[List.getD_eq_getElem?_getD,List.getElem?_eq_getElem hj] at this
 have this:cF l[j]=true:=this
 rw[this] at h2
 cases h2
set_option maxRecDepth 100000 in
set_option maxHeartbeats 8000000 in
theorem rM (a:MA) (m:aG) (Ap:Option Addr) (cp:Nat) (fs:List aA) (w:World) (hs:Sl w (.slice Ap fs.length cp) fs) (hm:dQ w.heap.size w a m) (hF:fp fs) (hfit:gz m.frames) (E:Int) (hE:ja fs m=E) :
  Calls Tryz.prog 19 #[.agg #[.slice Ap fs.length cp],.agg #[.slice a.Af m.frames.length a.cf,.slice a.Ab m.blocks.length a.cb,.slice a.Ai m.inn.length a.ci,.slice a.Ao m.out.length a.co,.int .i64 m.status,.int .i64 m.trap]] w fun e w'=>e= .returned (.int .i64 E)∧Below w.heap.size w w':=by
 have bf:=cn hm.f
 have bp:=cn hs
 have bi:=cn hm.i
 have bo:=cn hm.o
 have hp1:=px hF
 obtain⟨sb,hsb⟩:∃b,bK m.status 0 3=b:=⟨_,rfl⟩
 obtain⟨tb,htb⟩:∃b,bK m.trap (if m.status=3 then 1 else 0) (if m.status=3 then 5 else 0)=b:=⟨_,rfl⟩
 unfold ja at hE
 rw[hsb,htb] at hE
 refine enter Tryz.func19 rfl Tryz.ntmps19 rfl ?_
 refine ac<|aa<|ag (bH rfl rfl rfl) rfl rfl (fun g1 _=>?_)
 refine ag (bH rfl rfl rfl) rfl rfl (fun g2 _=>?_)
 refine rn 1 [2,3] rfl<|ae<|ac<|ac<|aa<|rn 1 [2,3,12] rfl<|af (aj fc au rfl rfl (by rfl)) rfl rfl ?_
 refine ag (aY rfl rfl rfl jm ((fun w hw=>fm ((fun w hw=>eW _ _ _ w) w hw)))) rfl rfl (fun _ _=>?_)
 refine rn 1 [2,3,15] rfl<|ae ?_
 rw[hsb]
 cases sb
 ·rw[if_pos rfl] at hE
  subst hE
  refine cN (t:=15) (v':= .bool true) rfl (rfl) ?_
  refine bA rfl<|ac<|aa<|rn 1 [4] rfl<|ae<|aq (ai ?_)
  refine av eZ (an rfl) ?_
  intro w hw
  exact⟨rfl,hw.below⟩
 rw[if_neg (by decide)] at hE
 refine cN (t:=15) (v':= .bool false) rfl (rfl) ?_
 refine bZ rfl<|ar (am ?_)
 refine ac<|ac<|aa<|rn 1 [2,3,16] rfl<|af (aj fc au rfl rfl (by rfl)) rfl rfl ?_
 refine rn 2 [2,3,19] rfl<|my 15 rfl [(2,_),(3,_)] [(34,.bool (!tb))] ⟨rfl,rfl,trivial⟩ (fun K=>?_) ?_
 ·refine bM (t:=19) rfl (fun s3=>?_) (fun s3=>?_)
  ·have s3:=of_decide_eq_true s3
   rw[if_pos s3,if_pos s3] at htb
   refine rn 1 [2,3,19,20] rfl<|af (aj fc au rfl rfl (by rfl)) rfl rfl ?_
   refine ag (aY rfl rfl rfl jm ((fun w hw=>fm ((fun w hw=>eW _ _ _ w) w hw)))) rfl rfl (fun _ _=>?_)
   refine rn 3 [2,3,25] rfl ?_
   rw[htb]
   cases tb
   ·refine bV (t:=25) (v':= .bool true) rfl (rfl) ?_
    refine rn 9 [2,3,34] rfl<|bV (t:=34) (v':= .bool (!false)) rfl (rfl) ?_
    exact iO K ⟨rfl,rfl,rfl,trivial⟩
   refine bV (t:=25) (v':= .bool false) rfl (rfl) ?_
   refine rn 1 [2,3,25,26] rfl<|af (aj fc au rfl rfl (by rfl)) rfl rfl ?_
   refine rn 2 [2,3,25,29] rfl<|bV (t:=29) (v':= .bool false) rfl (congrArg Value.bool (by rw[s3];rfl)) ?_
   refine rn 5 [2,3,34] rfl<|bV (t:=34) (v':= .bool (!true)) rfl (rfl) ?_
   exact iO K ⟨rfl,rfl,rfl,trivial⟩
  have s3:=of_decide_eq_false s3
  rw[if_neg s3,if_neg s3] at htb
  refine rn 7 [2,3,25,26] rfl<|af (aj fc au rfl rfl (by rfl)) rfl rfl ?_
  refine rn 2 [2,3,25,29] rfl<|bV (t:=29) (v':= .bool true) rfl (congrArg Value.bool (by simp[s3])) ?_
  refine rn 1 [2,3,25,29,30] rfl<|af (aj fc au rfl rfl (by rfl)) rfl rfl ?_
  refine rn 3 [2,3,34] rfl<|bV (t:=34) (v':= .bool (!tb)) rfl (congrArg Value.bool (by rw[←htb];unfold bK;by_cases h0:m.trap=0;rw[h0];rfl;rw[Bool.eq_iff_iff];simp[h0];omega)) ?_
  exact iO K ⟨rfl,rfl,rfl,trivial⟩
 refine ae ?_
 cases tb
 ·rw[if_pos rfl] at hE
  subst hE
  refine cN (t:=34) (v':= .bool true) rfl (rfl) ?_
  refine bA rfl<|ac<|aa<|rn 1 [4] rfl<|ae<|aq (ai ?_)
  refine av eZ (an rfl) ?_
  intro w hw
  exact⟨rfl,hw.below⟩
 rw[if_neg (by decide)] at hE
 refine cN (t:=34) (v':= .bool false) rfl (rfl) ?_
 refine bZ rfl<|ar (am ?_)
 refine ac<|aa<|rn 1 [2,3,35] rfl<|af (aj fc dS rfl rfl (by rfl)) rfl rfl ?_
 refine ag (aY rfl rfl rfl Tryz.call69 ((fun w hw=>fm ((fun w hw=>q7 _ m.blocks w (hw.ro hm.b)) w hw)))) rfl rfl (fun _ _=>?_)
 refine rn 1 [2,3,5] rfl<|ae<|ac<|ac<|aa<|rn 2 [2,3,5,39] rfl<|ae<|bY rfl (fun hb=>?_) (fun hb=>?_)
 ·have hb:¬cI m.blocks=0:=hb
  rw[if_pos hb] at hE
  refine ac<|aa<|rn 2 [4] rfl<|ae<|aq (ai ?_)
  refine av eZ (an rfl) ?_
  intro w hw
  exact⟨by rw[←hE],hw.below⟩
 have hb:cI m.blocks=0:=hb
 rw[if_neg (fun h=>h hb)] at hE
 refine ar (am ?_)
 refine ac<|ac<|aa<|rn 1 [2,3,41] rfl<|af (aj fc aW rfl rfl (by rfl)) rfl rfl ?_
 refine af (aM ah rfl rfl) rfl rfl<|rn 2 [2,3,45] rfl<|my 5 rfl [(2,_),(3,_)] [(50,.bool (decide (10<m.inn.length∨10<m.out.length)))] ⟨rfl,rfl,trivial⟩ (fun K=>?_) ?_
 ·refine bM (t:=45) rfl (fun u1=>?_) (fun u1=>?_)
  ·have u1:=of_decide_eq_true u1
   refine rn 5 [2,3,50] rfl<|bV (t:=50) (v':= .bool (decide (10<m.inn.length∨10<m.out.length))) rfl (congrArg Value.bool (decide_eq_true (.inl (by omega))).symm) ?_
   exact iO K ⟨rfl,rfl,rfl,trivial⟩
  have u1:=of_decide_eq_false u1
  refine rn 1 [2,3,45,46] rfl<|af (aj fc aW rfl rfl (by rfl)) rfl rfl ?_
  refine af (aM ah rfl rfl) rfl rfl<|rn 2 [2,3,50] rfl<|bV (t:=50) (v':= .bool (decide (10<m.inn.length∨10<m.out.length))) rfl (congrArg Value.bool (decide_eq_decide.2 (by omega))) ?_
  exact iO K ⟨rfl,rfl,rfl,trivial⟩
 refine ae<|aw rfl (fun h10=>?_) (fun h10=>?_)
 ·rw[if_pos h10] at hE
  subst hE
  refine ac<|aa<|rn 1 [4] rfl<|ae<|aq (ai ?_)
  refine av eZ (an rfl) ?_
  intro w hw
  exact⟨rfl,hw.below⟩
 have h10:¬(10<m.inn.length∨10<m.out.length):=h10
 rw[if_neg h10] at hE
 have hal:(m.inn++m.out).length=m.inn.length+m.out.length:=List.length_append
 refine ar (am ?_)
 refine eb (fun _:Option Addr×Nat=>True) (fun g=> [(2,.pointer (some ⟨g1,0,none⟩)),(3,.pointer (some ⟨g2,0,none⟩)),(6,.slice g.1 (m.inn++m.out).length g.2)]) (fun g=> [ap (.slice g.1 (m.inn++m.out).length g.2) (m.inn++m.out),ak g2 [.slice a.Af m.frames.length a.cf,.slice a.Ab m.blocks.length a.cb,.slice a.Ai m.inn.length a.ci,.slice a.Ao m.out.length a.co,.int .i64 m.status,.int .i64 m.trap] 29,ak g1 [.slice Ap fs.length cp] 24]) ?_ ?_
 ·refine cD (.still 1 (.still 2 (.still 4 (.still 5 (.pick 0 (.pick 3 (.pick 6 (.calm 7 .done) .stop) .stop) .stop))))) [6,7] rfl (by kernel_rfl) (by kernel_rfl) ?_
  refine aU ha 1 [2,3,52] rfl<|ax rfl (aj fc aW rfl rfl (by rfl)) rfl rfl ha ?_
  refine aU ha 1 [2,3,53,55] rfl<|ax rfl (aj fc aW rfl rfl (by rfl)) rfl rfl ha ?_
  refine aK rfl ((bu (cs:= []) ah aF a6 rfl rfl rfl rfl rfl).mem (H'':=fun g=>ap (.slice (some ⟨g,0,none⟩) 0 0) ([]:List Int)::_) fun g w h=>cE (α:=Int) (m:=0) [] rfl (by simp) rfl (by decide) h) rfl rfl (.inr fun _=>ha) (fun ge _=>?_) aE
  refine aK rfl (iP (α:=Int) (bytes:=8) (xs:= []) (ys:=m.inn) (List.nil_append m.inn).symm ah (cU eE) rfl fc (.ro hm.i) (by simp only[List.length_nil];omega) (by simp only[List.length_nil];omega) rfl rfl rfl) rfl rfl (.inr fun _=>ha) (fun⟨A5,c5⟩ _=>?_) aE
  try dsimp only
  refine aK rfl (iP (α:=Int) (bytes:=8) (xs:=m.inn) (ys:=m.out) rfl ah (cU eE) rfl fc (.ro hm.o) (by omega) (by omega) rfl rfl rfl) rfl rfl (.inl rfl) (fun⟨A6,c6⟩ _=>?_) aE
  try dsimp only
  refine gL 1 [2,3,6] rfl<|df<|bq (A6,c6) (trivial) ⟨rfl,rfl,rfl,trivial⟩ (fun _ h=>h.msub ms)
 rintro⟨A6,c6⟩ _
 try dsimp only
 refine ac<|ac<|aa<|rn 1 [2,3,6,7] rfl<|ae<|aB (bI (fun k:Nat=>k≤(m.inn++m.out).length∧∀j,j<k→cF ((m.inn++m.out).getD j 0)=true) (fun k=>(m.inn++m.out).length - k) (fun k=> [(2,.pointer (some ⟨g1,0,none⟩)),(3,.pointer (some ⟨g2,0,none⟩)),(6,.slice A6 (m.inn++m.out).length c6),(7,.int .i64 (k:Int))]) (fun _=> [ap (.slice A6 (m.inn++m.out).length c6) (m.inn++m.out),ak g2 [.slice a.Af m.frames.length a.cf,.slice a.Ab m.blocks.length a.cb,.slice a.Ai m.inn.length a.ci,.slice a.Ao m.out.length a.co,.int .i64 m.status,.int .i64 m.trap] 29,ak g1 [.slice Ap fs.length cp] 24]) 0 (⟨Nat.zero_le _,fun _ h=>absurd h (Nat.not_lt_zero _)⟩) ⟨rfl,rfl,rfl,rfl,trivial⟩ me ?_)
 rintro k hk'
 obtain⟨hk,hno⟩:k≤(m.inn++m.out).length∧∀j,j<k→cF ((m.inn++m.out).getD j 0)=true:=hk'
 refine ac<|ac<|aa<|rn 2 [2,3,6,7,58,59] rfl<|af (aM ah rfl rfl) rfl rfl<|rn 1 [2,3,6,7,61] rfl<|ae<|aw rfl (fun hlt=>?_) (fun hlt=>?_)
 ·have hkl:k<(m.inn++m.out).length:=by omega
  refine ar (am ?_)
  refine ac<|aB<|ac<|aa<|rn 2 [2,3,6,7,64,65] rfl<|af (aQ (k:=k) ah aF (SF.own rfl fc) (by omega) rfl rfl rfl) rfl rfl ?_
  refine af (a8 (SF.int (SF.own rfl fc) (by omega)) rfl rfl au) rfl rfl ?_
  refine ag (aY rfl rfl rfl Tryz.call44 ((fun w hw=>fm ((fun w hw=>kK _ w) w hw)))) rfl rfl (fun _ _=>?_)
  refine rn 1 [2,3,6,7,69] rfl<|ae<|cg rfl (fun hb2=>?_) (fun hb2=>?_)
  ·have hb2:cF ((m.inn++m.out).getD k 0)=false:=by simpa using hb2
   rw[if_pos (yl.1 (GC hkl hb2))] at hE
   subst hE
   refine ac<|aa<|rn 1 [4] rfl<|ae<|aq (aC (ai (ai (aC (ai ?_)))))
   refine av eZ (an rfl) ?_
   intro w hw
   exact⟨rfl,hw.below⟩
  have hb2:cF ((m.inn++m.out).getD k 0)=true:=by simpa using hb2
  refine ar (aH (am ?_))
  refine aa<|rn 1 [2,3,6,62] rfl<|af (br rfl rfl rfl (by omega)) rfl rfl<|rn 1 [2,3,6,7] rfl<|a5 (k+1) (⟨by show k+1≤_;omega,fun j hj=>(Nat.lt_or_ge j k).elim (hno j) (fun h=>by obtain rfl:j=k:=(by omega);exact hb2)⟩) (by show _ - _<_ - _;omega) ⟨rfl,rfl,rfl,rfl,trivial⟩ me
 obtain rfl:k=(m.inn++m.out).length:=by omega
 rw[if_neg (fun h=>GB hno (yl.2 h))] at hE
 obtain⟨FE,hFE⟩:∃e,jM fs m=e:=⟨_,rfl⟩
 rw[hFE] at hE
 unfold jM at hFE
 have hbadE:FE≠0→E=FE:=fun h=>by rw[if_pos h] at hE;exact hE.symm
 refine bz (aD (aD (bO (am ?_))))
 refine ac<|aa<|rn 1 [2,3,70] rfl<|af (aj fc bP rfl rfl (by rfl)) rfl rfl ?_
 refine af (aM aP rfl rfl) rfl rfl<|rn 1 [2,3,8] rfl<|ae<|ac<|ac<|aa<|rn 2 [2,3,8,74] rfl<|ae<|aw rfl (fun h6=>?_) (fun h6=>?_)
 ·rw[if_pos (by omega)] at hFE
  subst hFE
  refine ac<|aa<|rn 1 [4] rfl<|ae<|aq (ai ?_)
  refine av eZ (an rfl) ?_
  intro w hw
  exact⟨by rw[hbadE (by decide)],hw.below⟩
 have h6:¬6<m.frames.length:=by omega
 rw[if_neg h6] at hFE
 refine ar (am ?_)
 refine ac<|ac<|aa<|rn 3 [2,3,8,77] rfl<|my 4 rfl [(2,_),(3,_),(8,_)] [(81,.bool (decide (m.frames.length=0∧m.status≠2)))] ⟨rfl,rfl,rfl,trivial⟩ (fun K=>?_) ?_
 ·refine bM (t:=77) rfl (fun v1=>?_) (fun v1=>?_)
  ·have v1:=of_decide_eq_true v1
   refine rn 1 [2,3,8,77,78] rfl<|af (aj fc au rfl rfl (by rfl)) rfl rfl ?_
   refine rn 2 [2,3,8,81] rfl<|bV (t:=81) (v':= .bool (decide (m.frames.length=0∧m.status≠2))) rfl (congrArg Value.bool (by rw[←decide_not];exact decide_eq_decide.2 ⟨fun h=>⟨by omega,h⟩,fun h=>h.2⟩)) ?_
   exact iO K ⟨rfl,rfl,rfl,rfl,trivial⟩
  have v1:=of_decide_eq_false v1
  refine rn 4 [2,3,8,81] rfl<|bV (t:=81) (v':= .bool (decide (m.frames.length=0∧m.status≠2))) rfl (congrArg Value.bool (decide_eq_false (by omega)).symm) ?_
  exact iO K ⟨rfl,rfl,rfl,rfl,trivial⟩
 refine ae<|aw rfl (fun v2=>?_) (fun v2=>?_)
 ·rw[if_pos v2] at hFE
  subst hFE
  refine ac<|aa<|rn 1 [4] rfl<|ae<|aq (ai ?_)
  refine av eZ (an rfl) ?_
  intro w hw
  exact⟨by rw[hbadE (by decide)],hw.below⟩
 rw[if_neg v2] at hFE
 refine ar (am ?_)
 refine ac<|ac<|aa<|rn 3 [2,3,8,84] rfl<|my 4 rfl [(2,_),(3,_),(8,_)] [(88,.bool (decide (0<m.frames.length∧m.status=2)))] ⟨rfl,rfl,rfl,trivial⟩ (fun K=>?_) ?_
 ·refine bM (t:=84) rfl (fun v3=>?_) (fun v3=>?_)
  ·have v3:=of_decide_eq_true v3
   refine rn 1 [2,3,8,84,85] rfl<|af (aj fc au rfl rfl (by rfl)) rfl rfl ?_
   refine rn 2 [2,3,8,88] rfl<|bV (t:=88) (v':= .bool (decide (0<m.frames.length∧m.status=2))) rfl (congrArg Value.bool (decide_eq_decide.2 (by omega))) ?_
   exact iO K ⟨rfl,rfl,rfl,rfl,trivial⟩
  have v3:=of_decide_eq_false v3
  refine rn 4 [2,3,8,88] rfl<|bV (t:=88) (v':= .bool (decide (0<m.frames.length∧m.status=2))) rfl (congrArg Value.bool (decide_eq_false (by omega)).symm) ?_
  exact iO K ⟨rfl,rfl,rfl,rfl,trivial⟩
 refine ae<|aw rfl (fun v4=>?_) (fun v4=>?_)
 ·rw[if_pos v4] at hFE
  subst hFE
  refine ac<|aa<|rn 1 [4] rfl<|ae<|aq (ai ?_)
  refine av eZ (an rfl) ?_
  intro w hw
  exact⟨by rw[hbadE (by decide)],hw.below⟩
 rw[if_neg v4] at hFE
 refine ar (am ?_)
 refine ac<|ac<|aa<|rn 1 [2,3,8,9] rfl<|ae<|aB (bI (fun k:Nat=>k≤m.frames.length∧∀j,j<k→bK (bh m.frames j).func 0 ((fs.length:Int) - 1)=true) (fun k=>m.frames.length - k) (fun k=> [(2,.pointer (some ⟨g1,0,none⟩)),(3,.pointer (some ⟨g2,0,none⟩)),(8,.int .i64 (m.frames.length:Int)),(9,.int .i64 (k:Int))]) (fun _=> [ak g2 [.slice a.Af m.frames.length a.cf,.slice a.Ab m.blocks.length a.cb,.slice a.Ai m.inn.length a.ci,.slice a.Ao m.out.length a.co,.int .i64 m.status,.int .i64 m.trap] 29,ak g1 [.slice Ap fs.length cp] 24]) 0 (⟨Nat.zero_le _,fun _ h=>absurd h (Nat.not_lt_zero _)⟩) ⟨rfl,rfl,rfl,rfl,trivial⟩ me ?_)
 rintro k hk'
 obtain⟨hk,hno2⟩:k≤m.frames.length∧∀j,j<k→bK (bh m.frames j).func 0 ((fs.length:Int) - 1)=true:=hk'
 refine ac<|ac<|aa<|rn 3 [2,3,8,9,91] rfl<|ae<|aw rfl (fun hlt=>?_) (fun hlt=>?_)
 ·have hkl:k<m.frames.length:=by omega
  obtain⟨A1,c1,A2,c2,hl,hst,hI,hcell⟩:=hm.f.fr hkl
  refine ar (am ?_)
  refine ac<|aB<|ac<|cD (.still 0 (.still 1 (.still 2 (.still 3 (.still 4 (.still 5 (.still 6 (.still 7 (.still 8 (.still 9 (.pick 10 (.still 11 .done) .stop))))))))))) [] rfl (by kernel_rfl) (by kernel_rfl) ?_
  refine aU ha 1 [2,3,8,9,94] rfl<|ax rfl (aj fc bP rfl rfl (by rfl)) rfl rfl ha ?_
  refine aU ha 1 [2,3,8,9,95,96] rfl<|ax rfl (aQ (k:=k) aP bn (.ro hm.f) (by omega) rfl rfl rfl) rfl rfl ha ?_
  refine aU ha 1 [2,3,8,9,98] rfl<|ax rfl (a8 (fun w hw=>hcell _ w hw 0 _ rfl) rfl rfl au) rfl rfl ha ?_
  refine aU ha 1 [2,3,8,9,99,100] rfl<|ax rfl (aj fc cV rfl rfl (by rfl)) rfl rfl ha ?_
  refine ax rfl (aM bJ rfl rfl) rfl rfl ha ?_
  refine ax rfl (cH rfl rfl rfl (by omega)) rfl rfl ha ?_
  refine aK rfl (aY rfl rfl rfl jm ((fun w hw=>fm ((fun w hw=>eW _ _ _ w) w hw)))) rfl rfl (.inr fun _=>ha) (fun _ _=>?_) aE
  refine aU ha 1 [2,3,8,9,105] rfl<|cT<|cg rfl (fun hb2=>?_) (fun hb2=>?_)
  ·have hb2:bK (bh m.frames k).func 0 ((fs.length:Int) - 1)=false:=by simpa using hb2
   rw[if_pos (Bw hkl hb2)] at hFE
   subst hFE
   refine ac<|aa<|rn 1 [4] rfl<|ae<|aq (aC (ai (ai (aC (ai ?_)))))
   refine av eZ (an rfl) ?_
   intro w hw
   exact⟨by rw[hbadE (by decide)],hw.below⟩
  have hb2:bK (bh m.frames k).func 0 ((fs.length:Int) - 1)=true:=by simpa using hb2
  refine ar (aH (am ?_))
  refine aa<|rn 1 [2,3,8,92] rfl<|af (br rfl rfl rfl (by omega)) rfl rfl<|rn 1 [2,3,8,9] rfl<|a5 (k+1) (⟨by show k+1≤_;omega,fun j hj=>(Nat.lt_or_ge j k).elim (hno2 j) (fun h=>by obtain rfl:j=k:=(by omega);exact hb2)⟩) (by show _ - _<_ - _;omega) ⟨rfl,rfl,rfl,rfl,trivial⟩ me
 obtain rfl:k=m.frames.length:=by omega
 obtain⟨hany,hfn⟩:=yc hno2
 rw[if_neg hany] at hFE
 refine bz (aD (aD (bO (am ?_))))
 refine ac<|ac<|aa<|rn 3 [2,3,8,108] rfl<|my 7 rfl [(2,_),(3,_),(8,_)] [(115,.bool (decide (0<m.frames.length∧(bh m.frames 0).func≠0)))] ⟨rfl,rfl,rfl,trivial⟩ (fun K=>?_) ?_
 ·refine bM (t:=108) rfl (fun w1=>?_) (fun w1=>?_)
  ·have w1:=of_decide_eq_true w1
   obtain⟨A1,c1,A2,c2,hl,hst,hI,hcell⟩:=hm.f.fr (k:=0) (by omega)
   refine rn 1 [2,3,8,108,109] rfl<|af (aj fc bP rfl rfl (by rfl)) rfl rfl ?_
   refine af (aQ (k:=0) aP bn (.ro hm.f) (by omega) rfl rfl rfl) rfl rfl<|rn 1 [2,3,8,108,112] rfl<|af (a8 (fun w hw=>hcell _ w hw 0 _ rfl) rfl rfl au) rfl rfl ?_
   refine rn 2 [2,3,8,115] rfl<|bV (t:=115) (v':= .bool (decide (0<m.frames.length∧(bh m.frames 0).func≠0))) rfl (congrArg Value.bool (by rw[←decide_not];exact decide_eq_decide.2 ⟨fun h=>⟨by omega,h⟩,fun h=>h.2⟩)) ?_
   exact iO K ⟨rfl,rfl,rfl,rfl,trivial⟩
  have w1:=of_decide_eq_false w1
  refine rn 7 [2,3,8,115] rfl<|bV (t:=115) (v':= .bool (decide (0<m.frames.length∧(bh m.frames 0).func≠0))) rfl (congrArg Value.bool (decide_eq_false (fun h=>by omega)).symm) ?_
  exact iO K ⟨rfl,rfl,rfl,rfl,trivial⟩
 refine ae<|aw rfl (fun w2=>?_) (fun w2=>?_)
 ·rw[if_pos w2] at hFE
  subst hFE
  refine ac<|aa<|rn 1 [4] rfl<|ae<|aq (ai ?_)
  refine av eZ (an rfl) ?_
  intro w hw
  exact⟨by rw[hbadE (by decide)],hw.below⟩
 rw[if_neg w2] at hFE
 refine ar (am ?_)
 refine ac<|ac<|aa<|rn 1 [2,3,8,10] rfl<|ae<|aB (bI (fun k:Nat=>k≤m.frames.length∧dX (eS fs m.blocks.length m.frames) ((List.range m.frames.length).take k)=0) (fun k=>m.frames.length - k) (fun k=> [(2,.pointer (some ⟨g1,0,none⟩)),(3,.pointer (some ⟨g2,0,none⟩)),(8,.int .i64 (m.frames.length:Int)),(10,.int .i64 (k:Int))]) (fun _=> [ak g2 [.slice a.Af m.frames.length a.cf,.slice a.Ab m.blocks.length a.cb,.slice a.Ai m.inn.length a.ci,.slice a.Ao m.out.length a.co,.int .i64 m.status,.int .i64 m.trap] 29,ak g1 [.slice Ap fs.length cp] 24]) 0 (⟨Nat.zero_le _,rfl⟩) ⟨rfl,rfl,rfl,rfl,trivial⟩ me ?_)
 rintro k hk'
 obtain⟨hk,hno3⟩:k≤m.frames.length∧dX (eS fs m.blocks.length m.frames) ((List.range m.frames.length).take k)=0:=hk'
 refine ac<|ac<|aa<|rn 3 [2,3,8,10,118] rfl<|ae<|aw rfl (fun hlt=>?_) (fun hlt=>?_)
 ·have hkl:k<m.frames.length:=by omega
  have hsn:=iF (g:=eS fs m.blocks.length m.frames) (l:=List.range m.frames.length) 0 (by rw[List.length_range];exact hkl) hno3
  rw[kL hkl] at hsn
  refine ar (am ?_)
  refine ac<|aB<|ac<|aa<|af (aN (vs:= [_]) fc bQ bB rfl rfl (by rfl) rfl) rfl rfl ?_
  refine af (aN (vs:= [_,_,_,_,_,_]) fc aT ay rfl rfl (by rfl) rfl) rfl rfl ?_
  refine rn 1 [2,3,8,10,121,122,123] rfl<|ag (aY rfl rfl rfl Tryz.call70 (fun w hw=>yI a m Ap cp fs k w (hw.ro hs) (dQ.ro hw hm) hF hfit hkl hfn _ rfl)) rfl rfl (fun _ _=>?_)
  refine rn 1 [2,3,8,10,11] rfl<|ae<|ac<|aa<|rn 2 [2,3,8,10,11,126] rfl<|ae<|bY rfl (fun he=>?_) (fun he=>?_)
  ·have he:eS fs m.blocks.length m.frames k≠0:=he
   rw[lI (k:=k+1) (by rw[hsn];exact he),hsn] at hFE
   rw[hFE] at he
   refine ac<|aa<|rn 2 [4] rfl<|ae<|aq (aC (ai (ai (aC (ai ?_)))))
   refine av eZ (an rfl) ?_
   intro w hw
   exact⟨by rw[hbadE he,←hFE],hw.below⟩
  have he:eS fs m.blocks.length m.frames k=0:=he
  rw[he] at hsn
  refine ar (aH (am ?_))
  refine aa<|rn 1 [2,3,8,119] rfl<|af (br rfl rfl rfl (by omega)) rfl rfl<|rn 1 [2,3,8,10] rfl<|a5 (k+1) (⟨by show k+1≤_;omega,hsn⟩) (by show _ - _<_ - _;omega) ⟨rfl,rfl,rfl,rfl,trivial⟩ me
 obtain rfl:k=m.frames.length:=by omega
 rw[List.take_of_length_le (by rw[List.length_range];exact Nat.le_refl _)] at hno3
 rw[hno3] at hFE
 subst hFE
 rw[if_neg (fun h=>h rfl)] at hE
 refine bz (aD (aD (bO (am ?_))))
 refine ac<|ac<|cD (.still 0 (.still 1 (.still 2 (.still 3 (.still 4 (.still 5 (.still 6 (.still 7 (.still 8 (.still 9 (.still 10 (.still 11 (.still 12 (.still 13 (.still 14 (.still 15 (.still 16 (.still 17 (.still 18 (.still 19 (.still 20 (.still 21 (.still 22 (.still 23 (.still 24 (.still 25 (.still 26 (.still 27 (.still 28 (.still 29 (.still 30 (.still 31 (.still 32 (.still 33 .done)))))))))))))))))))))))))))))))))) [] rfl (by kernel_rfl) (by kernel_rfl) ?_
 refine aU ha 1 [2,3,8,128] rfl<|ax rfl (aj fc au rfl rfl (by rfl)) rfl rfl ha ?_
 refine aU ha 2 [2,3,8,131] rfl ?_
 by_cases s1:m.status=1
 ·rw[if_neg (fun h=>h s1)] at hE
  refine eq (t:=131) (v':= .bool true) rfl (congrArg Value.bool (by rw[s1];rfl)) ?_
  refine aU ha 1 [2,3,8,131,132] rfl<|ax rfl (aj fc aW rfl rfl (by rfl)) rfl rfl ha ?_
  refine ax rfl (aM ah rfl rfl) rfl rfl ha ?_
  refine aU ha 2 [2,3,8,131,136] rfl ?_
  by_cases i0:0<m.inn.length
  ·rw[if_pos (.inl i0)] at hE
   subst hE
   refine eq (t:=136) (v':= .bool true) rfl (congrArg Value.bool (decide_eq_true (by omega))) ?_
   refine aU ha 25 [161] rfl<|cT<|bA rfl<|ac<|aa<|rn 1 [4] rfl<|ae<|aq (ai ?_)
   refine av eZ (an rfl) ?_
   intro w hw
   exact⟨rfl,hw.below⟩
  have hne:m.frames≠[]:=fun e=>v2 ⟨by rw[e];rfl,by omega⟩
  obtain⟨li,x,e⟩:∃li x,m.frames=li++ [x]:=by
   rcases List.eq_nil_or_concat m.frames with h1 | ⟨l,z,h1⟩
   ·exact absurd h1 hne
   exact⟨l,z,by rw[h1];simp⟩
  obtain⟨hx,hkk,hop⟩:=zR (fs:=fs) e
  obtain⟨k,hkl⟩:∃k,li.length=k:=⟨_,rfl⟩
  rw[hkl] at hx hkk
  have hfr:=oR.1 (mg hno3 k (List.mem_range.2 (by omega)))
  have hfx:=hfn x (by rw[e];simp)
  rw[e,←hkl] at hfr
  obtain⟨_,hloc,t,he,hts⟩:=(nH hfx).1 hfr
  obtain⟨hp0,hp1',_⟩:=(hF.e x.func.toNat (by omega)).at_ _ _ he
  obtain⟨A1,c1,A2,c2,h1,h2,hi,hc⟩:=hm.f.fr (k:=k) (by omega)
  rw[hx] at h1 h2 hi hc
  obtain⟨kf,hkf⟩:∃kf:Nat,x.func=kf:=⟨x.func.toNat,by omega⟩
  obtain⟨kp,hkp⟩:∃kp:Nat,x.pc=kp:=⟨x.pc.toNat,by omega⟩
  rw[hkf,Int.toNat_natCast] at hp1' hop
  rw[hkp,Int.toNat_natCast] at hop
  rw[hkp] at hp1'
  have hkfl:kf<fs.length:=by omega
  have hkpl:kp<(az fs kf).code.length:=by omega
  obtain⟨F1,d1,F2,d2,hfl,hfc,hfi,hfcell⟩:=hs.fn hkfl
  have bc:=cn hfc
  rw[hop] at hE
  refine eq (t:=136) (v':= .bool false) rfl (congrArg Value.bool (decide_eq_false (by omega))) ?_
  refine aU ha 1 [3,8,131,136,137] rfl<|ax rfl (aj fc cV rfl rfl (by rfl)) rfl rfl ha ?_
  refine aU ha 1 [3,8,131,136,138,139] rfl<|ax rfl (aj fc bP rfl rfl (by rfl)) rfl rfl ha ?_
  refine aU ha 1 [3,8,131,136,138,140,141] rfl<|ax rfl (cH rfl rfl rfl (by omega)) rfl rfl ha ?_
  refine eq (t:=142) (v':= .int .i64 (k:Int)) rfl (congrArg (Value.int .i64) (by omega)) ?_
  refine ax rfl (aQ (k:=k) aP bn (.ro hm.f) (by omega) rfl rfl rfl) rfl rfl ha ?_
  refine aU ha 1 [3,8,131,136,138,144] rfl<|ax rfl (a8 (fun w hw=>hc _ w hw 0 _ rfl) rfl rfl au) rfl rfl ha ?_
  refine eq (t:=145) (v':= .int .i64 (kf:Int)) rfl (congrArg (Value.int .i64) hkf) ?_
  refine ax rfl (aQ (k:=kf) bJ bD (.ro hs) (by omega) rfl rfl rfl) rfl rfl ha ?_
  refine aU ha 1 [3,8,131,136,147] rfl<|ax rfl (a8 (fun w hw=>hfcell _ w hw 3 _ rfl) rfl rfl dB) rfl rfl ha ?_
  refine aU ha 1 [8,131,136,148,149] rfl<|ax rfl (aj fc bP rfl rfl (by rfl)) rfl rfl ha ?_
  refine aU ha 1 [131,136,148,150,151] rfl<|ax rfl (cH rfl rfl rfl (by omega)) rfl rfl ha ?_
  refine eq (t:=152) (v':= .int .i64 (k:Int)) rfl (congrArg (Value.int .i64) (by omega)) ?_
  refine ax rfl (aQ (k:=k) aP bn (.ro hm.f) (by omega) rfl rfl rfl) rfl rfl ha ?_
  refine aU ha 1 [131,136,148,154] rfl<|ax rfl (a8 (fun w hw=>hc _ w hw 1 _ rfl) rfl rfl au) rfl rfl ha ?_
  refine eq (t:=155) (v':= .int .i64 (kp:Int)) rfl (congrArg (Value.int .i64) hkp) ?_
  refine ax rfl (aQ (k:=kp) bw cG (.ro hfc) (by omega) rfl rfl rfl) rfl rfl ha ?_
  refine aU ha 1 [131,136,157] rfl<|ax rfl (a8 (SF.opc (.ro hfc) hkpl) rfl rfl au) rfl rfl ha ?_
  refine aU ha 3 [161] rfl<|cT<|bY rfl (fun c21=>?_) (fun c21=>?_)
  ·rw[if_pos (.inr c21)] at hE
   subst hE
   refine ac<|aa<|rn 1 [4] rfl<|ae<|aq (ai ?_)
   refine av eZ (an rfl) ?_
   intro w hw
   exact⟨rfl,hw.below⟩
  have c21:(bG (az fs kf).code kp).c=21:=c21
  rw[if_neg (fun h=>h.elim i0 (fun h=>h c21))] at hE
  subst hE
  refine ar (am ?_)
  refine ac<|aa<|rn 1 [4] rfl<|ae<|aq<|av eZ (an rfl) ?_
  intro w hw
  exact⟨rfl,hw.below⟩
 rw[if_pos s1] at hE
 subst hE
 refine eq (t:=131) (v':= .bool false) rfl (congrArg Value.bool (decide_eq_false s1)) ?_
 refine aU ha 30 [161] rfl<|cT<|bZ rfl<|ar (am ?_)
 refine ac<|aa<|rn 1 [4] rfl<|ae<|aq<|av eZ (an rfl) ?_
 intro w hw
 exact⟨rfl,hw.below⟩
set_option maxRecDepth 100000 in
theorem Ag (Ap:Option Addr) (cp:Nat) (fs:List aA) (a:MA) (m:aG) (w:World) (hs:Sl w (.slice Ap fs.length cp) fs) (hm:dQ w.heap.size w a m) (hfit:gz m.frames) :
  Calls Tryz.prog 15 #[.agg #[.slice Ap fs.length cp],.agg #[.slice a.Af m.frames.length a.cf,.slice a.Ab m.blocks.length a.cb,.slice a.Ai m.inn.length a.ci,.slice a.Ao m.out.length a.co,.int .i64 m.status,.int .i64 m.trap]] w fun e w'=>e= .returned (.int .i64 (cQ fs m))∧Below w.heap.size w w':=by
 refine enter Tryz.func15 rfl Tryz.ntmps15 rfl ?_
 refine ac<|aa<|ag (bH rfl rfl rfl) rfl rfl (fun g1 _=>?_)
 refine ag (bH rfl rfl rfl) rfl rfl (fun g2 _=>?_)
 refine rn 1 [2,3] rfl<|ae<|ac<|aa<|af (aN (vs:= [_]) fc bQ bB rfl rfl (by rfl) rfl) rfl rfl ?_
 refine ag (aY rfl rfl rfl Tryz.call16 (fun w hw=>nN Ap cp fs w (hw.ro hs))) rfl rfl (fun _ _=>?_)
 refine rn 1 [2,3,5] rfl<|ae<|ac<|ac<|aa<|rn 2 [2,3,5,9] rfl<|ae<|aw rfl (fun h=>?_) (fun h=>?_)
 ·have h:dw fs=0:=h
  refine aa<|af (aN (vs:= [_]) fc bQ bB rfl rfl (by rfl) rfl) rfl rfl ?_
  refine af (aN (vs:= [_,_,_,_,_,_]) fc aT ay rfl rfl (by rfl) rfl) rfl rfl ?_
  refine ag (aY rfl rfl rfl Tryz.call19 (fun w hw=>rM a m Ap cp fs w (hw.ro hs) (dQ.ro hw hm) (nn h) hfit _ rfl)) rfl rfl (fun _ _=>?_)
  refine rn 1 [5] rfl<|ae<|ac<|aa<|rn 2 [4] rfl<|ae<|aq<|av Tryz.results15 (an rfl) ?_
  intro w hw
  exact⟨by unfold cQ;rw[if_neg (fun h'=>h' h)],hw.below⟩
 have h:¬dw fs=0:=h
 refine ar (am ?_)
 refine ac<|aa<|rn 2 [4] rfl<|ae<|aq<|av Tryz.results15 (an rfl) ?_
 intro w hw
 exact⟨by unfold cQ;rw[if_pos h],hw.below⟩
end
section
theorem vc (a b:MA) (m n:aG) (he:m=n) (w:World) (h1:dQ w.heap.size w a m) (h2:dQ w.heap.size w b n) :
  Calls Tryz.prog 53 #[.agg #[.slice a.Af m.frames.length a.cf,.slice a.Ab m.blocks.length a.cb,.slice a.Ai m.inn.length a.ci,.slice a.Ao m.out.length a.co,.int .i64 m.status,.int .i64 m.trap],
   .agg #[.slice b.Af n.frames.length b.cf,.slice b.Ab n.blocks.length b.cb,.slice b.Ai n.inn.length b.ci,.slice b.Ao n.out.length b.co,.int .i64 n.status,.int .i64 n.trap]] w fun e w'=>e= .returned (.bool true)∧Below w.heap.size w w':=by
 have:=iN a b m n w h1 h2
 rwa [decide_eq_true he] at this
end
section
theorem C0 {B:Nat} {w:World} :dQ B w ⟨none,0,none,0,none,0,none,0⟩ default:=⟨bW.nil_,bW.nil_,bW.nil_,bW.nil_,(by decide:be 0),(by decide:be 0)⟩
set_option maxRecDepth 100000 in
set_option maxHeartbeats 1000000 in
theorem uv (a b:MA) (m1 m2:aG) (e:Int) (he:m1=if e≠0 then default else m2) (w:World) (h1:dQ w.heap.size w a m1) (h2:dQ w.heap.size w b m2) :
  Calls Tryz.prog 21 #[.agg #[.slice a.Af m1.frames.length a.cf,.slice a.Ab m1.blocks.length a.cb,.slice a.Ai m1.inn.length a.ci,.slice a.Ao m1.out.length a.co,.int .i64 m1.status,.int .i64 m1.trap],.int .i64 e,.int .i64 e,
   .agg #[.slice b.Af m2.frames.length b.cf,.slice b.Ab m2.blocks.length b.cb,.slice b.Ai m2.inn.length b.ci,.slice b.Ao m2.out.length b.co,.int .i64 m2.status,.int .i64 m2.trap]] w fun e w'=>e= .returned (.bool true)∧Below w.heap.size w w':=by
 refine enter Tryz.func21 rfl Tryz.ntmps21 rfl ?_
 refine ac<|aa<|ag (bH rfl rfl rfl) rfl rfl (fun g1 _=>?_)
 refine ag (bH rfl rfl rfl) rfl rfl (fun g2 _=>?_)
 refine rn 1 [1,2,4,7] rfl<|ae<|ac<|ac<|aa<|rn 2 [1,2,4,7,10] rfl<|ae<|bY rfl (fun h=>?_) (fun h=>?_)
 ·have h:¬e=0:=h
  rw[if_pos h] at he
  subst he
  refine aa<|af (bN (cs:= [_,_,_,_,_,_]) ij aR rfl rfl (by rfl)) rfl rfl ?_
  refine ag (aJ _ fc ay rfl rfl rfl rfl rfl (by rfl) rfl (by rfl)) rfl rfl (fun _ _=>?_)
  refine ae<|ac<|aa<|rn 4 [4,7,15] rfl<|bV (t:=15) (v':= .bool true) rfl (congrArg Value.bool (decide_eq_true rfl)) ?_
  refine af (aN (vs:= [_,_,_,_,_,_]) fc aT ay rfl rfl (by rfl) rfl) rfl rfl ?_
  refine af (aN (vs:= [_,_,_,_,_,_]) fc aT ay rfl rfl (by rfl) rfl) rfl rfl ?_
  refine ag (aY rfl rfl rfl qy (fun w hw=>vc a ⟨none,0,none,0,none,0,none,0⟩ default default rfl w (h1.ro hw) C0)) rfl rfl (fun _ _=>?_)
  refine rn 2 [8] rfl<|ae<|aq<|av Tryz.results21 (an rfl) ?_
  intro w hw
  exact⟨rfl,hw.below⟩
 have h:e=0:=h
 rw[if_neg (fun h'=>h' h)] at he
 subst he
 refine ar (am ?_)
 refine ac<|aa<|rn 4 [4,7,15] rfl<|bV (t:=15) (v':= .bool true) rfl (congrArg Value.bool (decide_eq_true rfl)) ?_
 refine af (aN (vs:= [_,_,_,_,_,_]) fc aT ay rfl rfl (by rfl) rfl) rfl rfl ?_
 refine af (aN (vs:= [_,_,_,_,_,_]) fc aT ay rfl rfl (by rfl) rfl) rfl rfl ?_
 refine ag (aY rfl rfl rfl qy (fun w hw=>vc a b m1 m1 rfl w (h1.ro hw) (h2.ro hw))) rfl rfl (fun _ _=>?_)
 refine rn 2 [8] rfl<|ae<|aq<|av Tryz.results21 (an rfl) ?_
 intro w hw
 exact⟨rfl,hw.below⟩
end
section
theorem og {s:List UInt8} {q:aG×Bool} (h:ic s=q):(fq s=none∧q=(default,false))∨∃m,fq s=some m∧q=(m,true):=by
 unfold ic at h
 cases ht:fq s with
 | none=>rw[ht] at h;exact .inl ⟨rfl,h.symm⟩
 | some m=>rw[ht] at h;exact .inr ⟨m,rfl,h.symm⟩
theorem tQ {fs:List aA} {s:List UInt8} (h:eL fs s=0):dw fs=0:=by
 unfold eL at h
 split at h
 ·rename_i h1;exact absurd h h1
 rename_i h1;simpa using h1
def kD (fs:List aA) (q:aG×Bool):aG:=if dw fs=0 then q.1 else default
def n9 (fs:List aA) (q:aG×Bool):Int:=if dw fs=0 then (if q.2=true then 0 else 1) else dw fs
theorem FJ {fs:List aA} {s:List UInt8} {q:aG×Bool} (h:ic s=q):eL fs s=if n9 fs q=0 then ja fs (kD fs q) else n9 fs q:=by
 unfold eL n9 kD
 by_cases hp:dw fs=0
 ·rw[if_neg (fun e=>e hp),if_pos hp,if_pos hp]
  rcases og h with ⟨h1,rfl⟩ | ⟨m,h1,rfl⟩
  ·rw[h1];rfl
  rw[h1];rfl
 rw[if_pos hp,if_neg hp,if_neg hp]
theorem Ay {fs:List aA} {s:List UInt8} {q:aG×Bool} (h:ic s=q):ig fs s=if eL fs s≠0 then default else kD fs q:=by
 unfold ig
 by_cases hE:eL fs s=0
 ·rw[if_pos hE,if_neg (fun e=>e hE),h]
  unfold kD
  rw[if_pos (tQ hE)]
 rw[if_neg hE,if_pos hE]
theorem uS {fs:List aA} {s:List UInt8} {q:aG×Bool} (h:ic s=q):be (kD fs q).status∧be (kD fs q).trap:=by
 unfold kD
 split
 ·rcases og h with ⟨_,rfl⟩ | ⟨m,h1,rfl⟩
  ·exact⟨by show be 0;decide,by show be 0;decide⟩
  exact qT h1
 exact⟨by show be 0;decide,by show be 0;decide⟩
theorem vp {fs:List aA} {s:List UInt8} :be (ig fs s).status∧be (ig fs s).trap:=by
 rw[Ay rfl]
 split
 ·exact⟨by show be 0;decide,by show be 0;decide⟩
 exact uS rfl
set_option maxRecDepth 100000 in
set_option maxHeartbeats 4000000 in
theorem tA (Ap:Option Addr) (cp:Nat) (fs:List aA) (a:MA) (m:aG) (s:List UInt8) (w:World) (hs:Sl w (.slice Ap fs.length cp) fs) (hm:dQ w.heap.size w a m) (hfit:gz m.frames) (hl:s.length≤140737488355320) :
  Calls Tryz.prog 3 #[.agg #[.slice Ap fs.length cp],.agg #[.slice a.Af m.frames.length a.cf,.slice a.Ab m.blocks.length a.cb,.slice a.Ai m.inn.length a.ci,.slice a.Ao m.out.length a.co,.int .i64 m.status,.int .i64 m.trap],.string ⟨s.toArray⟩] w fun e w'=>e= .returned (.bool true)∧Below w.heap.size w w':=by
 obtain⟨S,hS⟩:∃S,iK fs m=S:=⟨_,rfl⟩
 obtain⟨X,hX⟩:∃X,ig fs s=X:=⟨_,rfl⟩
 obtain⟨q,hq⟩:∃q,ic s=q:=⟨_,rfl⟩
 obtain⟨Y,hY⟩:∃Y,kD fs q=Y:=⟨_,rfl⟩
 obtain⟨V,hV⟩:∃V,n9 fs q=V:=⟨_,rfl⟩
 have k1:=FJ (fs:=fs) hq
 have k2:=Ay (fs:=fs) hq
 have k3:=uS (fs:=fs) hq
 have k4:=vp (fs:=fs) (s:=s)
 rw[hX] at k2 k4
 rw[hY] at k1 k2 k3
 rw[hV] at k1
 refine enter Tryz.func3 rfl Tryz.ntmps3 rfl ?_
 refine ac<|aa<|ag (bH rfl rfl rfl) rfl rfl (fun g1 _=>?_)
 refine ag (bH rfl rfl rfl) rfl rfl (fun g2 _=>?_)
 refine rn 1 [2,3,4] rfl<|ae<|ac<|aa<|af (aN (vs:= [_]) fc bQ bB rfl rfl (by rfl) rfl) rfl rfl ?_
 refine af (aN (vs:= [_,_,_,_,_,_]) fc aT ay rfl rfl (by rfl) rfl) rfl rfl ?_
 refine ag (aY rfl rfl rfl qA (fun w hw=>jt Ap cp fs a m S hS w (hw.ro hs) (hm.ro hw) hfit)) rfl rfl (fun _ _=>?_)
 refine rn 5 [2,3,4,7,8] rfl<|ae<|ac<|aa<|af (aN (vs:= [_]) fc bQ bB rfl rfl (by rfl) rfl) rfl rfl ?_
 refine rn 1 [2,3,4,7,8,24,25] rfl<|ag (cO rfl rfl rfl zM (fun w hw=>lH Ap cp fs s X hX hl w (hw.ro hs))) rfl rfl (fun ga _=>?_)
 refine rn 3 [2,3,4,7,8,27,28] rfl<|ag (aS aR rfl rfl) rfl rfl (fun g3 _=>?_)
 refine ag (aJ _ fc ay rfl rfl rfl rfl rfl (by rfl) rfl (by rfl)) rfl rfl (fun _ _=>?_)
 refine rn 1 [2,3,4,7,8,9,10] rfl<|ae<|ac<|tE [(29,_),(30,_),(31,_),(32,_),(33,_),(11,_),(12,_)] [29,30,31,32,33,11,12] rfl (cR.s [] [(3,_)] rfl rfl trivial ⟨rfl,trivial⟩ (eP (aN (vs:= [_]) fc bQ bB rfl rfl (by rfl) rfl))<|cR.s [] [(4,_)] rfl rfl trivial ⟨rfl,trivial⟩ (eP (aN (vs:= [_,_,_,_,_,_]) fc aT ay rfl rfl (by rfl) rfl))<|cR.s [(29,_),(30,_)] [] rfl rfl ⟨rfl,rfl,trivial⟩ trivial (aY rfl rfl rfl Tryz.call15 (fun w hw=>Ag Ap cp fs a m w (hw.ro hs) (hm.ro hw) hfit))<|cR.s [] [(3,_)] rfl rfl trivial ⟨rfl,trivial⟩ (eP (aN (vs:= [_]) fc bQ bB rfl rfl (by rfl) rfl))<|cR.s [(32,_)] [] rfl rfl ⟨rfl,trivial⟩ trivial (aY rfl rfl rfl Tryz.call16 (fun w hw=>nN Ap cp fs w (hw.ro hs)))<|cR.s [(31,_)] [] rfl rfl ⟨rfl,trivial⟩ trivial (eP (qe rfl))<|cR.s [(33,_)] [] rfl rfl ⟨rfl,trivial⟩ trivial (eP (qe rfl))<|cR.z) (by kernel_rfl) rfl rfl (am ?_)
 refine ac<|aa<|rn 1 [2,3,4,7,8,9,10,11,12,13] rfl<|ae<|ac<|aa<|ag (aS aR rfl rfl) rfl rfl (fun g4 _=>?_)
 refine ae<|eb (fun _:Unit=>True) (fun _=> [(2,.string ⟨s.toArray⟩),(3,.pointer (some ⟨g1,0,none⟩)),(7,.string ⟨S.toArray⟩),(8,.int .i64 (cQ fs m)),(9,.pointer (some ⟨g3,0,none⟩)),(10,.int .i64 (eL fs s)),(11,.int .i64 (cQ fs m)),(12,.int .i64 (dw fs)),(13,.string ⟨S.toArray⟩),(14,.pointer (some ⟨g4,0,none⟩))]) (fun _=> [ak g4 [.slice none 0 0,.slice none 0 0,.slice none 0 0,.slice none 0 0,.int .i64 0,.int .i64 0] 29,ak g1 [.slice Ap fs.length cp] 24,ak g2 [.slice a.Af m.frames.length a.cf,.slice a.Ab m.blocks.length a.cb,.slice a.Ai m.inn.length a.ci,.slice a.Ao m.out.length a.co,.int .i64 m.status,.int .i64 m.trap] 29,ak g3 [.slice ga.Af X.frames.length ga.cf,.slice ga.Ab X.blocks.length ga.cb,.slice ga.Ai X.inn.length ga.ci,.slice ga.Ao X.out.length ga.co,.int .i64 X.status,.int .i64 X.trap] 29,ap (.slice ga.Af X.frames.length ga.cf) X.frames,ap (.slice ga.Ab X.blocks.length ga.cb) X.blocks,ap (.slice ga.Ai X.inn.length ga.ci) X.inn,ap (.slice ga.Ao X.out.length ga.co) X.out]) ?_ ?_
 ·refine ac<|aa<|rn 2 [2,3,4,7,8,9,10,11,12,13,14,35] rfl<|ae<|aw rfl (fun h1=>?_) (fun h1=>?_)
  ·have h1:cQ fs m=0:=h1
   obtain⟨hF,hR⟩:=kz h1
   have hS2:eR m=S:=by rw[←hS];unfold iK;rw[if_pos h1]
   refine aa<|af (aN (vs:= [_,_,_,_,_,_]) fc aT ay rfl rfl (by rfl) rfl) rfl rfl ?_
   refine ag (aY rfl rfl rfl Tryz.call17 (fun w hw=>vn a m w (hm.ro hw) (q5 hF hR))) rfl rfl (fun _ _=>?_)
   refine rn 1 [2,3,7,8,9,10,11,12,13,14] rfl ?_
   rw[hS2]
   refine gC () (trivial) ⟨rfl,rfl,rfl,rfl,rfl,rfl,rfl,rfl,rfl,rfl,trivial⟩ me
  have h1:¬cQ fs m=0:=h1
  have hS2: []=S:=by rw[←hS];unfold iK;rw[if_neg h1]
  subst hS2
  refine ar<|bq () (trivial) ⟨rfl,rfl,rfl,rfl,rfl,rfl,rfl,rfl,rfl,rfl,trivial⟩ me
 rintro _ _
 try dsimp only
 refine eb (fun _:MA=>True) (fun g=> [(3,.pointer (some ⟨g1,0,none⟩)),(7,.string ⟨S.toArray⟩),(8,.int .i64 (cQ fs m)),(9,.pointer (some ⟨g3,0,none⟩)),(10,.int .i64 (eL fs s)),(11,.int .i64 (cQ fs m)),(12,.int .i64 V),(13,.string ⟨S.toArray⟩),(14,.pointer (some ⟨g4,0,none⟩))]) (fun g=> [ak g4 [.slice g.Af Y.frames.length g.cf,.slice g.Ab Y.blocks.length g.cb,.slice g.Ai Y.inn.length g.ci,.slice g.Ao Y.out.length g.co,.int .i64 Y.status,.int .i64 Y.trap] 29,ap (.slice g.Af Y.frames.length g.cf) Y.frames,ap (.slice g.Ab Y.blocks.length g.cb) Y.blocks,ap (.slice g.Ai Y.inn.length g.ci) Y.inn,ap (.slice g.Ao Y.out.length g.co) Y.out,ak g1 [.slice Ap fs.length cp] 24,ak g2 [.slice a.Af m.frames.length a.cf,.slice a.Ab m.blocks.length a.cb,.slice a.Ai m.inn.length a.ci,.slice a.Ao m.out.length a.co,.int .i64 m.status,.int .i64 m.trap] 29,ak g3 [.slice ga.Af X.frames.length ga.cf,.slice ga.Ab X.blocks.length ga.cb,.slice ga.Ai X.inn.length ga.ci,.slice ga.Ao X.out.length ga.co,.int .i64 X.status,.int .i64 X.trap] 29,ap (.slice ga.Af X.frames.length ga.cf) X.frames,ap (.slice ga.Ab X.blocks.length ga.cb) X.blocks,ap (.slice ga.Ai X.inn.length ga.ci) X.inn,ap (.slice ga.Ao X.out.length ga.co) X.out]) ?_ ?_
 ·refine ac<|aa<|rn 2 [2,3,7,8,9,10,11,12,13,14,39] rfl<|ae<|aw rfl (fun h1=>?_) (fun h1=>?_)
  ·have h1:dw fs=0:=h1
   have hY2:q.1=Y:=by rw[←hY];unfold kD;rw[if_pos h1]
   subst hY2
   have hV2:(if q.2=true then 0 else 1:Int)=V:=by rw[←hV];unfold n9;rw[if_pos h1]
   refine ac<|aa<|rn 1 [3,7,8,9,10,11,12,13,14,41] rfl<|ag (cO rfl rfl rfl Tryz.call18 (fun w hw=>tg s q hq hl w)) rfl rfl (fun gb _=>?_)
   refine rn 3 [3,7,8,9,10,11,12,13,14,43,44] rfl<|ag (aS aR rfl rfl) rfl rfl (fun g5 _=>?_)
   refine ag (aJ _ fc ay rfl rfl rfl rfl rfl (by rfl) rfl (by rfl)) rfl rfl (fun _ _=>?_)
   refine rn 1 [3,7,8,9,10,11,12,13,14,15,16] rfl<|ae<|ac<|aa<|af (aN (vs:= [_,_,_,_,_,_]) fc aT ay rfl rfl (by rfl) rfl) rfl rfl ?_
   refine ag (aJ _ fc ay rfl rfl rfl rfl rfl (by rfl) rfl (by rfl)) rfl rfl (fun _ _=>?_)
   refine ae<|ac<|aa<|rn 2 [3,7,8,9,10,11,12,13,14,47] rfl<|ae<|cg rfl (fun h2=>?_) (fun h2=>?_)
   ·have h2:¬q.2=true:=by simpa using h2
    rw[if_neg h2] at hV2
    subst hV2
    refine aa<|rn 1 [3,7,8,9,10,11,12,13,14] rfl<|gC gb (trivial) ⟨rfl,rfl,rfl,rfl,rfl,rfl,rfl,rfl,rfl,trivial⟩ me
   have h2:q.2=true:=by simpa using h2
   rw[if_pos h2] at hV2
   subst hV2
   rw[h1]
   refine ar<|bq gb (trivial) ⟨rfl,rfl,rfl,rfl,rfl,rfl,rfl,rfl,rfl,trivial⟩ me
  have h1:¬dw fs=0:=h1
  have hY2:default=Y:=by rw[←hY];unfold kD;rw[if_neg h1]
  subst hY2
  have hV2:dw fs=V:=by rw[←hV];unfold n9;rw[if_neg h1]
  rw[hV2]
  refine ar<|bq ⟨none,0,none,0,none,0,none,0⟩ (trivial) ⟨rfl,rfl,rfl,rfl,rfl,rfl,rfl,rfl,rfl,trivial⟩ (fun w h=>(gJ h).msub ms)
 rintro gb _
 try dsimp only
 refine eb (fun _:Unit=>True) (fun _=> [(7,.string ⟨S.toArray⟩),(8,.int .i64 (cQ fs m)),(9,.pointer (some ⟨g3,0,none⟩)),(10,.int .i64 (eL fs s)),(11,.int .i64 (cQ fs m)),(12,.int .i64 (eL fs s)),(13,.string ⟨S.toArray⟩),(14,.pointer (some ⟨g4,0,none⟩))]) (fun _=> [ak g4 [.slice gb.Af Y.frames.length gb.cf,.slice gb.Ab Y.blocks.length gb.cb,.slice gb.Ai Y.inn.length gb.ci,.slice gb.Ao Y.out.length gb.co,.int .i64 Y.status,.int .i64 Y.trap] 29,ap (.slice gb.Af Y.frames.length gb.cf) Y.frames,ap (.slice gb.Ab Y.blocks.length gb.cb) Y.blocks,ap (.slice gb.Ai Y.inn.length gb.ci) Y.inn,ap (.slice gb.Ao Y.out.length gb.co) Y.out,ak g1 [.slice Ap fs.length cp] 24,ak g2 [.slice a.Af m.frames.length a.cf,.slice a.Ab m.blocks.length a.cb,.slice a.Ai m.inn.length a.ci,.slice a.Ao m.out.length a.co,.int .i64 m.status,.int .i64 m.trap] 29,ak g3 [.slice ga.Af X.frames.length ga.cf,.slice ga.Ab X.blocks.length ga.cb,.slice ga.Ai X.inn.length ga.ci,.slice ga.Ao X.out.length ga.co,.int .i64 X.status,.int .i64 X.trap] 29,ap (.slice ga.Af X.frames.length ga.cf) X.frames,ap (.slice ga.Ab X.blocks.length ga.cb) X.blocks,ap (.slice ga.Ai X.inn.length ga.ci) X.inn,ap (.slice ga.Ao X.out.length ga.co) X.out]) ?_ ?_
 ·refine ac<|aa<|rn 2 [3,7,8,9,10,11,12,13,14,49] rfl<|ae<|aw rfl (fun h1=>?_) (fun h1=>?_)
  ·have h1:V=0:=h1
   rw[if_pos h1] at k1
   have hp:dw fs=0:=by
    refine Classical.byContradiction fun hno=>?_
    rw[←hV] at h1
    unfold n9 at h1
    rw[if_neg hno] at h1
    exact hno h1
   have hfY:gz Y.frames:=by
    rw[←hY]
    unfold kD
    rw[if_pos hp]
    rcases og hq with ⟨_,rfl⟩ | ⟨m2,h5,rfl⟩
    ·exact⟨by decide,fun x hx=>by cases hx⟩
    exact qS h5
   refine aa<|af (aN (vs:= [_]) fc bQ bB rfl rfl (by rfl) rfl) rfl rfl ?_
   refine af (aN (vs:= [_,_,_,_,_,_]) fc aT ay rfl rfl (by rfl) rfl) rfl rfl ?_
   refine ag (aY rfl rfl rfl Tryz.call19 (fun w hw=>rM gb Y Ap cp fs w (hw.ro hs) (dz (m:=Y) hw fc fc fc fc rfl rfl rfl rfl k3.1 k3.2) (nn hp) hfY _ k1.symm)) rfl rfl (fun _ _=>?_)
   refine rn 1 [7,8,9,10,11,12,13,14] rfl<|gC () (trivial) ⟨rfl,rfl,rfl,rfl,rfl,rfl,rfl,rfl,trivial⟩ me
  have h1:¬V=0:=h1
  rw[if_neg h1] at k1
  rw[←k1]
  refine ar<|bq () (trivial) ⟨rfl,rfl,rfl,rfl,rfl,rfl,rfl,rfl,trivial⟩ me
 rintro _ _
 try dsimp only
 refine ac<|aa<|ag (aY rfl rfl rfl IT (fun w hw=>lr w)) rfl rfl (fun _ _=>?_)
 refine rn 6 [7,9,10,12,13,14,59] rfl<|bV (t:=59) (v':= .bool true) rfl (congrArg Value.bool (decide_eq_true rfl)) ?_
 refine rn 2 [9,10,12,14,59,60,61] rfl<|af (rQ rfl rfl rfl) rfl rfl<|rn 2 [9,10,12,14,64] rfl<|bV (t:=64) (v':= .bool true) rfl (congrArg Value.bool (decide_eq_true rfl)) ?_
 refine af (aN (vs:= [_,_,_,_,_,_]) fc aT ay rfl rfl (by rfl) rfl) rfl rfl ?_
 refine rn 2 [14,64,65,66,67] rfl<|af (aN (vs:= [_,_,_,_,_,_]) fc aT ay rfl rfl (by rfl) rfl) rfl rfl ?_
 refine ag (aY rfl rfl rfl Tryz.call21 (fun w hw=>uv ga gb X Y (eL fs s) k2 w (dz (m:=X) hw fc fc fc fc rfl rfl rfl rfl k4.1 k4.2) (dz (m:=Y) hw fc fc fc fc rfl rfl rfl rfl k3.1 k3.2))) rfl rfl (fun _ _=>?_)
 refine rn 2 [6] rfl<|ae<|aq<|av Tryz.results3 (an rfl) ?_
 intro w hw
 exact⟨rfl,hw.below⟩
end
section
theorem y8 {m:aG} (h:MI m):(eR m).length≤1000000:=by
 have qi:=iE h.i.1
 have qo:=iE h.o.1
 have qb:=pG (f:=dU) m.blocks (fun l hl=>iE (h.b.2 l hl).1)
 have qf:=pG (f:=dV) m.frames (fun x hx=>mf (h.f.2 x hx))
 have hb:=h.b.1
 have hf:=h.f.1
 unfold eR
 simp only[List.length_cons,List.length_append]
 omega
theorem pj {fs:List aA} {m:aG} (h:cQ fs m=0):iK fs m=eR m∧eL fs (eR m)=0∧ig fs (eR m)=m∧(eR m).length≤1000000:=by
 obtain⟨hF,hR⟩:=kz h
 have hmi:=q5 hF hR
 have ht:=yv hmi
 have hp:=tV h
 have hE:eL fs (eR m)=0:=by
  unfold eL
  rw[if_neg (fun e=>e hp),ht]
  exact mY.2 hR
 refine⟨by unfold iK;rw[if_pos h],hE,?_,y8 hmi⟩
 unfold ig ic
 rw[if_pos hE,ht]
theorem Au {fs:List aA} {s:List UInt8} (h:eL fs s=0):cQ fs (ig fs s)=0∧iK fs (ig fs s)=s∧gz (ig fs s).frames:=by
 have hp:=tQ h
 have hE:=h
 unfold eL at hE
 rw[if_neg (fun e=>e hp)] at hE
 cases ht:fq s with
 | none=>rw[ht] at hE;cases hE
 | some n=>
  rw[ht] at hE
  have hr:ig fs s=n:=by unfold ig ic;rw[if_pos h,ht]
  have hn:cQ fs n=0:=by unfold cQ;rw[if_neg (fun e=>e hp)];exact hE
  rw[hr]
  exact⟨hn,by unfold iK;rw[if_pos hn];exact y7 ht,qS ht⟩
theorem Cy {fs:List aA} {m:aG} {k:Int} {r:aG×Int} (hr:po fs m k=r) (_:be m.status∧be m.trap):be r.1.status∧be r.1.trap:=by
 subst hr
 unfold po
 split
 ·rename_i h
  by_cases hE:cQ fs m=0
  ·obtain⟨hF,hR⟩:=kz hE
   unfold kJ at h
   rw[if_neg (fun e=>e hE)] at h
   have hk:0≤k:=by
    by_cases hk:k<0∨10000<k
    ·rw[if_pos hk] at h;cases h
    omega
   have h2:=(z7 hF m k hR hk).right
   have h3:=h2.st
   refine⟨⟨by omega,by omega⟩,?_⟩
   by_cases e:(jP fs m k).1.status=3
   ·have:=h2.t3 e;exact⟨by omega,by omega⟩
   have:=h2.t0 e;exact⟨by omega,by omega⟩
  unfold kJ at h
  rw[if_pos hE] at h
  exact absurd h hE
 exact⟨by show be 0;decide,by show be 0;decide⟩
set_option maxRecDepth 100000 in
set_option maxHeartbeats 4000000 in
theorem uy (Ap:Option Addr) (cp:Nat) (fs:List aA) (a:MA) (m:aG) (s:List UInt8) (k:Int) (w:World) (hs:Sl w (.slice Ap fs.length cp) fs) (hm:dQ w.heap.size w a m) (hfit:gz m.frames) (hl:s.length≤140737488355320) :
  Calls Tryz.prog 12 #[.agg #[.slice Ap fs.length cp],.agg #[.slice a.Af m.frames.length a.cf,.slice a.Ab m.blocks.length a.cb,.slice a.Ai m.inn.length a.ci,.slice a.Ao m.out.length a.co,.int .i64 m.status,.int .i64 m.trap],.string ⟨s.toArray⟩,.int .i64 k] w fun e w'=>e= .returned (.bool true)∧Below w.heap.size w w':=by
 obtain⟨S,hS⟩:∃S,iK fs m=S:=⟨_,rfl⟩
 obtain⟨X,hX⟩:∃X,ig fs s=X:=⟨_,rfl⟩
 have k4:=vp (fs:=fs) (s:=s)
 have k5:=fun h=>Au (fs:=fs) (s:=s) h
 rw[hX] at k4 k5
 refine enter Tryz.func12 rfl Tryz.ntmps12 rfl ?_
 refine ac<|aa<|ag (bH rfl rfl rfl) rfl rfl (fun g1 _=>?_)
 refine ag (bH rfl rfl rfl) rfl rfl (fun g2 _=>?_)
 refine rn 1 [2,3,4,5] rfl<|ae<|ac<|ac<|aa<|ag (aY rfl rfl rfl IT (fun w hw=>lr w)) rfl rfl (fun _ _=>?_)
 refine rn 2 [2,3,4,5,22] rfl<|ag (aY rfl rfl rfl Tryz.call33 (fun w hw=>tw w)) rfl rfl (fun _ _=>?_)
 refine rn 2 [2,3,4,5,25] rfl<|ae<|bZ rfl<|ar (am ?_)
 refine ac<|aa<|af (aN (vs:= [_]) fc bQ bB rfl rfl (by rfl) rfl) rfl rfl ?_
 refine af (aN (vs:= [_,_,_,_,_,_]) fc aT ay rfl rfl (by rfl) rfl) rfl rfl ?_
 refine ag (aY rfl rfl rfl qA (fun w hw=>jt Ap cp fs a m S hS w (hw.ro hs) (hm.ro hw) hfit)) rfl rfl (fun _ _=>?_)
 refine rn 5 [2,3,4,5,9,10] rfl<|ae<|ac<|ac<|aa<|rn 2 [2,3,4,5,9,33] rfl<|ae<|ir (fun _:Unit=>True) (fun _=> [(2,.string ⟨s.toArray⟩),(4,.pointer (some ⟨g1,0,none⟩))]) (fun _=> [ak g1 [.slice Ap fs.length cp] 24,ak g2 [.slice a.Af m.frames.length a.cf,.slice a.Ab m.blocks.length a.cb,.slice a.Ai m.inn.length a.ci,.slice a.Ao m.out.length a.co,.int .i64 m.status,.int .i64 m.trap] 29]) ?_ ?_
 ·refine aw rfl (fun h1=>?_) (fun h1=>?_)
  ·have h1:cQ fs m=0:=h1
   obtain⟨j1,j2,j3,j4⟩:=pj h1
   rw[hS] at j1
   subst j1
   obtain⟨r,hr⟩:∃r,po fs m k=r:=⟨_,rfl⟩
   have hI:=Cy hr ⟨hm.s,hm.t⟩
   refine ac<|aa<|af (aN (vs:= [_]) fc bQ bB rfl rfl (by rfl) rfl) rfl rfl ?_
   refine rn 1 [2,3,4,5,35,36] rfl<|ag (cO rfl rfl rfl zM (fun w hw=>lH Ap cp fs (eR m) m j3 (by omega) w (hw.ro hs))) rfl rfl (fun g5 _=>?_)
   refine rn 3 [2,3,4,5,38,39] rfl<|ag (aS aR rfl rfl) rfl rfl (fun g3 _=>?_)
   refine ag (aJ _ fc ay rfl rfl rfl rfl rfl (by rfl) rfl (by rfl)) rfl rfl (fun _ _=>?_)
   refine rn 1 [2,3,4,5,11,12] rfl<|ae<|ac<|ac<|aa<|rn 3 [2,3,4,5,11,42] rfl ?_
   rw[j2]
   refine bV (t:=42) (v':= .bool false) rfl (rfl) ?_
   refine af (aN (vs:= [_,_,_,_,_,_]) fc aT ay rfl rfl (by rfl) rfl) rfl rfl ?_
   refine af (aN (vs:= [_,_,_,_,_,_]) fc aT ay rfl rfl (by rfl) rfl) rfl rfl ?_
   refine ag (aY rfl rfl rfl qy (fun w hw=>iN a g5 m m w (hm.ro hw) (dz (m:=m) hw fc fc fc fc rfl rfl rfl rfl hm.s hm.t))) rfl rfl (fun _ _=>?_)
   refine rn 2 [2,3,4,5,11,47] rfl<|ae<|cN (t:=47) (v':= .bool false) rfl (by simp) ?_
   refine bZ rfl<|ar (am ?_)
   refine ac<|aa<|af (aN (vs:= [_]) fc bQ bB rfl rfl (by rfl) rfl) rfl rfl ?_
   refine af (aN (vs:= [_,_,_,_,_,_]) fc aT ay rfl rfl (by rfl) rfl) rfl rfl ?_
   refine rn 1 [2,3,4,11,49,50,51] rfl<|ag (cO rfl rfl rfl nF (fun w hw=>oJ Ap cp fs a m k r hr w (hw.ro hs) (hm.ro hw) hfit)) rfl rfl (fun g6 _=>?_)
   refine rn 4 [2,3,4,11,53,54,55] rfl<|ag (aS aR rfl rfl) rfl rfl (fun g4 _=>?_)
   refine ag (aJ _ fc ay rfl rfl rfl rfl rfl (by rfl) rfl (by rfl)) rfl rfl (fun _ _=>?_)
   refine rn 2 [2,3,4,11,13,14,15] rfl<|ae<|ac<|aa<|af (aN (vs:= [_]) fc bQ bB rfl rfl (by rfl) rfl) rfl rfl ?_
   refine af (aN (vs:= [_,_,_,_,_,_]) fc aT ay rfl rfl (by rfl) rfl) rfl rfl ?_
   refine rn 1 [2,4,13,14,15,57,58,59] rfl<|ag (cO rfl rfl rfl nF (fun w hw=>oJ Ap cp fs g5 m k r hr w (hw.ro hs) (dz (m:=m) hw fc fc fc fc rfl rfl rfl rfl hm.s hm.t) hfit)) rfl rfl (fun g7 _=>?_)
   refine rn 4 [2,4,13,14,15,61,62,63] rfl<|ag (aS aR rfl rfl) rfl rfl (fun g5 _=>?_)
   refine ag (aJ _ fc ay rfl rfl rfl rfl rfl (by rfl) rfl (by rfl)) rfl rfl (fun _ _=>?_)
   refine rn 2 [2,4,13,14,15,16,17,18] rfl<|ae<|ac<|aa<|rn 4 [2,4,13,14,16,17,67] rfl<|bV (t:=67) (v':= .bool false) rfl (by simp) ?_
   refine rn 5 [2,4,13,16,72] rfl<|bV (t:=72) (v':= .bool false) rfl (by simp) ?_
   refine af (aN (vs:= [_,_,_,_,_,_]) fc aT ay rfl rfl (by rfl) rfl) rfl rfl ?_
   refine af (aN (vs:= [_,_,_,_,_,_]) fc aT ay rfl rfl (by rfl) rfl) rfl rfl ?_
   refine ag (aY rfl rfl rfl qy (fun w hw=>iN g6 g7 r.1 r.1 w (dz (m:=r.1) hw fc fc fc fc rfl rfl rfl rfl hI.1 hI.2) (dz (m:=r.1) hw fc fc fc fc rfl rfl rfl rfl hI.1 hI.2))) rfl rfl (fun _ _=>?_)
   refine rn 2 [2,4,77] rfl<|ae<|cN (t:=77) (v':= .bool false) rfl (by simp) ?_
   refine bZ rfl<|ar<|bq () (trivial) ⟨rfl,rfl,trivial⟩ me
  refine ar<|bq () (trivial) ⟨rfl,rfl,trivial⟩ me
 rintro _ _
 try dsimp only
 refine ac<|aa<|af (aN (vs:= [_]) fc bQ bB rfl rfl (by rfl) rfl) rfl rfl ?_
 refine rn 1 [2,4,79,80] rfl<|ag (cO rfl rfl rfl zM (fun w hw=>lH Ap cp fs s X hX hl w (hw.ro hs))) rfl rfl (fun ga _=>?_)
 refine rn 3 [2,4,82,83] rfl<|ag (aS aR rfl rfl) rfl rfl (fun g6 _=>?_)
 refine ag (aJ _ fc ay rfl rfl rfl rfl rfl (by rfl) rfl (by rfl)) rfl rfl (fun _ _=>?_)
 refine rn 1 [2,4,10,19] rfl<|ae<|ac<|ac<|aa<|rn 2 [2,4,19,85] rfl<|ae<|bY rfl (fun h2=>?_) (fun h2=>?_)
 ·have h2:¬eL fs s=0:=h2
  have hX2:default=X:=by rw[←hX];unfold ig;rw[if_neg h2]
  subst hX2
  have z1:(default:aG).frames.length=0:=rfl
  have z2:(default:aG).blocks.length=0:=rfl
  refine ac<|aa<|rn 1 [19,86] rfl<|af (aj fc bP rfl rfl (by rfl)) rfl rfl ?_
  refine af (aM aP rfl rfl) rfl rfl<|rn 1 [88,89] rfl<|af (aj fc dS rfl rfl (by rfl)) rfl rfl ?_
  refine af (aM bF rfl rfl) rfl rfl<|af (br rfl rfl rfl (by omega)) rfl rfl<|rn 2 [8] rfl<|ae<|aq (ai ?_)
  refine av Tryz.results12 (an rfl) ?_
  intro w hw
  exact⟨rfl,hw.below⟩
 have h2:eL fs s=0:=by simpa using h2
 obtain⟨j1,j2,j3⟩:=k5 h2
 refine ar (am ?_)
 refine ac<|aa<|af (aN (vs:= [_]) fc bQ bB rfl rfl (by rfl) rfl) rfl rfl ?_
 refine af (aN (vs:= [_,_,_,_,_,_]) fc aT ay rfl rfl (by rfl) rfl) rfl rfl ?_
 refine ag (aY rfl rfl rfl qA (fun w hw=>jt Ap cp fs ga X s j2 w (hw.ro hs) (dz (m:=X) hw fc fc fc fc rfl rfl rfl rfl k4.1 k4.2) j3)) rfl rfl (fun _ _=>?_)
 refine rn 5 [2,4,9,10,19] rfl<|ae<|ac<|aa<|rn 3 [2,4,9,19,102] rfl ?_
 rw[j1]
 refine bV (t:=102) (v':= .bool true) rfl (rfl) ?_
 refine rn 2 [4,19,102,103,104] rfl<|af (rQ rfl rfl rfl) rfl rfl<|rn 2 [4,19,107] rfl<|bV (t:=107) (v':= .bool true) rfl (by simp) ?_
 refine af (aN (vs:= [_]) fc bQ bB rfl rfl (by rfl) rfl) rfl rfl ?_
 refine af (aN (vs:= [_,_,_,_,_,_]) fc aT ay rfl rfl (by rfl) rfl) rfl rfl ?_
 refine ag (aY rfl rfl rfl uo (fun w hw=>jI Ap cp fs ga X w (hw.ro hs) (dz (m:=X) hw fc fc fc fc rfl rfl rfl rfl k4.1 k4.2) j3)) rfl rfl (fun _ _=>?_)
 refine rn 3 [8] rfl<|ae ?_
 rw[j1]
 refine aq<|av Tryz.results12 (an rfl) ?_
 intro w hw
 exact⟨rfl,hw.below⟩
end
section
theorem va {fs:List aA} {a b:aG} (ha:cQ fs a=0) (hb:cQ fs b=0):(iK fs a=iK fs b)↔a=b:=by
 obtain⟨a1,a2,a3,_⟩:=pj ha
 obtain⟨b1,b2,b3,_⟩:=pj hb
 constructor
 ·intro h
  rw[a1,b1] at h
  rw[←a3,←b3,h]
 rintro rfl;rfl
set_option maxRecDepth 100000 in
set_option maxHeartbeats 4000000 in
theorem tB (Ap:Option Addr) (cp:Nat) (fs:List aA) (a b:MA) (m q:aG) (w:World) (hs:Sl w (.slice Ap fs.length cp) fs) (hm:dQ w.heap.size w a m) (hq:dQ w.heap.size w b q) (hfit:gz m.frames) (hfit2:gz q.frames) :
  Calls Tryz.prog 11 #[.agg #[.slice Ap fs.length cp],.agg #[.slice a.Af m.frames.length a.cf,.slice a.Ab m.blocks.length a.cb,.slice a.Ai m.inn.length a.ci,.slice a.Ao m.out.length a.co,.int .i64 m.status,.int .i64 m.trap],
   .agg #[.slice b.Af q.frames.length b.cf,.slice b.Ab q.blocks.length b.cb,.slice b.Ai q.inn.length b.ci,.slice b.Ao q.out.length b.co,.int .i64 q.status,.int .i64 q.trap]] w fun e w'=>e= .returned (.bool true)∧Below w.heap.size w w':=by
 obtain⟨S,hS⟩:∃S,iK fs m=S:=⟨_,rfl⟩
 obtain⟨T,hT⟩:∃S,iK fs q=S:=⟨_,rfl⟩
 obtain⟨n,hn⟩:∃n,lW fs m=n:=⟨_,rfl⟩
 obtain⟨U,hU⟩:∃S,iK fs n=S:=⟨_,rfl⟩
 have hnf:gz n.frames∧be n.status∧be n.trap:=by
  rw[←hn]
  unfold lW
  split
  ·rename_i h
   obtain⟨hF,hR⟩:=kz h
   have h2:=kH hF hR
   have h3:=h2.st
   refine⟨(nZ hF h2).f,⟨by omega,by omega⟩,?_⟩
   by_cases e:(dF fs m).status=3
   ·have:=h2.t3 e;exact⟨by omega,by omega⟩
   have:=h2.t0 e;exact⟨by omega,by omega⟩
  exact⟨⟨by decide,fun x hx=>by cases hx⟩,by show be 0;decide,by show be 0;decide⟩
 refine enter Tryz.func11 rfl Tryz.ntmps11 rfl ?_
 refine ac<|aa<|ag (bH rfl rfl rfl) rfl rfl (fun g1 _=>?_)
 refine ag (bH rfl rfl rfl) rfl rfl (fun g2 _=>?_)
 refine ag (bH rfl rfl rfl) rfl rfl (fun g3 _=>?_)
 refine rn 1 [3,4,5] rfl<|ae<|ac<|aa<|af (aN (vs:= [_]) fc bQ bB rfl rfl (by rfl) rfl) rfl rfl ?_
 refine af (aN (vs:= [_,_,_,_,_,_]) fc aT ay rfl rfl (by rfl) rfl) rfl rfl ?_
 refine ag (aY rfl rfl rfl qA (fun w hw=>jt Ap cp fs a m S hS w (hw.ro hs) (hm.ro hw) hfit)) rfl rfl (fun _ _=>?_)
 refine rn 5 [3,4,5,7,8] rfl<|ae<|ac<|aa<|af (aN (vs:= [_]) fc bQ bB rfl rfl (by rfl) rfl) rfl rfl ?_
 refine af (aN (vs:= [_,_,_,_,_,_]) fc aT ay rfl rfl (by rfl) rfl) rfl rfl ?_
 refine ag (aY rfl rfl rfl qA (fun w hw=>jt Ap cp fs b q T hT w (hw.ro hs) (hq.ro hw) hfit2)) rfl rfl (fun _ _=>?_)
 refine rn 5 [3,4,5,7,8,9,10] rfl<|ae<|ac<|ac<|aa<|ag (aY rfl rfl rfl IT (fun w hw=>lr w)) rfl rfl (fun _ _=>?_)
 refine rn 2 [3,4,5,7,8,9,10,29] rfl<|ag (aY rfl rfl rfl Tryz.call26 (fun w hw=>rk w)) rfl rfl (fun _ _=>?_)
 refine rn 2 [3,4,5,7,8,9,10,32] rfl<|ae<|bZ rfl<|ar (am ?_)
 refine eb (fun _:Unit=>True) (fun _=> [(3,.pointer (some ⟨g1,0,none⟩)),(4,.pointer (some ⟨g2,0,none⟩)),(7,.string ⟨S.toArray⟩),(8,.int .i64 (cQ fs m))]) (fun _=> [ak g1 [.slice Ap fs.length cp] 24,ak g2 [.slice a.Af m.frames.length a.cf,.slice a.Ab m.blocks.length a.cb,.slice a.Ai m.inn.length a.ci,.slice a.Ao m.out.length a.co,.int .i64 m.status,.int .i64 m.trap] 29]) ?_ ?_
 ·refine ac<|aa<|rn 3 [3,4,5,7,8,9,10,35] rfl ?_
  by_cases h1:cQ fs m=0
  ·refine bV (t:=35) (v':= .bool true) rfl (congrArg Value.bool (decide_eq_true h1)) ?_
   refine rn 4 [3,4,5,7,8,9,39] rfl ?_
   by_cases h2:cQ fs q=0
   ·refine bV (t:=39) (v':= .bool true) rfl (congrArg Value.bool (decide_eq_true h2)) ?_
    refine rn 2 [3,4,5,7,8,39,40,41] rfl<|af (rQ rfl rfl rfl) rfl rfl<|af (aN (vs:= [_,_,_,_,_,_]) fc aT ay rfl rfl (by rfl) rfl) rfl rfl ?_
    refine af (aN (vs:= [_,_,_,_,_,_]) fc aT ay rfl rfl (by rfl) rfl) rfl rfl ?_
    refine ag (aY rfl rfl rfl qy (fun w hw=>iN a b m q w (hm.ro hw) (hq.ro hw))) rfl rfl (fun _ _=>?_)
    refine af (FR rfl rfl rfl (DN _ _)) rfl rfl<|rn 1 [3,4,7,8,47] rfl<|ae ?_
    have key:(decide (S=T) != decide (m=q))=false:=by
     have:=va h1 h2
     rw[hS,hT] at this
     simp[this]
    rw[key]
    refine cN (t:=47) (v':= .bool false) rfl (rfl) ?_
    refine bZ rfl<|ar<|bq () (trivial) ⟨rfl,rfl,rfl,rfl,trivial⟩ me
   refine bV (t:=39) (v':= .bool false) rfl (congrArg Value.bool (decide_eq_false h2)) ?_
   refine rn 8 [3,4,7,8,47] rfl<|ae<|bZ rfl<|ar<|bq () (trivial) ⟨rfl,rfl,rfl,rfl,trivial⟩ me
  refine bV (t:=35) (v':= .bool false) rfl (congrArg Value.bool (decide_eq_false h1)) ?_
  refine rn 12 [3,4,7,8,47] rfl<|ae<|bZ rfl<|ar<|bq () (trivial) ⟨rfl,rfl,rfl,rfl,trivial⟩ me
 rintro _ _
 try dsimp only
 refine ac<|aa<|af (aN (vs:= [_]) fc bQ bB rfl rfl (by rfl) rfl) rfl rfl ?_
 refine af (aN (vs:= [_,_,_,_,_,_]) fc aT ay rfl rfl (by rfl) rfl) rfl rfl ?_
 refine ag (cO rfl rfl rfl qz (fun w hw=>pA Ap cp fs a m n hn w (hw.ro hs) (hm.ro hw) hfit)) rfl rfl (fun g9 _=>?_)
 refine rn 3 [3,4,7,8,52,53] rfl<|ag (aS aR rfl rfl) rfl rfl (fun g4 _=>?_)
 refine ag (aJ _ fc ay rfl rfl rfl rfl rfl (by rfl) rfl (by rfl)) rfl rfl (fun _ _=>?_)
 refine rn 1 [3,4,7,8,11,12] rfl<|ae<|ac<|aa<|af (aN (vs:= [_]) fc bQ bB rfl rfl (by rfl) rfl) rfl rfl ?_
 refine af (aN (vs:= [_,_,_,_,_,_]) fc aT ay rfl rfl (by rfl) rfl) rfl rfl ?_
 refine ag (aY rfl rfl rfl qA (fun w hw=>jt Ap cp fs g9 n U hU w (hw.ro hs) (dz (m:=n) hw fc fc fc fc rfl rfl rfl rfl hnf.2.1 hnf.2.2) hnf.1)) rfl rfl (fun _ _=>?_)
 refine rn 5 [4,7,8,11,12,13,14] rfl<|ae<|ac<|aa<|rn 3 [4,7,8,11,13,14,62] rfl ?_
 by_cases h1:cQ fs m=0
 ·obtain⟨hF,hR⟩:=kz h1
  have hn2:dF fs m=n:=by rw[←hn];unfold lW;rw[if_pos h1]
  have h2:cQ fs n=0:=by rw[←hn2];exact uw (tV h1) (kH hF hR)
  refine bV (t:=62) (v':= .bool false) rfl (by simp[h1]) ?_
  refine rn 3 [4,7,11,13,14,62,65] rfl<|bV (t:=65) (v':= .bool true) rfl (congrArg Value.bool (decide_eq_true h1)) ?_
  refine rn 4 [4,7,11,13,62,69] rfl<|bV (t:=69) (v':= .bool true) rfl (congrArg Value.bool (decide_eq_true h2)) ?_
  refine rn 2 [4,11,62,69,70,71] rfl<|af (rQ rfl rfl rfl) rfl rfl<|af (aN (vs:= [_,_,_,_,_,_]) fc aT ay rfl rfl (by rfl) rfl) rfl rfl ?_
  refine af (aN (vs:= [_,_,_,_,_,_]) fc aT ay rfl rfl (by rfl) rfl) rfl rfl ?_
  refine ag (aY rfl rfl rfl qy (fun w hw=>iN g9 a n m w (dz (m:=n) hw fc fc fc fc rfl rfl rfl rfl hnf.2.1 hnf.2.2) (hm.ro hw))) rfl rfl (fun _ _=>?_)
  refine af (AI Tryz.underlying4 rfl rfl rfl) rfl rfl<|rn 3 [6] rfl<|ae ?_
  have key:(decide (U=S) == decide (n=m))=true:=by
   have:=va h2 h1
   rw[hS,hU] at this
   simp[this]
  rw[key]
  refine aq<|av Tryz.results11 (an rfl) ?_
  intro w hw
  exact⟨rfl,hw.below⟩
 refine bV (t:=62) (v':= .bool true) rfl (by simp[h1]) ?_
 refine rn 17 [6] rfl<|ae<|aq<|av Tryz.results11 (an rfl) ?_
 intro w hw
 exact⟨rfl,hw.below⟩
end
end Go.Proofs.YtpacloheigifkaaGreat
