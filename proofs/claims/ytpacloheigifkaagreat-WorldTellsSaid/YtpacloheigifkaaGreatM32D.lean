/- Texts of one proof, one behind the other: lemmas alone. -/
import Derived.Test.YtpacloheigifkaaGreatM0D
import Derived.Test.YtpacloheigifkaaGreatM29D
import Derived.Test.YtpacloheigifkaaGreatM30D
import Derived.Test.YtpacloheigifkaaGreatM28D
import Derived.Test.YtpacloheigifkaaGreatM17D
import Derived.Test.YtpacloheigifkaaGreatM26D

namespace Go.Proofs.YtpacloheigifkaaGreat
open Go.RowKit
section
def dq (n:Nat):FSt→List Int→List Int→Option FSt
 | s,[],_=>some s
 | s,to_::r,l=>if (cZ n s to_.toNat l).1=true then dq n (cZ n s to_.toNat l).2 r l else none
def jz (fs:List aC) (f:aC) (s:FSt):Option FSt:=
 let k:=(s.todo.getD (s.todo.length - 1) 0).toNat
 let t:=jS fs f (bB f.code k) (s.at_.getD k [],false)
 if t.2=true then none else dq f.code.length ⟨s.at_,s.met,s.todo.take (s.todo.length - 1)⟩ (di (bB f.code k) k) t.1
structure eC (n:Nat) (s:FSt):Prop where
 al:s.at_.length=n
 ml:s.met.length=n
 tl:s.todo.length≤5000
 st:∀i,(s.at_.getD i []).length≤8
 td:∀x∈s.todo,0≤x∧x<n
theorem jG {n:Nat} {s:FSt} (h:eC n s) {k:Nat} (hk:k≤n) {l:List Int} (hl:l.length≤8) (ht:s.todo.length<5000):eC n (cZ n s k l).2∧(cZ n s k l).2.todo.length≤s.todo.length+1:=by
 have key:k≠n→∀j:List Int,j.length≤8→eC n ⟨s.at_.set k j,s.met.set k true,s.todo++ [(k:Int)]⟩∧(s.todo++ [(k:Int)]).length≤s.todo.length+1:=fun hne j hj=>by
  refine⟨⟨by simp[h.al],by simp[h.ml],by simp only[List.length_append,List.length_singleton];omega,fun i=>?_,fun x hx=>?_⟩,by simp⟩
  ·show ((s.at_.set k j).getD i []).length≤8
   rw[fI (by rw[h.al];omega)]
   split
   ·exact hj
   exact h.st i
  rcases List.mem_append.1 hx with hx | hx
  ·exact h.td x hx
  rw[List.mem_singleton.1 hx];omega
 unfold cZ
 split
 ·exact⟨h,Nat.le_succ _⟩
 rename_i hne
 split
 ·split
  ·exact⟨h,Nat.le_succ _⟩
  rename_i j hj
  split
  ·exact⟨h,Nat.le_succ _⟩
  exact key hne j (by have:=(iV hj).2;have:=h.st k;omega)
 exact key hne l hl
section
variable {B:Nat} {w0:World} {H:List bj}
abbrev lq (g1 g5 gs gx:Nat) (As:Option Addr) (cs:Nat) (l:List Int):List bj:=
 [am g1 [.pointer (some ⟨gx,0,none⟩)] 176,am g5 [.pointer (some ⟨gs,0,none⟩)] 200,am gs [.slice As l.length cs,.bool false] 202,aj (.slice As l.length cs) l]
set_option maxRecDepth 100000 in
set_option maxHeartbeats 2000000 in
theorem xQ (C:FC) (s:FSt) (hd:List gl) (L:List (Value×List Int)) (At:Option Addr) (ct:Nat) (g1 g5 gs:Nat) (As:Option Addr) (cs:Nat) (k:Nat) (hk:k≤C.f.code.length) (hn:C.f.code.length≤40) (l:List Int) (hl:l.length≤8)
  (hR:gj C.f.code.length hd L s.at_) (hF:eC C.f.code.length s) (w:World) (hw:Cw B w0 (lq g1 g5 gs C.gx As cs l++(gO C s hd L At ct++H)) w) :
  Calls Tryz.prog 169 #[.int .i64 (k:Int),.pointer (some ⟨g1,0,none⟩),.pointer (some ⟨g5,0,none⟩)] w fun e w'=> ∃g:List gl×List (Value×List Int)×Option Addr×Nat,gj C.f.code.length g.1 g.2.1 (cZ C.f.code.length s k l).2.at_∧
   e= .returned (.bool (!(cZ C.f.code.length s k l).1))∧Cw B w0 (lq g1 g5 gs C.gx As cs l++(gO C (cZ C.f.code.length s k l).2 g.1 g.2.1 g.2.2.1 g.2.2.2++H)) w':=by
 refine db Tryz.func169 rfl Tryz.ntmps169 rfl hw ?_
 dsimp only[lq,List.cons_append,List.nil_append]
 refine ac<|aa<|rn 1 [0,1,2] rfl<|ae<|ac<|e8 (.still 0 (.still 1 (.still 2 (.still 3 (.still 4 (.still 5 (.pick 6 (.pick 7 (.still 8 (.still 9 .done)) .stop) .stop))))))) [] rfl (by kernel_rfl) (by kernel_rfl) [am g1 [.pointer (some ⟨C.gx,0,none⟩)] 176,am g5 [.pointer (some ⟨gs,0,none⟩)] 200,am gs [.slice As l.length cs,.bool false] 202] ?_
 refine an rfl (ai fc iK rfl rfl (by rfl)) rfl rfl ha ?_
 refine aV ha 1 [2,5,6] rfl<|an rfl (ai fc Fo rfl rfl (by rfl)) rfl rfl ha ?_
 refine aV ha 2 [5,6,9] rfl<|an rfl (ai fc a5 rfl rfl (by rfl)) rfl rfl ha ?_
 refine aB rfl (eL rfl rfl rfl kj (fun w hw=>qR As cs l w (SF.at_ (SF.own rfl fc) hw) (by omega))) rfl rfl (.inr fun _=>ha) (fun⟨A4,c4⟩ _=>?_) ay
 try dsimp only
 refine qp (fun w h=>nz (v:= .slice A4 l.length c4) (xs:=l) (L:=L) (qE (h.msub (.s fc (.s fc .r))))) ?_
 refine aB rfl (bC rfl rfl rfl Tryz.call131 (fun w hw=>ue C s hd ((.slice A4 l.length c4,l)::L) At ct k hk hn l A4 c4 .new (hR.cons _) hF.ml (by have:=hF.tl;omega) (fun i=>by have:=hF.st i;omega) w (hw.msub ms))) rfl rfl (.inr fun _=>ha) (fun⟨hd2,L2,A5,c5⟩ hR2=>?_) ay
 try dsimp only
 refine aV ha 2 [4] rfl<|cJ<|au<|aA Tryz.results169 (aq rfl) ?_
 intro w hw
 exact⟨(hd2,L2,A5,c5),hR2,rfl,hw.msub ms⟩
structure jp (fs:List aC) (f:aC):Prop where
 op:∀i,i<f.code.length→xB fs f (bB f.code i)
 to_:∀i,i<f.code.length→∀q∈di (bB f.code i) i,0≤q∧q≤f.code.length
 n40:f.code.length≤40
theorem mJ {n:Nat} :∀{s s':FSt} {L:List Int} {k:Nat} {l:List Int},k<L.length→dq n s (L.take k) l=some s'→dq n s (L.take (k+1)) l=if (cZ n s' (L.getD k 0).toNat l).1=true then some (cZ n s' (L.getD k 0).toNat l).2 else none
 | s,s',[],k,l,hk,_=>by simp at hk
 | s,s',a::L,0,l,_,h=>by
  simp only[List.take_zero,dq,Option.some.injEq] at h
  subst h
  simp[dq]
 | s,s',a::L,k+1,l,hk,h=>by
  simp only[List.take_succ_cons,dq] at h⊢
  split at h
  ·rename_i h1
   rw[if_pos h1,mJ (by simpa using hk) h]
   simp
  cases h
theorem mK {n:Nat} :∀{s:FSt} {L:List Int} {k:Nat} {l:List Int},dq n s (L.take k) l=none→dq n s L l=none
 | s,[],k,l,h=>by simpa using h
 | s,a::L,0,l,h=>by simp[dq] at h
 | s,a::L,k+1,l,h=>by
  simp only[List.take_succ_cons,dq] at h⊢
  split at h
  ·rename_i h1;rw[if_pos h1];exact mK h
  rename_i h1;rw[if_neg h1]
theorem oL {n:Nat} :∀{s s':FSt} {L:List Int} {l:List Int},eC n s→(∀q∈L,0≤q∧q≤n)→l.length≤8→s.todo.length+L.length<5000→dq n s L l=some s'→eC n s'∧s'.todo.length≤s.todo.length+L.length
 | s,s',[],l,h,_,_,_,e=>by
  simp only[dq,Option.some.injEq] at e
  subst e
  exact⟨h,Nat.le_refl _⟩
 | s,s',a::L,l,h,hq,hl,ht,e=>by
  simp only[dq] at e
  split at e
  ·have ha:=hq a (by simp)
   rw[List.length_cons] at ht
   obtain⟨h1,h2⟩:=jG h (k:=a.toNat) (by omega) hl (by omega)
   obtain⟨h3,h4⟩:=oL h1 (fun q hq'=>hq q (by simp[hq'])) hl (by omega) e
   exact⟨h3,by rw[List.length_cons];omega⟩
  cases e
theorem sS {fs:List aC} {f:aC} {o:cn} {s l':lj} (e:jS fs f o s=l') (h:l'.2=false):l'.1.length≤8:=by
 subst e
 unfold jS at h⊢
 simp only[Bool.or_eq_false_iff,decide_eq_false_iff_not] at h
 show (fW fs f o s).1.length≤8
 omega
theorem j5 (o:cn) (pc:Int):(di o pc).length≤2:=by
 unfold di
 repeat (first | split | simp)
set_option maxRecDepth 100000 in
set_option maxHeartbeats 1000000 in
theorem zP (C:FC) (s:FSt) (hd:List gl) (L:List (Value×List Int)) (At:Option Addr) (ct:Nat) (r:Option FSt) (e:jz C.fs C.f s=r) (hok:jp C.fs C.f) (hp:bX w0 B (.slice C.Ap C.fs.length C.cp) C.fs) (hlo:bX w0 B (.slice C.A1 C.f.locals.length C.c1) C.f.locals) (hco:bX w0 B (.slice C.A2 C.f.code.length C.c2) C.f.code)
  (hR:gj C.f.code.length hd L s.at_) (hF:eC C.f.code.length s) (ht:0<s.todo.length) (ht2:s.todo.length≤4000) (w:World) (hw:Cw B w0 (gO C s hd L At ct++H) w) :
  Calls Tryz.prog 132 #[.pointer (some ⟨C.gx,0,none⟩)] w fun e w'=> ∃g:List gl×List (Value×List Int)×Option Addr×Nat,(match r with | some s'=>gj C.f.code.length g.1 g.2.1 s'.at_ | none=>True)∧
   e= .returned (.bool r.isSome)∧Cw B w0 ((match r with | some s'=>gO C s' g.1 g.2.1 g.2.2.1 g.2.2.2 | none=> [])++H) w':=by
 obtain⟨gx,fs,f,Ap,cp,A1,c1,A2,c2,Aa,ca,Am,cm⟩:=C
 obtain⟨at_,met,todo⟩:=s
 dsimp only[gO,List.cons_append,List.nil_append] at *
 obtain⟨n,hn⟩:∃n,todo.length=n+1:=⟨todo.length - 1,by omega⟩
 have hmem:todo.getD n 0∈todo:=by rw[List.getD_eq_getElem?_getD,List.getElem?_eq_getElem (by omega)];exact List.getElem_mem _
 have htd:=hF.td _ hmem
 obtain⟨k,hk⟩:∃k:Nat,todo.getD n 0=(k:Int):=⟨(todo.getD n 0).toNat,by have:=htd.1;omega⟩
 have hkl:k<f.code.length:=by have:=htd.2;omega
 obtain⟨T,b,eT⟩:∃T b,jS fs f (bB f.code k) (at_.getD k [],false)=(T,b):=⟨_,_,rfl⟩
 have e:(if b=true then none else dq f.code.length ⟨at_,met,todo.take n⟩ (di (bB f.code k) k) T)=r:=by
  unfold jz at e
  dsimp only at e
  rw[show todo.length - 1=n from by omega,hk,Int.toNat_natCast,eT] at e
  exact e
 have htl:(todo.take n).length=n:=by rw[List.length_take];omega
 have i1:=tB hco hkl
 refine db Tryz.func132 rfl Tryz.ntmps132 rfl hw ?_
 refine ac<|aa<|ag (bF rfl rfl rfl) rfl rfl (fun g1 _=>?_)
 refine rn 1 [1] rfl<|ae<|ac<|aa<|af (ai fc iK rfl rfl (by rfl)) rfl rfl ?_
 refine rn 2 [1,8] rfl<|af (ai fc a5 rfl rfl (by rfl)) rfl rfl ?_
 refine af (aN ah rfl rfl) rfl rfl<|af (bx rfl rfl rfl (by omega)) rfl rfl<|rn 1 [1,3] rfl<|ae<|cP (t:=3) (v':= .int .i64 (n:Int)) rfl (by congr 1;omega) ?_
 refine ac<|aa<|af (ai fc iK rfl rfl (by rfl)) rfl rfl ?_
 refine rn 2 [1,3,14] rfl<|af (ai fc a5 rfl rfl (by rfl)) rfl rfl ?_
 refine rn 1 [1,3,15,16] rfl<|af (aO ah aI (SF.own rfl fc) (by omega) rfl rfl rfl) rfl rfl ?_
 refine af (a8 (SF.int (SF.own rfl fc) (by omega)) rfl rfl ar) rfl rfl ?_
 refine rn 1 [1,3,4] rfl<|ae<|dD (fun w h=>eK h (xs:=todo) fc) fun hcap=>?_
 refine cP (t:=4) (v':= .int .i64 (k:Int)) rfl (by rw[hk]) ?_
 refine ac<|bQ (.still 0 (.still 1 (.still 2 (.still 3 (.still 4 (.still 5 (.still 6 (.still 7 (.still 8 (.pick 9 .done .stop)))))))))) [9] rfl (by kernel_rfl) (by kernel_rfl) ?_
 refine an rfl (ai fc iK rfl rfl (by rfl)) rfl rfl ha ?_
 refine an rfl (ai fc iK rfl rfl (by rfl)) rfl rfl ha ?_
 refine aV ha 2 [1,3,4,19,22] rfl<|an rfl (ai fc a5 rfl rfl (by rfl)) rfl rfl ha ?_
 refine aV ha 1 [1,4,19,23,24] rfl<|an rfl (fC (k:=n) ah aI (by omega) rfl rfl rfl) rfl rfl ha ?_
 refine aV ha 2 [1,4,25,27] rfl<|aB rfl (aH _ fc bV rfl rfl rfl rfl rfl (by rfl) rfl (by rfl)) rfl rfl (.inl rfl) (fun _ _=>?_) ay
 refine cJ<|dO (fun w h=>mQ (k:=n) (xs:=todo) (A:=At) (m:=todo.length) (c:=ct) (by omega) (h.msub (.s fc .r))) ?_
 have hin:=hR.el k hkl
 have h8:(at_.getD k []).length≤8:=hF.st k
 refine ac<|aa<|af (ai fc iK rfl rfl (by rfl)) rfl rfl ?_
 refine rn 2 [1,4,30] rfl<|af (ai fc ew rfl rfl (by rfl)) rfl rfl ?_
 refine rn 1 [1,4,31,32] rfl<|af (aO cy bV (SF.own hR.hl fc) (by omega) rfl rfl rfl) rfl rfl ?_
 refine af (a8 (SF.hdr (SF.own hR.hl fc) hkl) rfl rfl a5) rfl rfl ?_
 refine lF (fun w h=>hin.form h fc) ?_
 rintro⟨A3,c3,hv⟩
 rw[hv] at hin
 refine bA (t:=34) (v':= .slice A3 (at_.getD k []).length c3) rfl (hv) ?_
 refine ag (eL rfl rfl rfl kj (fun w hw=>qR A3 c3 (at_.getD k []) w (hin.sl hw fc) (by omega))) rfl rfl (fun⟨A4,c4⟩ _=>?_)
 try dsimp only
 refine af (cT (cs:= [_,_]) De Tryz.zeroValue202 rfl rfl (by rfl)) rfl rfl ?_
 refine ag (bF rfl rfl rfl) rfl rfl (fun g2 _=>?_)
 refine ag (aZ Tryz.zeroValue200 rfl rfl) rfl rfl (fun g3 _=>?_)
 refine ag (aH _ fc Tryz.sizeOf200 rfl rfl rfl rfl rfl (by rfl) rfl (by rfl)) rfl rfl (fun _ _=>?_)
 refine ae<|ac<|e8 (.still 0 (.still 1 (.still 2 (.still 3 (.still 4 (.still 5 (.still 6 (.still 7 (.still 8 (.still 9 (.still 10 (.still 11 (.still 12 (.still 13 (.still 14 (.still 15 (.still 16 (.pick 17 .done .stop)))))))))))))))))) [] rfl (by kernel_rfl) (by kernel_rfl) [am g1 [.pointer (some ⟨gx,0,none⟩)] 176,am gx [.slice Ap fs.length cp,.int .i64 f.params,.slice A1 f.locals.length c1,.int .i64 f.result,.slice A2 f.code.length c2,.slice Aa f.code.length ca,.slice Am f.code.length cm,.slice At n ct] 178,am g3 [.pointer (some ⟨g2,0,none⟩)] 200] ?_
 refine an rfl (ai fc Fo rfl rfl (by rfl)) rfl rfl ha ?_
 refine an rfl (ai fc iK rfl rfl (by rfl)) rfl rfl ha ?_
 refine aV ha 2 [1,4,5,38,41] rfl<|an rfl (aQ (vs:= [_]) fc cE cg rfl rfl (by rfl) rfl) rfl rfl ha ?_
 refine an rfl (ai fc iK rfl rfl (by rfl)) rfl rfl ha ?_
 refine aV ha 2 [1,4,5,38,42,45] rfl<|an rfl (aQ (vs:= [_,_,_,_]) fc d8 bq rfl rfl (by rfl) rfl) rfl rfl ha ?_
 refine an rfl (ai fc iK rfl rfl (by rfl)) rfl rfl ha ?_
 refine aV ha 3 [1,4,5,38,42,46,50] rfl<|an rfl (ai fc dE rfl rfl (by rfl)) rfl rfl ha ?_
 refine aV ha 1 [1,4,5,38,42,46,51,52] rfl<|an rfl (aO bz cG (.ro hco) (by omega) rfl rfl rfl) rfl rfl ha ?_
 refine an rfl (cr (cs:= [_,_]) (SF.op (.ro hco) (by omega)) rfl rfl gK cG) rfl rfl ha ?_
 refine aB rfl (bC rfl rfl rfl Tryz.call167 (fun w hw=>BI g2 fs f (bB f.code k) eT A4 Ap A1 A2 c4 cp c1 c2 (hok.op k hkl) hp hlo (by omega) w (hw.msub (.s fc (.s fc .r))))) rfl rfl (.inr fun _=>ha) (fun⟨A6,c6⟩ _=>?_) ay
 try dsimp only
 refine cJ<|ac<|ac<|aa<|af (ai fc Fo rfl rfl (by rfl)) rfl rfl ?_
 refine rn 2 [1,4,5,58] rfl<|af (ai fc fF rfl rfl (by rfl)) rfl rfl ?_
 refine ae<|cH rfl (fun hb=>?_) (fun hb=>?_)
 ·rw[if_pos hb] at e
  subst e
  refine ac<|aa<|rn 1 [2] rfl<|ae<|au (ak ?_)
  refine aA Tryz.results132 (aq rfl) ?_
  intro w hw
  exact⟨(hd,L,At,ct),trivial,rfl,hw.msub ms⟩
 have hb:b=false:=hb
 subst hb
 have hT8:=sS eT rfl
 have hT8:T.length≤8:=hT8
 rw[if_neg (by decide)] at e
 obtain⟨LL,hLL⟩:∃LL,di (bB f.code k) k=LL:=⟨_,rfl⟩
 have hto:=hok.to_ k hkl
 have hl2:=j5 (bB f.code k) k
 rw[hLL] at hto hl2 e
 have haft:∀w1,Sl w1 (.slice A2 f.code.length c2) f.code→Calls Tryz.prog 168 #[.slice A2 f.code.length c2,.int .i64 (k:Int)] w1 fun e w'=> ∃g:Option Addr×Nat,True∧e= .returned (.slice g.1 LL.length g.2)∧Cw w1.heap.size w1 [aj (.slice g.1 LL.length g.2) LL] w':=fun w1 h=>by
  have:=zu A2 c2 f.code k w1 h hkl
  rw[hLL] at this
  exact this
 refine ax (ap ?_)
 refine ac<|aa<|af (ai fc iK rfl rfl (by rfl)) rfl rfl ?_
 refine rn 3 [1,4,5,63] rfl<|af (ai fc dE rfl rfl (by rfl)) rfl rfl ?_
 refine rn 1 [1,5,64,65] rfl<|ag (cO rfl rfl rfl Tryz.call168 (fun w hw=>haft w (hw.ro hco))) rfl rfl (fun⟨A7,c7⟩ _=>?_)
 try dsimp only
 refine rn 1 [66,67] rfl ?_
 obtain⟨C,hC⟩:∃C:FC,C=⟨gx,fs,f,Ap,cp,A1,c1,A2,c2,Aa,ca,Am,cm⟩:=⟨_,rfl⟩
 have hF0:eC f.code.length ⟨at_,met,todo.take n⟩:=⟨hF.al,hF.ml,by show (todo.take n).length≤_;omega,hF.st,fun x hx=>hF.td x (List.mem_of_mem_take hx)⟩
 have hstep:∀(j:Nat) (g:FSt×List gl×List (Value×List Int)×Option Addr×Nat),j<LL.length→((dq f.code.length ⟨at_,met,todo.take n⟩ (LL.take j) T=some g.1∧eC f.code.length g.1∧g.1.todo.length≤n+j)∧gj f.code.length g.2.1 g.2.2.1 g.1.at_)→∀w,Cw B w0 ((fun g:FSt×List gl×List (Value×List Int)×Option Addr×Nat=>lq g1 g3 g2 gx A6 c6 T++(gO C g.1 g.2.1 g.2.2.1 g.2.2.2.1 g.2.2.2.2++(aj (.slice A7 LL.length c7) LL::H))) g) w→
   Calls Tryz.prog 169 ([Value.int .i64 (LL.getD j 0)]++(#[.pointer (some ⟨g1,0,none⟩),.pointer (some ⟨g3,0,none⟩)]:Array Value).toList).toArray w fun e w'=> ∃p:Bool×FSt×List gl×List (Value×List Int)×Option Addr×Nat,
    (if p.1 then dq f.code.length ⟨at_,met,todo.take n⟩ LL T=none else (dq f.code.length ⟨at_,met,todo.take n⟩ (LL.take (j+1)) T=some p.2.1∧eC f.code.length p.2.1∧p.2.1.todo.length≤n+(j+1))∧gj f.code.length p.2.2.1 p.2.2.2.1 p.2.1.at_)∧e= .returned (.bool p.1)∧Cw B w0 ((fun g:FSt×List gl×List (Value×List Int)×Option Addr×Nat=>lq g1 g3 g2 gx A6 c6 T++(gO C g.1 g.2.1 g.2.2.1 g.2.2.2.1 g.2.2.2.2++(aj (.slice A7 LL.length c7) LL::H))) p.2) w':=by
  rintro j ⟨s',hd',L',A',c'⟩ hj ⟨⟨g1',g2',g3'⟩,g4'⟩ w1 hw1
  have hmem:LL.getD j 0∈LL:=by rw[List.getD_eq_getElem?_getD,List.getElem?_eq_getElem hj];exact List.getElem_mem _
  obtain⟨q,hq⟩:∃q:Nat,LL.getD j 0=(q:Int):=⟨(LL.getD j 0).toNat,by have:=hto _ hmem;omega⟩
  have hqn:q≤f.code.length:=by have:=hto _ hmem;omega
  have hsn:=mJ hj g1'
  rw[hq,Int.toNat_natCast] at hsn
  have hco2:=jG g2' hqn hT8 (by have:=hF.tl;dsimp only at *;omega)
  dsimp only at *
  rw[hq]
  refine(xQ (H:=aj (.slice A7 LL.length c7) LL::H) C s' hd' L' A' c' g1 g3 g2 A6 c6 q (by rw[hC];exact hqn) (by rw[hC];exact hok.n40) T hT8 (by rw[hC];exact g4') (by rw[hC];exact g2') w1 (by rw[hC] at hw1⊢;exact hw1)).mono ?_
  rintro e1 w' ⟨⟨hd2,L2,A5,c5⟩,k1,k2,k3⟩
  rw[hC] at k1 k2
  dsimp only at k1 k2
  refine⟨(!(cZ f.code.length s' q T).1,(cZ f.code.length s' q T).2,hd2,L2,A5,c5),?_,k2,by rw[hC] at k3⊢;exact k3⟩
  dsimp only
  cases hb1:(cZ f.code.length s' q T).1
  ·rw[hb1] at hsn
   rw[if_neg (by decide)] at hsn
   simp only[Bool.not_false,if_true]
   exact mK hsn
  rw[hb1] at hsn
  rw[if_pos rfl] at hsn
  simp only[Bool.not_true,Bool.false_eq_true,if_false]
  exact⟨⟨hsn,hco2.1,by omega⟩,k1⟩
 refine ag (bC rfl rfl rfl FY (fun w hw=>t9 (B:=B) (w0:=w0) (fun j g=>(dq f.code.length ⟨at_,met,todo.take n⟩ (LL.take j) T=some g.1∧eC f.code.length g.1∧g.1.todo.length≤n+j)∧gj f.code.length g.2.1 g.2.2.1 g.1.at_) (fun _=>dq f.code.length ⟨at_,met,todo.take n⟩ LL T=none) (fun g:FSt×List gl×List (Value×List Int)×Option Addr×Nat=>lq g1 g3 g2 gx A6 c6 T++(gO C g.1 g.2.1 g.2.2.1 g.2.2.2.1 g.2.2.2.2++(aj (.slice A7 LL.length c7) LL::H))) A7 c7 LL 169 _ Tryz.call169 (fun g=> .own rfl fc) (by omega) hstep (⟨at_,met,todo.take n⟩,hd,L,At,ct) ⟨⟨rfl,hF0,by show (todo.take n).length≤_;omega⟩,hR⟩ w (by dsimp only[gO,lq,List.cons_append,List.nil_append];rw[hC];dsimp only;rw[htl];exact hw.msub ms))) rfl rfl (fun⟨bb,s',hd',L',A',c'⟩ hg=>?_)
 try dsimp only
 refine rn 2 [2] rfl<|ae<|au<|aA Tryz.results132 (aq rfl) ?_
 intro w hw
 cases bb
 ·have hg:(dq f.code.length ⟨at_,met,todo.take n⟩ (LL.take LL.length) T=some s'∧eC f.code.length s'∧s'.todo.length≤n+LL.length)∧gj f.code.length hd' L' s'.at_:=hg
  rw[List.take_length,e] at hg
  obtain⟨⟨k1,_,_⟩,k2⟩:=hg
  subst k1
  refine⟨(hd',L',A',c'),k2,rfl,?_⟩
  dsimp only[gO,lq,List.cons_append,List.nil_append] at hw⊢
  rw[hC] at hw
  exact hw.msub ms
 have hg:dq f.code.length ⟨at_,met,todo.take n⟩ LL T=none:=hg
 rw[e] at hg
 subst hg
 refine⟨(hd,L,At,ct),trivial,rfl,?_⟩
 dsimp only[gO,lq,List.cons_append,List.nil_append] at hw⊢
 exact hw.msub ms
end
end
section
def lx (l:List Int):Nat:=l.countP fun t=>decide (t=3)
def io (s:FSt) (i:Nat):Nat:=if s.met.getD i false=true then lx (s.at_.getD i []) else 9
def mV (n:Nat) (s:FSt):Nat:=((List.range n).map (io s)).sum
def mu (n:Nat) (s:FSt):Nat:=mV n s+s.todo.length
theorem BM {n k:Nat} {f g:Nat→Nat} (hk:k<n) (h:∀i,i≠k→f i=g i):((List.range n).map g).sum+f k=((List.range n).map f).sum+g k:=by
 induction n with
 | zero=>omega
 | succ n ih=>
  simp only[List.range_succ,List.map_append,List.sum_append,List.map_cons,List.map_nil,List.sum_cons,List.sum_nil]
  by_cases e:k=n
  ·subst e
   have:(List.range k).map f=(List.range k).map g:=List.map_congr_left fun i hi=>h i (by have:=List.mem_range.1 hi;omega)
   rw[this]
   omega
  have:=ih (by omega)
  have:=h n (fun e'=>e e'.symm)
  omega
theorem vl {a b:Int} (h:dv a b≠0):dv a b=a∨(a=3∧dv a b=2):=by
 unfold dv cq at *
 by_cases h1:a=b
 ·left;simp[h1]
 by_cases h2:a=3∧b=2
 ·right;obtain⟨rfl,rfl⟩:=h2;simp
 by_cases h3:b=3∧a=2
 ·left;obtain⟨rfl,rfl⟩:=h3;simp
 exfalso
 apply h
 have e1:¬(a=3∧b=2):=h2
 have e2:¬(b=3∧a=2):=h3
 have e3:¬b=a:=fun e=>h1 e.symm
 simp[h1,e3,e1,e2]
theorem pq:∀{a l j:List Int},bY a l=some j→lx j≤lx a∧(j≠a→lx j<lx a)
 | [],[],j,h=>by simp[bY] at h;subst h;simp
 | [],_::_,j,h=>by simp[bY] at h
 | _::_,[],j,h=>by simp[bY] at h
 | a::l,b::m,j,h=>by
  simp only[bY] at h
  split at h
  ·cases h
  rename_i h0
  cases e:bY l m with
  | none=>rw[e] at h;cases h
  | some k=>
   rw[e] at h
   simp only[Option.map_some,Option.some.injEq] at h
   subst h
   obtain⟨h1,h2⟩:=pq e
   unfold lx at *
   simp only[List.countP_cons]
   rcases vl h0 with hb | ⟨rfl,hb⟩
   ·rw[hb]
    refine⟨by omega,fun hne=>?_⟩
    have:k≠l:=fun e=>hne (by rw[e])
    have:=h2 this
    omega
   rw[hb]
   simp only[decide_true,if_true]
   have:(if decide ((2:Int)=3)=true then 1 else 0)=0:=by decide
   rw[this]
   exact⟨by omega,fun _=>by omega⟩
theorem tG (l:List Int):lx l≤l.length:=List.countP_le_length
theorem sa {n:Nat} {s:FSt} (h:eC n s) {k:Nat} (hk:k≤n) {l:List Int} (hl:l.length≤8):mu n (cZ n s k l).2≤mu n s:=by
 have key:k<n→∀j:List Int,lx j<io s k→mu n ⟨s.at_.set k j,s.met.set k true,s.todo++ [(k:Int)]⟩≤mu n s:=fun hkn j hj=>by
  have e:=BM (f:=io s) (g:=io ⟨s.at_.set k j,s.met.set k true,s.todo++ [(k:Int)]⟩) hkn fun i hi=>by
   unfold io
   rw[fI (by rw[h.ml];exact hkn),fI (by rw[h.al];exact hkn),if_neg hi,if_neg hi]
  have e2:io ⟨s.at_.set k j,s.met.set k true,s.todo++ [(k:Int)]⟩ k=lx j:=by
   unfold io
   rw[fI (by rw[h.ml];exact hkn),fI (by rw[h.al];exact hkn),if_pos rfl,if_pos rfl,if_pos rfl]
  rw[e2] at e
  unfold mu mV
  simp only[List.length_append,List.length_singleton]
  omega
 unfold cZ
 split
 ·exact Nat.le_refl _
 rename_i hne
 split
 ·rename_i hm
  split
  ·exact Nat.le_refl _
  rename_i j hj
  split
  ·exact Nat.le_refl _
  rename_i hja
  exact key (by omega) j (by unfold io;rw[if_pos hm];exact(pq hj).2 hja)
 rename_i hm
 exact key (by omega) l (by unfold io;rw[if_neg hm];have:=tG l;omega)
theorem oM {n:Nat} :∀{s s':FSt} {L:List Int} {l:List Int},eC n s→(∀q∈L,0≤q∧q≤n)→l.length≤8→s.todo.length+L.length<5000→dq n s L l=some s'→mu n s'≤mu n s
 | s,s',[],l,h,_,_,_,e=>by
  simp only[dq,Option.some.injEq] at e
  subst e
  exact Nat.le_refl _
 | s,s',a::L,l,h,hq,hl,ht,e=>by
  simp only[dq] at e
  split at e
  ·have ha:=hq a (by simp)
   rw[List.length_cons] at ht
   obtain⟨h1,h2⟩:=jG h (k:=a.toNat) (by omega) hl (by omega)
   exact Nat.le_trans (oM h1 (fun q hq'=>hq q (by simp[hq'])) hl (by omega) e) (sa h (by omega) hl)
  cases e
theorem pJ {fs:List aC} {f:aC} (hok:jp fs f) {s s':FSt} (h:eC f.code.length s) (ht:0<s.todo.length) (ht2:s.todo.length≤4000) (e:jz fs f s=some s'):eC f.code.length s'∧mu f.code.length s'<mu f.code.length s:=by
 obtain⟨n,hn⟩:∃n,s.todo.length=n+1:=⟨s.todo.length - 1,by omega⟩
 have hmem:s.todo.getD n 0∈s.todo:=by rw[List.getD_eq_getElem?_getD,List.getElem?_eq_getElem (by omega)];exact List.getElem_mem _
 have htd:=h.td _ hmem
 obtain⟨k,hk⟩:∃k:Nat,s.todo.getD n 0=(k:Int):=⟨(s.todo.getD n 0).toNat,by omega⟩
 have hkl:k<f.code.length:=by omega
 unfold jz at e
 dsimp only at e
 rw[show s.todo.length - 1=n from by omega,hk,Int.toNat_natCast] at e
 split at e
 ·cases e
 rename_i hb
 have hb:(jS fs f (bB f.code k) (s.at_.getD k [],false)).2=false:=by simpa using hb
 have hT8:=sS rfl hb
 have hF0:eC f.code.length ⟨s.at_,s.met,s.todo.take n⟩:=⟨h.al,h.ml,by show (s.todo.take n).length≤_;rw[List.length_take];omega,h.st,fun x hx=>h.td x (List.mem_of_mem_take hx)⟩
 have hl2:=j5 (bB f.code k) k
 have hlt:(s.todo.take n).length+(di (bB f.code k) k).length<5000:=by rw[List.length_take];omega
 have h1:=oL hF0 (hok.to_ k hkl) hT8 hlt e
 have h2:=oM hF0 (hok.to_ k hkl) hT8 hlt e
 refine⟨h1.1,?_⟩
 have:mu f.code.length ⟨s.at_,s.met,s.todo.take n⟩+1=mu f.code.length s:=by
  unfold mu
  show mV f.code.length s+(s.todo.take n).length+1=_
  rw[List.length_take]
  omega
 omega
def je (fs:List aC) (f:aC):Nat→FSt→Option FSt
 | 0,_=>none
 | k+1,s=>if s.todo.length=0 then some s else match jz fs f s with
  | none=>none
  | some s'=>je fs f k s'
theorem qz {fs:List aC} {f:aC} (hok:jp fs f):∀(k m:Nat) (s:FSt),eC f.code.length s→mu f.code.length s≤4000→mu f.code.length s<k→mu f.code.length s<m→je fs f k s=je fs f m s
 | 0,_,_,_,_,h,_=>absurd h (by omega)
 | _+1,0,_,_,_,_,h=>absurd h (by omega)
 | k+1,m+1,s,hF,h4,h1,h2=>by
  simp only[je]
  split
  ·rfl
  rename_i ht
  cases e:jz fs f s with
  | none=>rfl
  | some s'=>
   have htl:s.todo.length≤4000:=by unfold mu at h4;omega
   obtain⟨h3,h4'⟩:=pJ hok hF (by omega) htl e
   exact qz hok k m s' h3 (by omega) (by omega) (by omega)
def fk (n:Nat):FSt:=⟨List.replicate n [],List.replicate n false,[]⟩
def fO (n:Nat):FSt:=(cZ n (fk n) 0 []).2
def ld (fs:List aC) (f:aC):Option FSt:=je fs f (mu f.code.length (fO f.code.length)+1) (fO f.code.length)
structure gT where
 pc:Int
 stack:List Int
 deriving DecidableEq
def iM (s:FSt) (i:Nat):List gT:=(List.range i).filterMap fun k=>if s.met.getD k false=true then some ⟨k,s.at_.getD k []⟩ else none
def cD (fs:List aC) (f:aC):List gT×Bool:=match ld fs f with
 | none=>([],false)
 | some s=>(iM s f.code.length,true)
theorem n9 (n:Nat):eC n (fk n):=by
 refine⟨by simp[fk],by simp[fk],by simp[fk],fun i=>?_,by simp[fk]⟩
 show ((List.replicate n ([]:List Int)).getD i []).length≤8
 rw[List.getD_eq_getElem?_getD,List.getElem?_replicate]
 split <;> simp
theorem zQ (n:Nat):mu n (fk n)≤9*n:=by
 unfold mu mV
 have:∀m,((List.range m).map (io (fk n))).sum≤9*m:=fun m=>by
  induction m with
  | zero=>simp
  | succ m ih=>
   simp only[List.range_succ,List.map_append,List.sum_append,List.map_cons,List.map_nil,List.sum_cons,List.sum_nil]
   have:io (fk n) m≤9:=by
    unfold io
    split
    ·rename_i h
     have:(fk n).met.getD m false=false:=by
      show (List.replicate n false).getD m false=false
      rw[List.getD_eq_getElem?_getD,List.getElem?_replicate]
      split <;> rfl
     rw[this] at h;cases h
    exact Nat.le_refl _
   omega
 have:=this n
 show _+([]:List Int).length≤_
 simpa using this
theorem rP {n:Nat} (_:0<n):eC n (fO n)∧mu n (fO n)≤9*n:=by
 have h1:=jG (n9 n) (k:=0) (Nat.zero_le _) (l:= []) (by simp) (by simp[fk])
 have h2:=sa (n9 n) (k:=0) (Nat.zero_le _) (l:= []) (by simp)
 exact⟨h1.1,Nat.le_trans h2 (zQ n)⟩
end
section
instance:aR gT where
 k:=2
 rep w B cs x:= ∃v,cs= [.int .i64 x.pc,v]∧aX x.pc∧bX w B v x.stack
 len h:=by obtain⟨v,h,_⟩:=h;rw[h];rfl
 keep h hc:=by obtain⟨v,h,hi,hs⟩:=h;exact⟨v,h,hi,hs.keep hc⟩
 more h hb:=by obtain⟨v,h,hi,hs⟩:=h;exact⟨v,h,hi,hs.more hb⟩
 one h:=by obtain⟨v,h,hi,hs⟩:=h;obtain⟨A,c,rfl,_⟩:=hs.form;rw[h];simp[Value.oneCell']
structure fU where
 pc:Int
 v:Value
instance:aR fU where
 k:=2
 rep _ _ cs h:=cs= [.int .i64 h.pc,h.v]∧aX h.pc∧h.v.oneCell'=true
 len h:=by rw[h.1];rfl
 keep h _:=h
 more h _:=h
 one h:=by rw[h.1];simpa [Value.oneCell'] using h.2.2
instance:Ow fU where
 ty:=155
 own _ F cs h:=(cs= [.int .i64 h.pc,h.v]∧aX h.pc∧h.v.oneCell'=true)∧∀b,¬F b
 rd_ h:=h.1
 lt h hb:=(h.2 _ hb).elim
 frame h _:=h
 cong h hf:=⟨h.1,fun b hb=>h.2 b ((hf b).2 hb)⟩
instance:cX fU where
 enc h:= [.int .i64 h.pc,h.v]
 wf h:=aX h.pc∧h.v.oneCell'=true
 rep_iff:=Iff.rfl
 own_iff:=Iff.rfl
structure j9 (es:List fU) (L:List (Value×List Int)) (xs:List gT):Prop where
 len:es.length=xs.length
 el:∀i (h:i<es.length) (h2:i<xs.length),es[i].pc=xs[i].pc∧ij L es[i].v xs[i].stack
theorem j9.nil_ {L:List (Value×List Int)} :j9 [] L []:=⟨rfl,fun i h=>by simp at h⟩
theorem j9.snoc {es:List fU} {L:List (Value×List Int)} {xs:List gT} (h:j9 es L xs) {e:fU} {x:gT} (h1:e.pc=x.pc) (h2:ij L e.v x.stack):j9 (es++ [e]) L (xs++ [x]):=
 ⟨by simp[h.len],fun i hi hi2=>by
  by_cases hlt:i<es.length
  ·rw[List.getElem_append_left hlt,List.getElem_append_left (by have:=h.len;omega)]
   exact h.el i hlt (by have:=h.len;omega)
  rw[List.length_append,List.length_singleton] at hi
  have hl:=h.len
  have:i=es.length:=by omega
  subst this
  rw[List.getElem_append_right (Nat.le_refl _),List.getElem_append_right (by omega)]
  simp[h1,h2,hl]⟩
theorem B9 {w:World} {F:Nat→Prop} {L:List (Value×List Int)} {v:Value} {xs:List Int} (h:ij L v xs) (hF:Hs w (L.map fun p=>gM p.1 p.2) F):Sl w v xs:=by
 rcases h with ⟨rfl,rfl⟩ | h
 ·exact Sl.nil_
 obtain⟨F',h5,_⟩:=Hs.mem (List.mem_map_of_mem (f:=fun p:Value×List Int=>gM p.1 p.2) h) hF
 exact h5.2 w fun _ _=>rfl
theorem yc {es:List fU} {L:List (Value×List Int)} {xs:List gT} (hr:j9 es L xs) {v:Value} :∀w F,Hs w [aj v es,eV L] F→Sl w v xs:=by
 rintro w F ⟨F1,F2,h1,⟨F3,F4,h3,h4,_,_⟩,_,_⟩
 have h1:cS w F1 v es:=h1
 have h3:Hs w (L.map fun p=>gM p.1 p.2) F3:=h3
 obtain⟨A,c,hv,k1,k2,k3,k4⟩:=h1.sl
 refine⟨A,c,by rw[hv,hr.len],by rw[←hr.len];exact k1,k2,by rw[←hr.len];exact k3,fun h0=>?_⟩
 obtain⟨b,off,hA,hb,hi⟩:=k4 (by rw[hr.len];exact h0)
 refine⟨b,off,hA,hb,fun i x hx=>?_⟩
 have hix:=(List.getElem?_eq_some_iff.1 hx)
 obtain⟨hil,hix⟩:=hix
 have hie:i<es.length:=by rw[hr.len];exact hil
 obtain⟨cs,⟨hcs,hi1,hi2⟩,hc⟩:=hi i es[i] (List.getElem?_eq_getElem hie)
 obtain⟨e1,e2⟩:=hr.el i hie hil
 rw[hix] at e1 e2
 subst hcs
 refine⟨[.int .i64 x.pc,es[i].v],⟨es[i].v,rfl,by rw[←e1];exact hi1,B9 e2 h3⟩,fun j u hu=>?_⟩
 rw[←e1] at hu
 exact hc j u hu
theorem oE (s:FSt) (i:Nat):iM s (i+1)=if s.met.getD i false=true then iM s i++ [⟨i,s.at_.getD i []⟩] else iM s i:=by
 unfold iM
 rw[List.range_succ,List.filterMap_append]
 split
 ·rename_i h
  simp only[List.filterMap_cons,List.filterMap_nil]
  rw[if_pos h]
 rename_i h
 simp only[List.filterMap_cons,List.filterMap_nil]
 rw[if_neg h]
 simp
theorem t4 (s:FSt) (i:Nat):(iM s i).length≤i:=by
 have:=List.length_filterMap_le (fun k=>if s.met.getD k false=true then some (⟨k,s.at_.getD k []⟩:gT) else none) (List.range i)
 rw[List.length_range] at this
 exact this
theorem kS:(Tryz.prog.info? 27).map (fun i=>(i.zero,i.size,i.bytes))=some (some (.slice none 0 0),1,24):=by kernel_rfl
theorem qW:(Tryz.prog.info? 155).map (fun i=>(i.zero,i.size,i.bytes))=some (some (.agg #[.int .i64 0,.slice none 0 0]),2,32):=by kernel_rfl
theorem im {α:Type} (n i:Nat) (x:α):(List.replicate n x).getD i x=x:=by
 rw[List.getD_eq_getElem?_getD,List.getElem?_replicate]
 split <;> rfl
set_option maxRecDepth 100000 in
set_option maxHeartbeats 4000000 in
theorem pw (A:Option Addr) (c:Nat) (fs:List aC) (k:Nat) (w:World) (hs:Sl w (.slice A fs.length c) fs) (hk:k<fs.length) (hok:jp fs (av fs k)) (hn0:0<(av fs k).code.length) :
  Calls Tryz.prog 103 #[.agg #[.slice A fs.length c],.int .i64 (k:Int)] w fun e w'=> ∃g:(Option Addr×Nat)×List fU×List (Value×List Int),j9 g.2.1 g.2.2 (cD fs (av fs k)).1∧e= .returned (.tuple #[.slice g.1.1 g.2.1.length g.1.2,.bool (cD fs (av fs k)).2])∧
   Cw w.heap.size w [aj (.slice g.1.1 g.2.1.length g.1.2) g.2.1,eV g.2.2] w':=by
 obtain⟨A1,c1,A2,c2,hl,hc,hi,hcell⟩:=hs.fn hk
 generalize av fs k=f at hl hc hi hcell hok hn0⊢
 have hn40:=hok.n40
 refine enter Tryz.func103 rfl Tryz.ntmps103 rfl ?_
 refine ac<|aa<|ag (bF rfl rfl rfl) rfl rfl (fun g1 _=>?_)
 refine rn 2 [1,2] rfl<|ae<|ac<|aa<|rn 1 [1,2,10] rfl<|af (ai fc cQ rfl rfl (by rfl)) rfl rfl ?_
 refine rn 1 [1,2,11,12] rfl<|af (aO bI bq (.ro hs) (by omega) rfl rfl rfl) rfl rfl<|rn 1 [1,2,14] rfl<|af (a8 (fun w hw=>hcell _ w hw 3 _ rfl) rfl rfl dE) rfl rfl ?_
 refine rn 1 [1,2,6] rfl<|ae<|dF (fun _:Nat×Nat×Nat=>True) (fun g=> [(6,.slice A2 f.code.length c2),(7,.pointer (some ⟨g.2.2,0,none⟩))]) (fun g=> [am g.2.2 [.slice A fs.length c,.int .i64 f.params,.slice A1 f.locals.length c1,.int .i64 f.result,.slice A2 f.code.length c2,.slice (some ⟨g.1,0,none⟩) f.code.length f.code.length,.slice (some ⟨g.2.1,0,none⟩) f.code.length f.code.length,.slice none 0 0] 178,aj (.slice (some ⟨g.1,0,none⟩) f.code.length f.code.length) (List.replicate f.code.length iu),aj (.slice (some ⟨g.2.1,0,none⟩) f.code.length f.code.length) (List.replicate f.code.length false)]) ?_ ?_
 ·refine bQ (.still 0 (.still 1 (.still 2 (.still 3 (.still 4 (.still 5 (.still 6 (.still 7 (.still 9 (.still 10 (.pick 8 (.pick 11 (.still 12 (.pick 13 (.still 14 .done) .stop)) .stop) (.pick 11 (.pick 8 (.still 12 (.pick 13 (.still 14 .done) .stop)) .stop) .stop)))))))))))) [] rfl (by kernel_rfl) (by kernel_rfl) ?_
  refine an rfl (aQ (vs:= [_]) fc cE cg rfl rfl (by rfl) rfl) rfl rfl ha ?_
  refine aV ha 1 [1,6,16,17] rfl<|an rfl (ai fc cQ rfl rfl (by rfl)) rfl rfl ha ?_
  refine aV ha 1 [6,16,18,19] rfl<|an rfl (aO bI bq (.ro hs) (by omega) rfl rfl rfl) rfl rfl ha ?_
  refine an rfl (cr (hcell _) rfl rfl d8 bq) rfl rfl ha ?_
  refine aV ha 1 [6,16,21,22] rfl<|an rfl (aN bz rfl rfl) rfl rfl ha ?_
  refine aV ha 1 [6,16,21,23,25] rfl<|an rfl (aN bz rfl rfl) rfl rfl ha ?_
  refine aB rfl (kD (α:=gl) iu cy kS rfl (fun w=>⟨⟨rfl,rfl⟩,fun _ h=>h⟩) rfl (by omega) rfl rfl rfl) rfl rfl (.inr fun _=>ha) (fun ga _=>?_) ?_
  ·refine aB rfl (kD (α:=Bool) false eQ qa rfl (fun w=>⟨rfl,fun _ h=>h⟩) rfl (by omega) rfl rfl rfl) rfl rfl (.inr fun _=>ha) (fun gm _=>?_) ay
   refine an rfl (cT (cs:= [_,_,_,_,_,_,_,_]) yj Gj rfl rfl (by rfl)) rfl rfl ha ?_
   refine aB rfl (bF rfl rfl rfl) rfl rfl (.inr fun _=>ha) (fun gx _=>?_) ay
   refine aV ha 1 [6,7] rfl<|ck<|aY (ga,gm,gx) (trivial) ⟨rfl,rfl,trivial⟩ me
  refine aB rfl (kD (α:=Bool) false eQ qa rfl (fun w=>⟨rfl,fun _ h=>h⟩) rfl (by omega) rfl rfl rfl) rfl rfl (.inr fun _=>ha) (fun gm _=>?_) ay
  refine aB rfl (kD (α:=gl) iu cy kS rfl (fun w=>⟨⟨rfl,rfl⟩,fun _ h=>h⟩) rfl (by omega) rfl rfl rfl) rfl rfl (.inr fun _=>ha) (fun ga _=>?_) ay
  refine an rfl (cT (cs:= [_,_,_,_,_,_,_,_]) yj Gj rfl rfl (by rfl)) rfl rfl ha ?_
  refine aB rfl (bF rfl rfl rfl) rfl rfl (.inr fun _=>ha) (fun gx _=>?_) ay
  refine aV ha 1 [6,7] rfl<|ck<|aY (ga,gm,gx) (trivial) ⟨rfl,rfl,trivial⟩ me
 rintro⟨ga,gm,gx⟩ _
 try dsimp only
 have hR0:gj f.code.length (List.replicate f.code.length iu) [] (fk f.code.length).at_:=⟨by simp,by simp[fk],fun i _=>by
  show ij [] ((List.replicate f.code.length iu).getD i iu).v ((List.replicate f.code.length ([]:List Int)).getD i [])
  rw[im,im]
  exact .nil_⟩
 have hso:=rP hn0
 have hcome:∀w1,Cw w.heap.size w (gO (⟨gx,fs,f,A,c,A1,c1,A2,c2,some ⟨ga,0,none⟩,f.code.length,some ⟨gm,0,none⟩,f.code.length⟩:FC) (fk f.code.length) (List.replicate f.code.length iu) [] none 0++ []) w1→Calls Tryz.prog 131 #[.pointer (some ⟨gx,0,none⟩),.int .i64 0,.slice none 0 0] w1 fun e w'=> ∃g:List gl×List (Value×List Int)×Option Addr×Nat,gj f.code.length g.1 g.2.1 (fO f.code.length).at_∧
   e= .returned (.bool (cZ f.code.length (fk f.code.length) 0 []).1)∧Cw w.heap.size w (gO (⟨gx,fs,f,A,c,A1,c1,A2,c2,some ⟨ga,0,none⟩,f.code.length,some ⟨gm,0,none⟩,f.code.length⟩:FC) (fO f.code.length) g.1 g.2.1 g.2.2.1 g.2.2.2++ []) w':=fun w1 h=>
  ue (⟨gx,fs,f,A,c,A1,c1,A2,c2,some ⟨ga,0,none⟩,f.code.length,some ⟨gm,0,none⟩,f.code.length⟩:FC) (fk f.code.length) (List.replicate f.code.length iu) [] none 0 0 (Nat.zero_le _) hn40 [] none 0 .nil_ hR0 (by simp[fk]) (by simp[fk]) (fun i=>by have:=(n9 f.code.length).st i;omega) w1 h
 refine dO (fun w h=>jE (Cw.nilO Int h)) ?_
 refine ac<|aa<|rn 1 [6,7,30] rfl<|ag (bC rfl rfl rfl Tryz.call131 (fun w hw=>hcome w (hw.msub ms))) rfl rfl (fun⟨hd,L,At,ct⟩ hR=>?_)
 try dsimp only
 refine ae<|ac ?_
 rw[List.append_nil]
 refine ji (fun g:FSt×List gl×List (Value×List Int)×Option Addr×Nat=>(ld fs f=some g.1∧eC f.code.length g.1)∧gj f.code.length g.2.1 g.2.2.1 g.1.at_) (fun g=> [(6,.slice A2 f.code.length c2),(7,.pointer (some ⟨gx,0,none⟩))]) (fun g=>gO (⟨gx,fs,f,A,c,A1,c1,A2,c2,some ⟨ga,0,none⟩,f.code.length,some ⟨gm,0,none⟩,f.code.length⟩:FC) g.1 g.2.1 g.2.2.1 g.2.2.2.1 g.2.2.2.2) ?_ ?_
 ·refine aL (b8 (fun g:FSt×List gl×List (Value×List Int)×Option Addr×Nat=>((je fs f (mu f.code.length g.1+1) g.1=ld fs f∧eC f.code.length g.1)∧gj f.code.length g.2.1 g.2.2.1 g.1.at_)∧mu f.code.length g.1≤400) (fun g=>mu f.code.length g.1) (fun g=> [(6,.slice A2 f.code.length c2),(7,.pointer (some ⟨gx,0,none⟩))]) (fun g=>gO (⟨gx,fs,f,A,c,A1,c1,A2,c2,some ⟨ga,0,none⟩,f.code.length,some ⟨gm,0,none⟩,f.code.length⟩:FC) g.1 g.2.1 g.2.2.1 g.2.2.2.1 g.2.2.2.2) (fO f.code.length,hd,L,At,ct) (⟨⟨⟨rfl,hso.1⟩,hR⟩,by show mu f.code.length (fO f.code.length)≤_;have:=hso.2;omega⟩) ⟨rfl,rfl,trivial⟩ me ?_)
  rintro⟨s,hd,L,At,ct⟩ hj
  try dsimp only
  obtain⟨⟨⟨hj1,hF⟩,hR⟩,hmu⟩:((je fs f (mu f.code.length s+1) s=ld fs f∧eC f.code.length s)∧gj f.code.length hd L s.at_)∧mu f.code.length s≤400:=hj
  have htl:s.todo.length≤400:=by unfold mu at hmu;omega
  dsimp only[gO]
  refine ac<|ac<|aa<|rn 3 [6,7,34] rfl<|af (ai fc a5 rfl rfl (by rfl)) rfl rfl ?_
  refine af (aN ah rfl rfl) rfl rfl<|rn 1 [6,7,37] rfl<|ae<|aw rfl (fun ht=>?_) (fun ht=>?_)
  ·have ht0:0<s.todo.length:=by omega
   obtain⟨r,hr⟩:∃r,jz fs f s=r:=⟨_,rfl⟩
   have hj2:=hj1
   rw[je,if_neg (by omega),hr] at hj2
   refine ax (ap ?_)
   refine aL<|ac<|aa<|rn 1 [6,7,38] rfl<|ag (bC rfl rfl rfl Tryz.call132 (fun w hw=>zP (H:= []) (⟨gx,fs,f,A,c,A1,c1,A2,c2,some ⟨ga,0,none⟩,f.code.length,some ⟨gm,0,none⟩,f.code.length⟩:FC) s hd L At ct r hr hok hs hl hc hR hF ht0 (by omega) w (hw.msub ms))) rfl rfl (fun⟨hd2,L2,A2',c2'⟩ hR2=>?_)
   try dsimp only
   refine rn 1 [6,7,40] rfl<|ae<|cH rfl (fun hq=>?_) (fun hq=>?_)
   ·obtain rfl:r=none:=by cases r with | none=>rfl | some s'=>cases hq
    have hent:cD fs f=([],false):=by unfold cD;rw[←hj2]
    rw[hent]
    refine ac<|aa<|rn 2 [4,5] rfl<|ae<|au (aG (ak (aG (ak ?_))))
    refine bD Tryz.results103 (aq rfl) (aq rfl) ?_
    intro w hw
    exact⟨((none,0),[],[]),.nil_,rfl,Cw.nilO fU (jE (hw.msub (T:= []) ms))⟩
   obtain⟨s',rfl⟩:∃s',r=some s':=by cases r with | none=>cases hq | some s'=>exact⟨s',rfl⟩
   have hso2:=pJ hok hF ht0 (by omega) hr
   have hj3:je fs f (mu f.code.length s'+1) s'=ld fs f:=by
    rw[←hj2]
    exact qz hok _ _ s' hso2.1 (by omega) (by omega) hso2.2
   dsimp only[List.append_nil]
   rw[List.append_nil]
   refine ax (aK ?_)
   refine iQ (s',hd2,L2,A2',c2') (⟨⟨⟨hj3,hso2.1⟩,hR2⟩,by show mu f.code.length s'≤_;omega⟩) (hso2.2) ⟨rfl,rfl,trivial⟩ me
  have ht0:s.todo.length=0:=by omega
  have hj2:=hj1
  rw[je,if_pos ht0] at hj2
  refine bN (aM (aM (cc ?_)))
  refine aY (s,hd,L,At,ct) (⟨⟨hj2.symm,hF⟩,hR⟩) ⟨rfl,rfl,trivial⟩ me
 rintro⟨s,hd,L,At,ct⟩ hj
 obtain⟨⟨hj,hF⟩,hR⟩:(ld fs f=some s∧eC f.code.length s)∧gj f.code.length hd L s.at_:=hj
 have hent:cD fs f=(iM s f.code.length,true):=by unfold cD;rw[hj]
 rw[hent]
 dsimp only[gO]
 refine dO (fun w h=>Cw.nilO fU h) ?_
 refine ac<|aa<|rn 1 [6,7,8] rfl<|ae<|ac<|ac<|aa<|rn 1 [7,8,41] rfl<|af (aN bz rfl rfl) rfl rfl<|rn 1 [7,8,42,43] rfl<|ae<|aL (b8 (fun g:Nat×List fU×Option Addr×Nat=>g.1≤f.code.length∧j9 g.2.1 L (iM s g.1)) (fun g=>f.code.length - g.1) (fun g=> [(7,.pointer (some ⟨gx,0,none⟩)),(8,.slice g.2.2.1 g.2.1.length g.2.2.2),(42,.int .i64 (f.code.length:Int)),(43,.int .i64 (g.1:Int))]) (fun g=>aj (.slice g.2.2.1 g.2.1.length g.2.2.2) g.2.1::gO (⟨gx,fs,f,A,c,A1,c1,A2,c2,some ⟨ga,0,none⟩,f.code.length,some ⟨gm,0,none⟩,f.code.length⟩:FC) s hd L At ct) (0,[],none,0) (⟨Nat.zero_le _,.nil_⟩) ⟨rfl,rfl,rfl,rfl,trivial⟩ me ?_)
 rintro⟨i,es,Ae,ce⟩ hi'
 try dsimp only
 obtain⟨hi1,hre⟩:i≤f.code.length∧j9 es L (iM s i):=hi'
 have hel:=hre.len
 have hul:=t4 s i
 dsimp only[gO]
 refine ac<|aa<|rn 1 [7,8,42,43,44] rfl<|ae<|ac<|aw rfl (fun hlt=>?_) (fun hlt=>?_)
 ·have hil:i<f.code.length:=by omega
  have hsu:=oE s i
  refine ax (ap ?_)
  refine ac<|aL<|ac<|aa<|rn 2 [7,8,9,42,43] rfl<|ae<|ac<|aa<|rn 3 [7,8,9,42,43,48] rfl<|af (ai fc Fp rfl rfl (by rfl)) rfl rfl ?_
  refine rn 1 [7,8,9,42,43,49,50] rfl<|af (aO eQ eZ (SF.own hF.ml fc) (by omega) rfl rfl rfl) rfl rfl ?_
  refine af (a8 (SF.bool (SF.own hF.ml fc) (by omega)) rfl rfl fF) rfl rfl ?_
  refine ae<|cH rfl (fun hm=>?_) (fun hm=>?_)
  ·rw[if_pos hm] at hsu
   have hin:=hR.el i hil
   refine aa<|rn 5 [7,9,42,43,53,54,57] rfl<|af (ai fc ew rfl rfl (by rfl)) rfl rfl ?_
   refine rn 1 [7,42,43,53,54,58,59] rfl<|af (aO cy bV (SF.own hR.hl fc) (by omega) rfl rfl rfl) rfl rfl ?_
   refine lF (fun w h=>hin.form h fc) ?_
   rintro⟨A3,c3,hv⟩
   rw[hv] at hin
   refine af (a8 (v:= .slice A3 (s.at_.getD i []).length c3) (by rw[←hv];exact SF.hdr (SF.own hR.hl fc) hil) rfl rfl a5) rfl rfl ?_
   refine af (cT (cs:= [_,_]) yk q5 rfl rfl (by rfl)) rfl rfl ?_
   refine ag (bh (cs:= [_,_]) fH lc q5 rfl rfl rfl rfl rfl) rfl rfl (fun g2 _=>?_)
   refine ag (dm (α:=fU) (bytes:=32) ⟨i,.slice A3 (s.at_.getD i []).length c3⟩ [] rfl fH (bM qW) rfl (eA fc fc) (dI ⟨⟨by show (-9223372036854775808:Int)≤(i:Int);omega,by show (i:Int)≤9223372036854775807;omega⟩,rfl⟩) (by omega) (by omega) rfl rfl rfl) rfl rfl (fun⟨A5,c5⟩ _=>?_)
   try dsimp only
   refine rn 1 [7,8,42,43] rfl<|bE (aK (ap ?_))
   refine aa<|af (bH rfl rfl rfl (by omega)) rfl rfl<|rn 1 [7,8,42,43] rfl<|br (i+1,es++ [⟨i,.slice A3 (s.at_.getD i []).length c3⟩],A5,c5) (⟨hil,by rw[hsu];exact hre.snoc rfl hin⟩) (by show _ - _<_ - _;omega) ⟨rfl,rfl,rfl,rfl,trivial⟩ me
  rw[if_neg (by rw[hm];decide)] at hsu
  refine ax (aK (ap ?_))
  refine aa<|af (bH rfl rfl rfl (by omega)) rfl rfl<|rn 1 [7,8,42,43] rfl<|br (i+1,es,Ae,ce) (⟨hil,by rw[hsu];exact hre⟩) (by show _ - _<_ - _;omega) ⟨rfl,rfl,rfl,rfl,trivial⟩ me
 obtain rfl:i=f.code.length:=by omega
 refine bN (aM (aM (cc (ap ?_))))
 refine ac<|aa<|rn 3 [4,5] rfl<|ae<|au<|bD Tryz.results103 (aq rfl) (aq rfl) ?_
 intro w hw
 exact⟨((Ae,ce),es,L),hre,rfl,hw.msub ms⟩
theorem u5 (A:Option Addr) (c:Nat) (fs:List aC) (k:Nat) (w:World) (hs:Sl w (.slice A fs.length c) fs) (hk:k<fs.length) (hok:jp fs (av fs k)) (hn0:0<(av fs k).code.length) :
  Calls Tryz.prog 103 #[.agg #[.slice A fs.length c],.int .i64 (k:Int)] w fun e w'=> ∃g:Option Addr×Nat,True∧e= .returned (.tuple #[.slice g.1 (cD fs (av fs k)).1.length g.2,.bool (cD fs (av fs k)).2])∧
   Cw w.heap.size w [gM (.slice g.1 (cD fs (av fs k)).1.length g.2) (cD fs (av fs k)).1] w':=
 (pw A c fs k w hs hk hok hn0).mono fun e w' ⟨g,h1,h2,h3⟩=>⟨g.1,trivial,by rw[←h1.len];exact h2,by rw[←h1.len];exact yR (Hel:= [aj (.slice g.1.1 g.2.1.length g.1.2) g.2.1,eV g.2.2]) (H:= []) (yc h1) h3⟩
end
section
theorem gV {fs:List aC} {k:Nat} (hk:k<fs.length):av fs k∈fs:=by
 unfold av
 rw[List.getD_eq_getElem?_getD,List.getElem?_eq_getElem hk]
 exact List.getElem_mem hk
theorem gY {fs:List aC} (h:dA fs=0) {k:Nat} (hk:k<fs.length):jp fs (av fs k)∧0<(av fs k).code.length:=by
 obtain⟨_,_,hall⟩:=gA h
 obtain⟨_,_,h3,h4,h5,h6,h7⟩:=ir (hall _ (gV hk))
 obtain⟨h40,_⟩:=mL h6
 refine⟨⟨fun i hi=>?_,fun i hi q hq=>?_,h40⟩,by omega⟩
 ·have hf:=h7 _ (nC hi)
  refine⟨fun hc=>?_,fun hc=>?_,fun j hj=>?_,⟨by omega,by omega⟩⟩
  ·unfold en at hf
   rw[if_pos hc] at hf
   have:=jb.1 hf
   omega
  ·unfold en at hf
   rw[if_neg (by omega),if_neg (by omega),if_pos hc] at hf
   have:=jb.1 hf
   omega
  obtain⟨g1,g2,_⟩:=ir (hall _ (gV hj))
  exact⟨g2,g1⟩
 have hf:=h7 _ (nC hi)
 have hg:=(my (bB (av fs k).code i) i q).1 hq
 have hjz:((bB (av fs k).code i).c=10∨(bB (av fs k).code i).c=11)→0≤(bB (av fs k).code i).a∧(bB (av fs k).code i).a<(av fs k).code.length:=fun hc=>by
  unfold en at hf
  rw[if_neg (by omega),if_pos hc] at hf
  have:=jb.1 hf
  omega
 unfold fq at hg
 split at hg
 ·simp at hg
 split at hg
 ·rename_i hc
  have:=hjz (.inl hc)
  simp at hg
  omega
 split at hg
 ·rename_i hc
  have:=hjz (.inr hc)
  simp at hg
  omega
 simp at hg
 omega
def FP (fs:List aC) (z:Int):List gT×Int:=
 if dA fs≠0 then ([],dA fs) else if z<0∨(fs.length:Int)≤z then ([],3) else if (cD fs (av fs z.toNat)).2=true then ((cD fs (av fs z.toNat)).1,0) else ([],4)
def dU (fs:List aC):Int:=if dA fs≠0 then dA fs else if fs.all (fun f=>(cD fs f).2)=true then 0 else 4
theorem nV {α:Type} {p:α→Bool} {l:List α} {k:Nat} (d:α) (hk:k<l.length):(l.take (k+1)).all p=((l.take k).all p && p (l.getD k d)):=by
 rw[List.take_add_one,List.getElem?_eq_getElem hk,List.getD_eq_getElem?_getD,List.getElem?_eq_getElem hk,List.all_append]
 simp
set_option maxRecDepth 100000 in
set_option maxHeartbeats 1000000 in
theorem rL (A:Option Addr) (c:Nat) (fs:List aC) (w:World) (hs:Sl w (.slice A fs.length c) fs) :
  Calls Tryz.prog 55 #[.agg #[.slice A fs.length c]] w fun e w'=>e= .returned (.int .i64 (dU fs))∧Below w.heap.size w w':=by
 have b1:=bO hs
 refine enter Tryz.func55 rfl Tryz.ntmps55 rfl ?_
 refine ac<|aa<|ag (bF rfl rfl rfl) rfl rfl (fun g1 _=>?_)
 refine rn 1 [1] rfl<|ae<|ac<|ac<|aa<|af (aQ (vs:= [_]) fc cE cg rfl rfl (by rfl) rfl) rfl rfl ?_
 refine ag (bK rfl rfl rfl Tryz.call102 (fun w hw=>wH A c fs w (hw.ro hs))) rfl rfl (fun _ _=>?_)
 refine rn 1 [1,3] rfl<|ae<|ac<|aa<|rn 2 [1,3,10] rfl<|ae<|b9 rfl (fun h0=>?_) (fun h0=>?_)
 ·refine ac<|aa<|rn 2 [2] rfl<|ae<|au (ak ?_)
  refine aA ES (aq rfl) ?_
  intro w hw
  exact⟨dV (by unfold dU;rw[if_pos h0]),hw.below⟩
 have hp:dU fs=if fs.all (fun f=>(cD fs f).2)=true then 0 else 4:=by unfold dU;rw[if_neg (by simpa using h0)]
 refine ax (ap ?_)
 refine ac<|ac<|aa<|rn 1 [1,12] rfl<|af (ai fc cQ rfl rfl (by rfl)) rfl rfl ?_
 refine af (aN bI rfl rfl) rfl rfl<|rn 1 [1,14,15] rfl<|ae<|aL (b8 (fun k:Nat=>k≤fs.length∧(fs.take k).all (fun f=>(cD fs f).2)=true) (fun k=>fs.length - k) (fun k=> [(1,.pointer (some ⟨g1,0,none⟩)),(14,.int .i64 (fs.length:Int)),(15,.int .i64 (k:Int))]) (fun _=> [am g1 [.slice A fs.length c] 24]) 0 (⟨Nat.zero_le _,rfl⟩) ⟨rfl,rfl,rfl,trivial⟩ me ?_)
 rintro k hk'
 obtain⟨hk,hall⟩:k≤fs.length∧(fs.take k).all (fun f=>(cD fs f).2)=true:=hk'
 refine ac<|aa<|rn 1 [1,14,15,16] rfl<|ae<|ac<|aw rfl (fun hlt=>?_) (fun hlt=>?_)
 ·have hkl:k<fs.length:=by omega
  obtain⟨hok,hn0⟩:=gY h0 hkl
  have hsn:=nV (p:=fun f=>(cD fs f).2) (default:aC) hkl
  refine ax (ap ?_)
  refine ac<|aL<|ac<|aa<|rn 2 [1,4,14,15] rfl<|ae<|ac<|aa<|af (aQ (vs:= [_]) fc cE cg rfl rfl (by rfl) rfl) rfl rfl ?_
  refine rn 1 [1,14,15,19,20] rfl<|ag (cO rfl rfl rfl Tryz.call103 (fun w hw=>u5 A c fs k w (hw.ro hs) hkl hok hn0)) rfl rfl (fun⟨A1,c1⟩ _=>?_)
  try dsimp only
  refine rn 5 [1,6,14,15] rfl<|ae<|ac<|aa<|rn 2 [1,14,15,25] rfl<|ae<|cH rfl (fun h3=>?_) (fun h3=>?_)
  ·have h3:(cD fs (av fs k)).2=false:=by simpa using h3
   refine ac<|aa<|rn 1 [2] rfl<|ae<|au (aG (ak (ak (aG (ak ?_)))))
   refine aA ES (aq rfl) ?_
   intro w hw
   refine⟨dV ?_,hw.below⟩
   rw[hp,if_neg]
   intro h
   rw[List.all_eq_true] at h
   have:=h _ (gV hkl)
   rw[h3] at this
   cases this
  have h3:(cD fs (av fs k)).2=true:=by simpa using h3
  refine ax (aK (ap ?_))
  refine aa<|af (bH rfl rfl rfl (by omega)) rfl rfl<|rn 1 [1,14,15] rfl<|br (k+1) (⟨hkl,by rw[hsn,hall];exact h3⟩) (by show _ - _<_ - _;omega) ⟨rfl,rfl,rfl,trivial⟩ me
 obtain rfl:k=fs.length:=by omega
 rw[List.take_length] at hall
 refine bN (aM (aM (cc (ap ?_))))
 refine ac<|aa<|rn 1 [2] rfl<|ae<|au<|aA ES (aq rfl) ?_
 intro w hw
 exact⟨dV (by rw[hp,if_pos hall]),hw.below⟩
end
section
instance:fY aC l0 where
 parts h f:= [aj h.v1 f.locals,aj h.v2 f.code]
 ok h f:=h.p=f.params∧h.r=f.result
 kk:=rfl
 tt:=rfl
 opn {w F cs f} h:=by
  obtain⟨v1,v2,F1,F2,hcs,hi,h1,h2,hd,hF⟩:=h
  obtain⟨A1,c1,e1,_⟩:=h1.sl.form
  obtain⟨A2,c2,e2,_⟩:=h2.sl.form
  refine⟨⟨f.params,v1,f.result,v2⟩,⟨hcs,hi,by rw[e1];rfl,by rw[e2];rfl⟩,⟨rfl,rfl⟩,F1,F2,h1,⟨F2,fun _=>False,h2,fun _ h=>h,fun _ _ h=>h,fun b=>by simp⟩,hd,hF⟩
 cls {w F h f} hwf hok hH:=by
  obtain⟨F1,F2,h1,⟨F3,F4,h3,h4,h5,h6⟩,hd,hF⟩:=hH
  have e:∀b,F2 b↔F3 b:=fun b=>by rw[h6 b];simp[show¬F4 b from h4 b]
  refine⟨h.v1,h.v2,F1,F3,?_,?_,h1,h3,fun b hb hb'=>hd b hb ((e b).2 hb'),fun b=>by rw[hF b,e b]⟩
  ·show [.int .i64 h.p,h.v1,.int .i64 h.r,h.v2]=_
   rw[hok.1,hok.2]
  rw[←hok.1,←hok.2];exact hwf.1
def F9 (fs:List aC):Prop:=fs.length*64≤140737488355328∧∀f∈fs,f.locals.length*8≤140737488355328∧f.code.length*16≤140737488355328
theorem Cw.oform {α:Type} [Ow α] {B:Nat} {w0 w:World} {H H':List bj} {v:Value} {xs:List α} (hw:Cw B w0 H w) (hp:cC H (aj v xs) H'):∃A c,v= .slice A xs.length c:=by
 obtain⟨F,h,_⟩:=hw.rd hp
 obtain⟨A,c,e,_⟩:=cS.sl (show cS w F v xs from h) |>.form
 exact⟨A,c,e⟩
end
section
def lW:List aC:= [⟨0,[],0,Eq⟩]
def F8:List aC:= [⟨0,[],0,[⟨2,0⟩,⟨13,0⟩]⟩]
end
section
theorem xm (a b:Int):dv a b=dv b a:=by
 unfold dv cq
 by_cases h1:a=b
 ·simp[h1]
 have h1':¬b=a:=fun e=>h1 e.symm
 by_cases h2:a=3∧b=2
 ·obtain⟨rfl,rfl⟩:=h2;simp
 by_cases h3:b=3∧a=2
 ·obtain⟨rfl,rfl⟩:=h3;simp
 simp[h1,h1',h2,h3]
theorem wV:∀(a b:List Int),bY a b=bY b a
 | [],[]=>rfl
 | [],_::_=>rfl
 | _::_,[]=>rfl
 | a::l,b::m=>by simp only[bY];rw[xm a b,wV l m]
theorem t3 {t:Int} (h:1≤t∧t≤3):t=1∨t=2∨t=3:=by omega
theorem Bk {a b:Int} (ha:1≤a∧a≤3) (hb:1≤b∧b≤3) (h:dv a b≠0):1≤dv a b∧dv a b≤3:=by
 rcases t3 ha with rfl | rfl | rfl <;> rcases t3 hb with rfl | rfl | rfl <;> revert h <;> decide
theorem vm {a b c:Int} (ha:1≤a∧a≤3) (hb:1≤b∧b≤3) (hc:1≤c∧c≤3) (h1:dv a b≠0) (h2:dv b c≠0):dv (dv a b) c=dv a (dv b c):=by
 rcases t3 ha with rfl | rfl | rfl <;> rcases t3 hb with rfl | rfl | rfl <;> rcases t3 hc with rfl | rfl | rfl <;> revert h1 h2 <;> decide
theorem zi {a b c:Int} (ha:1≤a∧a≤3) (hb:1≤b∧b≤3) (hc:1≤c∧c≤3) (h1:dv a b≠0) (h2:dv b c=0):dv (dv a b) c=0:=by
 rcases t3 ha with rfl | rfl | rfl <;> rcases t3 hb with rfl | rfl | rfl <;> rcases t3 hc with rfl | rfl | rfl <;> revert h1 h2 <;> decide
theorem uk {a b:Int} (h:dv a b≠0):cq a (dv a b)=true∧cq b (dv a b)=true:=by
 have r:∀x:Int,cq x x=true:=fun x=>by unfold cq;simp
 unfold dv at h⊢
 by_cases h1:cq a b=true
 ·rw[if_pos h1];exact⟨h1,r b⟩
 rw[if_neg h1] at h⊢
 by_cases h2:cq b a=true
 ·rw[if_pos h2];exact⟨r a,h2⟩
 rw[if_neg h2] at h;exact absurd rfl h
theorem jf {a b:Int} {l m j:List Int} (h:bY (a::l) (b::m)=some j):dv a b≠0∧∃k,bY l m=some k∧j=dv a b::k:=by
 simp only[bY] at h
 split at h
 ·cases h
 rename_i h0
 cases e:bY l m with
 | none=>rw[e] at h;cases h
 | some k=>
  rw[e] at h
  simp only[Option.map_some,Option.some.injEq] at h
  exact⟨h0,k,rfl,h.symm⟩
theorem tN:∀{a b j:List Int},bY a b=some j→(∀t∈a,1≤t∧t≤3)→(∀t∈b,1≤t∧t≤3)→∀t∈j,1≤t∧t≤3
 | [],[],j,h,_,_=>by simp[bY] at h;subst h;simp
 | [],_::_,j,h,_,_=>by simp[bY] at h
 | _::_,[],j,h,_,_=>by simp[bY] at h
 | a::l,b::m,j,h,ha,hb=>by
  obtain⟨h0,k,hk,rfl⟩:=jf h
  intro t ht
  rcases List.mem_cons.1 ht with rfl | ht
  ·exact Bk (ha a (by simp)) (hb b (by simp)) h0
  exact tN hk (fun t h=>ha t (by simp[h])) (fun t h=>hb t (by simp[h])) t ht
theorem wU:∀{a:List Int},(∀t∈a,1≤t∧t≤3)→bY a a=some a
 | [],_=>rfl
 | a::l,h=>by
  have ha:=h a (by simp)
  have e:dv a a=a:=by unfold dv cq;simp
  simp only[bY]
  rw[if_neg (by rw[e];omega),wU (fun t ht=>h t (by simp[ht])),e]
  rfl
theorem mF:∀{a b j:List Int} {i:Nat},bY a b=some j→i<j.length→cq (a.getD i 0) (j.getD i 0)=true∧cq (b.getD i 0) (j.getD i 0)=true
 | [],[],j,i,h,hi=>by simp[bY] at h;subst h;simp at hi
 | [],_::_,j,_,h,_=>by simp[bY] at h
 | _::_,[],j,_,h,_=>by simp[bY] at h
 | a::l,b::m,j,i,h,hi=>by
  obtain⟨h0,k,hk,rfl⟩:=jf h
  cases i with
  | zero=>exact uk h0
  | succ i=>
   have:=mF (i:=i) hk (by simpa using hi)
   simpa using this
theorem uW:∀{a b c x r:List Int},(∀t∈a,1≤t∧t≤3)→(∀t∈b,1≤t∧t≤3)→(∀t∈c,1≤t∧t≤3)→bY a b=some x→bY b c=some r→bY x c=bY a r
 | [],[],[],x,r,_,_,_,h1,h2=>by simp[bY] at h1 h2;subst h1 h2;rfl
 | [],[],_::_,_,_,_,_,_,_,h=>by simp[bY] at h
 | [],_::_,_,_,_,_,_,_,h,_=>by simp[bY] at h
 | _::_,[],_,_,_,_,_,_,h,_=>by simp[bY] at h
 | _::_,_::_,[],_,_,_,_,_,_,h=>by simp[bY] at h
 | a::l,b::m,c::n,x,r,ha,hb,hc,h1,h2=>by
  obtain⟨h3,k,hk,rfl⟩:=jf h1
  obtain⟨h4,q,hq,rfl⟩:=jf h2
  simp only[bY]
  rw[vm (ha a (by simp)) (hb b (by simp)) (hc c (by simp)) h3 h4,uW (fun t h=>ha t (by simp[h])) (fun t h=>hb t (by simp[h])) (fun t h=>hc t (by simp[h])) hk hq]
theorem yF:∀{a b c x:List Int},(∀t∈a,1≤t∧t≤3)→(∀t∈b,1≤t∧t≤3)→(∀t∈c,1≤t∧t≤3)→bY a b=some x→bY b c=none→bY x c=none
 | [],[],[],x,_,_,_,h1,h2=>by simp[bY] at h2
 | [],[],_::_,x,_,_,_,h1,_=>by simp[bY] at h1;subst h1;rfl
 | [],_::_,_,_,_,_,_,h,_=>by simp[bY] at h
 | _::_,[],_,_,_,_,_,h,_=>by simp[bY] at h
 | a::l,b::m,[],x,_,_,_,h,_=>by
  obtain⟨_,k,_,rfl⟩:=jf h
  rfl
 | a::l,b::m,c::n,x,ha,hb,hc,h1,h2=>by
  obtain⟨h3,k,hk,rfl⟩:=jf h1
  simp only[bY] at h2⊢
  by_cases h4:dv b c=0
  ·rw[if_pos (zi (ha a (by simp)) (hb b (by simp)) (hc c (by simp)) h3 h4)]
  rw[if_neg h4] at h2
  have h5:bY m n=none:=by
   cases e:bY m n with
   | none=>rfl
   | some q=>rw[e] at h2;cases h2
  rw[yF (fun t h=>ha t (by simp[h])) (fun t h=>hb t (by simp[h])) (fun t h=>hc t (by simp[h])) hk h5]
  split <;> rfl
set_option maxRecDepth 100000 in
theorem mD (t o:Int) (w:World):Calls Tryz.prog 145 #[.int .i64 t,.int .i64 o] w fun e w'=>e= .returned (.bool (cq t o))∧Below w.heap.size w w':=by
 refine enter Tryz.func145 rfl Tryz.ntmps145 rfl ?_
 refine ac<|aa<|rn 1 [0,1] rfl<|ae<|ac<|aa<|rn 4 [0,1,8] rfl<|bw (t:=8) rfl (fun h1=>?_) (fun h1=>?_)
 ·have h1:=of_decide_eq_true h1
  refine rn 8 [4] rfl<|ae<|au<|aA D0 (aq rfl) ?_
  intro w hw
  exact⟨bt (by unfold cq;rw[decide_eq_true h1];rfl),hw.below⟩
 have h1:=of_decide_eq_false h1
 refine rn 3 [1,8,11] rfl<|bw (t:=11) rfl (fun h2=>?_) (fun h2=>?_)
 ·have h2:=of_decide_eq_true h2
  refine rn 5 [4] rfl<|ae<|au<|aA D0 (aq rfl) ?_
  intro w hw
  exact⟨bt (by unfold cq;rw[decide_eq_false h1,decide_eq_true h2];rfl),hw.below⟩
 have h2:=of_decide_eq_false h2
 refine rn 5 [4] rfl<|ae<|au<|aA D0 (aq rfl) ?_
 intro w hw
 exact⟨bt (by unfold cq;rw[decide_eq_false h1,decide_eq_false h2];rfl),hw.below⟩
end
section
def Le (a b:List Int):Prop:=a.length=b.length∧∀i,i<a.length→cq (a.getD i 0) (b.getD i 0)=true
theorem BO (t:Int):cq t t=true:=by unfold cq;simp
theorem qi {a b:Int} :cq a b=true↔a=b∨(a=3∧b=2):=by unfold cq;simp
theorem zR {a b c:Int} (h1:cq a b=true) (h2:cq b c=true):cq a c=true:=by
 rw[qi] at *;omega
theorem BP {a b:Int} (h1:cq a b=true) (h2:cq b a=true):a=b:=by
 rw[qi] at *;omega
theorem Le.refl (a:List Int):Le a a:=⟨rfl,fun _ _=>BO _⟩
theorem Le.trans {a b c:List Int} (h1:Le a b) (h2:Le b c):Le a c:=⟨h1.1.trans h2.1,fun i hi=>zR (h1.2 i hi) (h2.2 i (by rw[←h1.1];exact hi))⟩
theorem AT {a b:List Int} (hl:a.length=b.length) (h:∀i,i<a.length→a.getD i 0=b.getD i 0):a=b:=by
 apply List.ext_getElem hl
 intro i h1 h2
 have:=h i h1
 rwa [List.getD_eq_getElem?_getD,List.getElem?_eq_getElem h1,List.getD_eq_getElem?_getD,List.getElem?_eq_getElem h2] at this
theorem Le.anti {a b:List Int} (h1:Le a b) (h2:Le b a):a=b:=AT h1.1 fun i hi=>BP (h1.2 i hi) (h2.2 i (by rw[←h1.1];exact hi))
theorem fQ {l:List Int} {k i:Nat} (h:i<k):(l.take k).getD i 0=l.getD i 0:=by
 rw[List.getD_eq_getElem?_getD,List.getElem?_take,if_pos h,←List.getD_eq_getElem?_getD]
theorem gw {l:List Int} {k i:Nat} :(l.drop k).getD i 0=l.getD (k+i) 0:=by
 rw[List.getD_eq_getElem?_getD,List.getElem?_drop,←List.getD_eq_getElem?_getD]
theorem rZ {l m:List Int} {i:Nat} (h:i<l.length):(l++m).getD i 0=l.getD i 0:=by
 rw[List.getD_eq_getElem?_getD,List.getElem?_append_left h,←List.getD_eq_getElem?_getD]
theorem rY {l m:List Int} {i:Nat} (h:l.length≤i):(l++m).getD i 0=m.getD (i - l.length) 0:=by
 rw[List.getD_eq_getElem?_getD,List.getElem?_append_right h,←List.getD_eq_getElem?_getD]
theorem Le.take {a b:List Int} (h:Le a b) (k:Nat):Le (a.take k) (b.take k):=⟨by rw[List.length_take,List.length_take,h.1],fun i hi=>by
 rw[List.length_take] at hi
 rw[fQ (by omega),fQ (by omega)]
 exact h.2 i (by omega)⟩
theorem Le.drop {a b:List Int} (h:Le a b) (k:Nat):Le (a.drop k) (b.drop k):=⟨by rw[List.length_drop,List.length_drop,h.1],fun i hi=>by
 rw[List.length_drop] at hi
 rw[gw,gw]
 exact h.2 _ (by omega)⟩
theorem Le.app {a b c d:List Int} (h1:Le a b) (h2:Le c d):Le (a++c) (b++d):=⟨by rw[List.length_append,List.length_append,h1.1,h2.1],fun i hi=>by
 rw[List.length_append] at hi
 by_cases h:i<a.length
 ·rw[rZ h,rZ (by rw[←h1.1];exact h)];exact h1.2 i h
 rw[rY (by omega),rY (by rw[←h1.1];omega),←h1.1];exact h2.2 _ (by omega)⟩
theorem kA {l:List Int} {w:Bool} (h:0<l.length):fi (l,w)=(l.getD (l.length - 1) 0,l.take (l.length - 1),w):=by unfold fi;rw[if_neg (by show¬l.length=0;omega)]
theorem tq {w:Bool} :fi ([],w)=(0,[],true):=rfl
theorem np (xs:List Int):∀(k:Nat) (l:List Int),(dM xs k (l,true)).2=true
 | 0,_=>rfl
 | k+1,l=>by
  unfold dM
  rcases Nat.eq_zero_or_pos l.length with h | h
  ·have:l= []:=List.eq_nil_of_length_eq_zero h
   subst this
   rw[tq]
   exact np xs k _
  rw[kA h]
  exact np xs k _
theorem mC (xs:List Int):∀(k:Nat) (l:List Int) (w:Bool),l.length<k→(dM xs k (l,w)).2=true
 | 0,_,_,h=>absurd h (Nat.not_lt_zero _)
 | k+1,l,w,h=>by
  unfold dM
  rcases Nat.eq_zero_or_pos l.length with h0 | h0
  ·have:l= []:=List.eq_nil_of_length_eq_zero h0
   subst this
   rw[tq]
   exact np xs k _
  rw[kA h0]
  exact mC xs k _ _ (by rw[List.length_take];omega)
theorem ku (xs:List Int):∀(k:Nat) (l:List Int) (w:Bool),k≤l.length→k≤xs.length→
  (dM xs k (l,w)).1=l.take (l.length - k)∧((dM xs k (l,w)).2=false↔w=false∧Le (l.drop (l.length - k)) (xs.take k))
 | 0,l,w,_,_=>by
  refine⟨by simp[dM],?_⟩
  simp only[dM]
  constructor
  ·intro h;exact⟨h,by rw[Nat.sub_zero,List.drop_length,List.take_zero];exact .refl _⟩
  exact fun h=>h.1
 | k+1,l,w,h,hx=>by
  unfold dM
  rw[kA (by omega)]
  obtain⟨i1,i2⟩:=ku xs k (l.take (l.length - 1)) (w || !cq (l.getD (l.length - 1) 0) (xs.getD k 0)) (by rw[List.length_take];omega) (by omega)
  have hl:(l.take (l.length - 1)).length=l.length - 1:=by rw[List.length_take];omega
  rw[hl] at i1 i2
  refine⟨?_,?_⟩
  ·rw[i1,List.take_take]
   congr 1
   omega
  show (dM xs k (l.take (l.length - 1),w || !cq (l.getD (l.length - 1) 0) (xs.getD k 0))).2=false↔_
  rw[i2]
  have hq:l.length - 1 - k=l.length - (k+1):=by omega
  rw[hq]
  constructor
  ·rintro⟨h1,h2⟩
   simp only[Bool.or_eq_false_iff,Bool.not_eq_false'] at h1
   refine⟨h1.1,by rw[List.length_drop,List.length_take];omega,fun i hi=>?_⟩
   rw[List.length_drop] at hi
   by_cases e:i=k
   ·subst e
    rw[gw,fQ (by omega),show l.length - (i+1)+i=l.length - 1 from by omega]
    exact h1.2
   have:=h2.2 i (by rw[List.length_drop,hl];omega)
   rw[gw,fQ (by omega),fQ (by omega)] at this
   rw[gw,fQ (by omega)]
   exact this
  rintro⟨h1,h2⟩
  simp only[Bool.or_eq_false_iff,Bool.not_eq_false']
  have hk:=h2.2 k (by rw[List.length_drop];omega)
  rw[gw,fQ (by omega),show l.length - (k+1)+k=l.length - 1 from by omega] at hk
  refine⟨⟨h1,hk⟩,by rw[List.length_drop,hl,List.length_take];omega,fun i hi=>?_⟩
  rw[List.length_drop,hl] at hi
  have:=h2.2 i (by rw[List.length_drop];omega)
  rw[gw,fQ (by omega)] at this
  rw[gw,fQ (by omega),fQ (by omega)]
  exact this
def tl (fs:List aC) (f:aC) (o:cn) (s:List Int):Option (List Int×List Int):=
 if o.c=2 then (if s.length<1 then none else some (s.drop (s.length - 1),[])) else
 if o.c=3 then (if s.length<1 then none else some (s.drop (s.length - 1),[s.getD (s.length - 1) 0,s.getD (s.length - 1) 0])) else
 if o.c=4 then (if s.length<2 then none else some (s.drop (s.length - 2),[s.getD (s.length - 1) 0,s.getD (s.length - 2) 0])) else
 if o.c=8 then some ([],[f.locals.getD o.a.toNat 0]) else if o.c=9 then some ([f.locals.getD o.a.toNat 0],[]) else
 if o.c=12 then some (eb (av fs o.a.toNat),bU (av fs o.a.toNat)) else
 if o.c=13 then (if s.length≠(bU f).length then none else some (bU f,[])) else some ((cB o.c).1,(cB o.c).2)
def eX (fs:List aC) (f:aC) (o:cn) (s:List Int):Option (List Int):=if (jS fs f o (s,false)).2=true then none else some (jS fs f o (s,false)).1
theorem jI {fs:List aC} {f:aC} {o:cn} {s T V:List Int} (h0:fW fs f o (s,false)=nv (dM T T.length (s,false)) V) :
  eX fs f o s=if T.length≤s.length∧(s.take (s.length - T.length)++V).length≤8∧(dM T T.length (s,false)).2=false then some (s.take (s.length - T.length)++V) else none:=by
 obtain⟨l',w',e⟩:∃l' w',dM T T.length (s,false)=(l',w'):=⟨_,_,rfl⟩
 have h1:eX fs f o s=if (w' || decide (8<(l'++V).length))=true then none else some (l'++V):=by
  unfold eX jS
  rw[h0,e]
  rfl
 rw[h1,e]
 by_cases hl:T.length≤s.length
 ·obtain⟨e1,e2⟩:=ku T T.length s false hl (Nat.le_refl _)
  rw[e] at e1
  have e1:l'=s.take (s.length - T.length):=e1
  subst e1
  by_cases h8:(s.take (s.length - T.length)++V).length≤8
  ·cases w'
   ·rw[decide_eq_false (by omega)]
    exact(if_pos ⟨hl,h8,rfl⟩).symm
   rw[Bool.true_or]
   exact(if_neg (fun h=>by cases h.2.2)).symm
  rw[decide_eq_true (by omega),Bool.or_true]
  exact(if_neg (fun h=>h8 h.2.1)).symm
 have:=mC T T.length s false (by omega)
 rw[e] at this
 have this:w'=true:=this
 subst this
 rw[Bool.true_or]
 exact(if_neg (fun h=>hl h.1)).symm
theorem pI {s:List Int} {k:Nat} (h:k+1≤s.length):dM (s.drop (s.length - (k+1))) (k+1) (s,false)=(s.take (s.length - (k+1)),false):=by
 obtain⟨e1,e2⟩:=ku (s.drop (s.length - (k+1))) (k+1) s false h (by rw[List.length_drop];omega)
 have:(dM (s.drop (s.length - (k+1))) (k+1) (s,false)).2=false:=e2.2 ⟨rfl,by rw[List.take_of_length_le (by rw[List.length_drop];omega)];exact .refl _⟩
 exact Prod.ext e1 this
theorem vw (fs:List aC) (f:aC) (o:cn) (s:List Int):eX fs f o s=match tl fs f o s with
  | none=>none
  | some (T,V)=>if T.length≤s.length∧(s.take (s.length - T.length)++V).length≤8∧(dM T T.length (s,false)).2=false then some (s.take (s.length - T.length)++V) else none:=by
 unfold tl
 by_cases h2:o.c=2
 ·rw[if_pos h2]
  by_cases hl:s.length<1
  ·rw[if_pos hl]
   have:s= []:=List.eq_nil_of_length_eq_zero (by omega)
   subst this
   unfold eX jS fW
   rw[if_pos h2]
   rfl
  rw[if_neg hl]
  have e:=pI (s:=s) (k:=0) (by omega)
  have hd:(s.drop (s.length - 1)).length=1:=by rw[List.length_drop];omega
  refine jI ?_
  rw[hd,e]
  unfold fW
  rw[if_pos h2,kA (by omega)]
  simp[nv]
 rw[if_neg h2]
 by_cases h3:o.c=3
 ·rw[if_pos h3]
  by_cases hl:s.length<1
  ·rw[if_pos hl]
   have:s= []:=List.eq_nil_of_length_eq_zero (by omega)
   subst this
   unfold eX jS fW
   rw[if_neg h2,if_pos h3]
   rfl
  rw[if_neg hl]
  have e:=pI (s:=s) (k:=0) (by omega)
  have hd:(s.drop (s.length - 1)).length=1:=by rw[List.length_drop];omega
  refine jI ?_
  rw[hd,e]
  unfold fW
  rw[if_neg h2,if_pos h3,kA (by omega)]
 rw[if_neg h3]
 by_cases h4:o.c=4
 ·rw[if_pos h4]
  by_cases hl:s.length<2
  ·rw[if_pos hl]
   unfold eX jS fW
   rw[if_neg h2,if_neg h3,if_pos h4]
   rcases Nat.eq_zero_or_pos s.length with h0 | h0
   ·have:s= []:=List.eq_nil_of_length_eq_zero h0
    subst this
    rfl
   obtain⟨t,rfl⟩:∃t,s= [t]:=by
    match s,h0,hl with
    | [t],_,_=>exact⟨t,rfl⟩
   rfl
  rw[if_neg hl]
  have e:=pI (s:=s) (k:=1) (by omega)
  have hd:(s.drop (s.length - 2)).length=2:=by rw[List.length_drop];omega
  refine jI ?_
  rw[hd,e]
  unfold fW
  have hl1:(s.take (s.length - 1)).length=s.length - 1:=by rw[List.length_take];omega
  have p1:fi (s,false)=(s.getD (s.length - 1) 0,s.take (s.length - 1),false):=kA (by omega)
  have p2:fi (s.take (s.length - 1),false)=(s.getD (s.length - 2) 0,s.take (s.length - 2),false):=by
   rw[kA (by rw[hl1];omega),hl1,List.take_take,fQ (by omega),show min (s.length - 1 - 1) (s.length - 1)=s.length - 2 from by omega,show s.length - 1 - 1=s.length - 2 from by omega]
  rw[if_neg h2,if_neg h3,if_pos h4]
  simp only[p1,p2]
 rw[if_neg h4]
 by_cases h8:o.c=8
 ·rw[if_pos h8]
  refine jI ?_
  unfold fW
  rw[if_neg h2,if_neg h3,if_neg h4,if_pos h8]
  rfl
 rw[if_neg h8]
 by_cases h9:o.c=9
 ·rw[if_pos h9]
  refine jI ?_
  unfold fW
  rw[if_neg h2,if_neg h3,if_neg h4,if_neg h8,if_pos h9]
  simp[nv]
 rw[if_neg h9]
 by_cases h12:o.c=12
 ·rw[if_pos h12]
  refine jI ?_
  unfold fW
  rw[if_neg h2,if_neg h3,if_neg h4,if_neg h8,if_neg h9,if_pos h12]
 rw[if_neg h12]
 by_cases h13:o.c=13
 ·rw[if_pos h13]
  have hS0:fW fs f o (s,false)=((dM (bU f) (bU f).length (s,false)).1,(dM (bU f) (bU f).length (s,false)).2 || decide (0<(dM (bU f) (bU f).length (s,false)).1.length)):=by
   unfold fW
   rw[if_neg h2,if_neg h3,if_neg h4,if_neg h8,if_neg h9,if_neg h12,if_pos h13]
  by_cases hl:s.length≠(bU f).length
  ·rw[if_pos hl]
   have:(fW fs f o (s,false)).2=true:=by
    rw[hS0]
    by_cases hs:s.length<(bU f).length
    ·rw[mC _ _ _ _ hs];rfl
    rw[(ku (bU f) _ s false (by omega) (Nat.le_refl _)).1,List.length_take,decide_eq_true (by omega),Bool.or_true]
   unfold eX jS
   rw[this]
   rfl
  rw[if_neg hl]
  have hl:s.length=(bU f).length:=by simpa using hl
  refine jI ?_
  have e1:=(ku (bU f) _ s false (by omega) (Nat.le_refl _)).1
  rw[hl,Nat.sub_self,List.take_zero] at e1
  rw[hS0]
  obtain⟨l',w',e⟩:∃l' w',dM (bU f) (bU f).length (s,false)=(l',w'):=⟨_,_,rfl⟩
  rw[e] at e1⊢
  have e1:l'= []:=e1
  subst e1
  simp[nv]
 rw[if_neg h13]
 refine jI ?_
 unfold fW
 rw[if_neg h2,if_neg h3,if_neg h4,if_neg h8,if_neg h9,if_neg h12,if_neg h13]
end
section
theorem gG {fs:List aC} {f:aC} {o:cn} {s v:List Int} :eX fs f o s=some v↔
  ∃T V,tl fs f o s=some (T,V)∧T.length≤s.length∧(s.take (s.length - T.length)++V).length≤8∧Le (s.drop (s.length - T.length)) T∧v=s.take (s.length - T.length)++V:=by
 have hf:∀T:List Int,T.length≤s.length→((dM T T.length (s,false)).2=false↔Le (s.drop (s.length - T.length)) T):=fun T hT=>by
  rw[(ku T T.length s false hT (Nat.le_refl _)).2,List.take_length]
  simp
 rw[vw]
 constructor
 ·intro h
  cases e:tl fs f o s with
  | none=>rw[e] at h;cases h
  | some p=>
   obtain⟨T,V⟩:=p
   rw[e] at h
   simp only[] at h
   split at h
   ·rename_i hc
    simp only[Option.some.injEq] at h
    exact⟨T,V,rfl,hc.1,hc.2.1,(hf T hc.1).1 hc.2.2,h.symm⟩
   cases h
 rintro⟨T,V,e,h1,h2,h3,rfl⟩
 rw[e]
 simp only[]
 rw[if_pos ⟨h1,h2,(hf T h1).2 h3⟩]
theorem BJ {fs:List aC} {f:aC} {o:cn} {a b T V:List Int} (h:Le a b) (e:tl fs f o b=some (T,V)) (hT:Le (b.drop (b.length - T.length)) T) (hl:T.length≤b.length) :
  ∃T' V',tl fs f o a=some (T',V')∧T'.length=T.length∧Le (a.drop (a.length - T.length)) T'∧Le V' V:=by
 have hlen:=h.1
 have fix:∀T V:List Int,Le (b.drop (b.length - T.length)) T→Le (a.drop (a.length - T.length)) T:=fun T V hT=>by rw[hlen];exact(h.drop _).trans hT
 have one:∀i,i<a.length→Le [a.getD i 0] [b.getD i 0]:=fun i hi=>⟨rfl,fun j hj=>by
  have:j=0:=by simpa using hj
  subst this
  exact h.2 i hi⟩
 unfold tl at e⊢
 by_cases h2:o.c=2
 ·rw[if_pos h2] at e⊢
  split at e
  ·cases e
  rename_i hb
  simp only[Option.some.injEq,Prod.mk.injEq] at e
  obtain⟨rfl,rfl⟩:=e
  rw[if_neg (by omega)]
  refine⟨_,_,rfl,by rw[List.length_drop,List.length_drop,hlen],?_,.refl _⟩
  rw[List.length_drop,show b.length - (b.length - 1)=1 from by omega]
  exact .refl _
 rw[if_neg h2] at e⊢
 by_cases h3:o.c=3
 ·rw[if_pos h3] at e⊢
  split at e
  ·cases e
  rename_i hb
  simp only[Option.some.injEq,Prod.mk.injEq] at e
  obtain⟨rfl,rfl⟩:=e
  rw[if_neg (by omega)]
  refine⟨_,_,rfl,by rw[List.length_drop,List.length_drop,hlen],?_,?_⟩
  ·rw[List.length_drop,show b.length - (b.length - 1)=1 from by omega]
   exact .refl _
  rw[←hlen]
  exact(one _ (by omega)).app (one _ (by omega))
 rw[if_neg h3] at e⊢
 by_cases h4:o.c=4
 ·rw[if_pos h4] at e⊢
  split at e
  ·cases e
  rename_i hb
  simp only[Option.some.injEq,Prod.mk.injEq] at e
  obtain⟨rfl,rfl⟩:=e
  rw[if_neg (by omega)]
  refine⟨_,_,rfl,by rw[List.length_drop,List.length_drop,hlen],?_,?_⟩
  ·rw[List.length_drop,show b.length - (b.length - 2)=2 from by omega]
   exact .refl _
  rw[←hlen]
  exact(one _ (by omega)).app (one _ (by omega))
 rw[if_neg h4] at e⊢
 by_cases h8:o.c=8
 ·rw[if_pos h8] at e⊢
  simp only[Option.some.injEq,Prod.mk.injEq] at e
  obtain⟨rfl,rfl⟩:=e
  exact⟨_,_,rfl,rfl,fix _ [] hT,.refl _⟩
 rw[if_neg h8] at e⊢
 by_cases h9:o.c=9
 ·rw[if_pos h9] at e⊢
  simp only[Option.some.injEq,Prod.mk.injEq] at e
  obtain⟨rfl,rfl⟩:=e
  exact⟨_,_,rfl,rfl,fix _ [] hT,.refl _⟩
 rw[if_neg h9] at e⊢
 by_cases h12:o.c=12
 ·rw[if_pos h12] at e⊢
  simp only[Option.some.injEq,Prod.mk.injEq] at e
  obtain⟨rfl,rfl⟩:=e
  exact⟨_,_,rfl,rfl,fix _ [] hT,.refl _⟩
 rw[if_neg h12] at e⊢
 by_cases h13:o.c=13
 ·rw[if_pos h13] at e⊢
  split at e
  ·cases e
  rename_i hb
  simp only[Option.some.injEq,Prod.mk.injEq] at e
  obtain⟨rfl,rfl⟩:=e
  rw[if_neg (by omega)]
  exact⟨_,_,rfl,rfl,fix _ [] hT,.refl _⟩
 rw[if_neg h13] at e⊢
 simp only[Option.some.injEq,Prod.mk.injEq] at e
 obtain⟨rfl,rfl⟩:=e
 exact⟨_,_,rfl,rfl,fix _ [] hT,.refl _⟩
theorem mi {fs:List aC} {f:aC} {o:cn} {a b v:List Int} (h:Le a b) (e:eX fs f o b=some v):∃u,eX fs f o a=some u∧Le u v:=by
 obtain⟨T,V,e1,e2,e3,e4,rfl⟩:=gG.1 e
 obtain⟨T',V',k1,k2,k3,k4⟩:=BJ h e1 e4 e2
 have hlen:=h.1
 have hle:Le (a.take (a.length - T'.length)++V') (b.take (b.length - T.length)++V):=by
  rw[k2,hlen]
  exact(h.take _).app k4
 exact⟨_,gG.2 ⟨T',V',k1,by rw[k2,hlen];exact e2,by rw[hle.1];exact e3,by rw[k2];exact k3,rfl⟩,hle⟩
def Ty (l:List Int):Prop:= ∀t∈l,1≤t∧t≤3
structure l4 (fs:List aC) (f:aC):Prop where
 loc:Ty f.locals
 res:∀k,k<fs.length→(0≤(av fs k).result∧(av fs k).result≤2)
theorem Ty.app {a b:List Int} (h1:Ty a) (h2:Ty b):Ty (a++b):=fun t ht=>by
 rcases List.mem_append.1 ht with h | h
 ·exact h1 t h
 exact h2 t h
theorem Ty.at_ {a:List Int} (h:Ty a) {i:Nat} (hi:i<a.length):1≤a.getD i 0∧a.getD i 0≤3:=by
 rw[List.getD_eq_getElem?_getD,List.getElem?_eq_getElem hi]
 exact h _ (List.getElem_mem hi)
theorem Ty.one {t:Int} (h:1≤t∧t≤3):Ty [t]:=fun x hx=>by rw[List.mem_singleton.1 hx];exact h
theorem Ty.two {t u:Int} (h:1≤t∧t≤3) (h2:1≤u∧u≤3):Ty [t,u]:=fun x hx=>by
 rcases List.mem_cons.1 hx with rfl | hx
 ·exact h
 rw[List.mem_singleton.1 hx];exact h2
theorem rf {fs:List aC} {f:aC} {o:cn} {s v:List Int} (ht:l4 fs f) (hok:xB fs f o) (hs:Ty s) (e:eX fs f o s=some v):Ty v:=by
 obtain⟨T,V,e1,e2,e3,e4,rfl⟩:=gG.1 e
 refine Ty.app (fun t h=>hs t (List.mem_of_mem_take h)) ?_
 have nil:Ty []:=fun _ h=>by cases h
 have res:∀k,k<fs.length→Ty (bU (av fs k)):=fun k hk=>by
  unfold bU
  split
  ·exact nil
  rename_i hr
  have:=ht.res k hk
  exact .one (by omega)
 unfold tl at e1
 split at e1
 ·split at e1
  ·cases e1
  simp only[Option.some.injEq,Prod.mk.injEq] at e1
  obtain⟨rfl,rfl⟩:=e1
  exact nil
 split at e1
 ·split at e1
  ·cases e1
  simp only[Option.some.injEq,Prod.mk.injEq] at e1
  obtain⟨rfl,rfl⟩:=e1
  exact .two (hs.at_ (by omega)) (hs.at_ (by omega))
 split at e1
 ·split at e1
  ·cases e1
  simp only[Option.some.injEq,Prod.mk.injEq] at e1
  obtain⟨rfl,rfl⟩:=e1
  exact .two (hs.at_ (by omega)) (hs.at_ (by omega))
 split at e1
 ·rename_i h8
  simp only[Option.some.injEq,Prod.mk.injEq] at e1
  obtain⟨rfl,rfl⟩:=e1
  have:=hok.loc (.inl h8)
  exact .one (ht.loc.at_ (by omega))
 split at e1
 ·simp only[Option.some.injEq,Prod.mk.injEq] at e1
  obtain⟨rfl,rfl⟩:=e1
  exact nil
 split at e1
 ·rename_i h12
  simp only[Option.some.injEq,Prod.mk.injEq] at e1
  obtain⟨rfl,rfl⟩:=e1
  have:=hok.call h12
  exact res _ (by omega)
 split at e1
 ·split at e1
  ·cases e1
  simp only[Option.some.injEq,Prod.mk.injEq] at e1
  obtain⟨rfl,rfl⟩:=e1
  exact nil
 simp only[Option.some.injEq,Prod.mk.injEq] at e1
 obtain⟨rfl,rfl⟩:=e1
 unfold cB
 repeat (first | split | exact nil | exact .one (by decide) | exact .two (by decide) (by decide))
theorem Bj {a b c:Int} (hc:1≤c∧c≤3) (h1:cq a c=true) (h2:cq b c=true):dv a b≠0∧cq (dv a b) c=true:=by
 rw[qi] at h1 h2
 rcases t3 hc with rfl | rfl | rfl
 ·have e1:a=1:=by omega
  have e2:b=1:=by omega
  subst e1 e2;decide
 ·rcases h1 with rfl | ⟨rfl,_⟩ <;> rcases h2 with rfl | ⟨rfl,_⟩ <;> decide
 have e1:a=3:=by omega
 have e2:b=3:=by omega
 subst e1 e2;decide
theorem Le.cons_iff {a b:Int} {l m:List Int} :Le (a::l) (b::m)↔cq a b=true∧Le l m:=by
 constructor
 ·intro h
  refine⟨h.2 0 (by simp),by simpa using h.1,fun i hi=>?_⟩
  have:=h.2 (i+1) (by simpa using hi)
  simpa using this
 rintro⟨h1,h2⟩
 refine⟨by simp[h2.1],fun i hi=>?_⟩
 cases i with
 | zero=>simpa using h1
 | succ i=>simpa using h2.2 i (by simpa using hi)
theorem rx:∀{a b c:List Int},Ty c→Le a c→Le b c→∃j,bY a b=some j∧Le j c
 | [],[],c,_,h,_=>⟨[],rfl,h⟩
 | [],_::_,c,_,h,h'=>by have:=h.1.trans h'.1.symm;simp at this
 | _::_,[],c,_,h,h'=>by have:=h.1.trans h'.1.symm;simp at this
 | a::l,b::m,[],_,h,_=>by have:=h.1;simp at this
 | a::l,b::m,c::n,ht,h,h'=>by
  obtain⟨h1,h2⟩:=Le.cons_iff.1 h
  obtain⟨h3,h4⟩:=Le.cons_iff.1 h'
  obtain⟨k1,k2⟩:=Bj (ht c (by simp)) h1 h3
  obtain⟨j,k3,k4⟩:=rx (fun t h=>ht t (by simp[h])) h2 h4
  refine⟨dv a b::j,?_,Le.cons_iff.2 ⟨k2,k4⟩⟩
  simp only[bY]
  rw[if_neg k1,k3]
  rfl
theorem Cj {a b j:List Int} (h:bY a b=some j):Le a j∧Le b j:=by
 have hl:=iV h
 exact⟨⟨by omega,fun i hi=>(mF h (by omega)).1⟩,⟨by omega,fun i hi=>(mF h (by omega)).2⟩⟩
structure lZ (fs:List aC) (f:aC) (M:Nat→Option (List Int)):Prop where
 m0:M 0=some []
 ok:∀k s,M k=some s→k<f.code.length∧Ty s∧∃v,eX fs f (bB f.code k) s=some v∧∀q∈di (bB f.code k) k,∃s',M q.toNat=some s'∧Le v s'
structure kb (fs:List aC) (f:aC) (s:FSt):Prop where
 m0:s.met.getD 0 false=true
 a0:s.at_.getD 0 []= []
 ty:∀i,s.met.getD i false=true→Ty (s.at_.getD i [])
 le:∀M,lZ fs f M→∀i,s.met.getD i false=true→∃t,M i=some t∧Le (s.at_.getD i []) t
structure Up (s s':FSt):Prop where
 up:∀i,s.met.getD i false=true→s'.met.getD i false=true∧Le (s.at_.getD i []) (s'.at_.getD i [])
 old:∀i,s'.met.getD i false=true→(s.met.getD i false=true∧s'.at_.getD i []=s.at_.getD i [])∨(i:Int)∈s'.todo
 td:∀x∈s.todo,x∈s'.todo
theorem Up.refl (s:FSt):Up s s:=⟨fun _ h=>⟨h,.refl _⟩,fun _ h=> .inl ⟨h,rfl⟩,fun _ h=>h⟩
theorem Up.trans {a b c:FSt} (h1:Up a b) (h2:Up b c):Up a c:=
 ⟨fun i h=>by
  obtain⟨k1,k2⟩:=h1.up i h
  obtain⟨k3,k4⟩:=h2.up i k1
  exact⟨k3,k2.trans k4⟩,fun i h=>by
  rcases h2.old i h with ⟨k1,k2⟩ | k
  ·rcases h1.old i k1 with ⟨k3,k4⟩ | k3
   ·exact .inl ⟨k3,k2.trans k4⟩
   exact .inr (h2.td _ k3)
  exact .inr k,fun x h=>h2.td x (h1.td x h)⟩
theorem qy {n:Nat} {s:FSt} (h:eC n s) {i:Nat} (hm:s.met.getD i false=true):i<n:=by
 rcases Nat.lt_or_ge i n with h' | h'
 ·exact h'
 rw[List.getD_eq_getElem?_getD,List.getElem?_eq_none (by rw[h.ml];exact h')] at hm
 cases hm
theorem Bc {fs:List aC} {f:aC} {s:FSt} (hF:eC f.code.length s) (hI:kb fs f s) {k:Nat} (hk:k≤f.code.length) {l:List Int} (hl:Ty l) (hle:∀M,lZ fs f M→∃t,M k=some t∧Le l t) :
  ((cZ f.code.length s k l).1=true→kb fs f (cZ f.code.length s k l).2∧Up s (cZ f.code.length s k l).2∧(cZ f.code.length s k l).2.met.getD k false=true∧Le l ((cZ f.code.length s k l).2.at_.getD k []))∧
  ((cZ f.code.length s k l).1=false→∀M,¬lZ fs f M):=by
 have set_:k<f.code.length→∀j:List Int,Ty j→(k=0→j= [])→(s.met.getD k false=true→Le (s.at_.getD k []) j)→Le l j→(∀M,lZ fs f M→∃t,M k=some t∧Le j t)→
   kb fs f ⟨s.at_.set k j,s.met.set k true,s.todo++ [(k:Int)]⟩∧Up s ⟨s.at_.set k j,s.met.set k true,s.todo++ [(k:Int)]⟩∧(s.met.set k true).getD k false=true∧Le l ((s.at_.set k j).getD k []):=by
  intro hkn j hj h0 hup hlj hlm
  have hA:∀i,(s.at_.set k j).getD i []=if i=k then j else s.at_.getD i []:=fun i=>fI (by rw[hF.al];exact hkn)
  have hM:∀i,(s.met.set k true).getD i false=if i=k then true else s.met.getD i false:=fun i=>fI (by rw[hF.ml];exact hkn)
  refine⟨⟨?_,?_,fun i hi=>?_,fun M hMs i hi=>?_⟩,⟨fun i hi=>?_,fun i hi=>?_,fun x hx=>List.mem_append_left _ hx⟩,?_,?_⟩
  ·show (s.met.set k true).getD 0 false=true
   rw[hM]
   split
   ·rfl
   exact hI.m0
  ·show (s.at_.set k j).getD 0 []= []
   rw[hA]
   split
   ·rename_i e;exact h0 e.symm
   exact hI.a0
  ·show Ty ((s.at_.set k j).getD i [])
   have hi:(s.met.set k true).getD i false=true:=hi
   rw[hA]
   rw[hM] at hi
   split
   ·exact hj
   rename_i e;rw[if_neg e] at hi;exact hI.ty i hi
  ·show∃t,M i=some t∧Le ((s.at_.set k j).getD i []) t
   have hi:(s.met.set k true).getD i false=true:=hi
   rw[hA]
   rw[hM] at hi
   split
   ·rename_i e;subst e;exact hlm M hMs
   rename_i e;rw[if_neg e] at hi;exact hI.le M hMs i hi
  ·show (s.met.set k true).getD i false=true∧Le (s.at_.getD i []) ((s.at_.set k j).getD i [])
   rw[hA,hM]
   split
   ·rename_i e;subst e;exact⟨rfl,hup hi⟩
   exact⟨hi,.refl _⟩
  ·have hi:(s.met.set k true).getD i false=true:=hi
   rw[hM] at hi
   by_cases e:i=k
   ·subst e;right;exact List.mem_append_right _ (by simp)
   rw[if_neg e] at hi
   left
   refine⟨hi,?_⟩
   show (s.at_.set k j).getD i []=_
   rw[hA,if_neg e]
  ·rw[hM,if_pos rfl]
  rw[hA,if_pos rfl];exact hlj
 unfold cZ
 split
 ·rename_i hkn
  refine⟨fun h=>(by cases h),fun _ M hMs=>?_⟩
  obtain⟨t,h1,_⟩:=hle M hMs
  have:=(hMs.ok k t h1).1
  omega
 rename_i hkn
 split
 ·rename_i hm
  split
  ·rename_i hj
   refine⟨fun h=>(by cases h),fun _ M hMs=>?_⟩
   obtain⟨t,h1,h2⟩:=hle M hMs
   obtain⟨t',h3,h4⟩:=hI.le M hMs k hm
   rw[h1] at h3
   cases h3
   obtain⟨j,h5,_⟩:=rx (hMs.ok k t h1).2.1 h4 h2
   rw[hj] at h5
   cases h5
  rename_i j hj
  have hu:=Cj hj
  split
  ·rename_i he
   refine⟨fun _=>⟨hI,.refl _,hm,by rw[←he];exact hu.2⟩,fun h=>(by cases h)⟩
  rename_i he
  refine⟨fun _=>set_ (by omega) j (tN hj (hI.ty k hm) hl) (fun e=>?_) (fun _=>hu.1) hu.2 (fun M hMs=>?_),fun h=>(by cases h)⟩
  ·subst e
   rw[hI.a0] at hj
   have:=(iV hj).2
   exact List.eq_nil_of_length_eq_zero this
  obtain⟨t,h1,h2⟩:=hle M hMs
  obtain⟨t',h3,h4⟩:=hI.le M hMs k hm
  rw[h1] at h3
  cases h3
  obtain⟨j',h5,h6⟩:=rx (hMs.ok k t h1).2.1 h4 h2
  rw[hj] at h5
  cases h5
  exact⟨t,h1,h6⟩
 rename_i hm
 refine⟨fun _=>set_ (by omega) l hl (fun e=>?_) (fun h=>absurd h hm) (.refl _) hle,fun h=>(by cases h)⟩
 subst e
 exact absurd hI.m0 hm
theorem oK {fs:List aC} {f:aC} :∀{L:List Int} {s:FSt} {l:List Int},eC f.code.length s→kb fs f s→(∀q∈L,0≤q∧q≤f.code.length)→l.length≤8→s.todo.length+L.length<5000→Ty l→(∀M,lZ fs f M→∀q∈L,∃t,M q.toNat=some t∧Le l t)→
  (∀s',dq f.code.length s L l=some s'→kb fs f s'∧Up s s'∧∀q∈L,s'.met.getD q.toNat false=true∧Le l (s'.at_.getD q.toNat []))∧(dq f.code.length s L l=none→∀M,¬lZ fs f M)
 | [],s,l,hF,hI,_,_,_,_,_=>by
  refine⟨fun s' e=>?_,fun e=>by simp[dq] at e⟩
  simp only[dq,Option.some.injEq] at e
  subst e
  exact⟨hI,.refl _,fun q h=>by cases h⟩
 | a::L,s,l,hF,hI,hq,h8,ht,hl,hle=>by
  have ha:=hq a (by simp)
  rw[List.length_cons] at ht
  obtain⟨k1,k2⟩:=Bc hF hI (k:=a.toNat) (by omega) hl (fun M hM=>hle M hM a (by simp))
  obtain⟨f1,f2⟩:=jG hF (k:=a.toNat) (by omega) h8 (by omega)
  simp only[dq]
  cases hb:(cZ f.code.length s a.toNat l).1
  ·simp only[Bool.false_eq_true,if_false]
   exact⟨fun s' e=>(by cases e),fun _=>k2 hb⟩
  simp only[if_true]
  obtain⟨i1,i2,i3,i4⟩:=k1 hb
  obtain⟨j1,j2⟩:=oK (L:=L) (l:=l) f1 i1 (fun q h=>hq q (by simp[h])) h8 (by omega) hl (fun M hM q h=>hle M hM q (by simp[h]))
  refine⟨fun s' e=>?_,j2⟩
  obtain⟨m1,m2,m3⟩:=j1 s' e
  refine⟨m1,i2.trans m2,fun q h=>?_⟩
  rcases List.mem_cons.1 h with rfl | h
  ·obtain⟨n1,n2⟩:=m2.up _ i3
   exact⟨n1,i4.trans n2⟩
  exact m3 q h
def Dn (fs:List aC) (f:aC) (s:FSt) (i:Nat):Prop:= ∃v,eX fs f (bB f.code i) (s.at_.getD i [])=some v∧∀q∈di (bB f.code i) i,s.met.getD q.toNat false=true∧Le v (s.at_.getD q.toNat [])
def Wk (fs:List aC) (f:aC) (s:FSt):Prop:= ∀i:Nat,s.met.getD i false=true→(i:Int)∈s.todo∨Dn fs f s i
theorem Dn.up {fs:List aC} {f:aC} {s s':FSt} {i:Nat} (h:Dn fs f s i) (hu:Up s s') (e:s'.at_.getD i []=s.at_.getD i []):Dn fs f s' i:=by
 obtain⟨v,h1,h2⟩:=h
 refine⟨v,by rw[e];exact h1,fun q hq=>?_⟩
 obtain⟨k1,k2⟩:=h2 q hq
 obtain⟨k3,k4⟩:=hu.up _ k1
 exact⟨k3,k2.trans k4⟩
theorem kr {fs:List aC} {f:aC} {o:cn} {s v:List Int} (h:eX fs f o s=some v):v.length≤8:=by
 obtain⟨T,V,_,_,h3,_,rfl⟩:=gG.1 h
 exact h3
def Tm (s:FSt):Prop:= ∀x∈s.todo,s.met.getD x.toNat false=true
theorem CN {n:Nat} {s:FSt} (hF:eC n s) (h:Tm s) {k:Nat} (hk:k≤n) (l:List Int):Tm (cZ n s k l).2:=by
 have set_:k≠n→∀j:List Int,Tm ⟨s.at_.set k j,s.met.set k true,s.todo++ [(k:Int)]⟩:=fun hne j x hx=>by
  show (s.met.set k true).getD x.toNat false=true
  rw[fI (by rw[hF.ml];omega)]
  split
  ·rfl
  rename_i e
  rcases List.mem_append.1 hx with hx | hx
  ·exact h x hx
  rw[List.mem_singleton.1 hx] at e;exact absurd (Int.toNat_natCast k) e
 unfold cZ
 split
 ·exact h
 rename_i hne
 split
 ·split
  ·exact h
  split
  ·exact h
  exact set_ hne _
 exact set_ hne _
theorem ud {n:Nat} :∀{L:List Int} {s s':FSt} {l:List Int},eC n s→Tm s→(∀q∈L,0≤q∧q≤n)→l.length≤8→s.todo.length+L.length<5000→dq n s L l=some s'→Tm s'
 | [],s,s',l,_,h,_,_,_,e=>by
  simp only[dq,Option.some.injEq] at e
  subst e
  exact h
 | a::L,s,s',l,hF,h,hq,h8,ht,e=>by
  simp only[dq] at e
  split at e
  ·have ha:=hq a (by simp)
   rw[List.length_cons] at ht
   obtain⟨f1,f2⟩:=jG hF (k:=a.toNat) (by omega) h8 (by omega)
   exact ud f1 (CN hF h (by omega) l) (fun q h=>hq q (by simp[h])) h8 (by omega) e
  cases e
theorem zO {fs:List aC} {f:aC} (hok:jp fs f) (hty:l4 fs f) {s:FSt} (hF:eC f.code.length s) (hI:kb fs f s) (hW:Wk fs f s) (htm:Tm s) (ht:0<s.todo.length) (ht2:s.todo.length≤4000) :
  (∀s',jz fs f s=some s'→kb fs f s'∧Wk fs f s'∧Tm s')∧(jz fs f s=none→∀M,¬lZ fs f M):=by
 obtain⟨n,hn⟩:∃n,s.todo.length=n+1:=⟨s.todo.length - 1,by omega⟩
 have hget:s.todo[n]? =some (s.todo.getD n 0):=by rw[List.getD_eq_getElem?_getD,List.getElem?_eq_getElem (by omega)];rfl
 have hmem:s.todo.getD n 0∈s.todo:=List.mem_of_getElem? hget
 have htd:=hF.td _ hmem
 have hmk:=htm _ hmem
 obtain⟨k,hk⟩:∃k:Nat,s.todo.getD n 0=(k:Int):=⟨(s.todo.getD n 0).toNat,by omega⟩
 rw[hk,Int.toNat_natCast] at hmk
 have hkl:k<f.code.length:=by omega
 have e:jz fs f s=match eX fs f (bB f.code k) (s.at_.getD k []) with
   | none=>none
   | some v=>dq f.code.length ⟨s.at_,s.met,s.todo.take n⟩ (di (bB f.code k) k) v:=by
  unfold jz eX
  dsimp only
  rw[show s.todo.length - 1=n from by omega,hk,Int.toNat_natCast]
  split <;> rfl
 have hF0:eC f.code.length ⟨s.at_,s.met,s.todo.take n⟩:=⟨hF.al,hF.ml,by show (s.todo.take n).length≤_;rw[List.length_take];omega,hF.st,fun x hx=>hF.td x (List.mem_of_mem_take hx)⟩
 have hI0:kb fs f ⟨s.at_,s.met,s.todo.take n⟩:=⟨hI.m0,hI.a0,hI.ty,hI.le⟩
 have hT0:Tm ⟨s.at_,s.met,s.todo.take n⟩:=fun x hx=>htm x (List.mem_of_mem_take hx)
 have hl2:=j5 (bB f.code k) k
 have hlt:(s.todo.take n).length+(di (bB f.code k) k).length<5000:=by rw[List.length_take];omega
 rw[e]
 cases hv:eX fs f (bB f.code k) (s.at_.getD k []) with
 | none=>
  refine⟨fun s' h=>(by cases h),fun _ M hM=>?_⟩
  obtain⟨t,h1,h2⟩:=hI.le M hM k hmk
  obtain⟨_,_,v,h3,_⟩:=hM.ok k t h1
  obtain⟨u,h4,_⟩:=mi h2 h3
  rw[hv] at h4
  cases h4
 | some v=>
  obtain⟨c1,c2⟩:=oK hF0 hI0 (hok.to_ k hkl) (kr hv) hlt (rf hty (hok.op k hkl) (hI.ty k hmk) hv) (fun M hM q hq=>by
   obtain⟨t,h1,h2⟩:=hI.le M hM k hmk
   obtain⟨_,_,v',h3,h4⟩:=hM.ok k t h1
   obtain⟨u,h5,h6⟩:=mi h2 h3
   rw[hv] at h5
   cases h5
   obtain⟨s',h7,h8⟩:=h4 q hq
   exact⟨s',h7,h6.trans h8⟩)
  refine⟨fun s' h=>?_,c2⟩
  obtain⟨i1,i2,i3⟩:=c1 s' h
  refine⟨i1,fun i hi=>?_,ud hF0 hT0 (hok.to_ k hkl) (kr hv) hlt h⟩
  rcases i2.old i hi with ⟨h1,h2⟩ | h1
  ·rcases hW i h1 with h3 | h3
   ·by_cases hx:(i:Int)∈s.todo.take n
    ·exact .inl (i2.td _ hx)
    have:(i:Int)=k:=by
     rw[←List.take_append_drop n s.todo] at h3
     rcases List.mem_append.1 h3 with h3 | h3
     ·exact absurd h3 hx
     have:s.todo.drop n= [s.todo.getD n 0]:=by
      rw[List.drop_eq_getElem_cons (by omega),List.drop_of_length_le (by omega)]
      rw[List.getD_eq_getElem?_getD,List.getElem?_eq_getElem (by omega)]
      rfl
     rw[this,List.mem_singleton,hk] at h3
     exact h3
    have:i=k:=by omega
    subst this
    right
    have h2:s'.at_.getD i []=s.at_.getD i []:=h2
    exact⟨v,by rw[h2];exact hv,i3⟩
   exact .inr (Dn.up (s:=⟨s.at_,s.met,s.todo.take n⟩) h3 i2 h2)
  exact .inl h1
theorem tJ {fs:List aC} {f:aC} (hok:jp fs f) (hty:l4 fs f):∀(k:Nat) {s:FSt},eC f.code.length s→kb fs f s→Wk fs f s→Tm s→mu f.code.length s≤4000→mu f.code.length s<k→
  (∀s',je fs f k s=some s'→eC f.code.length s'∧kb fs f s'∧(∀i:Nat,s'.met.getD i false=true→Dn fs f s' i))∧(je fs f k s=none→∀M,¬lZ fs f M)
 | 0,_,_,_,_,_,_,h=>absurd h (Nat.not_lt_zero _)
 | k+1,s,hF,hI,hW,hT,h4,hk=>by
  simp only[je]
  by_cases h0:s.todo.length=0
  ·simp only[h0,if_true]
   refine⟨fun s' e=>?_,fun e=>(by cases e)⟩
   simp only[Option.some.injEq] at e
   subst e
   refine⟨hF,hI,fun i hi=>?_⟩
   rcases hW i hi with h | h
   ·rw[List.eq_nil_of_length_eq_zero h0] at h;cases h
   exact h
  simp only[h0,if_false]
  have htl:s.todo.length≤4000:=by unfold mu at h4;omega
  obtain⟨c1,c2⟩:=zO hok hty hF hI hW hT (by omega) htl
  cases e:jz fs f s with
  | none=>exact⟨fun s' h=>(by cases h),fun _=>c2 e⟩
  | some s1=>
   obtain⟨i1,i2,i3⟩:=c1 s1 e
   obtain⟨j1,j2⟩:=pJ hok hF (by omega) htl e
   exact tJ hok hty k j1 i1 i2 i3 (by omega) (by omega)
def MO (s:FSt) (i:Nat):Option (List Int):=if s.met.getD i false=true then some (s.at_.getD i []) else none
theorem fZ {s:FSt} {i:Nat} {t:List Int} :MO s i=some t↔s.met.getD i false=true∧s.at_.getD i []=t:=by
 unfold MO
 split
 ·rename_i h
  exact⟨fun e=>⟨h,Option.some.inj e⟩,fun e=>by rw[e.2]⟩
 rename_i h
 exact⟨fun e=>(by cases e),fun e=>absurd e.1 h⟩
theorem lA {fs:List aC} {f:aC} (hok:jp fs f) (hty:l4 fs f) (hn:0<f.code.length) :
  (∀s,ld fs f=some s→eC f.code.length s∧lZ fs f (MO s)∧∀M,lZ fs f M→∀i t,MO s i=some t→∃u,M i=some u∧Le t u)∧(ld fs f=none→∀M,¬lZ fs f M):=by
 have hst:fO f.code.length=⟨(List.replicate f.code.length ([]:List Int)).set 0 [],(List.replicate f.code.length false).set 0 true,[0]⟩:=by
  unfold fO cZ fk
  rw[if_neg (by omega),if_neg (by rw[im];decide)]
  rfl
 have hA:∀i,(fO f.code.length).at_.getD i []= []:=fun i=>by
  rw[hst]
  show ((List.replicate f.code.length ([]:List Int)).set 0 []).getD i []= []
  rw[fI (by simpa using hn)]
  split
  ·rfl
  exact im _ _ _
 have hM:∀i,(fO f.code.length).met.getD i false=if i=0 then true else false:=fun i=>by
  rw[hst]
  show ((List.replicate f.code.length false).set 0 true).getD i false=_
  rw[fI (by simpa using hn)]
  split
  ·rfl
  exact im _ _ _
 have z:∀i,(fO f.code.length).met.getD i false=true→i=0:=fun i h=>by
  rw[hM] at h
  by_cases e:i=0
  ·exact e
  rw[if_neg e] at h;cases h
 have hI:kb fs f (fO f.code.length):=⟨by rw[hM];rfl,hA 0,fun i _=>by rw[hA];exact fun _ h=>(by cases h),fun M h i hi=>by
  have:=z i hi
  subst this
  exact⟨[],h.m0,by rw[hA];exact .refl _⟩⟩
 have hW:Wk fs f (fO f.code.length):=fun i hi=>by
  have:=z i hi
  subst this
  left
  rw[hst]
  simp
 have hT:Tm (fO f.code.length):=fun x hx=>by
  rw[hst] at hx
  have:x=0:=by simpa using hx
  subst this
  rw[hM];rfl
 obtain⟨o1,o2⟩:=rP hn
 have h40:=hok.n40
 obtain⟨c1,c2⟩:=tJ hok hty (mu f.code.length (fO f.code.length)+1) o1 hI hW hT (by omega) (by omega)
 refine⟨fun s e=>?_,c2⟩
 obtain⟨k1,k2,k3⟩:=c1 s e
 refine⟨k1,⟨fZ.2 ⟨k2.m0,k2.a0⟩,fun i t h=>?_⟩,fun M hMs i t h=>?_⟩
 ·obtain⟨h1,h2⟩:=fZ.1 h
  subst h2
  refine⟨qy k1 h1,k2.ty i h1,?_⟩
  obtain⟨v,h3,h4⟩:=k3 i h1
  refine⟨v,h3,fun q hq=>?_⟩
  obtain⟨h5,h6⟩:=h4 q hq
  exact⟨_,fZ.2 ⟨h5,rfl⟩,h6⟩
 obtain⟨h1,h2⟩:=fZ.1 h
 subst h2
 exact k2.le M hMs i h1
theorem w3 {fs:List aC} (h:dA fs=0) {k:Nat} (hk:k<fs.length):l4 fs (av fs k):=by
 obtain⟨_,_,hall⟩:=gA h
 obtain⟨_,_,_,h4,_⟩:=ir (hall _ (gV hk))
 refine⟨fun t ht=>?_,fun j hj=>?_⟩
 ·have:=h4 t ht;omega
 obtain⟨_,_,g3,_⟩:=ir (hall _ (gV hj))
 exact g3
end
section
theorem Di {n:Nat} {s:FSt} (h:eC n s):mV n s≤9*n:=by
 have key:∀m:Nat,((List.range m).map (io s)).sum≤9*m:=fun m=>by
  induction m with
  | zero=>simp
  | succ m ih=>
   rw[List.range_succ,List.map_append,List.sum_append]
   have:io s m≤9:=by
    unfold io
    split
    ·have:=tG (s.at_.getD m []);have:=h.st m;omega
    exact Nat.le_refl _
   simp only[List.map_cons,List.map_nil,List.sum_cons,List.sum_nil]
   omega
 exact key n
theorem zc {n:Nat} {s:FSt} {k:Nat} {l:List Int} :(cZ n s k l).2=s∨(cZ n s k l).2.todo=s.todo++ [(k:Int)]:=by
 unfold cZ
 repeat (first | exact .inl rfl | exact .inr rfl | split)
theorem qN {n:Nat} :∀{L:List Int} {s s':FSt} {l:List Int},dq n s L l=some s'→s'.todo= []→s'=s
 | [],s,s',l,e,_=>by
  simp only[dq,Option.some.injEq] at e
  exact e.symm
 | a::L,s,s',l,e,h=>by
  simp only[dq] at e
  split at e
  ·have h1:=qN e h
   rcases zc (n:=n) (s:=s) (k:=a.toNat) (l:=l) with h2 | h2
   ·rw[h1,h2]
   rw[←h1,h] at h2
   have:=congrArg List.length h2
   simp at this
  cases e
structure Sw (fs:List aC) (f:aC) (s0:FSt) (i:Nat) (s:FSt):Prop where
 ok:eC f.code.length s
 inv:kb fs f s
 mu_:mu f.code.length s≤mu f.code.length s0
 dn:s.todo= []→s=s0∧∀j,j<i→s.met.getD j false=true→Dn fs f s j
theorem Sw.todo {fs:List aC} {f:aC} {s0 s:FSt} {i:Nat} (h:Sw fs f s0 i s) (h0:eC f.code.length s0) (ht:s0.todo= []) (hn:f.code.length≤40):s.todo.length≤360:=by
 have h1:=h.mu_
 have h2:=Di h0
 unfold mu at h1
 rw[ht] at h1
 simp only[List.length_nil] at h1
 omega
theorem Sw.start {fs:List aC} {f:aC} {s0:FSt} (h:eC f.code.length s0) (hi:kb fs f s0):Sw fs f s0 0 s0:=⟨h,hi,Nat.le_refl _,fun _=>⟨rfl,fun _ hj=>absurd hj (Nat.not_lt_zero _)⟩⟩
theorem Sw.skip {fs:List aC} {f:aC} {s0 s:FSt} {i:Nat} (h:Sw fs f s0 i s) (hm:¬s.met.getD i false=true):Sw fs f s0 (i+1) s:=
 ⟨h.ok,h.inv,h.mu_,fun e=>⟨(h.dn e).1,fun j hj hj2=>by
  by_cases e2:j=i
  ·subst e2;exact absurd hj2 hm
  exact(h.dn e).2 j (by omega) hj2⟩⟩
theorem Sw.bad {fs:List aC} {f:aC} {s0 s:FSt} {i:Nat} (h:Sw fs f s0 i s) (hm:s.met.getD i false=true) (hv:eX fs f (bB f.code i) (s.at_.getD i [])=none) (M:Nat→Option (List Int)):¬lZ fs f M:=fun hM=>by
 obtain⟨t,h1,h2⟩:=h.inv.le M hM i hm
 obtain⟨_,_,v,h3,_⟩:=hM.ok i t h1
 obtain⟨u,h4,_⟩:=mi h2 h3
 rw[hv] at h4
 cases h4
theorem Sw.comes {fs:List aC} {f:aC} (hok:jp fs f) (hty:l4 fs f) {s0 s:FSt} {i:Nat} (h:Sw fs f s0 i s) (h0:eC f.code.length s0) (ht:s0.todo= []) (hi:i<f.code.length) (hm:s.met.getD i false=true) {v:List Int} (hv:eX fs f (bB f.code i) (s.at_.getD i [])=some v)
  {L:List Int} (hL:∀q∈L,q∈di (bB f.code i) i) (hl4:L.length≤4) :
  (∀s',dq f.code.length s L v=some s'→kb fs f s'∧Up s s'∧∀q∈L,s'.met.getD q.toNat false=true∧Le v (s'.at_.getD q.toNat []))∧(dq f.code.length s L v=none→∀M,¬lZ fs f M):=by
 have h36:=h.todo h0 ht hok.n40
 exact oK h.ok h.inv (fun q hq=>hok.to_ i hi q (hL q hq)) (kr hv) (by omega) (rf hty (hok.op i hi) (h.inv.ty i hm) hv) (fun M hM q hq=>by
   obtain⟨t,h1,h2⟩:=h.inv.le M hM i hm
   obtain⟨_,_,v',h3,h4⟩:=hM.ok i t h1
   obtain⟨u,h5,h6⟩:=mi h2 h3
   rw[hv] at h5
   cases h5
   obtain⟨s',h7,h8⟩:=h4 q (hL q hq)
   exact⟨s',h7,h6.trans h8⟩)
theorem Sw.step {fs:List aC} {f:aC} (hok:jp fs f) (hty:l4 fs f) {s0 s:FSt} {i:Nat} (h:Sw fs f s0 i s) (h0:eC f.code.length s0) (ht:s0.todo= []) (hi:i<f.code.length) (hm:s.met.getD i false=true) {v:List Int} (hv:eX fs f (bB f.code i) (s.at_.getD i [])=some v)
  {s':FSt} (e:dq f.code.length s (di (bB f.code i) i) v=some s'):Sw fs f s0 (i+1) s':=by
 have h36:=h.todo h0 ht hok.n40
 have hl2:=j5 (bB f.code i) i
 obtain⟨k1,k2,k3⟩:=(h.comes hok hty h0 ht hi hm hv (fun q hq=>hq) (by omega)).1 s' e
 have hc:=oL h.ok (hok.to_ i hi) (kr hv) (by omega) e
 have hmu:=oM h.ok (hok.to_ i hi) (kr hv) (by omega) e
 refine⟨hc.1,k1,Nat.le_trans hmu h.mu_,fun e0=>?_⟩
 have es:=qN e e0
 subst es
 obtain⟨d1,d2⟩:=h.dn e0
 refine⟨d1,fun j hj hj2=>?_⟩
 by_cases e2:j=i
 ·subst e2;exact⟨v,hv,k3⟩
 exact d2 j (by omega) hj2
theorem Sw.again {fs:List aC} {f:aC} {s0 s:FSt} {i:Nat} (h:Sw fs f s0 i s) (h0:s0.todo= []) (hne:s.todo≠[]):eC f.code.length ⟨s.at_,s.met,[]⟩∧kb fs f ⟨s.at_,s.met,[]⟩∧mV f.code.length ⟨s.at_,s.met,[]⟩<mV f.code.length s0:=by
 refine⟨⟨h.ok.al,h.ok.ml,by simp,h.ok.st,fun x hx=>by cases hx⟩,⟨h.inv.m0,h.inv.a0,h.inv.ty,h.inv.le⟩,?_⟩
 have h1:=h.mu_
 unfold mu at h1
 rw[h0] at h1
 simp only[List.length_nil] at h1
 have h2:=List.length_pos_iff.2 hne
 show mV f.code.length s<_
 omega
theorem r8 {fs:List aC} {f:aC} (hok:jp fs f) (hty:l4 fs f) (hn:0<f.code.length) (h:∀M,¬lZ fs f M):cD fs f=([],false):=by
 unfold cD
 cases e:ld fs f with
 | none=>rfl
 | some s=>exact absurd ((lA hok hty hn).1 s e).2.1 (h _)
theorem yY {fs:List aC} {f:aC} (hok:jp fs f) (hty:l4 fs f) (hn:0<f.code.length) {s:FSt} (hF:eC f.code.length s) (hI:kb fs f s) (hd:∀i:Nat,s.met.getD i false=true→Dn fs f s i):cD fs f=(iM s f.code.length,true):=by
 have hst:lZ fs f (MO s):=⟨fZ.2 ⟨hI.m0,hI.a0⟩,fun i t h=>by
  obtain⟨h1,h2⟩:=fZ.1 h
  subst h2
  refine⟨qy hF h1,hI.ty i h1,?_⟩
  obtain⟨v,h3,h4⟩:=hd i h1
  refine⟨v,h3,fun q hq=>?_⟩
  obtain⟨h5,h6⟩:=h4 q hq
  exact⟨_,fZ.2 ⟨h5,rfl⟩,h6⟩⟩
 unfold cD
 cases e:ld fs f with
 | none=>exact absurd hst ((lA hok hty hn).2 e _)
 | some s'=>
  obtain⟨k1,k2,k3⟩:=(lA hok hty hn).1 s' e
  show (iM s' f.code.length,true)=_
  congr 1
  unfold iM
  congr 1
  funext i
  by_cases hm:s.met.getD i false=true
  ·obtain⟨t,h1,h2⟩:=hI.le _ k2 i hm
   obtain⟨h3,h4⟩:=fZ.1 h1
   subst h4
   obtain⟨u,h5,h6⟩:=k3 _ hst i _ h1
   obtain⟨_,h7⟩:=fZ.1 h5
   subst h7
   rw[if_pos hm,if_pos h3,h2.anti h6]
  rw[if_neg hm,if_neg]
  intro h3
  obtain⟨u,h5,_⟩:=k3 _ hst i _ (fZ.2 ⟨h3,rfl⟩)
  exact hm (fZ.1 h5).1
def pp (n:Nat):FSt:=⟨List.replicate n [],(List.replicate n false).set 0 true,[]⟩
theorem CX {fs:List aC} {f:aC} (hn:0<f.code.length):eC f.code.length (pp f.code.length)∧kb fs f (pp f.code.length):=by
 have hA:∀i,(pp f.code.length).at_.getD i []= []:=fun i=>im _ _ _
 have hM:∀i,(pp f.code.length).met.getD i false=if i=0 then true else false:=fun i=>by
  show ((List.replicate f.code.length false).set 0 true).getD i false=_
  rw[fI (by simpa using hn)]
  split
  ·rfl
  exact im _ _ _
 refine⟨⟨by simp[pp],by simp[pp],by simp[pp],fun i=>by rw[hA];simp,fun x hx=>by cases hx⟩,⟨by rw[hM];rfl,hA 0,fun i _=>by rw[hA];exact fun _ h=>(by cases h),fun M h i hi=>?_⟩⟩
 rw[hM] at hi
 by_cases e:i=0
 ·subst e;exact⟨[],h.m0,by rw[hA];exact .refl _⟩
 rw[if_neg e] at hi;cases hi
end
section
section
variable {B:Nat} {w0:World}
def F7 (l:List gT) (k:Nat):gT:=l.getD k ⟨0,[]⟩
end
def tR (a b:Int):Nat→Int
 | 0=>0
 | k+1=>if tR a b k=0∧cq a (3 - k)=true∧cq b (3 - k)=true then 3 - k else tR a b k
theorem BK {a b:Int} (ha:1≤a∧a≤3) (hb:1≤b∧b≤3):tR a b 3=dv a b:=by
 rcases t3 ha with rfl | rfl | rfl <;> rcases t3 hb with rfl | rfl | rfl <;> decide
set_option maxRecDepth 100000 in
set_option maxHeartbeats 2000000 in
theorem uP (A1 A2:Option Addr) (c1 c2:Nat) (a b:List Int) (w:World) (h1:Sl w (.slice A1 a.length c1) a) (h2:Sl w (.slice A2 b.length c2) b) (ta:Ty a) (tb:Ty b) (hle:a.length≤1000000) :
  Calls Tryz.prog 110 #[.slice A1 a.length c1,.slice A2 b.length c2] w fun e w'=> ∃u,e= .returned (.tuple #[u,.bool (bY a b).isSome])∧Below w.heap.size w w'∧dT w' w.heap.size u ((bY a b).getD []):=by
 have bb:=bO h2
 refine enter Tryz.func110 rfl Tryz.ntmps110 rfl ?_
 refine ac<|aa<|rn 2 [0,1] rfl<|ae<|ac<|ac<|aa<|rn 1 [0,1,10] rfl<|af (aN ah rfl rfl) rfl rfl<|rn 1 [0,1,11,12] rfl<|af (aN ah rfl rfl) rfl rfl<|rn 1 [0,1,14] rfl<|ae<|b9 rfl (fun hl=>?_) (fun hl=>?_)
 ·have hn:=tM (a:=a) (b:=b) (fun e=>hl (by rw[e]))
  refine ac<|aa<|rn 2 [4,5] rfl<|ae<|au (ak ?_)
  refine bD D1 (aq rfl) (aq rfl) ?_
  intro w hw
  rw[hn]
  exact⟨_,rfl,lJ hw⟩
 have hl:a.length=b.length:=by omega
 refine ax (ap ?_)
 refine ac<|aa<|rn 1 [0,1,6] rfl<|ae<|ac<|ac<|aa<|rn 1 [0,1,6,7] rfl<|ae<|dO (fun w h=>Cw.nilO Int h) ?_
 refine aL (b8 (fun g:Nat×List Int×Option Addr×Nat=>g.1≤a.length∧bY (a.take g.1) (b.take g.1)=some g.2.1) (fun g=>a.length - g.1) (fun g=> [(0,.slice A1 a.length c1),(1,.slice A2 b.length c2),(6,.slice g.2.2.1 g.2.1.length g.2.2.2),(7,.int .i64 (g.1:Int))]) (fun g=> [aj (.slice g.2.2.1 g.2.1.length g.2.2.2) g.2.1]) (0,[],none,0) (⟨Nat.zero_le _,rfl⟩) ⟨rfl,rfl,rfl,rfl,trivial⟩ me ?_)
 rintro⟨i,out,Ao,co⟩ hi'
 try dsimp only
 obtain⟨hi,hj⟩:i≤a.length∧bY (a.take i) (b.take i)=some out:=hi'
 have hol:out.length=i:=by have:=(iV hj).2;rw[List.length_take] at this;omega
 refine ac<|ac<|aa<|rn 2 [0,1,6,7,15,16] rfl<|af (aN ah rfl rfl) rfl rfl<|rn 1 [0,1,6,7,18] rfl<|ae<|aw rfl (fun hlt=>?_) (fun hlt=>?_)
 ·have hil:i<a.length:=by omega
  have hst:=nG hil (by omega) hj
  have i1:=ia h1 hil
  have i2:=ia h2 (k:=i) (by omega)
  have hbt:=BK (ta.at_ hil) (tb.at_ (i:=i) (by omega))
  refine ax (ap ?_)
  refine ac<|aL<|ac<|aa<|rn 1 [0,1,6,7,8] rfl<|ae<|ac<|ac<|aa<|rn 1 [0,1,6,7,8,9] rfl<|ae<|ji (fun _:Unit=>True) (fun _=> [(0,.slice A1 a.length c1),(1,.slice A2 b.length c2),(6,.slice Ao out.length co),(7,.int .i64 (i:Int)),(8,.int .i64 (dv (a.getD i 0) (b.getD i 0)))]) (fun _=> [aj (.slice Ao out.length co) out]) ?_ ?_
  ·refine aL (b8 (fun g:Nat×Int=>g.1≤3∧g.2=3 - (g.1:Int)) (fun g=>3 - g.1) (fun g=> [(0,.slice A1 a.length c1),(1,.slice A2 b.length c2),(6,.slice Ao out.length co),(7,.int .i64 (i:Int)),(8,.int .i64 (tR (a.getD i 0) (b.getD i 0) g.1)),(9,.int .i64 g.2)]) (fun _=> [aj (.slice Ao out.length co) out]) (0,3) (⟨Nat.zero_le _,rfl⟩) ⟨rfl,rfl,rfl,rfl,rfl,rfl,trivial⟩ me ?_)
   rintro⟨k,x⟩ hk'
   try dsimp only
   obtain⟨hk,hx⟩:k≤3∧x=3 - (k:Int):=hk'
   refine ac<|ac<|aa<|rn 2 [0,1,6,7,8,9,22] rfl<|ae<|aw rfl (fun hk3=>?_) (fun hk3=>?_)
   ·have hk2:k<3:=by omega
    have htr:tR (a.getD i 0) (b.getD i 0) (k+1)=if tR (a.getD i 0) (b.getD i 0) k=0∧cq (a.getD i 0) x=true∧cq (b.getD i 0) x=true then x else tR (a.getD i 0) (b.getD i 0) k:=by rw[tR,hx]
    refine ax (ap ?_)
    refine dF (fun _:Unit=>True) (fun _=> [(0,.slice A1 a.length c1),(1,.slice A2 b.length c2),(6,.slice Ao out.length co),(7,.int .i64 (i:Int)),(8,.int .i64 (tR (a.getD i 0) (b.getD i 0) (k+1))),(9,.int .i64 x)]) (fun _=> [aj (.slice Ao out.length co) out]) ?_ ?_
    ·rw[htr]
     refine aL<|ac<|aa<|rn 3 [0,1,6,7,8,9,27] rfl<|bw (t:=27) rfl (fun f1=>?_) (fun f1=>?_)
     ·have f1:=of_decide_eq_true f1
      refine rn 2 [0,1,6,7,8,9,27,28,29] rfl<|af (aO ah aI (.ro h1) (by omega) rfl rfl rfl) rfl rfl<|af (a8 (SF.int (.ro h1) (by omega)) rfl rfl ar) rfl rfl<|rn 1 [0,1,6,7,8,9,27,31,32] rfl<|ag (bK rfl rfl rfl FZ (fun w hw=>mD (a.getD i 0) x w)) rfl rfl (fun _ _=>?_)
      refine rn 2 [0,1,6,7,8,9,35] rfl<|bw (t:=35) rfl (fun f2=>?_) (fun f2=>?_)
      ·refine rn 2 [0,1,6,7,8,9,35,36,37] rfl<|af (aO ah aI (.ro h2) (by omega) rfl rfl rfl) rfl rfl<|af (a8 (SF.int (.ro h2) (by omega)) rfl rfl ar) rfl rfl<|rn 1 [0,1,6,7,8,9,35,39,40] rfl<|ag (bK rfl rfl rfl FZ (fun w hw=>mD (b.getD i 0) x w)) rfl rfl (fun _ _=>?_)
       refine rn 1 [0,1,6,7,8,9,42] rfl<|ae<|cH rfl (fun f3=>?_) (fun f3=>?_)
       ·rw[if_pos ⟨f1,f2,f3⟩]
        refine aa<|rn 2 [0,1,6,7,8,9] rfl<|bE (aK ?_)
        refine aY () (trivial) ⟨rfl,rfl,rfl,rfl,rfl,rfl,trivial⟩ me
       rw[if_neg (fun h=>by rw[h.2.2] at f3;cases f3)]
       refine ax (aK ?_)
       refine aY () (trivial) ⟨rfl,rfl,rfl,rfl,rfl,rfl,trivial⟩ me
      rw[if_neg (fun h=>by rw[h.2.1] at f2;cases f2)]
      refine rn 7 [0,1,6,7,8,9,42] rfl<|ae<|dg rfl<|ax (aK ?_)
      refine aY () (trivial) ⟨rfl,rfl,rfl,rfl,rfl,rfl,trivial⟩ me
     have f1:=of_decide_eq_false f1
     rw[if_neg (fun h=>f1 h.1)]
     refine rn 15 [0,1,6,7,8,9,42] rfl<|ae<|dg rfl<|ax (aK ?_)
     refine aY () (trivial) ⟨rfl,rfl,rfl,rfl,rfl,rfl,trivial⟩ me
    rintro _ _
    refine aa<|rn 1 [0,1,6,7,8,23] rfl<|af (bx rfl rfl rfl (by omega)) rfl rfl<|rn 1 [0,1,6,7,8,9] rfl<|br (k+1,x - 1) (⟨hk2,by show x - 1=3 - ((k+1:Nat):Int);omega⟩) (by show 3 - (k+1)<3 - k;omega) ⟨rfl,rfl,rfl,rfl,rfl,rfl,trivial⟩ me
   obtain rfl:k=3:=by omega
   rw[hbt]
   refine bN (aM (aM (cc ?_)))
   refine aY () (trivial) ⟨rfl,rfl,rfl,rfl,rfl,trivial⟩ me
  rintro _ _
  refine ac<|ac<|aa<|rn 2 [0,1,6,7,8,45] rfl<|ae<|aw rfl (fun h0=>?_) (fun h0=>?_)
  ·rw[if_pos h0] at hst
   have hn:=nH hst hl
   refine ac<|aa<|rn 2 [4,5] rfl<|ae<|au (ak (aG (ak (ak (aG (ak ?_))))))
   refine bD D1 (aq rfl) (aq rfl) ?_
   intro w hw
   rw[hn]
   exact⟨_,rfl,lJ hw⟩
  rw[if_neg h0] at hst
  refine ax (ap ?_)
  refine aa<|rn 2 [0,1,7,46,47] rfl<|ag (bh (cs:= [_]) ah aI a7 rfl rfl rfl rfl rfl) rfl rfl (fun g1 _=>?_)
  refine ag (dm (α:=Int) (bytes:=8) (dv (a.getD i 0) (b.getD i 0)) [] rfl ah (bM da) rfl (eA fc fc) (dI (sf i1 i2)) (by omega) (by omega) rfl rfl rfl) rfl rfl (fun⟨A5,c5⟩ _=>?_)
  try dsimp only
  refine rn 1 [0,1,6,7] rfl<|bE (aK (ap ?_))
  refine aa<|rn 1 [0,1,6,19] rfl<|af (bH rfl rfl rfl (by omega)) rfl rfl<|rn 1 [0,1,6,7] rfl<|br (i+1,out++ [dv (a.getD i 0) (b.getD i 0)],A5,c5) (⟨hil,hst⟩) (by show _ - _<_ - _;omega) ⟨rfl,rfl,rfl,rfl,trivial⟩ me
 obtain rfl:i=a.length:=by omega
 rw[List.take_length,hl,List.take_length] at hj
 refine bN (aM (aM (cc (ap ?_))))
 refine ac<|aa<|rn 3 [4,5] rfl<|ae<|au<|bD D1 (aq rfl) (aq rfl) ?_
 intro w hw
 rw[hj]
 exact⟨_,rfl,jL hw⟩
end
section
def cY (c:Int):List UInt8×List UInt8:=
 if c=1∨c=21 then ([],[105]) else if c=5∨c=6∨c=7 then ([105,105],[105]) else if c=8 then ([],[108]) else if c=9 then ([108],[]) else if c=11∨c=20 then ([105],[]) else if c=14 then ([105],[114]) else if c=15 then ([114,105],[105]) else if c=16 then ([114,105,105],[]) else if c=17∨c=19 then ([114],[105]) else if c=18 then ([],[110]) else ([],[])
def mh (local_:Int) (b:UInt8):List Int:=if (b.toNat:Int)=105 then [1] else if (b.toNat:Int)=114 then [2] else if (b.toNat:Int)=110 then [3] else if (b.toNat:Int)=108 then [local_] else []
def iC (local_:Int) (s:List UInt8):List Int:=s.flatMap (mh local_)
set_option maxRecDepth 100000 in
set_option maxHeartbeats 1000000 in
theorem wy (c:Int) (w:World):Calls Tryz.prog 143 #[.int .i64 c] w fun e w'=>e= .returned (.tuple #[.string ⟨(cY c).1.toArray⟩,.string ⟨(cY c).2.toArray⟩])∧Below w.heap.size w w':=by
 refine enter Tryz.func143 rfl Tryz.ntmps143 rfl ?_
 refine ac<|aa<|rn 2 [0] rfl<|ae<|ac<|ac<|aa<|rn 1 [4] rfl<|ae<|aL<|ac<|ac<|aa<|rn 2 [4,5] rfl<|ae<|aw rfl (fun h1=>?_) (fun h1=>?_)
 ·refine cP (t:=5) (v':= .bool true) rfl (by rw[decide_eq_true h1]) ?_
  refine ax (ap ?_)
  refine bR rfl<|ac<|aa<|rn 2 [2,3] rfl<|ae ?_
  have e:cY c=([],[105]):=by rw[h1];rfl
  refine au (aG (ak ?_))
  refine bD ei (aq rfl) (aq rfl) ?_
  intro w hw
  rw[e]
  exact⟨rfl,hw.below⟩
 refine aa<|rn 2 [4,5] rfl<|ae<|aw rfl (fun h21=>?_) (fun h21=>?_)
 ·have e:cY c=([],[105]):=by rw[h21];rfl
  refine ac<|aa<|rn 2 [2,3] rfl<|ae<|au (aG (ak ?_))
  refine bD ei (aq rfl) (aq rfl) ?_
  intro w hw
  rw[e]
  exact⟨rfl,hw.below⟩
 refine ac<|ac<|aa<|rn 2 [4,8] rfl<|ae<|aw rfl (fun h5=>?_) (fun h5=>?_)
 ·refine cP (t:=8) (v':= .bool true) rfl (by rw[decide_eq_true h5]) ?_
  refine ax (ap ?_)
  refine bR rfl<|ac<|aa<|rn 2 [2,3] rfl<|ae ?_
  have e:cY c=([105,105],[105]):=by rw[h5];rfl
  refine au (aG (ak ?_))
  refine bD ei (aq rfl) (aq rfl) ?_
  intro w hw
  rw[e]
  exact⟨rfl,hw.below⟩
 refine ac<|aa<|rn 2 [4,8] rfl<|ae<|aw rfl (fun h6=>?_) (fun h6=>?_)
 ·refine cP (t:=8) (v':= .bool true) rfl (by rw[decide_eq_true h6]) ?_
  refine ax (ap ?_)
  refine bR rfl<|ac<|aa<|rn 2 [2,3] rfl<|ae ?_
  have e:cY c=([105,105],[105]):=by rw[h6];rfl
  refine au (aG (ak ?_))
  refine bD ei (aq rfl) (aq rfl) ?_
  intro w hw
  rw[e]
  exact⟨rfl,hw.below⟩
 refine aa<|rn 2 [4,8] rfl<|ae<|aw rfl (fun h7=>?_) (fun h7=>?_)
 ·have e:cY c=([105,105],[105]):=by rw[h7];rfl
  refine ac<|aa<|rn 2 [2,3] rfl<|ae<|au (aG (ak ?_))
  refine bD ei (aq rfl) (aq rfl) ?_
  intro w hw
  rw[e]
  exact⟨rfl,hw.below⟩
 refine ac<|aa<|rn 2 [4,12] rfl<|ae<|aw rfl (fun h8=>?_) (fun h8=>?_)
 ·have e:cY c=([],[108]):=by rw[h8];rfl
  refine ac<|aa<|rn 2 [2,3] rfl<|ae<|au (aG (ak ?_))
  refine bD ei (aq rfl) (aq rfl) ?_
  intro w hw
  rw[e]
  exact⟨rfl,hw.below⟩
 refine ac<|aa<|rn 2 [4,14] rfl<|ae<|aw rfl (fun h9=>?_) (fun h9=>?_)
 ·have e:cY c=([108],[]):=by rw[h9];rfl
  refine ac<|aa<|rn 2 [2,3] rfl<|ae<|au (aG (ak ?_))
  refine bD ei (aq rfl) (aq rfl) ?_
  intro w hw
  rw[e]
  exact⟨rfl,hw.below⟩
 refine ac<|ac<|aa<|rn 2 [4,16] rfl<|ae<|aw rfl (fun h11=>?_) (fun h11=>?_)
 ·refine cP (t:=16) (v':= .bool true) rfl (by rw[decide_eq_true h11]) ?_
  refine ax (ap ?_)
  refine bR rfl<|ac<|aa<|rn 2 [2,3] rfl<|ae ?_
  have e:cY c=([105],[]):=by rw[h11];rfl
  refine au (aG (ak ?_))
  refine bD ei (aq rfl) (aq rfl) ?_
  intro w hw
  rw[e]
  exact⟨rfl,hw.below⟩
 refine aa<|rn 2 [4,16] rfl<|ae<|aw rfl (fun h20=>?_) (fun h20=>?_)
 ·have e:cY c=([105],[]):=by rw[h20];rfl
  refine ac<|aa<|rn 2 [2,3] rfl<|ae<|au (aG (ak ?_))
  refine bD ei (aq rfl) (aq rfl) ?_
  intro w hw
  rw[e]
  exact⟨rfl,hw.below⟩
 refine ac<|aa<|rn 2 [4,19] rfl<|ae<|aw rfl (fun h14=>?_) (fun h14=>?_)
 ·have e:cY c=([105],[114]):=by rw[h14];rfl
  refine ac<|aa<|rn 2 [2,3] rfl<|ae<|au (aG (ak ?_))
  refine bD ei (aq rfl) (aq rfl) ?_
  intro w hw
  rw[e]
  exact⟨rfl,hw.below⟩
 refine ac<|aa<|rn 2 [4,21] rfl<|ae<|aw rfl (fun h15=>?_) (fun h15=>?_)
 ·have e:cY c=([114,105],[105]):=by rw[h15];rfl
  refine ac<|aa<|rn 2 [2,3] rfl<|ae<|au (aG (ak ?_))
  refine bD ei (aq rfl) (aq rfl) ?_
  intro w hw
  rw[e]
  exact⟨rfl,hw.below⟩
 refine ac<|aa<|rn 2 [4,23] rfl<|ae<|aw rfl (fun h16=>?_) (fun h16=>?_)
 ·have e:cY c=([114,105,105],[]):=by rw[h16];rfl
  refine ac<|aa<|rn 2 [2,3] rfl<|ae<|au (aG (ak ?_))
  refine bD ei (aq rfl) (aq rfl) ?_
  intro w hw
  rw[e]
  exact⟨rfl,hw.below⟩
 refine ac<|ac<|aa<|rn 2 [4,25] rfl<|ae<|aw rfl (fun h17=>?_) (fun h17=>?_)
 ·refine cP (t:=25) (v':= .bool true) rfl (by rw[decide_eq_true h17]) ?_
  refine ax (ap ?_)
  refine bR rfl<|ac<|aa<|rn 2 [2,3] rfl<|ae ?_
  have e:cY c=([114],[105]):=by rw[h17];rfl
  refine au (aG (ak ?_))
  refine bD ei (aq rfl) (aq rfl) ?_
  intro w hw
  rw[e]
  exact⟨rfl,hw.below⟩
 refine aa<|rn 2 [4,25] rfl<|ae<|aw rfl (fun h19=>?_) (fun h19=>?_)
 ·have e:cY c=([114],[105]):=by rw[h19];rfl
  refine ac<|aa<|rn 2 [2,3] rfl<|ae<|au (aG (ak ?_))
  refine bD ei (aq rfl) (aq rfl) ?_
  intro w hw
  rw[e]
  exact⟨rfl,hw.below⟩
 refine ac<|aa<|rn 2 [28] rfl<|ae<|aw rfl (fun h18=>?_) (fun h18=>?_)
 ·have e:cY c=([],[110]):=by rw[h18];rfl
  refine ac<|aa<|rn 2 [2,3] rfl<|ae<|au (aG (ak ?_))
  refine bD ei (aq rfl) (aq rfl) ?_
  intro w hw
  rw[e]
  exact⟨rfl,hw.below⟩
 refine ax (aK (ap ?_))
 refine ac<|aa<|rn 2 [2,3] rfl<|ae ?_
 have e:cY c=([],[]):=by unfold cY;simp[h1,h21,h5,h6,h7,h8,h9,h11,h20,h14,h15,h16,h17,h19,h18]
 refine au<|bD ei (aq rfl) (aq rfl) ?_
 intro w hw
 rw[e]
 exact⟨rfl,hw.below⟩
theorem BH (x:Int) (b:UInt8):(mh x b).length≤1:=by
 unfold mh
 repeat (first | split | simp)
theorem oX (x:Int):∀s:List UInt8,(iC x s).length≤s.length
 | []=>by simp[iC]
 | b::s=>by
  have h1:=oX x s
  have h2:=BH x b
  simp only[iC,List.flatMap_cons,List.length_append,List.length_cons] at *
  omega
theorem zI {x:Int} {s:List UInt8} {i:Nat} (hi:i<s.length):iC x (s.take (i+1))=iC x (s.take i)++mh x (s.getD i 0):=by
 unfold iC
 rw[List.take_succ_eq_append_getElem hi,List.flatMap_append,List.getD_eq_getElem?_getD,List.getElem?_eq_getElem hi]
 simp
set_option maxRecDepth 100000 in
set_option maxHeartbeats 1000000 in
theorem qm (s:List UInt8) (x:Int) (hx:aX x) (w:World) (hl:s.length≤1000):Calls Tryz.prog 144 #[.string ⟨s.toArray⟩,.int .i64 x] w fun e w'=> ∃u,e= .returned u∧Below w.heap.size w w'∧dT w' w.heap.size u (iC x s):=by
 refine enter Tryz.func144 rfl Tryz.ntmps144 rfl ?_
 refine ac<|aa<|rn 1 [0,1] rfl<|ae<|ac<|aa<|rn 1 [0,1,5] rfl<|ae<|ac<|ac<|aa<|rn 1 [0,1,5,6] rfl<|ae<|dO (fun w h=>Cw.nilO Int h) ?_
 refine aL (b8 (fun g:Nat×Option Addr×Nat=>g.1≤s.length) (fun g=>s.length - g.1) (fun g=> [(0,.string ⟨s.toArray⟩),(1,.int .i64 x),(5,.slice g.2.1 (iC x (s.take g.1)).length g.2.2),(6,.int .i64 (g.1:Int))]) (fun g=> [aj (.slice g.2.1 (iC x (s.take g.1)).length g.2.2) (iC x (s.take g.1))]) (0,none,0) (Nat.zero_le _) ⟨rfl,rfl,rfl,rfl,trivial⟩ me ?_)
 rintro⟨i,Ao,co⟩ hi'
 try dsimp only
 have hi:i≤s.length:=hi'
 have hlt:=oX x (s.take i)
 rw[List.length_take] at hlt
 refine ac<|ac<|aa<|rn 2 [0,1,5,6,7,8] rfl<|af (B7 Tryz.underlying9 rfl rfl) rfl rfl<|rn 1 [0,1,5,6,10] rfl<|ae<|aw rfl (fun hlt=>?_) (fun hlt=>?_)
 ·have hil:i<s.length:=by omega
  have hsn:=zI (x:=x) hil
  refine ax (ap ?_)
  refine dF (fun _:Option Addr×Nat=>True) (fun g=> [(0,.string ⟨s.toArray⟩),(1,.int .i64 x),(5,.slice g.1 (iC x (s.take (i+1))).length g.2),(6,.int .i64 (i:Int))]) (fun g=> [aj (.slice g.1 (iC x (s.take (i+1))).length g.2) (iC x (s.take (i+1)))]) ?_ ?_
  ·rw[hsn]
   refine aL<|ac<|aa<|rn 2 [0,1,5,6,13,14] rfl<|af (B8 (k:=i) Tryz.underlying9 hil rfl rfl rfl) rfl rfl<|ae<|aL<|ac<|aa<|rn 2 [0,1,5,6,15,16] rfl<|ae<|aw rfl (fun h1=>?_) (fun h1=>?_)
   ·have e:mh x (s.getD i 0)= [1]:=by unfold mh;rw[if_pos h1]
    rw[e]
    refine aa<|rn 1 [0,1,6,18] rfl<|ag (bh (cs:= [_]) ah aI a7 rfl rfl rfl rfl rfl) rfl rfl (fun g1 _=>?_)
    refine ag (dm (α:=Int) (bytes:=8) 1 [] rfl ah (bM da) rfl (eA fc fc) (dI (show aX _ from by decide)) (by omega) (by omega) rfl rfl rfl) rfl rfl (fun⟨A5,c5⟩ _=>?_)
    try dsimp only
    refine rn 1 [0,1,5,6] rfl<|bE (aK (aK ?_))
    refine aY (A5,c5) (trivial) ⟨rfl,rfl,rfl,rfl,trivial⟩ me
   refine ac<|aa<|rn 2 [0,1,5,6,15,21] rfl<|ae<|aw rfl (fun h2=>?_) (fun h2=>?_)
   ·have e:mh x (s.getD i 0)= [2]:=by unfold mh;rw[if_neg h1,if_pos h2]
    rw[e]
    refine aa<|rn 1 [0,1,6,23] rfl<|ag (bh (cs:= [_]) ah aI a7 rfl rfl rfl rfl rfl) rfl rfl (fun g2 _=>?_)
    refine ag (dm (α:=Int) (bytes:=8) 2 [] rfl ah (bM da) rfl (eA fc fc) (dI (show aX _ from by decide)) (by omega) (by omega) rfl rfl rfl) rfl rfl (fun⟨A5,c5⟩ _=>?_)
    try dsimp only
    refine rn 1 [0,1,5,6] rfl<|bE (aK (aK ?_))
    refine aY (A5,c5) (trivial) ⟨rfl,rfl,rfl,rfl,trivial⟩ me
   refine ac<|aa<|rn 2 [0,1,5,6,15,26] rfl<|ae<|aw rfl (fun h3=>?_) (fun h3=>?_)
   ·have e:mh x (s.getD i 0)= [3]:=by unfold mh;rw[if_neg h1,if_neg h2,if_pos h3]
    rw[e]
    refine aa<|rn 1 [0,1,6,28] rfl<|ag (bh (cs:= [_]) ah aI a7 rfl rfl rfl rfl rfl) rfl rfl (fun g3 _=>?_)
    refine ag (dm (α:=Int) (bytes:=8) 3 [] rfl ah (bM da) rfl (eA fc fc) (dI (show aX _ from by decide)) (by omega) (by omega) rfl rfl rfl) rfl rfl (fun⟨A5,c5⟩ _=>?_)
    try dsimp only
    refine rn 1 [0,1,5,6] rfl<|bE (aK (aK ?_))
    refine aY (A5,c5) (trivial) ⟨rfl,rfl,rfl,rfl,trivial⟩ me
   refine ac<|aa<|rn 2 [0,1,5,6,31] rfl<|ae<|aw rfl (fun h4=>?_) (fun h4=>?_)
   ·have e:mh x (s.getD i 0)= [x]:=by unfold mh;rw[if_neg h1,if_neg h2,if_neg h3,if_pos h4]
    rw[e]
    refine aa<|rn 2 [0,1,6,33,34] rfl<|ag (bh (cs:= [_]) ah aI a7 rfl rfl rfl rfl rfl) rfl rfl (fun g4 _=>?_)
    refine ag (dm (α:=Int) (bytes:=8) x [] rfl ah (bM da) rfl (eA fc fc) (dI hx) (by omega) (by omega) rfl rfl rfl) rfl rfl (fun⟨A5,c5⟩ _=>?_)
    try dsimp only
    refine rn 1 [0,1,5,6] rfl<|bE (aK (aK ?_))
    refine aY (A5,c5) (trivial) ⟨rfl,rfl,rfl,rfl,trivial⟩ me
   have e:mh x (s.getD i 0)= []:=by unfold mh;rw[if_neg h1,if_neg h2,if_neg h3,if_neg h4]
   rw[e,List.append_nil]
   refine ax (aK (aK ?_))
   refine aY (Ao,co) (trivial) ⟨rfl,rfl,rfl,rfl,trivial⟩ me
  rintro⟨A5,c5⟩ _
  refine aa<|rn 1 [0,1,5,11] rfl<|af (bH rfl rfl rfl (by omega)) rfl rfl<|rn 1 [0,1,5,6] rfl<|br (i+1,A5,c5) (hil) (by show _ - _<_ - _;omega) ⟨rfl,rfl,rfl,rfl,trivial⟩ me
 obtain rfl:i=s.length:=by omega
 refine bN (aM (aM (cc (ap ?_))))
 refine ac<|aa<|rn 2 [4] rfl<|ae<|au<|aA Tryz.results144 (aq rfl) ?_
 intro w hw
 rw[List.take_length] at hw⊢
 exact⟨_,rfl,jL hw⟩
end
section
theorem nS {c:Int} (h8:¬c=8) (h9:¬c=9) (x:Int):iC x (cY c).1=(cB c).1∧iC x (cY c).2=(cB c).2:=by
 unfold cY cB
 by_cases h1:c=1∨c=21
 ·rw[if_pos h1,if_pos h1];exact⟨rfl,rfl⟩
 rw[if_neg h1,if_neg h1]
 by_cases h2:c=5∨c=6∨c=7
 ·rw[if_pos h2,if_pos h2];exact⟨rfl,rfl⟩
 rw[if_neg h2,if_neg h2,if_neg h8,if_neg h9]
 by_cases h3:c=11∨c=20
 ·rw[if_pos h3,if_pos h3];exact⟨rfl,rfl⟩
 rw[if_neg h3,if_neg h3]
 by_cases h4:c=14
 ·rw[if_pos h4,if_pos h4];exact⟨rfl,rfl⟩
 rw[if_neg h4,if_neg h4]
 by_cases h5:c=15
 ·rw[if_pos h5,if_pos h5];exact⟨rfl,rfl⟩
 rw[if_neg h5,if_neg h5]
 by_cases h6:c=16
 ·rw[if_pos h6,if_pos h6];exact⟨rfl,rfl⟩
 rw[if_neg h6,if_neg h6]
 by_cases h7:c=17∨c=19
 ·rw[if_pos h7,if_pos h7];exact⟨rfl,rfl⟩
 rw[if_neg h7,if_neg h7]
 by_cases h10:c=18
 ·rw[if_pos h10,if_pos h10];exact⟨rfl,rfl⟩
 rw[if_neg h10,if_neg h10]
 exact⟨rfl,rfl⟩
theorem uU (c:Int):(cY c).1.length≤3∧(cY c).2.length≤3:=by
 unfold cY
 repeat (first | split | decide)
def gv (f:aC) (o:cn):Int:=if o.c=8∨o.c=9 then f.locals.getD o.a.toNat 0 else 0
theorem wo {fs:List aC} {f:aC} {o:cn} {s:List Int} (h2:¬o.c=2) (h3:¬o.c=3) (h4:¬o.c=4) (h12:¬o.c=12) (h13:¬o.c=13):tl fs f o s=some (iC (gv f o) (cY o.c).1,iC (gv f o) (cY o.c).2):=by
 unfold tl gv
 rw[if_neg h2,if_neg h3,if_neg h4,if_neg h12,if_neg h13]
 by_cases h8:o.c=8
 ·rw[if_pos h8,if_pos (.inl h8),h8];rfl
 rw[if_neg h8]
 by_cases h9:o.c=9
 ·rw[if_pos h9,if_pos (.inr h9),h9];rfl
 rw[if_neg h9,if_neg (by omega),(nS h8 h9 0).1,(nS h8 h9 0).2]
theorem n5 {fs:List aC} {f:aC} {o:cn} {s:List Int} (h:tl fs f o s=none):eX fs f o s=none:=by rw[vw,h]
theorem pG {fs:List aC} {f:aC} {o:cn} {s T V:List Int} (h:tl fs f o s=some (T,V)) (hn:¬(T.length≤s.length∧(s.take (s.length - T.length)++V).length≤8∧Le (s.drop (s.length - T.length)) T)):eX fs f o s=none:=by
 cases e:eX fs f o s with
 | none=>rfl
 | some v=>
  obtain⟨T',V',h1,h2,h3,h4,_⟩:=gG.1 e
  rw[h] at h1
  cases h1
  exact absurd ⟨h2,h3,h4⟩ hn
set_option maxRecDepth 100000 in
set_option maxHeartbeats 4000000 in
theorem zY (fs:List aC) (f:aC) (o:cn) (s:List Int) (Ap A1 A2 As:Option Addr) (cp c1 c2 cs:Nat) (w:World) (hp:Sl w (.slice Ap fs.length cp) fs) (hlo:Sl w (.slice A1 f.locals.length c1) f.locals) (hs:Sl w (.slice As s.length cs) s)
  (hok:xB fs f o) (hres:∀k,k<fs.length→0≤(av fs k).result) (hrf:0≤f.result) (hl:s.length≤1000) :
  Calls Tryz.prog 108 #[.agg #[.slice Ap fs.length cp],.agg #[.int .i64 f.params,.slice A1 f.locals.length c1,.int .i64 f.result,.slice A2 f.code.length c2],.agg #[.int .i64 o.c,.int .i64 o.a],.slice As s.length cs] w fun e w'=>
   ∃g:(Option Addr×Nat)×List Int,(∀v,eX fs f o s=some v→g.2=v)∧e= .returned (.tuple #[.slice g.1.1 g.2.length g.1.2,.bool (eX fs f o s).isSome])∧Cw w.heap.size w [aj (.slice g.1.1 g.2.length g.1.2) g.2] w':=by
 have hcapS:=bX.cap hs
 refine enter Tryz.func108 rfl Tryz.ntmps108 rfl ?_
 refine ac<|aa<|ag (bF rfl rfl rfl) rfl rfl (fun g1 _=>?_)
 refine ag (bF rfl rfl rfl) rfl rfl (fun g2 _=>?_)
 refine ag (bF rfl rfl rfl) rfl rfl (fun g3 _=>?_)
 refine rn 2 [3,4,5,6] rfl<|ae<|ac<|aa<|rn 1 [3,4,5,6,19] rfl<|af (aN ah rfl rfl) rfl rfl<|rn 1 [3,4,5,6,10] rfl<|ae<|ac<|aa<|rn 2 [3,4,5,6,10,11,12] rfl<|ae<|dF (fun g:List Int×List Int×(Option Addr×Nat)×(Option Addr×Nat)=>tl fs f o s=some (g.1,g.2.1)∧(g.1.length≤1000∧g.2.1.length≤1000)) (fun g=> [(3,.slice As s.length cs),(10,.int .i64 (s.length:Int)),(11,.slice g.2.2.1.1 g.1.length g.2.2.1.2),(12,.slice g.2.2.2.1 g.2.1.length g.2.2.2.2)]) (fun g=> [oW w.heap.size w (.slice g.2.2.1.1 g.1.length g.2.2.1.2) g.1,oW w.heap.size w (.slice g.2.2.2.1 g.2.1.length g.2.2.2.2) g.2.1]) ?_ ?_
 ·have hpar:=hok.par
  refine ac<|aa<|rn 1 [3,4,5,6,10,11,12,21] rfl<|af (ai fc ar rfl rfl (by rfl)) rfl rfl ?_
  refine ae<|aL<|ac<|ac<|aa<|rn 2 [3,4,5,6,10,11,12,22,49] rfl<|ae<|ji (fun _:Unit=>True) (fun _=> [(3,.slice As s.length cs),(4,.pointer (some ⟨g1,0,none⟩)),(5,.pointer (some ⟨g2,0,none⟩)),(6,.pointer (some ⟨g3,0,none⟩)),(10,.int .i64 (s.length:Int)),(11,.slice none 0 0),(12,.slice none 0 0),(22,.int .i64 o.c),(49,.bool (decide (o.c=2∨o.c=3)))]) (fun _=> [am g1 [.slice Ap fs.length cp] 24,am g2 [.int .i64 f.params,.slice A1 f.locals.length c1,.int .i64 f.result,.slice A2 f.code.length c2] 110,am g3 [.int .i64 o.c,.int .i64 o.a] 49]) ?_ ?_
  ·refine aw rfl (fun k2=>?_) (fun k2=>?_)
   ·rw[decide_eq_true (.inl k2)]
    refine cP (t:=49) (v':= .bool true) rfl (by rw[decide_eq_true k2]) ?_
    refine ax<|aY () (trivial) ⟨rfl,rfl,rfl,rfl,rfl,rfl,rfl,rfl,rfl,trivial⟩ me
   rw[show decide (o.c=2∨o.c=3)=decide (o.c=3) from decide_eq_decide.2 ⟨fun h=>h.resolve_left k2,.inr⟩]
   refine aa<|rn 2 [3,4,5,6,10,11,12,22,49] rfl<|fa () (trivial) ⟨rfl,rfl,rfl,rfl,rfl,rfl,rfl,rfl,rfl,trivial⟩ me
  rintro _ _
  refine aw rfl (fun k23=>?_) (fun k23=>?_)
  ·refine ac<|ac<|aa<|rn 2 [3,6,10,12,53] rfl<|ae<|aw rfl (fun hn=>?_) (fun hn=>?_)
   ·have hno:=n5 (show tl fs f o s=none from by
     unfold tl
     rcases k23 with k | k
     ·rw[if_pos k,if_pos (by omega)]
     rw[if_neg (by omega),if_pos k,if_pos (by omega)])
    refine ac<|aa<|rn 2 [8,9] rfl<|ae<|au (ak (aG (ak ?_)))
    refine bD l9 (aq rfl) (aq rfl) ?_
    intro w hw
    exact⟨((none,0),[]),fun v hv=>(by rw[hno] at hv;cases hv),by rw[hno];rfl,Cw.nilO Int (hw.msub (T:= []) ms)⟩
   have hcut:=bX.cut hs (s.length - 1) s.length (by omega) (Nat.le_refl _)
   have hdl:(s.drop (s.length - 1)).length=s.length - (s.length - 1):=List.length_drop
   rw[List.take_of_length_le (by omega),←hdl] at hcut
   refine ax (ap ?_)
   refine ac<|aa<|rn 2 [3,6,10,12,54,55] rfl<|af (bx rfl rfl rfl (by omega)) rfl rfl<|bA (t:=56) (v':= .int .i64 ((s.length - 1:Nat):Int)) rfl (by congr 1;omega) ?_
   refine af (lQ (lo:=s.length - 1) (hi:=s.length) ah aI ⟨by omega,by omega⟩ rfl rfl rfl rfl) rfl rfl ?_
   refine rn 1 [3,6,10,11,12] rfl<|ae<|cP (t:=11) (v':= .slice (fB As (s.length - 1) cs 1) (s.drop (s.length - 1)).length (cs - (s.length - 1))) rfl (by rw[hdl]) ?_
   refine ac<|aa<|rn 1 [3,10,11,12,58] rfl<|af (ai fc ar rfl rfl (by rfl)) rfl rfl ?_
   refine rn 1 [3,10,11,12,60] rfl<|ae<|aw rfl (fun h3=>?_) (fun h3=>?_)
   ·have htl:tl fs f o s=some (s.drop (s.length - 1),[s.getD (s.length - 1) 0,s.getD (s.length - 1) 0]):=by unfold tl;rw[if_neg (by omega),if_pos h3,if_neg (by omega)]
    have i1:=ia hs (k:=s.length - 1) (by omega)
    have ez:((s.length:Int) - 1).toNat=s.length - 1:=by omega
    refine bQ (.still 0 (.still 1 (.still 2 (.still 3 (.still 4 (.still 5 (.still 6 (.still 7 (.still 8 (.still 9 (.pick 10 (.calm 11 .done) .stop))))))))))) [10,11] rfl (by kernel_rfl) (by kernel_rfl) ?_
    refine aV ha 2 [3,10,11,12,61,62] rfl<|an rfl (bx rfl rfl rfl (by omega)) rfl rfl ha ?_
    refine an rfl (fw ah aI (.ro hs) (by omega) rfl rfl rfl) rfl rfl ha ?_
    refine an rfl (a8 (SF.int (.ro hs) (by omega)) rfl rfl ar) rfl rfl ha ?_
    refine aV ha 2 [3,10,11,12,65,66,67] rfl<|an rfl (bx rfl rfl rfl (by omega)) rfl rfl ha ?_
    refine an rfl (fw ah aI (.ro hs) (by omega) rfl rfl rfl) rfl rfl ha ?_
    refine an rfl (a8 (SF.int (.ro hs) (by omega)) rfl rfl ar) rfl rfl ha ?_
    refine aB rfl (bh (cs:= [_,_]) ah aI a7 rfl rfl rfl rfl rfl) rfl rfl (.inl rfl) (fun g4 _=>?_) ay
    refine dZ 1 [3,10,11,12] rfl<|ck (aK ?_)
    rw[ez]
    refine aY (s.drop (s.length - 1),[s.getD (s.length - 1) 0,s.getD (s.length - 1) 0],(fB As (s.length - 1) cs 1,cs - (s.length - 1)),(some ⟨g4,0,none⟩,2)) (⟨htl,by show (s.drop (s.length - 1)).length≤1000;omega,by show 2≤1000;decide⟩) ⟨rfl,rfl,rfl,rfl,trivial⟩ (fun w h=>(lu hcut (mT (cA (α:=Int) (m:=2) [s.getD (s.length - 1) 0,s.getD (s.length - 1) 0] rfl (lD i1 i1) rfl (by decide) (h.msub (T:= [am g4 _ _]) ms)))).msub ms)
   have htl:tl fs f o s=some (s.drop (s.length - 1),[]):=by unfold tl;rw[if_pos (by omega),if_neg (by omega)]
   refine ax (aK ?_)
   refine aY (s.drop (s.length - 1),[],(fB As (s.length - 1) cs 1,cs - (s.length - 1)),(none,0)) (⟨htl,by show (s.drop (s.length - 1)).length≤1000;omega,by show 0≤1000;decide⟩) ⟨rfl,rfl,rfl,rfl,trivial⟩ (fun w h=>(lu hcut (lu (bX.nil_ (α:=Int)) h)).msub ms)
  have n2:¬o.c=2:=fun e=>k23 (.inl e)
  have n3:¬o.c=3:=fun e=>k23 (.inr e)
  refine ac<|aa<|rn 2 [3,4,5,6,10,11,12,22,72] rfl<|ae<|aw rfl (fun h4=>?_) (fun h4=>?_)
  ·refine ac<|ac<|aa<|rn 2 [3,10,75] rfl<|ae<|aw rfl (fun hn=>?_) (fun hn=>?_)
   ·have hno:=n5 (show tl fs f o s=none from by unfold tl;rw[if_neg n2,if_neg n3,if_pos h4,if_pos (by omega)])
    refine ac<|aa<|rn 2 [8,9] rfl<|ae<|au (ak (aG (ak ?_)))
    refine bD l9 (aq rfl) (aq rfl) ?_
    intro w hw
    exact⟨((none,0),[]),fun v hv=>(by rw[hno] at hv;cases hv),by rw[hno];rfl,Cw.nilO Int (hw.msub (T:= []) ms)⟩
   have htl:tl fs f o s=some (s.drop (s.length - 2),[s.getD (s.length - 1) 0,s.getD (s.length - 2) 0]):=by unfold tl;rw[if_neg n2,if_neg n3,if_pos h4,if_neg (by omega)]
   have hcut:=bX.cut hs (s.length - 2) s.length (by omega) (Nat.le_refl _)
   have hdl:(s.drop (s.length - 2)).length=s.length - (s.length - 2):=List.length_drop
   rw[List.take_of_length_le (by omega),←hdl] at hcut
   have i1:=ia hs (k:=s.length - 1) (by omega)
   have i2:=ia hs (k:=s.length - 2) (by omega)
   have ez:((s.length:Int) - 1).toNat=s.length - 1:=by omega
   have ez2:((s.length:Int) - 2).toNat=s.length - 2:=by omega
   refine ax (ap ?_)
   refine bQ (.still 0 (.still 1 (.still 2 (.still 3 (.still 4 (.still 5 (.still 6 (.still 7 (.still 8 (.still 9 (.still 10 (.still 11 (.still 12 (.still 13 (.still 15 (.pick 14 (.still 16 .done) .stop)))))))))))))))) [] rfl (by kernel_rfl) (by kernel_rfl) ?_
   refine aV ha 2 [3,10,76,77] rfl<|an rfl (bx rfl rfl rfl (by omega)) rfl rfl ha ?_
   refine dh (t:=78) (v':= .int .i64 ((s.length - 2:Nat):Int)) rfl (by congr 1;omega) ?_
   refine an rfl (lQ (lo:=s.length - 2) (hi:=s.length) ah aI ⟨by omega,by omega⟩ rfl rfl rfl rfl) rfl rfl ha ?_
   refine aV ha 2 [3,10,79,80,81] rfl<|an rfl (bx rfl rfl rfl (by omega)) rfl rfl ha ?_
   refine an rfl (fw ah aI (.ro hs) (by omega) rfl rfl rfl) rfl rfl ha ?_
   refine an rfl (a8 (SF.int (.ro hs) (by omega)) rfl rfl ar) rfl rfl ha ?_
   refine aV ha 2 [3,10,79,84,85,86] rfl<|an rfl (bx rfl rfl rfl (by omega)) rfl rfl ha ?_
   refine an rfl (fw ah aI (.ro hs) (by omega) rfl rfl rfl) rfl rfl ha ?_
   refine an rfl (a8 (SF.int (.ro hs) (by omega)) rfl rfl ar) rfl rfl ha ?_
   refine aV ha 1 [3,10,11,84,89] rfl<|aB rfl (bh (cs:= [_,_]) ah aI a7 rfl rfl rfl rfl rfl) rfl rfl (.inr fun _=>ha) (fun g5 _=>?_) ay
   refine aV ha 1 [3,10,11,12] rfl<|ck (aK ?_)
   rw[ez,ez2,←hdl]
   refine aY (s.drop (s.length - 2),[s.getD (s.length - 1) 0,s.getD (s.length - 2) 0],(fB As (s.length - 2) cs 1,cs - (s.length - 2)),(some ⟨g5,0,none⟩,2)) (⟨htl,by show (s.drop (s.length - 2)).length≤1000;omega,by show 2≤1000;decide⟩) ⟨rfl,rfl,rfl,rfl,trivial⟩ (fun w h=>(lu hcut (mT (cA (α:=Int) (m:=2) [s.getD (s.length - 1) 0,s.getD (s.length - 2) 0] rfl (lD i1 i2) rfl (by decide) (h.msub (T:= [am g5 _ _]) ms)))).msub ms)
  refine ac<|aa<|rn 2 [3,4,5,6,10,11,12,22,91] rfl<|ae<|aw rfl (fun h12=>?_) (fun h12=>?_)
  ·have ⟨ha0,hal⟩:=hok.call h12
   have hkl:o.a.toNat<fs.length:=by omega
   obtain⟨B1,d1,B2,d2,hBl,hBc,hBi,hcell⟩:=bX.fn hp hkl
   have hpk:=hpar o.a.toNat hkl
   have hrk:=hres o.a.toNat hkl
   have htl:tl fs f o s=some (eb (av fs o.a.toNat),bU (av fs o.a.toNat)):=by unfold tl;rw[if_neg n2,if_neg n3,if_neg h4,if_neg (by omega),if_neg (by omega),if_pos h12]
   have hcl:(eb (av fs o.a.toNat)).length=(av fs o.a.toNat).params.toNat:=by unfold eb;rw[List.length_take];omega
   have hkp:(av fs o.a.toNat).params.toNat≤(av fs o.a.toNat).locals.length:=by omega
   have hto:Sl w (.slice B1 (eb (av fs o.a.toNat)).length d1) (eb (av fs o.a.toNat)):=by
    rw[hcl]
    exact bX.to hBl hkp
   have hBcap:=bX.cap hBl
   refine ac<|aa<|rn 1 [3,6,10,12,93] rfl<|af (ai fc cQ rfl rfl (by rfl)) rfl rfl ?_
   refine rn 1 [3,10,12,94,95] rfl<|af (ai fc ar rfl rfl (by rfl)) rfl rfl ?_
   refine af (fw bI bq (.ro hp) (by omega) rfl rfl rfl) rfl rfl<|af (cr (hcell _) rfl rfl d8 bq) rfl rfl<|ag (aZ ey rfl rfl) rfl rfl (fun g6 _=>?_)
   refine ag (aH _ fc bq rfl rfl rfl rfl rfl (by rfl) rfl (by rfl)) rfl rfl (fun _ _=>?_)
   refine ae<|ac<|aa<|rn 1 [3,10,12,13,99] rfl<|af (ai fc a5 rfl rfl (by rfl)) rfl rfl ?_
   refine rn 1 [3,10,12,13,100,101] rfl<|af (ai fc ar rfl rfl (by rfl)) rfl rfl ?_
   refine bA (t:=102) (v':= .int .i64 ((((av fs o.a.toNat).params.toNat:Nat)):Int)) rfl (by congr 1;omega) ?_
   refine af (fC (k:=(av fs o.a.toNat).params.toNat) ah aI (Nat.le_trans hkp hBcap) rfl rfl rfl) rfl rfl<|rn 1 [3,10,11,12,13] rfl<|ae<|ac<|aa<|rn 1 [3,10,11,12,13,104] rfl<|af (ai fc ar rfl rfl (by rfl)) rfl rfl ?_
   refine rn 1 [3,10,11,12,13,106] rfl<|ae<|cP (t:=11) (v':= .slice B1 (eb (av fs o.a.toNat)).length d1) rfl (by rw[hcl]) ?_
   refine aw rfl (fun hr0=>?_) (fun hr0=>?_)
   ·have er:bU (av fs o.a.toNat)= [(av fs o.a.toNat).result]:=by unfold bU;rw[if_neg (by omega)]
    refine aa<|rn 1 [3,10,11,107] rfl<|af (ai fc ar rfl rfl (by rfl)) rfl rfl ?_
    refine ag (bh (cs:= [_]) ah aI a7 rfl rfl rfl rfl rfl) rfl rfl (fun g7 _=>?_)
    refine rn 1 [3,10,11,12] rfl<|bE (aK ?_)
    refine aY (eb (av fs o.a.toNat),[(av fs o.a.toNat).result],(B1,d1),(some ⟨g7,0,none⟩,1)) (⟨er▸htl,by show (eb (av fs o.a.toNat)).length≤1000;omega,by show 1≤1000;decide⟩) ⟨rfl,rfl,rfl,rfl,trivial⟩ (fun w h=>(lu hto (mT (cA (α:=Int) (m:=1) [(av fs o.a.toNat).result] rfl (iH hBi.2) rfl (by decide) (h.msub (T:= [am g7 _ _]) ms)))).msub ms)
   have er:bU (av fs o.a.toNat)= []:=by unfold bU;rw[if_pos (by omega)]
   refine ax (aK ?_)
   refine aY (eb (av fs o.a.toNat),[],(B1,d1),(none,0)) (⟨er▸htl,by show (eb (av fs o.a.toNat)).length≤1000;omega,by show 0≤1000;decide⟩) ⟨rfl,rfl,rfl,rfl,trivial⟩ (fun w h=>(lu hto (lu (bX.nil_ (α:=Int)) h)).msub ms)
  refine ac<|aa<|rn 2 [3,5,6,10,11,12,110] rfl<|ae<|aw rfl (fun h13=>?_) (fun h13=>?_)
  ·refine ac<|ac<|aa<|rn 1 [3,5,10,11,12,112] rfl<|af (ai fc ar rfl rfl (by rfl)) rfl rfl ?_
   refine rn 1 [3,5,10,11,12,114] rfl<|ae<|ji (fun _:Option Addr×Nat=>True) (fun g=> [(3,.slice As s.length cs),(10,.int .i64 (s.length:Int)),(11,.slice g.1 (bU f).length g.2),(12,.slice none 0 0)]) (fun g=> [oW w.heap.size w (.slice g.1 (bU f).length g.2) (bU f)]) ?_ ?_
   ·refine aw rfl (fun hr0=>?_) (fun hr0=>?_)
    ·have er:bU f= [f.result]:=by unfold bU;rw[if_neg (by omega)]
     rw[er]
     refine aa<|rn 1 [3,10,12,115] rfl<|af (ai fc ar rfl rfl (by rfl)) rfl rfl ?_
     refine ag (bh (cs:= [_]) ah aI a7 rfl rfl rfl rfl rfl) rfl rfl (fun g8 _=>?_)
     refine rn 1 [3,10,11,12] rfl<|fa (some ⟨g8,0,none⟩,1) (trivial) ⟨rfl,rfl,rfl,rfl,trivial⟩ (fun w h=>(mT (cA (α:=Int) (m:=1) [f.result] rfl (iH hok.res) rfl (by decide) (h.msub (T:= [am g8 _ _]) ms))).msub ms)
    have er:bU f= []:=by unfold bU;rw[if_pos (by omega)]
    rw[er]
    refine ax<|aY (none,0) (trivial) ⟨rfl,rfl,rfl,rfl,trivial⟩ (fun w h=>(lu (bX.nil_ (α:=Int)) h).msub ms)
   rintro⟨A4,c4⟩ _
   try dsimp only
   have hrl:(bU f).length≤1:=by unfold bU;split <;> simp
   refine ac<|aa<|rn 2 [3,10,11,12,118,119] rfl<|af (aN ah rfl rfl) rfl rfl<|rn 1 [3,10,11,12,121] rfl<|ae<|b9 rfl (fun hne=>?_) (fun hne=>?_)
   ·have hno:=n5 (show tl fs f o s=none from by unfold tl;rw[if_neg n2,if_neg n3,if_neg h4,if_neg (by omega),if_neg (by omega),if_neg h12,if_pos h13,if_pos (by omega)])
    refine ac<|aa<|rn 2 [8,9] rfl<|ae<|au (aG (ak ?_))
    refine bD l9 (aq rfl) (aq rfl) ?_
    intro w hw
    exact⟨((none,0),[]),fun v hv=>(by rw[hno] at hv;cases hv),by rw[hno];rfl,Cw.nilO Int (hw.msub (T:= []) ms)⟩
   have htl:tl fs f o s=some (bU f,[]):=by unfold tl;rw[if_neg n2,if_neg n3,if_neg h4,if_neg (by omega),if_neg (by omega),if_neg h12,if_pos h13,if_neg (by omega)]
   refine ax (aK ?_)
   refine aY (bU f,[],(A4,c4),(none,0)) (⟨htl,by show (bU f).length≤1000;omega,by show 0≤1000;decide⟩) ⟨rfl,rfl,rfl,rfl,trivial⟩ (fun w h=>(lu (bX.nil_ (α:=Int)) h).msub ms)
  have htl:=wo (fs:=fs) (f:=f) (o:=o) (s:=s) n2 n3 h4 h12 h13
  have hll:=uU o.c
  have h1l:=oX (gv f o) (cY o.c).1
  have h2l:=oX (gv f o) (cY o.c).2
  have hxi:aX (gv f o):=by
   unfold gv
   split
   ·rename_i k
    have:=hok.loc k
    exact ia hlo (k:=o.a.toNat) (by omega)
   decide
  refine ac<|aa<|rn 1 [3,5,6,10,14] rfl<|ae<|dF (fun _:Unit=>True) (fun _=> [(3,.slice As s.length cs),(6,.pointer (some ⟨g3,0,none⟩)),(10,.int .i64 (s.length:Int)),(14,.int .i64 (gv f o))]) (fun _=> [am g1 [.slice Ap fs.length cp] 24,am g2 [.int .i64 f.params,.slice A1 f.locals.length c1,.int .i64 f.result,.slice A2 f.code.length c2] 110,am g3 [.int .i64 o.c,.int .i64 o.a] 49]) ?_ ?_
  ·refine ac<|aa<|rn 1 [3,5,6,10,14,23] rfl<|af (ai fc ar rfl rfl (by rfl)) rfl rfl ?_
   refine rn 2 [3,5,6,10,14,26] rfl<|bw (t:=26) rfl (fun h8=>?_) (fun h8=>?_)
   ·have h8:o.c=8:=of_decide_eq_true h8
    have el:gv f o=f.locals.getD o.a.toNat 0:=by unfold gv;rw[if_pos (.inl h8)]
    have hlk:=hok.loc (.inl h8)
    rw[el]
    refine rn 4 [3,5,6,10,14,30] rfl<|ae<|bR rfl<|aa<|rn 1 [3,6,10,31] rfl<|af (ai fc a5 rfl rfl (by rfl)) rfl rfl ?_
    refine rn 1 [3,6,10,32,33] rfl<|af (ai fc ar rfl rfl (by rfl)) rfl rfl ?_
    refine af (fw ah aI (.ro hlo) (by omega) rfl rfl rfl) rfl rfl<|af (a8 (SF.int (.ro hlo) (by omega)) rfl rfl ar) rfl rfl<|rn 1 [3,6,10,14] rfl<|fa () (trivial) ⟨rfl,rfl,rfl,rfl,trivial⟩ me
   have h8:¬o.c=8:=of_decide_eq_false h8
   refine rn 1 [3,5,6,10,14,26,27] rfl<|af (ai fc ar rfl rfl (by rfl)) rfl rfl ?_
   refine rn 2 [3,5,6,10,14,30] rfl<|ae<|aw rfl (fun h9=>?_) (fun h9=>?_)
   ·have el:gv f o=f.locals.getD o.a.toNat 0:=by unfold gv;rw[if_pos (.inr h9)]
    have hlk:=hok.loc (.inr h9)
    rw[el]
    refine aa<|rn 1 [3,6,10,31] rfl<|af (ai fc a5 rfl rfl (by rfl)) rfl rfl ?_
    refine rn 1 [3,6,10,32,33] rfl<|af (ai fc ar rfl rfl (by rfl)) rfl rfl ?_
    refine af (fw ah aI (.ro hlo) (by omega) rfl rfl rfl) rfl rfl<|af (a8 (SF.int (.ro hlo) (by omega)) rfl rfl ar) rfl rfl<|rn 1 [3,6,10,14] rfl<|fa () (trivial) ⟨rfl,rfl,rfl,rfl,trivial⟩ me
   have el:gv f o=0:=by unfold gv;rw[if_neg (fun h=>h.elim h8 h9)]
   rw[el]
   refine ax<|aY () (trivial) ⟨rfl,rfl,rfl,rfl,trivial⟩ me
  rintro _ _
  refine ac<|aa<|rn 1 [3,10,14,38] rfl<|af (ai fc ar rfl rfl (by rfl)) rfl rfl ?_
  refine ag (bK rfl rfl rfl Tryz.call143 (fun w hw=>wy o.c w)) rfl rfl (fun _ _=>?_)
  refine rn 5 [3,10,14,15,16] rfl<|ae<|aa<|rn 2 [3,10,14,16,43,44] rfl<|ag (eL rfl rfl rfl Tryz.call144 (fun w hw=>qm (cY o.c).1 (gv f o) hxi w (by omega))) rfl rfl (fun⟨A7,c7⟩ _=>?_)
  try dsimp only
  refine rn 2 [3,10,45,46,47] rfl<|ag (eL rfl rfl rfl Tryz.call144 (fun w hw=>qm (cY o.c).2 (gv f o) hxi w (by omega))) rfl rfl (fun⟨A8,c8⟩ _=>?_)
  try dsimp only
  refine rn 2 [3,10,11,12] rfl<|bE (aK ?_)
  refine aY (iC (gv f o) (cY o.c).1,iC (gv f o) (cY o.c).2,(A7,c7),(A8,c8)) (⟨htl,by show (iC (gv f o) (cY o.c).1).length≤1000;omega,by show (iC (gv f o) (cY o.c).2).length≤1000;omega⟩) ⟨rfl,rfl,rfl,rfl,trivial⟩ (fun w' h=>(mT ((mT h).msub (T:= [aj (.slice A7 (iC (gv f o) (cY o.c).1).length c7) (iC (gv f o) (cY o.c).1),oW w.heap.size w (.slice A8 (iC (gv f o) (cY o.c).2).length c8) (iC (gv f o) (cY o.c).2)]) ms)).msub ms)
 rintro⟨T,V,⟨At,ct⟩,Av,cv⟩ hg
 obtain⟨htl,hT,hV⟩:tl fs f o s=some (T,V)∧(T.length≤1000∧V.length≤1000):=hg
 try dsimp only
 refine ac<|ac<|aa<|rn 2 [3,10,11,12,122,123] rfl<|af (aN ah rfl rfl) rfl rfl<|rn 1 [3,10,11,12,125] rfl<|ae<|aw rfl (fun h1=>?_) (fun h1=>?_)
 ·have hno:=pG htl (fun h=>by have:=h.1;omega)
  refine ac<|aa<|rn 2 [8,9] rfl<|ae<|au (ak ?_)
  refine bD l9 (aq rfl) (aq rfl) ?_
  intro w hw
  exact⟨((none,0),[]),fun v hv=>(by rw[hno] at hv;cases hv),by rw[hno];rfl,Cw.nilO Int (hw.msub (T:= []) ms)⟩
 have hTs:T.length≤s.length:=by omega
 refine ax (ap ?_)
 refine ac<|ac<|aa<|rn 1 [3,10,11,12,17] rfl<|ae<|ji (fun _:Unit=>Le (s.drop (s.length - T.length)) T) (fun _=> [(3,.slice As s.length cs),(10,.int .i64 (s.length:Int)),(11,.slice At T.length ct),(12,.slice Av V.length cv)]) (fun _=> [oW w.heap.size w (.slice At T.length ct) T,oW w.heap.size w (.slice Av V.length cv) V]) ?_ ?_
 ·refine aL (b8 (fun i:Nat=>i≤T.length∧∀j,j<i→cq (s.getD (s.length - T.length+j) 0) (T.getD j 0)=true) (fun i=>T.length - i) (fun i=> [(3,.slice As s.length cs),(10,.int .i64 (s.length:Int)),(11,.slice At T.length ct),(12,.slice Av V.length cv),(17,.int .i64 (i:Int))]) (fun _=> [oW w.heap.size w (.slice At T.length ct) T,oW w.heap.size w (.slice Av V.length cv) V]) 0 (⟨Nat.zero_le _,by omega⟩) ⟨rfl,rfl,rfl,rfl,rfl,trivial⟩ me ?_)
  rintro i hi'
  obtain⟨hi,hall⟩:i≤T.length∧∀j,j<i→cq (s.getD (s.length - T.length+j) 0) (T.getD j 0)=true:=hi'
  refine ac<|ac<|aa<|rn 2 [3,10,11,12,17,126,127] rfl<|af (aN ah rfl rfl) rfl rfl<|rn 1 [3,10,11,12,17,129] rfl<|ae<|aw rfl (fun hlt=>?_) (fun hlt=>?_)
  ·have hil:i<T.length:=by omega
   refine ax (ap ?_)
   refine ac<|aL<|ac<|bQ (.still 0 (.still 1 (.still 2 (.still 3 (.still 4 (.still 5 (.still 6 (.still 7 (.still 8 (.still 9 (.still 10 (.still 11 (.still 12 (.pick 13 (.still 14 .done) .stop)))))))))))))) [] rfl (by kernel_rfl) (by kernel_rfl) ?_
   refine aV ha 3 [3,10,11,12,17,132,133,134] rfl<|an rfl (aN ah rfl rfl) rfl rfl ha ?_
   refine an rfl (bx rfl rfl rfl (by omega)) rfl rfl ha ?_
   refine aV ha 1 [3,10,11,12,17,132,136,137] rfl<|an rfl (bH rfl rfl rfl (by omega)) rfl rfl ha ?_
   refine an rfl (fw ah aI (.ro hs) (by omega) rfl rfl rfl) rfl rfl ha ?_
   refine an rfl (a8 (SF.int (.ro hs) (by omega)) rfl rfl ar) rfl rfl ha ?_
   refine aV ha 2 [3,10,11,12,17,140,141,142] rfl<|an rfl (aO ah aI (SF.rb rfl fc) (by omega) rfl rfl rfl) rfl rfl ha ?_
   refine an rfl (a8 (SF.int (SF.rb rfl fc) (by omega)) rfl rfl ar) rfl rfl ha ?_
   refine dh (t:=140) (v':= .int .i64 (s.getD (s.length - T.length+i) 0)) rfl (by rw[show ((s.length:Int) - (T.length:Int)+(i:Int)).toNat=s.length - T.length+i from by omega]) ?_
   refine aB rfl (bK rfl rfl rfl FZ (fun w hw=>mD (s.getD (s.length - T.length+i) 0) (T.getD i 0) w)) rfl rfl (.inr fun _=>ha) (fun _ _=>?_) ay
   refine aV ha 1 [3,10,11,12,17,146] rfl<|cJ<|cH rfl (fun hb=>?_) (fun hb=>?_)
   ·have hb:cq (s.getD (s.length - T.length+i) 0) (T.getD i 0)=false:=by simpa using hb
    have hno:=pG htl (fun h=>by
     have:=h.2.2.2 i (by rw[List.length_drop];omega)
     rw[gw,hb] at this
     cases this)
    refine ac<|aa<|rn 2 [8,9] rfl<|ae<|au (aG (ak (ak (aG (ak ?_)))))
    refine bD l9 (aq rfl) (aq rfl) ?_
    intro w hw
    exact⟨((none,0),[]),fun v hv=>(by rw[hno] at hv;cases hv),by rw[hno];rfl,Cw.nilO Int (hw.msub (T:= []) ms)⟩
   have hb:cq (s.getD (s.length - T.length+i) 0) (T.getD i 0)=true:=by simpa using hb
   refine ax (aK (ap ?_))
   refine aa<|rn 1 [3,10,11,12,130] rfl<|af (bH rfl rfl rfl (by omega)) rfl rfl<|rn 1 [3,10,11,12,17] rfl<|br (i+1) (⟨hil,fun j hj=>by by_cases e:j=i;(· rw[e];exact hb);(· exact hall j (by omega))⟩) (by show _ - _<_ - _;omega) ⟨rfl,rfl,rfl,rfl,rfl,trivial⟩ me
  obtain rfl:i=T.length:=by omega
  refine bN (aM (aM (cc ?_)))
  refine aY () (⟨by rw[List.length_drop];omega,fun j hj=>by rw[List.length_drop] at hj;rw[gw];exact hall j (by omega)⟩) ⟨rfl,rfl,rfl,rfl,trivial⟩ me
 rintro _ hLe
 refine ac<|aa<|ag (bh (cs:= []) ah aI a7 rfl rfl rfl rfl rfl) rfl rfl (fun g9 _=>?_)
 refine rn 3 [12,147,148,149,150] rfl<|af (aN ah rfl rfl) rfl rfl<|af (bx rfl rfl rfl (by omega)) rfl rfl<|iD (fun w h=>cA (α:=Int) (m:=0) [] rfl (by simp) rfl (by decide) h) ?_
 refine bA (t:=152) (v':= .int .i64 ((s.length - T.length:Nat):Int)) rfl (by congr 1;omega) ?_
 refine af (fC (k:=s.length - T.length) ah aI (by omega) rfl rfl rfl) rfl rfl ?_
 have hto:=bX.to hs (k:=s.length - T.length) (by omega)
 have htl2:(s.take (s.length - T.length)).length=s.length - T.length:=by rw[List.length_take];omega
 refine ag (dy (α:=Int) (bytes:=8) (xs:= []) (ys:=s.take (s.length - T.length)) rfl ah (bM da) rfl fc (.ro hto) (by simp only[List.length_nil];omega) (by simp only[List.length_nil];omega) rfl rfl rfl) rfl rfl (fun⟨A5,c5⟩ _=>?_)
 try dsimp only
 refine rn 1 [154,155] rfl ?_
 rw[List.nil_append]
 refine ag (dy (α:=Int) (bytes:=8) (xs:=s.take (s.length - T.length)) (ys:=V) rfl ah (bM da) rfl fc (SF.rb rfl fc) (by omega) (by omega) rfl rfl rfl) rfl rfl (fun⟨A6,c6⟩ _=>?_)
 try dsimp only
 refine rn 1 [18] rfl<|ae<|ac<|aa<|rn 2 [157,158] rfl<|af (aN ah rfl rfl) rfl rfl<|rn 3 [8,9] rfl<|ae<|au<|bD l9 (aq rfl) (aq rfl) ?_
 intro w hw
 by_cases h8:(s.take (s.length - T.length)++V).length≤8
 ·have hso:eX fs f o s=some (s.take (s.length - T.length)++V):=gG.2 ⟨T,V,htl,hTs,h8,hLe,rfl⟩
  refine⟨((A6,c6),s.take (s.length - T.length)++V),fun v hv=>by rw[hso] at hv;exact Option.some.inj hv,?_,hw.msub ms⟩
  rw[hso,decide_eq_true (by omega)]
  rfl
 have hno:=pG htl (fun h=>h8 h.2.1)
 refine⟨((A6,c6),s.take (s.length - T.length)++V),fun v hv=>(by rw[hno] at hv;cases hv),?_,hw.msub ms⟩
 rw[hno,decide_eq_false (by omega)]
 rfl
end
section
theorem vo {l:List cn} {pc:Nat} (hb:∀q∈di (bB l pc) pc,0≤q∧q≤l.length):di (bB l pc) pc=o7 l pc:=by
 refine oq (oP _ _) ((uM _).filter _) fun a=>?_
 unfold o7
 rw[my,List.mem_filter,zG]
 constructor
 ·intro hg
  have:=hb a ((my _ _ _).2 hg)
  exact⟨by omega,hg⟩
 exact fun hg=>hg.2
set_option maxRecDepth 100000 in
set_option maxHeartbeats 4000000 in
theorem ou (A:Option Addr) (c:Nat) (fs:List aC) (k:Nat) (w:World) (hs:Sl w (.slice A fs.length c) fs) (hk:k<fs.length) (hok:jp fs (av fs k)) (hty:l4 fs (av fs k)) (hn0:0<(av fs k).code.length) :
  Calls Tryz.prog 59 #[.agg #[.slice A fs.length c],.int .i64 (k:Int)] w fun e w'=> ∃g:(Option Addr×Nat)×List fU×List (Value×List Int),j9 g.2.1 g.2.2 (cD fs (av fs k)).1∧e= .returned (.tuple #[.slice g.1.1 g.2.1.length g.1.2,.bool (cD fs (av fs k)).2])∧
   Cw w.heap.size w [aj (.slice g.1.1 g.2.1.length g.1.2) g.2.1,eV g.2.2] w':=by
 obtain⟨A1,c1,A2,c2,hl,hc,hi,hcell⟩:=hs.fn hk
 have hrf:=(hty.res k hk).1
 have hres:∀j,j<fs.length→0≤(av fs j).result:=fun j hj=>(hty.res j hj).1
 generalize av fs k=f at hl hc hi hcell hok hty hn0 hrf⊢
 have hn40:=hok.n40
 have h0:=CX (fs:=fs) hn0
 have hR0:gj f.code.length (List.replicate f.code.length iu) [] (pp f.code.length).at_:=⟨by simp,by simp[pp],fun i _=>by
  show ij [] ((List.replicate f.code.length iu).getD i iu).v ((List.replicate f.code.length ([]:List Int)).getD i [])
  rw[im,im]
  exact .nil_⟩
 refine enter Tryz.func59 rfl Tryz.ntmps59 rfl ?_
 refine ac<|aa<|ag (bF rfl rfl rfl) rfl rfl (fun g1 _=>?_)
 refine rn 2 [1,2] rfl<|ae<|ac<|aa<|rn 1 [1,2,20] rfl<|af (ai fc cQ rfl rfl (by rfl)) rfl rfl ?_
 refine rn 1 [1,2,21,22] rfl<|af (aO (k:=k) bI bq (.ro hs) (by omega) rfl rfl rfl) rfl rfl<|rn 1 [1,2,24] rfl<|af (a8 (fun w hw=>hcell _ w hw 3 _ rfl) rfl rfl dE) rfl rfl ?_
 refine rn 1 [1,2,6] rfl<|ae<|ac<|aa<|rn 1 [1,2,6,26] rfl<|af (aN bz rfl rfl) rfl rfl<|ag (kD (α:=gl) iu cy kS rfl (fun w=>⟨⟨rfl,rfl⟩,fun _ h=>h⟩) rfl (by omega) rfl rfl rfl) rfl rfl (fun ga _=>?_)
 refine rn 1 [1,2,6,7] rfl<|ae<|ac<|aa<|rn 1 [1,2,6,7,29] rfl<|af (aN bz rfl rfl) rfl rfl<|ag (kD (α:=Bool) false eQ qa rfl (fun w=>⟨rfl,fun _ h=>h⟩) rfl (by omega) rfl rfl rfl) rfl rfl (fun gm _=>?_)
 refine rn 1 [1,2,6,7,8] rfl<|ae<|ac<|aa<|rn 1 [1,2,6,7,8,32] rfl<|af (jJ (k:=0) eQ eZ rfl hn0 rfl rfl rfl) rfl rfl<|ag (eW (α:=Bool) true false rfl fc hn0 trivial eZ rfl rfl rfl rfl rfl rfl rfl rfl) rfl rfl (fun _ _=>?_)
 refine ae<|ac<|ac<|aa<|rn 1 [1,2,6,7,8,9] rfl<|ae<|dO (fun w h=>jE h) ?_
 refine ji (fun g:FSt×List gl×List (Value×List Int)=>(cD fs f=(iM g.1 f.code.length,true)∧eC f.code.length g.1)∧gj f.code.length g.2.1 g.2.2 g.1.at_) (fun g=> [(6,.slice A2 f.code.length c2),(7,.slice (some ⟨ga,0,none⟩) f.code.length f.code.length),(8,.slice (some ⟨gm,0,none⟩) f.code.length f.code.length)]) (fun g=> [am g1 [.slice A fs.length c] 24,aj (.slice (some ⟨ga,0,none⟩) f.code.length f.code.length) g.2.1,aj (.slice (some ⟨gm,0,none⟩) f.code.length f.code.length) g.1.met,eV g.2.2]) ?_ ?_
 ·refine aL (b8 (fun g:Bool×FSt×List gl×List (Value×List Int)=>((eC f.code.length g.2.1∧kb fs f g.2.1)∧g.2.1.todo= []∧(g.1=false→∀i:Nat,g.2.1.met.getD i false=true→Dn fs f g.2.1 i))∧gj f.code.length g.2.2.1 g.2.2.2 g.2.1.at_) (fun g=>2*mV f.code.length g.2.1+g.1.toNat) (fun g=> [(1,.int .i64 (k:Int)),(2,.pointer (some ⟨g1,0,none⟩)),(6,.slice A2 f.code.length c2),(7,.slice (some ⟨ga,0,none⟩) f.code.length f.code.length),(8,.slice (some ⟨gm,0,none⟩) f.code.length f.code.length),(9,.bool g.1)]) (fun g=> [am g1 [.slice A fs.length c] 24,aj (.slice (some ⟨ga,0,none⟩) f.code.length f.code.length) g.2.2.1,aj (.slice (some ⟨gm,0,none⟩) f.code.length f.code.length) g.2.1.met,eV g.2.2.2]) (true,pp f.code.length,List.replicate f.code.length iu,[]) (⟨⟨h0,rfl,fun h=>(by cases h)⟩,hR0⟩) ⟨rfl,rfl,rfl,rfl,rfl,rfl,trivial⟩ (fun _ h=>h.msub ms) ?_)
  rintro⟨more,s0,hd,L⟩ hj
  try dsimp only
  obtain⟨⟨⟨hF0,hI0⟩,hT0,hD0⟩,hR⟩:((eC f.code.length s0∧kb fs f s0)∧s0.todo= []∧(more=false→∀i:Nat,s0.met.getD i false=true→Dn fs f s0 i))∧gj f.code.length hd L s0.at_:=hj
  refine ac<|ac<|aa<|rn 1 [1,2,6,7,8,34] rfl<|ae<|cH rfl (fun hmore=>?_) (fun hmore=>?_)
  ·have hmore:more=true:=hmore
   subst hmore
   refine ax (ap ?_)
   refine aL<|ac<|aa<|rn 1 [1,2,6,7,8,9] rfl<|ae<|ac<|aa<|rn 1 [1,2,6,7,8,9,10] rfl<|ae<|aL (b8 (fun g:Nat×Bool×FSt×List gl×List (Value×List Int)=>((g.1≤f.code.length∧g.2.1=decide (0<g.2.2.1.todo.length))∧Sw fs f s0 g.1 g.2.2.1)∧gj f.code.length g.2.2.2.1 g.2.2.2.2 g.2.2.1.at_) (fun g=>f.code.length - g.1) (fun g=> [(1,.int .i64 (k:Int)),(2,.pointer (some ⟨g1,0,none⟩)),(6,.slice A2 f.code.length c2),(7,.slice (some ⟨ga,0,none⟩) f.code.length f.code.length),(8,.slice (some ⟨gm,0,none⟩) f.code.length f.code.length),(9,.bool g.2.1),(10,.int .i64 (g.1:Int))]) (fun g=> [am g1 [.slice A fs.length c] 24,aj (.slice (some ⟨ga,0,none⟩) f.code.length f.code.length) g.2.2.2.1,aj (.slice (some ⟨gm,0,none⟩) f.code.length f.code.length) g.2.2.1.met,eV g.2.2.2.2]) (0,false,s0,hd,L) (⟨⟨⟨Nat.zero_le _,by rw[hT0];rfl⟩,.start hF0 hI0⟩,hR⟩) ⟨rfl,rfl,rfl,rfl,rfl,rfl,rfl,trivial⟩ (fun _ h=>h.msub ms) ?_)
   rintro⟨i,b,s,hd,L⟩ hj
   try dsimp only
   obtain⟨⟨⟨hi0,hb⟩,hS⟩,hR2⟩:((i≤f.code.length∧b=decide (0<s.todo.length))∧Sw fs f s0 i s)∧gj f.code.length hd L s.at_:=hj
   have hF:=hS.ok
   have hT36:=hS.todo hF0 hT0 hn40
   refine ac<|ac<|aa<|rn 2 [1,2,6,7,8,9,10,35,36] rfl<|af (aN bz rfl rfl) rfl rfl<|rn 1 [1,2,6,7,8,9,10,38] rfl<|ae<|aw rfl (fun hlt=>?_) (fun hlt=>?_)
   ·have hil:i<f.code.length:=by omega
    refine ax (ap ?_)
    refine ac<|aL<|ac<|ac<|aa<|rn 2 [1,2,6,7,8,9,10,41,42] rfl<|af (aO eQ eZ (SF.own hF.ml fc) (by omega) rfl rfl rfl) rfl rfl ?_
    refine af (a8 (SF.bool (SF.own hF.ml fc) (by omega)) rfl rfl fF) rfl rfl ?_
    refine rn 1 [1,2,6,7,8,9,10,45] rfl<|ae<|cH rfl (fun hm=>?_) (fun hm=>?_)
    ·have hm:¬s.met.getD i false=true:=by simpa using hm
     refine bN (aM (cc (ap ?_)))
     refine aa<|rn 1 [1,2,6,7,8,9,39] rfl<|af (bH rfl rfl rfl (by omega)) rfl rfl<|rn 1 [1,2,6,7,8,9,10] rfl<|br (i+1,b,s,hd,L) (⟨⟨⟨hil,hb⟩,hS.skip hm⟩,hR2⟩) (by show _ - _<_ - _;omega) ⟨rfl,rfl,rfl,rfl,rfl,rfl,rfl,trivial⟩ (fun _ h=>h.msub ms)
    have hm:s.met.getD i false=true:=by simpa using hm
    have hin:=hR2.el i hil
    refine dD (fun w h=>hin.form h fc) ?_
    rintro⟨A3,c3,hv⟩
    rw[hv] at hin
    have h8:=hF.st i
    refine ax (ap ?_)
    refine ac<|bQ (.still 0 (.still 1 (.still 2 (.still 3 (.still 4 (.still 5 (.still 6 (.still 7 (.still 8 (.still 9 (.still 10 (.still 11 (.still 12 (.still 13 (.pick 14 (.still 15 (.still 16 (.still 17 (.still 18 (.still 19 .done))))) .stop))))))))))))))) [] rfl (by kernel_rfl) (by kernel_rfl) ?_
    refine an rfl (aQ (vs:= [_]) fc cE cg rfl rfl (by rfl) rfl) rfl rfl ha ?_
    refine aV ha 1 [1,2,6,7,8,9,10,47,48] rfl<|an rfl (ai fc cQ rfl rfl (by rfl)) rfl rfl ha ?_
    refine aV ha 1 [1,2,6,7,8,9,10,47,49,50] rfl<|an rfl (aO (k:=k) bI bq (.ro hs) (by omega) rfl rfl rfl) rfl rfl ha ?_
    refine an rfl (cr (hcell _) rfl rfl d8 bq) rfl rfl ha ?_
    refine aV ha 2 [1,2,6,7,8,9,10,47,52,53,54] rfl<|an rfl (aO bz cG (.ro hc) (by omega) rfl rfl rfl) rfl rfl ha ?_
    refine an rfl (cr (cs:= [_,_]) (SF.op (.ro hc) (by omega)) rfl rfl gK cG) rfl rfl ha ?_
    refine aV ha 2 [1,2,6,7,8,9,10,47,52,56,57,58] rfl<|an rfl (aO cy bV (SF.own hR2.hl fc) (by omega) rfl rfl rfl) rfl rfl ha ?_
    refine an rfl (a8 (v:= .slice A3 (s.at_.getD i []).length c3) (by rw[←hv];exact SF.hdr (SF.own hR2.hl fc) hil) rfl rfl a5) rfl rfl ha ?_
    refine aB rfl (cO rfl rfl rfl Tryz.call108 (fun w hw=>zY fs f (bB f.code i) (s.at_.getD i []) A A1 A2 A3 c c1 c2 c3 w (hw.ro hs) (hw.ro hl) (hin.sl hw fc) (hok.op i hil) hres hrf (by omega))) rfl rfl (.inr fun _=>ha) (fun⟨⟨A4,c4⟩,T⟩ hT=>?_) ay
    try dsimp only
    refine aV ha 5 [1,2,6,7,8,9,10,11,12] rfl<|cJ<|ac<|ac<|aa<|rn 2 [1,2,6,7,8,9,10,11,65] rfl<|ae<|cH rfl (fun hok1=>?_) (fun hok1=>?_)
    ·have hv0:eX fs f (bB f.code i) (s.at_.getD i [])=none:=by
      cases e:eX fs f (bB f.code i) (s.at_.getD i []) with
      | none=>rfl
      | some v=>rw[e] at hok1;cases hok1
     rw[r8 hok hty hn0 (hS.bad hm hv0)]
     refine ac<|aa<|rn 2 [4,5] rfl<|ae<|au (ak (aG (ak (ak (aG (aG (ak (aG (ak ?_)))))))))
     refine bD xF (aq rfl) (aq rfl) ?_
     intro w hw
     exact⟨((none,0),[],[]),.nil_,rfl,Cw.nilO fU (jE (hw.msub (T:= []) ms))⟩
    obtain⟨v,hv0⟩:∃v,eX fs f (bB f.code i) (s.at_.getD i [])=some v:=by
     cases e:eX fs f (bB f.code i) (s.at_.getD i []) with
     | none=>rw[e] at hok1;cases hok1
     | some v=>exact⟨v,rfl⟩
    have hTv:T=v:=hT v hv0
    subst hTv
    have hT8:=kr hv0
    have hTty:=rf hty (hok.op i hil) (hS.inv.ty i hm) hv0
    refine dO (fun w h=>nz (qE (h.msub (T:=aj (.slice A4 T.length c4) T::eV L:: [am g1 [.slice A fs.length c] 24,aj (.slice (some ⟨ga,0,none⟩) f.code.length f.code.length) hd,aj (.slice (some ⟨gm,0,none⟩) f.code.length f.code.length) s.met]) ms))) ?_
    have hinT:ij ((.slice A4 T.length c4,T)::L) (.slice A4 T.length c4) T:= .new
    have hR3:=hR2.cons (.slice A4 T.length c4,T)
    generalize (.slice A4 T.length c4,T)::L=L3 at hinT hR3⊢
    obtain⟨LL,hLL⟩:∃LL,di (bB f.code i) i=LL:=⟨_,rfl⟩
    have hto:=hok.to_ i hil
    have hl2:=j5 (bB f.code i) i
    have hcs:=fun(K:List Int) (h1:∀q∈K,q∈di (bB f.code i) i) (h2:K.length≤4)=>hS.comes hok hty hF0 hT0 hil hm hv0 (L:=K) h1 h2
    have hnx:=vo (l:=f.code) (pc:=i) (fun q hq=>hto q hq)
    have hstp:=fun s'=>hS.step (s':=s') hok hty hF0 hT0 hil hm hv0
    rw[hLL] at hto hl2 hcs hnx hstp
    have hnext:∀w1,Sl w1 (.slice A2 f.code.length c2) f.code→Calls Tryz.prog 109 #[.slice A2 f.code.length c2,.int .i64 (i:Int)] w1 fun e w'=> ∃g:Option Addr×Nat,True∧e= .returned (.slice g.1 LL.length g.2)∧Cw w1.heap.size w1 [aj (.slice g.1 LL.length g.2) LL] w':=fun w1 h=>by
     rw[hnx]
     exact BW A2 c2 f.code i w1 h hil hn40
    refine ax (ap ?_)
    refine ac<|aa<|rn 2 [1,2,6,7,8,9,10,11,66,67] rfl<|ag (cO rfl rfl rfl Tryz.call109 (fun w hw=>hnext w (hw.ro hc))) rfl rfl (fun⟨A7,c7⟩ _=>?_)
    try dsimp only
    refine rn 1 [1,2,6,7,8,9,10,11,13] rfl<|ae<|ac<|aa<|rn 1 [1,2,6,7,8,9,10,11,13,14] rfl<|ae<|aL (b8 (fun g:Nat×Bool×FSt×List gl×List (Value×List Int)=>(((g.1≤LL.length∧g.2.1=decide (0<g.2.2.1.todo.length))∧eC f.code.length g.2.2.1∧g.2.2.1.todo.length≤s.todo.length+g.1)∧dq f.code.length s (LL.take g.1) T=some g.2.2.1∧ij g.2.2.2.2 (.slice A4 T.length c4) T)∧gj f.code.length g.2.2.2.1 g.2.2.2.2 g.2.2.1.at_) (fun g=>LL.length - g.1) (fun g=> [(1,.int .i64 (k:Int)),(2,.pointer (some ⟨g1,0,none⟩)),(6,.slice A2 f.code.length c2),(7,.slice (some ⟨ga,0,none⟩) f.code.length f.code.length),(8,.slice (some ⟨gm,0,none⟩) f.code.length f.code.length),(9,.bool g.2.1),(10,.int .i64 (i:Int)),(11,.slice A4 T.length c4),(13,.slice A7 LL.length c7),(14,.int .i64 (g.1:Int))]) (fun g=> [am g1 [.slice A fs.length c] 24,aj (.slice (some ⟨ga,0,none⟩) f.code.length f.code.length) g.2.2.2.1,aj (.slice (some ⟨gm,0,none⟩) f.code.length f.code.length) g.2.2.1.met,eV g.2.2.2.2,aj (.slice A7 LL.length c7) LL]) (0,b,s,hd,L3) (⟨⟨⟨⟨Nat.zero_le _,hb⟩,hF,Nat.le_refl _⟩,rfl,hinT⟩,hR3⟩) ⟨rfl,rfl,rfl,rfl,rfl,rfl,rfl,rfl,rfl,rfl,trivial⟩ (fun _ h=>h.msub ms) ?_)
    rintro⟨j,b,s',hd,L⟩ hj
    try dsimp only
    obtain⟨⟨⟨⟨hj0,hb2⟩,hF2,htd2⟩,hco,hinT2⟩,hR4⟩:(((j≤LL.length∧b=decide (0<s'.todo.length))∧eC f.code.length s'∧s'.todo.length≤s.todo.length+j)∧dq f.code.length s (LL.take j) T=some s'∧ij L (.slice A4 T.length c4) T)∧gj f.code.length hd L s'.at_:=hj
    refine ac<|ac<|aa<|rn 2 [1,2,6,7,8,9,10,11,13,14,69,70] rfl<|af (aN ah rfl rfl) rfl rfl<|rn 1 [1,2,6,7,8,9,10,11,13,14,72] rfl<|ae<|aw rfl (fun hjl=>?_) (fun hjl=>?_)
    ·have hjl:j<LL.length:=by omega
     have hmem:LL.getD j 0∈LL:=by rw[List.getD_eq_getElem?_getD,List.getElem?_eq_getElem hjl];exact List.getElem_mem _
     obtain⟨q,hq⟩:∃q:Nat,LL.getD j 0=(q:Int):=⟨(LL.getD j 0).toNat,by have:=hto _ hmem;omega⟩
     have hqn:q≤f.code.length:=by have:=hto _ hmem;omega
     have hsn:=mJ hjl hco
     rw[hq,Int.toNat_natCast] at hsn
     have hco2:=jG hF2 hqn hT8 (by omega)
     refine ax (ap ?_)
     refine ac<|aL<|ac<|aa<|rn 2 [1,2,6,7,8,9,10,11,13,14,75,76] rfl<|af (aO ah aI (SF.own rfl fc) (by omega) rfl rfl rfl) rfl rfl ?_
     refine af (a8 (SF.int (SF.own rfl fc) (by omega)) rfl rfl ar) rfl rfl ?_
     refine rn 1 [1,2,6,7,8,9,10,11,13,14,15] rfl<|ae<|ac<|ac<|aa<|rn 2 [1,2,6,7,8,9,10,11,13,14,15,79,80] rfl<|af (aN bz rfl rfl) rfl rfl<|rn 1 [1,2,6,7,8,9,10,11,13,14,15,82] rfl<|ae<|cP (t:=15) (v':= .int .i64 (q:Int)) rfl (by rw[hq]) ?_
     have hfail:(cZ f.code.length s' q T).1=false→cD fs f=([],false):=fun h=>r8 hok hty hn0 ((hcs LL (fun q h=>h) (by omega)).2 (mK (k:=j+1) (by rw[hsn,h];rfl)))
     refine aw rfl (fun hqe=>?_) (fun hqe=>?_)
     ·rw[hfail (by unfold cZ;rw[if_pos (by omega)])]
      refine ac<|aa<|rn 2 [4,5] rfl<|ae<|au (ak (aG (ak (ak (aG (aG (ak (ak (aG (aG (ak (aG (ak ?_)))))))))))))
      refine bD xF (aq rfl) (aq rfl) ?_
      intro w hw
      exact⟨((none,0),[],[]),.nil_,rfl,Cw.nilO fU (jE (hw.msub (T:= []) ms))⟩
     have hql:q<f.code.length:=by omega
     refine ax (ap ?_)
     refine ac<|ac<|aa<|rn 2 [1,2,6,7,8,9,10,11,13,14,15,83,84] rfl<|af (aO eQ eZ (SF.own hF2.ml fc) (by omega) rfl rfl rfl) rfl rfl ?_
     refine af (a8 (SF.bool (SF.own hF2.ml fc) (by omega)) rfl rfl fF) rfl rfl ?_
     refine rn 1 [1,2,6,7,8,9,10,11,13,14,15,87] rfl<|ae<|cH rfl (fun hmq=>?_) (fun hmq=>?_)
     ·have hmq:¬s'.met.getD q false=true:=by simpa using hmq
      have hc1:cZ f.code.length s' q T=(true,⟨s'.at_.set q T,s'.met.set q true,s'.todo++ [(q:Int)]⟩):=by unfold cZ;rw[if_neg (by omega),if_neg hmq]
      rw[hc1] at hco2 hsn
      refine ac<|aa<|rn 5 [1,2,6,7,8,10,11,13,14,88,89,90,91,92] rfl<|af (jJ cy bV rfl hql rfl rfl rfl) rfl rfl<|ag (eW (α:=gl) ⟨.slice A4 T.length c4⟩ iu rfl fc hql rfl bV rfl rfl rfl rfl rfl rfl rfl rfl) rfl rfl (fun _ _=>?_)
      refine af (jJ eQ eZ rfl hql rfl rfl rfl) rfl rfl<|ag (eW (α:=Bool) true false rfl fc hql trivial eZ rfl rfl rfl rfl rfl rfl rfl rfl) rfl rfl (fun _ _=>?_)
      refine rn 1 [1,2,6,7,8,9,10,11,13,14] rfl<|ae<|bN (aM (cc (ap ?_)))
      refine aa<|rn 1 [1,2,6,7,8,9,10,11,13,73] rfl<|af (bH rfl rfl rfl (by omega)) rfl rfl<|rn 1 [1,2,6,7,8,9,10,11,13,14] rfl<|br (j+1,true,⟨s'.at_.set q T,s'.met.set q true,s'.todo++ [(q:Int)]⟩,hd.set q ⟨.slice A4 T.length c4⟩,L) (⟨⟨⟨⟨hjl,by simp⟩,hco2.1,by show (s'.todo++ [(q:Int)]).length≤s.todo.length+(j+1);rw[List.length_append,List.length_singleton];omega⟩,hsn,hinT2⟩,hR4.set hql hinT2⟩) (by show _ - _<_ - _;omega) ⟨rfl,rfl,rfl,rfl,rfl,rfl,rfl,rfl,rfl,rfl,trivial⟩ (fun _ h=>h.msub ms)
     have hmq:s'.met.getD q false=true:=by simpa using hmq
     have hI2:=((hcs (LL.take j) (fun q h=>List.mem_of_mem_take h) (by rw[List.length_take];omega)).1 s' hco).1
     have hin5:=hR4.el q hql
     have h85:=hF2.st q
     refine dD (fun w h=>hin5.form h fc) ?_
     rintro⟨A5,c5,hv5⟩
     rw[hv5] at hin5
     refine ax (ap ?_)
     refine ac<|aa<|rn 2 [1,2,6,7,8,9,10,11,13,14,15,96,97] rfl<|af (aO cy bV (SF.own hR4.hl fc) (by omega) rfl rfl rfl) rfl rfl ?_
     refine af (a8 (v:= .slice A5 (s'.at_.getD q []).length c5) (by rw[←hv5];exact SF.hdr (SF.own hR4.hl fc) hql) rfl rfl a5) rfl rfl ?_
     refine rn 1 [1,2,6,7,8,9,10,11,13,14,15,99,100] rfl<|ag (eL rfl rfl rfl Tryz.call110 (fun w hw=>uP A5 A4 c5 c4 (s'.at_.getD q []) T w (hin5.sl hw fc) (hinT2.sl hw fc) (hI2.ty q hmq) hTty (by omega))) rfl rfl (fun⟨A6,c6⟩ _=>?_)
     try dsimp only
     refine rn 5 [1,2,6,7,8,9,10,11,13,14,15,16,17] rfl<|ae<|ac<|ac<|aa<|rn 2 [1,2,6,7,8,9,10,11,13,14,15,16,105] rfl<|ae<|cH rfl (fun hjo=>?_) (fun hjo=>?_)
     ·have hjn:bY (s'.at_.getD q []) T=none:=by
       cases e:bY (s'.at_.getD q []) T with
       | none=>rfl
       | some v=>rw[e] at hjo;cases hjo
      rw[hfail (by unfold cZ;rw[if_neg (by omega),if_pos hmq,hjn])]
      refine ac<|aa<|rn 2 [4,5] rfl<|ae<|au (ak (aG (ak (ak (aG (aG (ak (ak (aG (aG (ak (aG (ak ?_)))))))))))))
      refine bD xF (aq rfl) (aq rfl) ?_
      intro w hw
      exact⟨((none,0),[],[]),.nil_,rfl,Cw.nilO fU (jE (hw.msub (T:= []) ms))⟩
     obtain⟨jn,hjn⟩:∃v,bY (s'.at_.getD q []) T=some v:=by
      cases e:bY (s'.at_.getD q []) T with
      | none=>rw[e] at hjo;cases hjo
      | some v=>exact⟨v,rfl⟩
     rw[hjn,Option.getD_some]
     refine ax (ap ?_)
     refine ac<|aa<|rn 3 [1,2,6,7,8,9,10,11,13,14,15,16,106,107,108] rfl<|af (aO cy bV (SF.own hR4.hl fc) (by omega) rfl rfl rfl) rfl rfl ?_
     refine af (a8 (v:= .slice A5 (s'.at_.getD q []).length c5) (by rw[←hv5];exact SF.hdr (SF.own hR4.hl fc) hql) rfl rfl a5) rfl rfl ?_
     refine ag (bK rfl rfl rfl sm (fun w hw=>jT A6 A5 c6 c5 jn (s'.at_.getD q []) w (SF.at_ (SF.own rfl fc) hw) (hin5.sl hw fc))) rfl rfl (fun _ _=>?_)
     refine rn 1 [1,2,6,7,8,9,10,11,13,14,15,16,112] rfl<|ae<|cH rfl (fun he=>?_) (fun he=>?_)
     ·have he:¬jn=s'.at_.getD q []:=by simpa using he
      have hset:s'.met.set q true=s'.met:=by
       refine List.ext_getElem (by simp) fun n h1 h2=>?_
       rw[List.getElem_set]
       split
       ·rename_i e
        subst e
        rw[List.getD_eq_getElem?_getD,List.getElem?_eq_getElem h2] at hmq
        exact hmq.symm
       rfl
      have hc1:cZ f.code.length s' q T=(true,⟨s'.at_.set q jn,s'.met,s'.todo++ [(q:Int)]⟩):=by
       unfold cZ
       rw[if_neg (by omega),if_pos hmq,hjn]
       simp only[]
       rw[if_neg he,hset]
      rw[hc1] at hco2 hsn
      refine dO (fun w h=>nz (qE (h.msub (T:=aj (.slice A6 jn.length c6) jn::eV L:: [am g1 [.slice A fs.length c] 24,aj (.slice (some ⟨ga,0,none⟩) f.code.length f.code.length) hd,aj (.slice (some ⟨gm,0,none⟩) f.code.length f.code.length) s'.met,aj (.slice A7 LL.length c7) LL]) ms))) ?_
      refine aa<|rn 3 [1,2,6,7,8,10,11,13,14,113,114,115] rfl<|af (jJ cy bV rfl hql rfl rfl rfl) rfl rfl<|ag (eW (α:=gl) ⟨.slice A6 jn.length c6⟩ iu rfl fc hql rfl bV rfl rfl rfl rfl rfl rfl rfl rfl) rfl rfl (fun _ _=>?_)
      refine rn 1 [1,2,6,7,8,9,10,11,13,14] rfl<|bE (aK (ap ?_))
      refine aa<|rn 1 [1,2,6,7,8,9,10,11,13,73] rfl<|af (bH rfl rfl rfl (by omega)) rfl rfl<|rn 1 [1,2,6,7,8,9,10,11,13,14] rfl<|br (j+1,true,⟨s'.at_.set q jn,s'.met,s'.todo++ [(q:Int)]⟩,hd.set q ⟨.slice A6 jn.length c6⟩,(.slice A6 jn.length c6,jn)::L) (⟨⟨⟨⟨hjl,by simp⟩,hco2.1,by show (s'.todo++ [(q:Int)]).length≤s.todo.length+(j+1);rw[List.length_append,List.length_singleton];omega⟩,hsn,hinT2.cons⟩,(hR4.cons _).set hql .new⟩) (by show _ - _<_ - _;omega) ⟨rfl,rfl,rfl,rfl,rfl,rfl,rfl,rfl,rfl,rfl,trivial⟩ (fun _ h=>h.msub ms)
     have he:jn=s'.at_.getD q []:=by simpa using he
     have hc1:cZ f.code.length s' q T=(true,s'):=by
      unfold cZ
      rw[if_neg (by omega),if_pos hmq,hjn]
      simp only[]
      rw[if_pos he]
     rw[hc1] at hco2 hsn
     refine ax (aK (ap ?_))
     refine aa<|rn 1 [1,2,6,7,8,9,10,11,13,73] rfl<|af (bH rfl rfl rfl (by omega)) rfl rfl<|rn 1 [1,2,6,7,8,9,10,11,13,14] rfl<|br (j+1,b,s',hd,L) (⟨⟨⟨⟨hjl,hb2⟩,hF2,by show s'.todo.length≤s.todo.length+(j+1);omega⟩,hsn,hinT2⟩,hR4⟩) (by show _ - _<_ - _;omega) ⟨rfl,rfl,rfl,rfl,rfl,rfl,rfl,rfl,rfl,rfl,trivial⟩ (fun _ h=>h.msub ms)
    obtain rfl:j=LL.length:=by omega
    rw[List.take_length] at hco
    have hS2:=hstp s' hco
    refine bN (aM (aM (cc (aK (ap ?_)))))
    refine aa<|rn 1 [1,2,6,7,8,9,39] rfl<|af (bH rfl rfl rfl (by omega)) rfl rfl<|rn 1 [1,2,6,7,8,9,10] rfl<|br (i+1,b,s',hd,L) (⟨⟨⟨hil,hb2⟩,hS2⟩,hR4⟩) (by show _ - _<_ - _;omega) ⟨rfl,rfl,rfl,rfl,rfl,rfl,rfl,trivial⟩ (fun _ h=>h.msub ms)
   obtain rfl:i=f.code.length:=by omega
   refine bN (aM (aM (cc (aK ?_))))
   by_cases hne:s.todo= []
   ·obtain⟨rfl,hdn⟩:=hS.dn hne
    refine iQ (b,s,hd,L) (⟨⟨⟨hF,hS.inv⟩,hne,fun _ j hj=>hdn j (qy hF hj) hj⟩,hR2⟩) ((by rw[hb,hne];exact Nat.lt_succ_self _)) ⟨rfl,rfl,rfl,rfl,rfl,rfl,trivial⟩ (fun _ h=>h.msub ms)
   obtain⟨a1,a2,a3⟩:=hS.again hT0 hne
   refine iQ (b,⟨s.at_,s.met,[]⟩,hd,L) (⟨⟨⟨a1,a2⟩,rfl,fun h=>absurd (List.length_pos_iff.2 hne) (by rw[hb] at h;simpa using h)⟩,hR2⟩) ((by cases b;(· show 2*mV f.code.length ⟨s.at_,s.met,[]⟩+0<2*mV f.code.length s0+1;omega);(· show 2*mV f.code.length ⟨s.at_,s.met,[]⟩+1<2*mV f.code.length s0+1;omega))) ⟨rfl,rfl,rfl,rfl,rfl,rfl,trivial⟩ (fun _ h=>h.msub ms)
  have hmore:more=false:=by simpa using hmore
  have hd0:=yY hok hty hn0 hF0 hI0 (hD0 hmore)
  refine bN (aM (aM (cc ?_)))
  refine aY (s0,hd,L) (⟨⟨hd0,hF0⟩,hR⟩) ⟨rfl,rfl,rfl,trivial⟩ (fun _ h=>h.msub ms)
 rintro⟨s,hd,L⟩ hj
 obtain⟨⟨hent,hF⟩,hR⟩:(cD fs f=(iM s f.code.length,true)∧eC f.code.length s)∧gj f.code.length hd L s.at_:=hj
 rw[hent]
 try dsimp only
 refine dO (fun w h=>Cw.nilO fU h) ?_
 refine ac<|aa<|rn 1 [6,7,8,18] rfl<|ae<|ac<|ac<|aa<|rn 1 [6,7,8,18,19] rfl<|ae<|aL (b8 (fun g:Nat×List fU×Option Addr×Nat=>g.1≤f.code.length∧j9 g.2.1 L (iM s g.1)) (fun g=>f.code.length - g.1) (fun g=> [(6,.slice A2 f.code.length c2),(7,.slice (some ⟨ga,0,none⟩) f.code.length f.code.length),(8,.slice (some ⟨gm,0,none⟩) f.code.length f.code.length),(18,.slice g.2.2.1 g.2.1.length g.2.2.2),(19,.int .i64 (g.1:Int))]) (fun g=> [aj (.slice g.2.2.1 g.2.1.length g.2.2.2) g.2.1,aj (.slice (some ⟨ga,0,none⟩) f.code.length f.code.length) hd,aj (.slice (some ⟨gm,0,none⟩) f.code.length f.code.length) s.met,eV L]) (0,[],none,0) (⟨Nat.zero_le _,.nil_⟩) ⟨rfl,rfl,rfl,rfl,rfl,trivial⟩ me ?_)
 rintro⟨i,es,Ae,ce⟩ hi'
 try dsimp only
 obtain⟨hi1,hre⟩:i≤f.code.length∧j9 es L (iM s i):=hi'
 have hel:=hre.len
 have hul:=t4 s i
 refine ac<|ac<|aa<|rn 2 [6,7,8,18,19,117,118] rfl<|af (aN bz rfl rfl) rfl rfl<|rn 1 [6,7,8,18,19,120] rfl<|ae<|aw rfl (fun hlt=>?_) (fun hlt=>?_)
 ·have hil:i<f.code.length:=by omega
  have hsu:=oE s i
  refine ax (ap ?_)
  refine ac<|aL<|ac<|aa<|rn 2 [6,7,8,18,19,123,124] rfl<|af (aO eQ eZ (SF.own hF.ml fc) (by omega) rfl rfl rfl) rfl rfl ?_
  refine af (a8 (SF.bool (SF.own hF.ml fc) (by omega)) rfl rfl fF) rfl rfl ?_
  refine ae<|cH rfl (fun hm=>?_) (fun hm=>?_)
  ·rw[if_pos hm] at hsu
   have hin:=hR.el i hil
   refine aa<|rn 4 [6,7,8,19,127,128,129,130] rfl<|af (aO cy bV (SF.own hR.hl fc) (by omega) rfl rfl rfl) rfl rfl ?_
   refine lF (fun w h=>hin.form h fc) ?_
   rintro⟨A3,c3,hv⟩
   rw[hv] at hin
   refine af (a8 (v:= .slice A3 (s.at_.getD i []).length c3) (by rw[←hv];exact SF.hdr (SF.own hR.hl fc) hil) rfl rfl a5) rfl rfl ?_
   refine af (cT (cs:= [_,_]) yk q5 rfl rfl (by rfl)) rfl rfl ?_
   refine ag (bh (cs:= [_,_]) fH lc q5 rfl rfl rfl rfl rfl) rfl rfl (fun g2 _=>?_)
   refine ag (dm (α:=fU) (bytes:=32) ⟨i,.slice A3 (s.at_.getD i []).length c3⟩ [] rfl fH (bM qW) rfl (eA fc fc) (dI ⟨⟨by show (-9223372036854775808:Int)≤(i:Int);omega,by show (i:Int)≤9223372036854775807;omega⟩,rfl⟩) (by omega) (by omega) rfl rfl rfl) rfl rfl (fun⟨A5,c5⟩ _=>?_)
   try dsimp only
   refine rn 1 [6,7,8,18,19] rfl<|bE (aK (ap ?_))
   refine aa<|rn 1 [6,7,8,18,121] rfl<|af (bH rfl rfl rfl (by omega)) rfl rfl<|rn 1 [6,7,8,18,19] rfl<|br (i+1,es++ [⟨i,.slice A3 (s.at_.getD i []).length c3⟩],A5,c5) (⟨hil,by rw[hsu];exact hre.snoc rfl hin⟩) (by show _ - _<_ - _;omega) ⟨rfl,rfl,rfl,rfl,rfl,trivial⟩ me
  rw[if_neg (by rw[hm];decide)] at hsu
  refine ax (aK (ap ?_))
  refine aa<|rn 1 [6,7,8,18,121] rfl<|af (bH rfl rfl rfl (by omega)) rfl rfl<|rn 1 [6,7,8,18,19] rfl<|br (i+1,es,Ae,ce) (⟨hil,by rw[hsu];exact hre⟩) (by show _ - _<_ - _;omega) ⟨rfl,rfl,rfl,rfl,rfl,trivial⟩ me
 obtain rfl:i=f.code.length:=by omega
 refine bN (aM (aM (cc (ap ?_))))
 refine ac<|aa<|rn 3 [4,5] rfl<|ae<|au<|bD xF (aq rfl) (aq rfl) ?_
 intro w hw
 exact⟨((Ae,ce),es,L),hre,rfl,hw.msub ms⟩
end
section
def j3 (fs:List aC) (i:Nat):Int:=if dA fs≠0 then dA fs else if (fs.take i).all (fun f=>(cD fs f).2)=true then 0 else 4
theorem AO {fs:List aC} {i:Nat} (h:j3 fs i≠0):j3 fs i=dU fs:=by
 unfold j3 at h⊢
 unfold dU
 by_cases h0:dA fs≠0
 ·rw[if_pos h0,if_pos h0]
 rw[if_neg h0] at h⊢
 rw[if_neg h0]
 by_cases h1:(fs.take i).all (fun f=>(cD fs f).2)=true
 ·rw[if_pos h1] at h;exact absurd rfl h
 rw[if_neg h1,if_neg]
 intro h2
 apply h1
 rw[List.all_eq_true] at h2⊢
 exact fun x hx=>h2 x (List.mem_of_mem_take hx)
theorem AN {fs:List aC} :j3 fs fs.length=dU fs:=by unfold j3 dU;rw[List.take_length]
theorem yW {fs:List aC} {i:Nat} (h:j3 fs i=0):dA fs=0∧(fs.take i).all (fun f=>(cD fs f).2)=true:=by
 unfold j3 at h
 by_cases h0:dA fs≠0
 ·rw[if_pos h0] at h;exact absurd h h0
 rw[if_neg h0] at h
 refine⟨by simpa using h0,?_⟩
 split at h
 ·assumption
 cases h
set_option maxRecDepth 100000 in
set_option maxHeartbeats 1000000 in
theorem rp (A:Option Addr) (c:Nat) (fs:List aC) (w:World) (hs:Sl w (.slice A fs.length c) fs) :
  Calls Tryz.prog 16 #[.agg #[.slice A fs.length c]] w fun e w'=>e= .returned (.int .i64 (dU fs))∧Below w.heap.size w w':=by
 have b1:=bO hs
 refine enter Tryz.func16 rfl Tryz.ntmps16 rfl ?_
 refine ac<|aa<|ag (bF rfl rfl rfl) rfl rfl (fun g1 _=>?_)
 refine rn 1 [1] rfl<|ae<|ac<|aa<|af (aQ (vs:= [_]) fc cE cg rfl rfl (by rfl) rfl) rfl rfl ?_
 refine ag (bK rfl rfl rfl Tryz.call58 (fun w hw=>uR A c fs w (hw.ro hs))) rfl rfl (fun _ _=>?_)
 refine rn 1 [1,3] rfl<|ae<|ac<|ac<|aa<|rn 1 [1,3,4] rfl<|ae<|ji (fun e:Int=>e=dU fs) (fun e=> [(3,.int .i64 e)]) (fun _=> []) ?_ ?_
 ·refine aL (b8 (fun g:Nat×Int=>g.1≤fs.length∧g.2=j3 fs g.1) (fun g=>fs.length - g.1) (fun g=> [(1,.pointer (some ⟨g1,0,none⟩)),(3,.int .i64 g.2),(4,.int .i64 (g.1:Int))]) (fun _=> [am g1 [.slice A fs.length c] 24]) (0,dA fs) (⟨Nat.zero_le _,by show dA fs=j3 fs 0;unfold j3;rw[List.take_zero];by_cases h:dA fs≠0;(· rw[if_pos h]);(· rw[if_neg h,List.all_nil,if_pos rfl];simpa using h)⟩) ⟨rfl,rfl,rfl,trivial⟩ me ?_)
  rintro⟨i,e⟩ hj
  try dsimp only
  obtain⟨hi,he⟩:i≤fs.length∧e=j3 fs i:=hj
  refine ac<|ac<|aa<|rn 2 [1,3,4,9,10] rfl<|af (ai fc cQ rfl rfl (by rfl)) rfl rfl ?_
  refine af (aN bI rfl rfl) rfl rfl<|rn 2 [1,3,4,14] rfl<|bw (t:=14) rfl (fun h1=>?_) (fun h1=>?_)
  ·have h1:=of_decide_eq_true h1
   have hil:i<fs.length:=by omega
   refine rn 3 [1,3,4,17] rfl<|ae<|aw rfl (fun h2=>?_) (fun h2=>?_)
   ·have hz:j3 fs i=0:=by omega
    obtain⟨hc0,hall⟩:=yW hz
    obtain⟨hok,hn0⟩:=gY hc0 hil
    have hty:=w3 hc0 hil
    have hsn:=nV (p:=fun f=>(cD fs f).2) (default:aC) hil
    have hnx:j3 fs (i+1)=if (cD fs (av fs i)).2=true then 0 else 4:=by
     unfold j3
     rw[if_neg (by simpa using hc0),hsn,hall]
     rfl
    refine ax (ap ?_)
    refine ac<|aL<|ac<|aa<|af (aQ (vs:= [_]) fc cE cg rfl rfl (by rfl) rfl) rfl rfl ?_
    refine rn 1 [1,3,4,21,22] rfl<|ag (cO rfl rfl rfl Tryz.call59 (fun w hw=>ou A c fs i w (hw.ro hs) hil hok hty hn0)) rfl rfl (fun⟨⟨A1,c1⟩,es,L⟩ _=>?_)
    try dsimp only
    refine rn 5 [1,3,4,6] rfl<|ae<|ac<|aa<|rn 2 [1,3,4,27] rfl<|ae<|cH rfl (fun h3=>?_) (fun h3=>?_)
    ·have h3:(cD fs (av fs i)).2=false:=by simpa using h3
     refine aa<|rn 1 [1,3,4] rfl<|bE (aK (ap ?_))
     refine aa<|rn 1 [1,3,18] rfl<|af (bH rfl rfl rfl (by omega)) rfl rfl<|rn 1 [1,3,4] rfl<|br (i+1,4) (⟨hil,by rw[hnx,h3];rfl⟩) (by show _ - _<_ - _;omega) ⟨rfl,rfl,rfl,trivial⟩ me
    have h3:(cD fs (av fs i)).2=true:=by simpa using h3
    refine ax (aK (ap ?_))
    refine aa<|rn 1 [1,3,18] rfl<|af (bH rfl rfl rfl (by omega)) rfl rfl<|rn 1 [1,3,4] rfl<|br (i+1,e) (⟨hil,by rw[hnx,h3];show e=0;exact h2⟩) (by show _ - _<_ - _;omega) ⟨rfl,rfl,rfl,trivial⟩ me
   refine bN (aM (aM (cc ?_)))
   refine aY e (by rw[he];exact AO (by rw[←he];exact h2)) ⟨rfl,trivial⟩ me
  have h1:=of_decide_eq_false h1
  obtain rfl:i=fs.length:=by omega
  refine rn 3 [1,3,4,17] rfl<|ae<|dg rfl<|bN (aM (aM (cc ?_)))
  refine aY e (he.trans AN) ⟨rfl,trivial⟩ me
 rintro e rfl
 refine ac<|aa<|rn 2 [2] rfl<|ae<|au<|aA Tryz.results16 (aq rfl) ?_
 intro w hw
 exact⟨rfl,hw.below⟩
end
end Go.Proofs.YtpacloheigifkaaGreat
