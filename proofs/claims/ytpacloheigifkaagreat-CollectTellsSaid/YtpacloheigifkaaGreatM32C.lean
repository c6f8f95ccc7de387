/- Texts of one proof, one behind the other: lemmas alone. -/
import Derived.Test.YtpacloheigifkaaGreatM0C
import Derived.Test.YtpacloheigifkaaGreatM29C
import Derived.Test.YtpacloheigifkaaGreatM30C
import Derived.Test.YtpacloheigifkaaGreatM28C
import Derived.Test.YtpacloheigifkaaGreatM17C
import Derived.Test.YtpacloheigifkaaGreatM26C

namespace Go.Proofs.YtpacloheigifkaaGreat
open Go.RowKit
section
def cV (n:Nat):FSt→List Int→List Int→Option FSt
 | s,[],_=>some s
 | s,to_::r,l=>if (cI n s to_.toNat l).1=true then cV n (cI n s to_.toNat l).2 r l else none
def iN (fs:List aA) (f:aA) (s:FSt):Option FSt:=
 let k:=(s.todo.getD (s.todo.length - 1) 0).toNat
 let t:=je fs f (bn f.code k) (s.at_.getD k [],false)
 if t.2=true then none else cV f.code.length ⟨s.at_,s.met,s.todo.take (s.todo.length - 1)⟩ (cQ (bn f.code k) k) t.1
structure eb (n:Nat) (s:FSt):Prop where
 al:s.at_.length=n
 ml:s.met.length=n
 tl:s.todo.length≤5000
 st:∀i,(s.at_.getD i []).length≤8
 td:∀x∈s.todo,0≤x∧x<n
theorem iY {n:Nat} {s:FSt} (h:eb n s) {k:Nat} (hk:k≤n) {l:List Int} (hl:l.length≤8) (ht:s.todo.length<5000):eb n (cI n s k l).2∧(cI n s k l).2.todo.length≤s.todo.length+1:=by
 have key:k≠n→∀j:List Int,j.length≤8→eb n ⟨s.at_.set k j,s.met.set k true,s.todo++ [(k:Int)]⟩∧(s.todo++ [(k:Int)]).length≤s.todo.length+1:=fun hne j hj=>by
  refine⟨⟨by simp[h.al],by simp[h.ml],by simp only[List.length_append,List.length_singleton];omega,fun i=>?_,fun x hx=>?_⟩,by simp⟩
  ·show ((s.at_.set k j).getD i []).length≤8
   rw[fg (by rw[h.al];omega)]
   split
   ·exact hj
   exact h.st i
  rcases List.mem_append.1 hx with hx | hx
  ·exact h.td x hx
  rw[List.mem_singleton.1 hx];omega
 unfold cI
 split
 ·exact⟨h,Nat.le_succ _⟩
 rename_i hne
 split
 ·split
  ·exact⟨h,Nat.le_succ _⟩
  rename_i j hj
  split
  ·exact⟨h,Nat.le_succ _⟩
  exact key hne j (by have:=(hJ hj).2;have:=h.st k;omega)
 exact key hne l hl
section
variable {B:Nat} {w0:World} {H:List a4}
abbrev kj (g1 g5 gs gx:Nat) (As:Option Addr) (cs:Nat) (l:List Int):List a4:=
 [az g1 [.pointer (some ⟨gx,0,none⟩)] 176,az g5 [.pointer (some ⟨gs,0,none⟩)] 200,az gs [.slice As l.length cs,.bool false] 202,an (.slice As l.length cs) l]
set_option maxRecDepth 100000 in
set_option maxHeartbeats 2000000 in
theorem vS (C:FC) (s:FSt) (hd:List fE) (L:List (Value×List Int)) (At:Option Addr) (ct:Nat) (g1 g5 gs:Nat) (As:Option Addr) (cs:Nat) (k:Nat) (hk:k≤C.f.code.length) (hn:C.f.code.length≤40) (l:List Int) (hl:l.length≤8)
  (hR:fD C.f.code.length hd L s.at_) (hF:eb C.f.code.length s) (w:World) (hw:Cw B w0 (kj g1 g5 gs C.gx As cs l++(fU C s hd L At ct++H)) w) :
  Calls Tryz.prog 169 #[.int .i64 (k:Int),.pointer (some ⟨g1,0,none⟩),.pointer (some ⟨g5,0,none⟩)] w fun e w'=> ∃g:List fE×List (Value×List Int)×Option Addr×Nat,fD C.f.code.length g.1 g.2.1 (cI C.f.code.length s k l).2.at_∧
   e= .returned (.bool (!(cI C.f.code.length s k l).1))∧Cw B w0 (kj g1 g5 gs C.gx As cs l++(fU C (cI C.f.code.length s k l).2 g.1 g.2.1 g.2.2.1 g.2.2.2++H)) w':=by
 refine cB Tryz.func169 rfl Tryz.ntmps169 rfl hw ?_
 dsimp only[kj,List.cons_append,List.nil_append]
 refine ac<|aa<|rn 1 [0,1,2] rfl<|ae<|ac<|fB (.still 0 (.still 1 (.still 2 (.still 3 (.still 4 (.still 5 (.pick 6 (.pick 7 (.still 8 (.still 9 .done)) .stop) .stop))))))) [] rfl (by kernel_rfl) (by kernel_rfl) [az g1 [.pointer (some ⟨C.gx,0,none⟩)] 176,az g5 [.pointer (some ⟨gs,0,none⟩)] 200,az gs [.slice As l.length cs,.bool false] 202] ?_
 refine av rfl (aj fc gU rfl rfl (by rfl)) rfl rfl ha ?_
 refine aS ha 1 [2,5,6] rfl<|av rfl (aj fc Dp rfl rfl (by rfl)) rfl rfl ha ?_
 refine aS ha 2 [5,6,9] rfl<|av rfl (aj fc aW rfl rfl (by rfl)) rfl rfl ha ?_
 refine aB rfl (d9 rfl rfl rfl iE (fun w hw=>pj As cs l w (SF.at_ (SF.own rfl fc) hw) (by omega))) rfl rfl (.inr fun _=>ha) (fun⟨A4,c4⟩ _=>?_) ay
 try dsimp only
 refine wa (fun w h=>l8 (v:= .slice A4 l.length c4) (xs:=l) (L:=L) (oY (h.msub (.s fc (.s fc .r))))) ?_
 refine aB rfl (bg rfl rfl rfl Tryz.call131 (fun w hw=>sd C s hd ((.slice A4 l.length c4,l)::L) At ct k hk hn l A4 c4 .new (hR.cons _) hF.ml (by have:=hF.tl;omega) (fun i=>by have:=hF.st i;omega) w (hw.msub ms))) rfl rfl (.inr fun _=>ha) (fun⟨hd2,L2,A5,c5⟩ hR2=>?_) ay
 try dsimp only
 refine aS ha 2 [4] rfl<|cu<|ap<|au Tryz.results169 (am rfl) ?_
 intro w hw
 exact⟨(hd2,L2,A5,c5),hR2,rfl,hw.msub ms⟩
structure iD (fs:List aA) (f:aA):Prop where
 op:∀i,i<f.code.length→vB fs f (bn f.code i)
 to_:∀i,i<f.code.length→∀q∈cQ (bn f.code i) i,0≤q∧q≤f.code.length
 n40:f.code.length≤40
theorem lz {n:Nat} :∀{s s':FSt} {L:List Int} {k:Nat} {l:List Int},k<L.length→cV n s (L.take k) l=some s'→cV n s (L.take (k+1)) l=if (cI n s' (L.getD k 0).toNat l).1=true then some (cI n s' (L.getD k 0).toNat l).2 else none
 | s,s',[],k,l,hk,_=>by simp at hk
 | s,s',a::L,0,l,_,h=>by
  simp only[List.take_zero,cV,Option.some.injEq] at h
  subst h
  simp[cV]
 | s,s',a::L,k+1,l,hk,h=>by
  simp only[List.take_succ_cons,cV] at h⊢
  split at h
  ·rename_i h1
   rw[if_pos h1,lz (by simpa using hk) h]
   simp
  cases h
theorem lA {n:Nat} :∀{s:FSt} {L:List Int} {k:Nat} {l:List Int},cV n s (L.take k) l=none→cV n s L l=none
 | s,[],k,l,h=>by simpa using h
 | s,a::L,0,l,h=>by simp[cV] at h
 | s,a::L,k+1,l,h=>by
  simp only[List.take_succ_cons,cV] at h⊢
  split at h
  ·rename_i h1;rw[if_pos h1];exact lA h
  rename_i h1;rw[if_neg h1]
theorem m4 {n:Nat} :∀{s s':FSt} {L:List Int} {l:List Int},eb n s→(∀q∈L,0≤q∧q≤n)→l.length≤8→s.todo.length+L.length<5000→cV n s L l=some s'→eb n s'∧s'.todo.length≤s.todo.length+L.length
 | s,s',[],l,h,_,_,_,e=>by
  simp only[cV,Option.some.injEq] at e
  subst e
  exact⟨h,Nat.le_refl _⟩
 | s,s',a::L,l,h,hq,hl,ht,e=>by
  simp only[cV] at e
  split at e
  ·have ha:=hq a (by simp)
   rw[List.length_cons] at ht
   obtain⟨h1,h2⟩:=iY h (k:=a.toNat) (by omega) hl (by omega)
   obtain⟨h3,h4⟩:=m4 h1 (fun q hq'=>hq q (by simp[hq'])) hl (by omega) e
   exact⟨h3,by rw[List.length_cons];omega⟩
  cases e
theorem qR {fs:List aA} {f:aA} {o:bT} {s l':kg} (e:je fs f o s=l') (h:l'.2=false):l'.1.length≤8:=by
 subst e
 unfold je at h⊢
 simp only[Bool.or_eq_false_iff,decide_eq_false_iff_not] at h
 show (fw fs f o s).1.length≤8
 omega
theorem jq (o:bT) (pc:Int):(cQ o pc).length≤2:=by
 unfold cQ
 repeat (first | split | simp)
set_option maxRecDepth 100000 in
set_option maxHeartbeats 1000000 in
theorem xP (C:FC) (s:FSt) (hd:List fE) (L:List (Value×List Int)) (At:Option Addr) (ct:Nat) (r:Option FSt) (e:iN C.fs C.f s=r) (hok:iD C.fs C.f) (hp:bM w0 B (.slice C.Ap C.fs.length C.cp) C.fs) (hlo:bM w0 B (.slice C.A1 C.f.locals.length C.c1) C.f.locals) (hco:bM w0 B (.slice C.A2 C.f.code.length C.c2) C.f.code)
  (hR:fD C.f.code.length hd L s.at_) (hF:eb C.f.code.length s) (ht:0<s.todo.length) (ht2:s.todo.length≤4000) (w:World) (hw:Cw B w0 (fU C s hd L At ct++H) w) :
  Calls Tryz.prog 132 #[.pointer (some ⟨C.gx,0,none⟩)] w fun e w'=> ∃g:List fE×List (Value×List Int)×Option Addr×Nat,(match r with | some s'=>fD C.f.code.length g.1 g.2.1 s'.at_ | none=>True)∧
   e= .returned (.bool r.isSome)∧Cw B w0 ((match r with | some s'=>fU C s' g.1 g.2.1 g.2.2.1 g.2.2.2 | none=> [])++H) w':=by
 obtain⟨gx,fs,f,Ap,cp,A1,c1,A2,c2,Aa,ca,Am,cm⟩:=C
 obtain⟨at_,met,todo⟩:=s
 dsimp only[fU,List.cons_append,List.nil_append] at *
 obtain⟨n,hn⟩:∃n,todo.length=n+1:=⟨todo.length - 1,by omega⟩
 have hmem:todo.getD n 0∈todo:=by rw[List.getD_eq_getElem?_getD,List.getElem?_eq_getElem (by omega)];exact List.getElem_mem _
 have htd:=hF.td _ hmem
 obtain⟨k,hk⟩:∃k:Nat,todo.getD n 0=(k:Int):=⟨(todo.getD n 0).toNat,by have:=htd.1;omega⟩
 have hkl:k<f.code.length:=by have:=htd.2;omega
 obtain⟨T,b,eT⟩:∃T b,je fs f (bn f.code k) (at_.getD k [],false)=(T,b):=⟨_,_,rfl⟩
 have e:(if b=true then none else cV f.code.length ⟨at_,met,todo.take n⟩ (cQ (bn f.code k) k) T)=r:=by
  unfold iN at e
  dsimp only at e
  rw[show todo.length - 1=n from by omega,hk,Int.toNat_natCast,eT] at e
  exact e
 have htl:(todo.take n).length=n:=by rw[List.length_take];omega
 have i1:=ru hco hkl
 refine cB Tryz.func132 rfl Tryz.ntmps132 rfl hw ?_
 refine ac<|aa<|ai (bH rfl rfl rfl) rfl rfl (fun g1 _=>?_)
 refine rn 1 [1] rfl<|ae<|ac<|aa<|af (aj fc gU rfl rfl (by rfl)) rfl rfl ?_
 refine rn 2 [1,8] rfl<|af (aj fc aW rfl rfl (by rfl)) rfl rfl ?_
 refine af (aL ag rfl rfl) rfl rfl<|af (cn rfl rfl rfl (by omega)) rfl rfl<|rn 1 [1,3] rfl<|ae<|cS (t:=3) (v':= .int .i64 (n:Int)) rfl (by congr 1;omega) ?_
 refine ac<|aa<|af (aj fc gU rfl rfl (by rfl)) rfl rfl ?_
 refine rn 2 [1,3,14] rfl<|af (aj fc aW rfl rfl (by rfl)) rfl rfl ?_
 refine rn 1 [1,3,15,16] rfl<|af (aQ ag aF (SF.own rfl fc) (by omega) rfl rfl rfl) rfl rfl ?_
 refine af (aZ (SF.int (SF.own rfl fc) (by omega)) rfl rfl aw) rfl rfl ?_
 refine rn 1 [1,3,4] rfl<|ae<|fa (fun w h=>lN h (xs:=todo) fc) fun hcap=>?_
 refine cS (t:=4) (v':= .int .i64 (k:Int)) rfl (by rw[hk]) ?_
 refine ac<|bV (.still 0 (.still 1 (.still 2 (.still 3 (.still 4 (.still 5 (.still 6 (.still 7 (.still 8 (.pick 9 .done .stop)))))))))) [9] rfl (by kernel_rfl) (by kernel_rfl) ?_
 refine av rfl (aj fc gU rfl rfl (by rfl)) rfl rfl ha ?_
 refine av rfl (aj fc gU rfl rfl (by rfl)) rfl rfl ha ?_
 refine aS ha 2 [1,3,4,19,22] rfl<|av rfl (aj fc aW rfl rfl (by rfl)) rfl rfl ha ?_
 refine aS ha 1 [1,4,19,23,24] rfl<|av rfl (jR (k:=n) ag aF (by omega) rfl rfl rfl) rfl rfl ha ?_
 refine aS ha 2 [1,4,25,27] rfl<|aB rfl (aM _ fc bJ rfl rfl rfl rfl rfl (by rfl) rfl (by rfl)) rfl rfl (.inl rfl) (fun _ _=>?_) ay
 refine cu<|dx (fun w h=>np (k:=n) (xs:=todo) (A:=At) (m:=todo.length) (c:=ct) (by omega) (h.msub (.s fc .r))) ?_
 have hin:=hR.el k hkl
 have h8:(at_.getD k []).length≤8:=hF.st k
 refine ac<|aa<|af (aj fc gU rfl rfl (by rfl)) rfl rfl ?_
 refine rn 2 [1,4,30] rfl<|af (aj fc dp rfl rfl (by rfl)) rfl rfl ?_
 refine rn 1 [1,4,31,32] rfl<|af (aQ bj bJ (SF.own hR.hl fc) (by omega) rfl rfl rfl) rfl rfl ?_
 refine af (aZ (SF.hdr (SF.own hR.hl fc) hkl) rfl rfl aW) rfl rfl ?_
 refine kB (fun w h=>hin.form h fc) ?_
 rintro⟨A3,c3,hv⟩
 rw[hv] at hin
 refine bU (t:=34) (v':= .slice A3 (at_.getD k []).length c3) rfl (hv) ?_
 refine ai (d9 rfl rfl rfl iE (fun w hw=>pj A3 c3 (at_.getD k []) w (hin.sl hw fc) (by omega))) rfl rfl (fun⟨A4,c4⟩ _=>?_)
 try dsimp only
 refine af (cU (cs:= [_,_]) BF Tryz.zeroValue202 rfl rfl (by rfl)) rfl rfl ?_
 refine ai (bH rfl rfl rfl) rfl rfl (fun g2 _=>?_)
 refine ai (a9 Tryz.zeroValue200 rfl rfl) rfl rfl (fun g3 _=>?_)
 refine ai (aM _ fc Tryz.sizeOf200 rfl rfl rfl rfl rfl (by rfl) rfl (by rfl)) rfl rfl (fun _ _=>?_)
 refine ae<|ac<|fB (.still 0 (.still 1 (.still 2 (.still 3 (.still 4 (.still 5 (.still 6 (.still 7 (.still 8 (.still 9 (.still 10 (.still 11 (.still 12 (.still 13 (.still 14 (.still 15 (.still 16 (.pick 17 .done .stop)))))))))))))))))) [] rfl (by kernel_rfl) (by kernel_rfl) [az g1 [.pointer (some ⟨gx,0,none⟩)] 176,az gx [.slice Ap fs.length cp,.int .i64 f.params,.slice A1 f.locals.length c1,.int .i64 f.result,.slice A2 f.code.length c2,.slice Aa f.code.length ca,.slice Am f.code.length cm,.slice At n ct] 178,az g3 [.pointer (some ⟨g2,0,none⟩)] 200] ?_
 refine av rfl (aj fc Dp rfl rfl (by rfl)) rfl rfl ha ?_
 refine av rfl (aj fc gU rfl rfl (by rfl)) rfl rfl ha ?_
 refine aS ha 2 [1,4,5,38,41] rfl<|av rfl (aY (vs:= [_]) fc cA cg rfl rfl (by rfl) rfl) rfl rfl ha ?_
 refine av rfl (aj fc gU rfl rfl (by rfl)) rfl rfl ha ?_
 refine aS ha 2 [1,4,5,38,42,45] rfl<|av rfl (aY (vs:= [_,_,_,_]) fc ei bq rfl rfl (by rfl) rfl) rfl rfl ha ?_
 refine av rfl (aj fc gU rfl rfl (by rfl)) rfl rfl ha ?_
 refine aS ha 3 [1,4,5,38,42,46,50] rfl<|av rfl (aj fc dk rfl rfl (by rfl)) rfl rfl ha ?_
 refine aS ha 1 [1,4,5,38,42,46,51,52] rfl<|av rfl (aQ bt cE (.ro hco) (by omega) rfl rfl rfl) rfl rfl ha ?_
 refine av rfl (cL (cs:= [_,_]) (SF.op (.ro hco) (by omega)) rfl rfl gT cE) rfl rfl ha ?_
 refine aB rfl (bg rfl rfl rfl Tryz.call167 (fun w hw=>zF g2 fs f (bn f.code k) eT A4 Ap A1 A2 c4 cp c1 c2 (hok.op k hkl) hp hlo (by omega) w (hw.msub (.s fc (.s fc .r))))) rfl rfl (.inr fun _=>ha) (fun⟨A6,c6⟩ _=>?_) ay
 try dsimp only
 refine cu<|ac<|ac<|aa<|af (aj fc Dp rfl rfl (by rfl)) rfl rfl ?_
 refine rn 2 [1,4,5,58] rfl<|af (aj fc eh rfl rfl (by rfl)) rfl rfl ?_
 refine ae<|b9 rfl (fun hb=>?_) (fun hb=>?_)
 ·rw[if_pos hb] at e
  subst e
  refine ac<|aa<|rn 1 [2] rfl<|ae<|ap (ah ?_)
  refine au Tryz.results132 (am rfl) ?_
  intro w hw
  exact⟨(hd,L,At,ct),trivial,rfl,hw.msub ms⟩
 have hb:b=false:=hb
 subst hb
 have hT8:=qR eT rfl
 have hT8:T.length≤8:=hT8
 rw[if_neg (by decide)] at e
 obtain⟨LL,hLL⟩:∃LL,cQ (bn f.code k) k=LL:=⟨_,rfl⟩
 have hto:=hok.to_ k hkl
 have hl2:=jq (bn f.code k) k
 rw[hLL] at hto hl2 e
 have haft:∀w1,Sl w1 (.slice A2 f.code.length c2) f.code→Calls Tryz.prog 168 #[.slice A2 f.code.length c2,.int .i64 (k:Int)] w1 fun e w'=> ∃g:Option Addr×Nat,True∧e= .returned (.slice g.1 LL.length g.2)∧Cw w1.heap.size w1 [an (.slice g.1 LL.length g.2) LL] w':=fun w1 h=>by
  have:=xC A2 c2 f.code k w1 h hkl
  rw[hLL] at this
  exact this
 refine aq (ak ?_)
 refine ac<|aa<|af (aj fc gU rfl rfl (by rfl)) rfl rfl ?_
 refine rn 3 [1,4,5,63] rfl<|af (aj fc dk rfl rfl (by rfl)) rfl rfl ?_
 refine rn 1 [1,5,64,65] rfl<|ai (dg rfl rfl rfl Tryz.call168 (fun w hw=>haft w (hw.ro hco))) rfl rfl (fun⟨A7,c7⟩ _=>?_)
 try dsimp only
 refine rn 1 [66,67] rfl ?_
 obtain⟨C,hC⟩:∃C:FC,C=⟨gx,fs,f,Ap,cp,A1,c1,A2,c2,Aa,ca,Am,cm⟩:=⟨_,rfl⟩
 have hF0:eb f.code.length ⟨at_,met,todo.take n⟩:=⟨hF.al,hF.ml,by show (todo.take n).length≤_;omega,hF.st,fun x hx=>hF.td x (List.mem_of_mem_take hx)⟩
 have hstep:∀(j:Nat) (g:FSt×List fE×List (Value×List Int)×Option Addr×Nat),j<LL.length→((cV f.code.length ⟨at_,met,todo.take n⟩ (LL.take j) T=some g.1∧eb f.code.length g.1∧g.1.todo.length≤n+j)∧fD f.code.length g.2.1 g.2.2.1 g.1.at_)→∀w,Cw B w0 ((fun g:FSt×List fE×List (Value×List Int)×Option Addr×Nat=>kj g1 g3 g2 gx A6 c6 T++(fU C g.1 g.2.1 g.2.2.1 g.2.2.2.1 g.2.2.2.2++(an (.slice A7 LL.length c7) LL::H))) g) w→
   Calls Tryz.prog 169 ([Value.int .i64 (LL.getD j 0)]++(#[.pointer (some ⟨g1,0,none⟩),.pointer (some ⟨g3,0,none⟩)]:Array Value).toList).toArray w fun e w'=> ∃p:Bool×FSt×List fE×List (Value×List Int)×Option Addr×Nat,
    (if p.1 then cV f.code.length ⟨at_,met,todo.take n⟩ LL T=none else (cV f.code.length ⟨at_,met,todo.take n⟩ (LL.take (j+1)) T=some p.2.1∧eb f.code.length p.2.1∧p.2.1.todo.length≤n+(j+1))∧fD f.code.length p.2.2.1 p.2.2.2.1 p.2.1.at_)∧e= .returned (.bool p.1)∧Cw B w0 ((fun g:FSt×List fE×List (Value×List Int)×Option Addr×Nat=>kj g1 g3 g2 gx A6 c6 T++(fU C g.1 g.2.1 g.2.2.1 g.2.2.2.1 g.2.2.2.2++(an (.slice A7 LL.length c7) LL::H))) p.2) w':=by
  rintro j ⟨s',hd',L',A',c'⟩ hj ⟨⟨g1',g2',g3'⟩,g4'⟩ w1 hw1
  have hmem:LL.getD j 0∈LL:=by rw[List.getD_eq_getElem?_getD,List.getElem?_eq_getElem hj];exact List.getElem_mem _
  obtain⟨q,hq⟩:∃q:Nat,LL.getD j 0=(q:Int):=⟨(LL.getD j 0).toNat,by have:=hto _ hmem;omega⟩
  have hqn:q≤f.code.length:=by have:=hto _ hmem;omega
  have hsn:=lz hj g1'
  rw[hq,Int.toNat_natCast] at hsn
  have hco2:=iY g2' hqn hT8 (by have:=hF.tl;dsimp only at *;omega)
  dsimp only at *
  rw[hq]
  refine(vS (H:=an (.slice A7 LL.length c7) LL::H) C s' hd' L' A' c' g1 g3 g2 A6 c6 q (by rw[hC];exact hqn) (by rw[hC];exact hok.n40) T hT8 (by rw[hC];exact g4') (by rw[hC];exact g2') w1 (by rw[hC] at hw1⊢;exact hw1)).mono ?_
  rintro e1 w' ⟨⟨hd2,L2,A5,c5⟩,k1,k2,k3⟩
  rw[hC] at k1 k2
  dsimp only at k1 k2
  refine⟨(!(cI f.code.length s' q T).1,(cI f.code.length s' q T).2,hd2,L2,A5,c5),?_,k2,by rw[hC] at k3⊢;exact k3⟩
  dsimp only
  cases hb1:(cI f.code.length s' q T).1
  ·rw[hb1] at hsn
   rw[if_neg (by decide)] at hsn
   simp only[Bool.not_false,if_true]
   exact lA hsn
  rw[hb1] at hsn
  rw[if_pos rfl] at hsn
  simp only[Bool.not_true,Bool.false_eq_true,if_false]
  exact⟨⟨hsn,hco2.1,by omega⟩,k1⟩
 refine ai (bg rfl rfl rfl DT (fun w hw=>r8 (B:=B) (w0:=w0) (fun j g=>(cV f.code.length ⟨at_,met,todo.take n⟩ (LL.take j) T=some g.1∧eb f.code.length g.1∧g.1.todo.length≤n+j)∧fD f.code.length g.2.1 g.2.2.1 g.1.at_) (fun _=>cV f.code.length ⟨at_,met,todo.take n⟩ LL T=none) (fun g:FSt×List fE×List (Value×List Int)×Option Addr×Nat=>kj g1 g3 g2 gx A6 c6 T++(fU C g.1 g.2.1 g.2.2.1 g.2.2.2.1 g.2.2.2.2++(an (.slice A7 LL.length c7) LL::H))) A7 c7 LL 169 _ Tryz.call169 (fun g=> .own rfl fc) (by omega) hstep (⟨at_,met,todo.take n⟩,hd,L,At,ct) ⟨⟨rfl,hF0,by show (todo.take n).length≤_;omega⟩,hR⟩ w (by dsimp only[fU,kj,List.cons_append,List.nil_append];rw[hC];dsimp only;rw[htl];exact hw.msub ms))) rfl rfl (fun⟨bb,s',hd',L',A',c'⟩ hg=>?_)
 try dsimp only
 refine rn 2 [2] rfl<|ae<|ap<|au Tryz.results132 (am rfl) ?_
 intro w hw
 cases bb
 ·have hg:(cV f.code.length ⟨at_,met,todo.take n⟩ (LL.take LL.length) T=some s'∧eb f.code.length s'∧s'.todo.length≤n+LL.length)∧fD f.code.length hd' L' s'.at_:=hg
  rw[List.take_length,e] at hg
  obtain⟨⟨k1,_,_⟩,k2⟩:=hg
  subst k1
  refine⟨(hd',L',A',c'),k2,rfl,?_⟩
  dsimp only[fU,kj,List.cons_append,List.nil_append] at hw⊢
  rw[hC] at hw
  exact hw.msub ms
 have hg:cV f.code.length ⟨at_,met,todo.take n⟩ LL T=none:=hg
 rw[e] at hg
 subst hg
 refine⟨(hd,L,At,ct),trivial,rfl,?_⟩
 dsimp only[fU,kj,List.cons_append,List.nil_append] at hw⊢
 exact hw.msub ms
end
end
section
def km (l:List Int):Nat:=l.countP fun t=>decide (t=3)
def gD (s:FSt) (i:Nat):Nat:=if s.met.getD i false=true then km (s.at_.getD i []) else 9
def lL (n:Nat) (s:FSt):Nat:=((List.range n).map (gD s)).sum
def mu (n:Nat) (s:FSt):Nat:=lL n s+s.todo.length
theorem zI {n k:Nat} {f g:Nat→Nat} (hk:k<n) (h:∀i,i≠k→f i=g i):((List.range n).map g).sum+f k=((List.range n).map f).sum+g k:=by
 induction n with
 | zero=>omega
 | succ n ih=>
  simp only[List.range_succ,List.map_append,List.sum_append,List.map_cons,List.map_nil,List.sum_cons,List.sum_nil]
  by_cases e:k=n
  ·subst e
   have:(List.range k).map f=(List.range k).map g:=List.map_congr_left fun i hi=>h i (by have:=List.mem_range.1 hi;omega)
   rw[this]
   omega
  have:=ih (by omega)
  have:=h n (fun e'=>e e'.symm)
  omega
theorem tC {a b:Int} (h:cX a b≠0):cX a b=a∨(a=3∧cX a b=2):=by
 unfold cX bS at *
 by_cases h1:a=b
 ·left;simp[h1]
 by_cases h2:a=3∧b=2
 ·right;obtain⟨rfl,rfl⟩:=h2;simp
 by_cases h3:b=3∧a=2
 ·left;obtain⟨rfl,rfl⟩:=h3;simp
 exfalso
 apply h
 have e1:¬(a=3∧b=2):=h2
 have e2:¬(b=3∧a=2):=h3
 have e3:¬b=a:=fun e=>h1 e.symm
 simp[h1,e3,e1,e2]
theorem nI:∀{a l j:List Int},bI a l=some j→km j≤km a∧(j≠a→km j<km a)
 | [],[],j,h=>by simp[bI] at h;subst h;simp
 | [],_::_,j,h=>by simp[bI] at h
 | _::_,[],j,h=>by simp[bI] at h
 | a::l,b::m,j,h=>by
  simp only[bI] at h
  split at h
  ·cases h
  rename_i h0
  cases e:bI l m with
  | none=>rw[e] at h;cases h
  | some k=>
   rw[e] at h
   simp only[Option.map_some,Option.some.injEq] at h
   subst h
   obtain⟨h1,h2⟩:=nI e
   unfold km at *
   simp only[List.countP_cons]
   rcases tC h0 with hb | ⟨rfl,hb⟩
   ·rw[hb]
    refine⟨by omega,fun hne=>?_⟩
    have:k≠l:=fun e=>hne (by rw[e])
    have:=h2 this
    omega
   rw[hb]
   simp only[decide_true,if_true]
   have:(if decide ((2:Int)=3)=true then 1 else 0)=0:=by decide
   rw[this]
   exact⟨by omega,fun _=>by omega⟩
theorem ry (l:List Int):km l≤l.length:=List.countP_le_length
theorem qk {n:Nat} {s:FSt} (h:eb n s) {k:Nat} (hk:k≤n) {l:List Int} (hl:l.length≤8):mu n (cI n s k l).2≤mu n s:=by
 have key:k<n→∀j:List Int,km j<gD s k→mu n ⟨s.at_.set k j,s.met.set k true,s.todo++ [(k:Int)]⟩≤mu n s:=fun hkn j hj=>by
  have e:=zI (f:=gD s) (g:=gD ⟨s.at_.set k j,s.met.set k true,s.todo++ [(k:Int)]⟩) hkn fun i hi=>by
   unfold gD
   rw[fg (by rw[h.ml];exact hkn),fg (by rw[h.al];exact hkn),if_neg hi,if_neg hi]
  have e2:gD ⟨s.at_.set k j,s.met.set k true,s.todo++ [(k:Int)]⟩ k=km j:=by
   unfold gD
   rw[fg (by rw[h.ml];exact hkn),fg (by rw[h.al];exact hkn),if_pos rfl,if_pos rfl,if_pos rfl]
  rw[e2] at e
  unfold mu lL
  simp only[List.length_append,List.length_singleton]
  omega
 unfold cI
 split
 ·exact Nat.le_refl _
 rename_i hne
 split
 ·rename_i hm
  split
  ·exact Nat.le_refl _
  rename_i j hj
  split
  ·exact Nat.le_refl _
  rename_i hja
  exact key (by omega) j (by unfold gD;rw[if_pos hm];exact(nI hj).2 hja)
 rename_i hm
 exact key (by omega) l (by unfold gD;rw[if_neg hm];have:=ry l;omega)
theorem m5 {n:Nat} :∀{s s':FSt} {L:List Int} {l:List Int},eb n s→(∀q∈L,0≤q∧q≤n)→l.length≤8→s.todo.length+L.length<5000→cV n s L l=some s'→mu n s'≤mu n s
 | s,s',[],l,h,_,_,_,e=>by
  simp only[cV,Option.some.injEq] at e
  subst e
  exact Nat.le_refl _
 | s,s',a::L,l,h,hq,hl,ht,e=>by
  simp only[cV] at e
  split at e
  ·have ha:=hq a (by simp)
   rw[List.length_cons] at ht
   obtain⟨h1,h2⟩:=iY h (k:=a.toNat) (by omega) hl (by omega)
   exact Nat.le_trans (m5 h1 (fun q hq'=>hq q (by simp[hq'])) hl (by omega) e) (qk h (by omega) hl)
  cases e
theorem nZ {fs:List aA} {f:aA} (hok:iD fs f) {s s':FSt} (h:eb f.code.length s) (ht:0<s.todo.length) (ht2:s.todo.length≤4000) (e:iN fs f s=some s'):eb f.code.length s'∧mu f.code.length s'<mu f.code.length s:=by
 obtain⟨n,hn⟩:∃n,s.todo.length=n+1:=⟨s.todo.length - 1,by omega⟩
 have hmem:s.todo.getD n 0∈s.todo:=by rw[List.getD_eq_getElem?_getD,List.getElem?_eq_getElem (by omega)];exact List.getElem_mem _
 have htd:=h.td _ hmem
 obtain⟨k,hk⟩:∃k:Nat,s.todo.getD n 0=(k:Int):=⟨(s.todo.getD n 0).toNat,by omega⟩
 have hkl:k<f.code.length:=by omega
 unfold iN at e
 dsimp only at e
 rw[show s.todo.length - 1=n from by omega,hk,Int.toNat_natCast] at e
 split at e
 ·cases e
 rename_i hb
 have hb:(je fs f (bn f.code k) (s.at_.getD k [],false)).2=false:=by simpa using hb
 have hT8:=qR rfl hb
 have hF0:eb f.code.length ⟨s.at_,s.met,s.todo.take n⟩:=⟨h.al,h.ml,by show (s.todo.take n).length≤_;rw[List.length_take];omega,h.st,fun x hx=>h.td x (List.mem_of_mem_take hx)⟩
 have hl2:=jq (bn f.code k) k
 have hlt:(s.todo.take n).length+(cQ (bn f.code k) k).length<5000:=by rw[List.length_take];omega
 have h1:=m4 hF0 (hok.to_ k hkl) hT8 hlt e
 have h2:=m5 hF0 (hok.to_ k hkl) hT8 hlt e
 refine⟨h1.1,?_⟩
 have:mu f.code.length ⟨s.at_,s.met,s.todo.take n⟩+1=mu f.code.length s:=by
  unfold mu
  show lL f.code.length s+(s.todo.take n).length+1=_
  rw[List.length_take]
  omega
 omega
def it (fs:List aA) (f:aA):Nat→FSt→Option FSt
 | 0,_=>none
 | k+1,s=>if s.todo.length=0 then some s else match iN fs f s with
  | none=>none
  | some s'=>it fs f k s'
theorem oT {fs:List aA} {f:aA} (hok:iD fs f):∀(k m:Nat) (s:FSt),eb f.code.length s→mu f.code.length s≤4000→mu f.code.length s<k→mu f.code.length s<m→it fs f k s=it fs f m s
 | 0,_,_,_,_,h,_=>absurd h (by omega)
 | _+1,0,_,_,_,_,h=>absurd h (by omega)
 | k+1,m+1,s,hF,h4,h1,h2=>by
  simp only[it]
  split
  ·rfl
  rename_i ht
  cases e:iN fs f s with
  | none=>rfl
  | some s'=>
   have htl:s.todo.length≤4000:=by unfold mu at h4;omega
   obtain⟨h3,h4'⟩:=nZ hok hF (by omega) htl e
   exact oT hok k m s' h3 (by omega) (by omega) (by omega)
def eS (n:Nat):FSt:=⟨List.replicate n [],List.replicate n false,[]⟩
def fi (n:Nat):FSt:=(cI n (eS n) 0 []).2
def kb (fs:List aA) (f:aA):Option FSt:=it fs f (mu f.code.length (fi f.code.length)+1) (fi f.code.length)
structure f8 where
 pc:Int
 stack:List Int
 deriving DecidableEq
def gW (s:FSt) (i:Nat):List f8:=(List.range i).filterMap fun k=>if s.met.getD k false=true then some ⟨k,s.at_.getD k []⟩ else none
def b8 (fs:List aA) (f:aA):List f8×Bool:=match kb fs f with
 | none=>([],false)
 | some s=>(gW s f.code.length,true)
theorem mF (n:Nat):eb n (eS n):=by
 refine⟨by simp[eS],by simp[eS],by simp[eS],fun i=>?_,by simp[eS]⟩
 show ((List.replicate n ([]:List Int)).getD i []).length≤8
 rw[List.getD_eq_getElem?_getD,List.getElem?_replicate]
 split <;> simp
theorem xQ (n:Nat):mu n (eS n)≤9*n:=by
 unfold mu lL
 have:∀m,((List.range m).map (gD (eS n))).sum≤9*m:=fun m=>by
  induction m with
  | zero=>simp
  | succ m ih=>
   simp only[List.range_succ,List.map_append,List.sum_append,List.map_cons,List.map_nil,List.sum_cons,List.sum_nil]
   have:gD (eS n) m≤9:=by
    unfold gD
    split
    ·rename_i h
     have:(eS n).met.getD m false=false:=by
      show (List.replicate n false).getD m false=false
      rw[List.getD_eq_getElem?_getD,List.getElem?_replicate]
      split <;> rfl
     rw[this] at h;cases h
    exact Nat.le_refl _
   omega
 have:=this n
 show _+([]:List Int).length≤_
 simpa using this
theorem pW {n:Nat} (_:0<n):eb n (fi n)∧mu n (fi n)≤9*n:=by
 have h1:=iY (mF n) (k:=0) (Nat.zero_le _) (l:= []) (by simp) (by simp[eS])
 have h2:=qk (mF n) (k:=0) (Nat.zero_le _) (l:= []) (by simp)
 exact⟨h1.1,Nat.le_trans h2 (xQ n)⟩
end
section
instance:aK f8 where
 k:=2
 rep w B cs x:= ∃v,cs= [.int .i64 x.pc,v]∧a5 x.pc∧bM w B v x.stack
 len h:=by obtain⟨v,h,_⟩:=h;rw[h];rfl
 keep h hc:=by obtain⟨v,h,hi,hs⟩:=h;exact⟨v,h,hi,hs.keep hc⟩
 more h hb:=by obtain⟨v,h,hi,hs⟩:=h;exact⟨v,h,hi,hs.more hb⟩
 one h:=by obtain⟨v,h,hi,hs⟩:=h;obtain⟨A,c,rfl,_⟩:=hs.form;rw[h];simp[Value.oneCell']
structure fq where
 pc:Int
 v:Value
instance:aK fq where
 k:=2
 rep _ _ cs h:=cs= [.int .i64 h.pc,h.v]∧a5 h.pc∧h.v.oneCell'=true
 len h:=by rw[h.1];rfl
 keep h _:=h
 more h _:=h
 one h:=by rw[h.1];simpa [Value.oneCell'] using h.2.2
instance:Ow fq where
 ty:=155
 own _ F cs h:=(cs= [.int .i64 h.pc,h.v]∧a5 h.pc∧h.v.oneCell'=true)∧∀b,¬F b
 rd_ h:=h.1
 lt h hb:=(h.2 _ hb).elim
 frame h _:=h
 cong h hf:=⟨h.1,fun b hb=>h.2 b ((hf b).2 hb)⟩
instance:cG fq where
 enc h:= [.int .i64 h.pc,h.v]
 wf h:=a5 h.pc∧h.v.oneCell'=true
 rep_iff:=Iff.rfl
 own_iff:=Iff.rfl
structure js (es:List fq) (L:List (Value×List Int)) (xs:List f8):Prop where
 len:es.length=xs.length
 el:∀i (h:i<es.length) (h2:i<xs.length),es[i].pc=xs[i].pc∧gB L es[i].v xs[i].stack
theorem js.nil_ {L:List (Value×List Int)} :js [] L []:=⟨rfl,fun i h=>by simp at h⟩
theorem js.snoc {es:List fq} {L:List (Value×List Int)} {xs:List f8} (h:js es L xs) {e:fq} {x:f8} (h1:e.pc=x.pc) (h2:gB L e.v x.stack):js (es++ [e]) L (xs++ [x]):=
 ⟨by simp[h.len],fun i hi hi2=>by
  by_cases hlt:i<es.length
  ·rw[List.getElem_append_left hlt,List.getElem_append_left (by have:=h.len;omega)]
   exact h.el i hlt (by have:=h.len;omega)
  rw[List.length_append,List.length_singleton] at hi
  have hl:=h.len
  have:i=es.length:=by omega
  subst this
  rw[List.getElem_append_right (Nat.le_refl _),List.getElem_append_right (by omega)]
  simp[h1,h2,hl]⟩
theorem z7 {w:World} {F:Nat→Prop} {L:List (Value×List Int)} {v:Value} {xs:List Int} (h:gB L v xs) (hF:Hs w (L.map fun p=>fS p.1 p.2) F):Sl w v xs:=by
 rcases h with ⟨rfl,rfl⟩ | h
 ·exact Sl.nil_
 obtain⟨F',h5,_⟩:=Hs.mem (List.mem_map_of_mem (f:=fun p:Value×List Int=>fS p.1 p.2) h) hF
 exact h5.2 w fun _ _=>rfl
theorem wk {es:List fq} {L:List (Value×List Int)} {xs:List f8} (hr:js es L xs) {v:Value} :∀w F,Hs w [an v es,eD L] F→Sl w v xs:=by
 rintro w F ⟨F1,F2,h1,⟨F3,F4,h3,h4,_,_⟩,_,_⟩
 have h1:cy w F1 v es:=h1
 have h3:Hs w (L.map fun p=>fS p.1 p.2) F3:=h3
 obtain⟨A,c,hv,k1,k2,k3,k4⟩:=h1.sl
 refine⟨A,c,by rw[hv,hr.len],by rw[←hr.len];exact k1,k2,by rw[←hr.len];exact k3,fun h0=>?_⟩
 obtain⟨b,off,hA,hb,hi⟩:=k4 (by rw[hr.len];exact h0)
 refine⟨b,off,hA,hb,fun i x hx=>?_⟩
 have hix:=(List.getElem?_eq_some_iff.1 hx)
 obtain⟨hil,hix⟩:=hix
 have hie:i<es.length:=by rw[hr.len];exact hil
 obtain⟨cs,⟨hcs,hi1,hi2⟩,hc⟩:=hi i es[i] (List.getElem?_eq_getElem hie)
 obtain⟨e1,e2⟩:=hr.el i hie hil
 rw[hix] at e1 e2
 subst hcs
 refine⟨[.int .i64 x.pc,es[i].v],⟨es[i].v,rfl,by rw[←e1];exact hi1,z7 e2 h3⟩,fun j u hu=>?_⟩
 rw[←e1] at hu
 exact hc j u hu
theorem mT (s:FSt) (i:Nat):gW s (i+1)=if s.met.getD i false=true then gW s i++ [⟨i,s.at_.getD i []⟩] else gW s i:=by
 unfold gW
 rw[List.range_succ,List.filterMap_append]
 split
 ·rename_i h
  simp only[List.filterMap_cons,List.filterMap_nil]
  rw[if_pos h]
 rename_i h
 simp only[List.filterMap_cons,List.filterMap_nil]
 rw[if_neg h]
 simp
theorem rX (s:FSt) (i:Nat):(gW s i).length≤i:=by
 have:=List.length_filterMap_le (fun k=>if s.met.getD k false=true then some (⟨k,s.at_.getD k []⟩:f8) else none) (List.range i)
 rw[List.length_range] at this
 exact this
theorem jX:(Tryz.prog.info? 27).map (fun i=>(i.zero,i.size,i.bytes))=some (some (.slice none 0 0),1,24):=by kernel_rfl
theorem pq:(Tryz.prog.info? 155).map (fun i=>(i.zero,i.size,i.bytes))=some (some (.agg #[.int .i64 0,.slice none 0 0]),2,32):=by kernel_rfl
theorem gC {α:Type} (n i:Nat) (x:α):(List.replicate n x).getD i x=x:=by
 rw[List.getD_eq_getElem?_getD,List.getElem?_replicate]
 split <;> rfl
set_option maxRecDepth 100000 in
set_option maxHeartbeats 4000000 in
theorem nL (A:Option Addr) (c:Nat) (fs:List aA) (k:Nat) (w:World) (hs:Sl w (.slice A fs.length c) fs) (hk:k<fs.length) (hok:iD fs (ax fs k)) (hn0:0<(ax fs k).code.length) :
  Calls Tryz.prog 103 #[.agg #[.slice A fs.length c],.int .i64 (k:Int)] w fun e w'=> ∃g:(Option Addr×Nat)×List fq×List (Value×List Int),js g.2.1 g.2.2 (b8 fs (ax fs k)).1∧e= .returned (.tuple #[.slice g.1.1 g.2.1.length g.1.2,.bool (b8 fs (ax fs k)).2])∧
   Cw w.heap.size w [an (.slice g.1.1 g.2.1.length g.1.2) g.2.1,eD g.2.2] w':=by
 obtain⟨A1,c1,A2,c2,hl,hc,hi,hcell⟩:=hs.fn hk
 generalize ax fs k=f at hl hc hi hcell hok hn0⊢
 have hn40:=hok.n40
 refine enter Tryz.func103 rfl Tryz.ntmps103 rfl ?_
 refine ac<|aa<|ai (bH rfl rfl rfl) rfl rfl (fun g1 _=>?_)
 refine rn 2 [1,2] rfl<|ae<|ac<|aa<|rn 1 [1,2,10] rfl<|af (aj fc cF rfl rfl (by rfl)) rfl rfl ?_
 refine rn 1 [1,2,11,12] rfl<|af (aQ bA bq (.ro hs) (by omega) rfl rfl rfl) rfl rfl<|rn 1 [1,2,14] rfl<|af (aZ (fun w hw=>hcell _ w hw 3 _ rfl) rfl rfl dk) rfl rfl ?_
 refine rn 1 [1,2,6] rfl<|ae<|eo (fun _:Nat×Nat×Nat=>True) (fun g=> [(6,.slice A2 f.code.length c2),(7,.pointer (some ⟨g.2.2,0,none⟩))]) (fun g=> [az g.2.2 [.slice A fs.length c,.int .i64 f.params,.slice A1 f.locals.length c1,.int .i64 f.result,.slice A2 f.code.length c2,.slice (some ⟨g.1,0,none⟩) f.code.length f.code.length,.slice (some ⟨g.2.1,0,none⟩) f.code.length f.code.length,.slice none 0 0] 178,an (.slice (some ⟨g.1,0,none⟩) f.code.length f.code.length) (List.replicate f.code.length gG),an (.slice (some ⟨g.2.1,0,none⟩) f.code.length f.code.length) (List.replicate f.code.length false)]) ?_ ?_
 ·refine bV (.still 0 (.still 1 (.still 2 (.still 3 (.still 4 (.still 5 (.still 6 (.still 7 (.still 9 (.still 10 (.pick 8 (.pick 11 (.still 12 (.pick 13 (.still 14 .done) .stop)) .stop) (.pick 11 (.pick 8 (.still 12 (.pick 13 (.still 14 .done) .stop)) .stop) .stop)))))))))))) [] rfl (by kernel_rfl) (by kernel_rfl) ?_
  refine av rfl (aY (vs:= [_]) fc cA cg rfl rfl (by rfl) rfl) rfl rfl ha ?_
  refine aS ha 1 [1,6,16,17] rfl<|av rfl (aj fc cF rfl rfl (by rfl)) rfl rfl ha ?_
  refine aS ha 1 [6,16,18,19] rfl<|av rfl (aQ bA bq (.ro hs) (by omega) rfl rfl rfl) rfl rfl ha ?_
  refine av rfl (cL (hcell _) rfl rfl ei bq) rfl rfl ha ?_
  refine aS ha 1 [6,16,21,22] rfl<|av rfl (aL bt rfl rfl) rfl rfl ha ?_
  refine aS ha 1 [6,16,21,23,25] rfl<|av rfl (aL bt rfl rfl) rfl rfl ha ?_
  refine aB rfl (jJ (α:=fE) gG bj jX rfl (fun w=>⟨⟨rfl,rfl⟩,fun _ h=>h⟩) rfl (by omega) rfl rfl rfl) rfl rfl (.inr fun _=>ha) (fun ga _=>?_) ?_
  ·refine aB rfl (jJ (α:=Bool) false eB oA rfl (fun w=>⟨rfl,fun _ h=>h⟩) rfl (by omega) rfl rfl rfl) rfl rfl (.inr fun _=>ha) (fun gm _=>?_) ay
   refine av rfl (cU (cs:= [_,_,_,_,_,_,_,_]) wv Ee rfl rfl (by rfl)) rfl rfl ha ?_
   refine aB rfl (bH rfl rfl rfl) rfl rfl (.inr fun _=>ha) (fun gx _=>?_) ay
   refine aS ha 1 [6,7] rfl<|cD<|be (ga,gm,gx) (trivial) ⟨rfl,rfl,trivial⟩ me
  refine aB rfl (jJ (α:=Bool) false eB oA rfl (fun w=>⟨rfl,fun _ h=>h⟩) rfl (by omega) rfl rfl rfl) rfl rfl (.inr fun _=>ha) (fun gm _=>?_) ay
  refine aB rfl (jJ (α:=fE) gG bj jX rfl (fun w=>⟨⟨rfl,rfl⟩,fun _ h=>h⟩) rfl (by omega) rfl rfl rfl) rfl rfl (.inr fun _=>ha) (fun ga _=>?_) ay
  refine av rfl (cU (cs:= [_,_,_,_,_,_,_,_]) wv Ee rfl rfl (by rfl)) rfl rfl ha ?_
  refine aB rfl (bH rfl rfl rfl) rfl rfl (.inr fun _=>ha) (fun gx _=>?_) ay
  refine aS ha 1 [6,7] rfl<|cD<|be (ga,gm,gx) (trivial) ⟨rfl,rfl,trivial⟩ me
 rintro⟨ga,gm,gx⟩ _
 try dsimp only
 have hR0:fD f.code.length (List.replicate f.code.length gG) [] (eS f.code.length).at_:=⟨by simp,by simp[eS],fun i _=>by
  show gB [] ((List.replicate f.code.length gG).getD i gG).v ((List.replicate f.code.length ([]:List Int)).getD i [])
  rw[gC,gC]
  exact .nil_⟩
 have hso:=pW hn0
 have hcome:∀w1,Cw w.heap.size w (fU (⟨gx,fs,f,A,c,A1,c1,A2,c2,some ⟨ga,0,none⟩,f.code.length,some ⟨gm,0,none⟩,f.code.length⟩:FC) (eS f.code.length) (List.replicate f.code.length gG) [] none 0++ []) w1→Calls Tryz.prog 131 #[.pointer (some ⟨gx,0,none⟩),.int .i64 0,.slice none 0 0] w1 fun e w'=> ∃g:List fE×List (Value×List Int)×Option Addr×Nat,fD f.code.length g.1 g.2.1 (fi f.code.length).at_∧
   e= .returned (.bool (cI f.code.length (eS f.code.length) 0 []).1)∧Cw w.heap.size w (fU (⟨gx,fs,f,A,c,A1,c1,A2,c2,some ⟨ga,0,none⟩,f.code.length,some ⟨gm,0,none⟩,f.code.length⟩:FC) (fi f.code.length) g.1 g.2.1 g.2.2.1 g.2.2.2++ []) w':=fun w1 h=>
  sd (⟨gx,fs,f,A,c,A1,c1,A2,c2,some ⟨ga,0,none⟩,f.code.length,some ⟨gm,0,none⟩,f.code.length⟩:FC) (eS f.code.length) (List.replicate f.code.length gG) [] none 0 0 (Nat.zero_le _) hn40 [] none 0 .nil_ hR0 (by simp[eS]) (by simp[eS]) (fun i=>by have:=(mF f.code.length).st i;omega) w1 h
 refine dx (fun w h=>iU (Cw.nilO Int h)) ?_
 refine ac<|aa<|rn 1 [6,7,30] rfl<|ai (bg rfl rfl rfl Tryz.call131 (fun w hw=>hcome w (hw.msub ms))) rfl rfl (fun⟨hd,L,At,ct⟩ hR=>?_)
 try dsimp only
 refine ae<|ac ?_
 rw[List.append_nil]
 refine gR (fun g:FSt×List fE×List (Value×List Int)×Option Addr×Nat=>(kb fs f=some g.1∧eb f.code.length g.1)∧fD f.code.length g.2.1 g.2.2.1 g.1.at_) (fun g=> [(6,.slice A2 f.code.length c2),(7,.pointer (some ⟨gx,0,none⟩))]) (fun g=>fU (⟨gx,fs,f,A,c,A1,c1,A2,c2,some ⟨ga,0,none⟩,f.code.length,some ⟨gm,0,none⟩,f.code.length⟩:FC) g.1 g.2.1 g.2.2.1 g.2.2.2.1 g.2.2.2.2) ?_ ?_
 ·refine aE (bD (fun g:FSt×List fE×List (Value×List Int)×Option Addr×Nat=>((it fs f (mu f.code.length g.1+1) g.1=kb fs f∧eb f.code.length g.1)∧fD f.code.length g.2.1 g.2.2.1 g.1.at_)∧mu f.code.length g.1≤400) (fun g=>mu f.code.length g.1) (fun g=> [(6,.slice A2 f.code.length c2),(7,.pointer (some ⟨gx,0,none⟩))]) (fun g=>fU (⟨gx,fs,f,A,c,A1,c1,A2,c2,some ⟨ga,0,none⟩,f.code.length,some ⟨gm,0,none⟩,f.code.length⟩:FC) g.1 g.2.1 g.2.2.1 g.2.2.2.1 g.2.2.2.2) (fi f.code.length,hd,L,At,ct) (⟨⟨⟨rfl,hso.1⟩,hR⟩,by show mu f.code.length (fi f.code.length)≤_;have:=hso.2;omega⟩) ⟨rfl,rfl,trivial⟩ me ?_)
  rintro⟨s,hd,L,At,ct⟩ hj
  try dsimp only
  obtain⟨⟨⟨hj1,hF⟩,hR⟩,hmu⟩:((it fs f (mu f.code.length s+1) s=kb fs f∧eb f.code.length s)∧fD f.code.length hd L s.at_)∧mu f.code.length s≤400:=hj
  have htl:s.todo.length≤400:=by unfold mu at hmu;omega
  dsimp only[fU]
  refine ac<|ac<|aa<|rn 3 [6,7,34] rfl<|af (aj fc aW rfl rfl (by rfl)) rfl rfl ?_
  refine af (aL ag rfl rfl) rfl rfl<|rn 1 [6,7,37] rfl<|ae<|ar rfl (fun ht=>?_) (fun ht=>?_)
  ·have ht0:0<s.todo.length:=by omega
   obtain⟨r,hr⟩:∃r,iN fs f s=r:=⟨_,rfl⟩
   have hj2:=hj1
   rw[it,if_neg (by omega),hr] at hj2
   refine aq (ak ?_)
   refine aE<|ac<|aa<|rn 1 [6,7,38] rfl<|ai (bg rfl rfl rfl Tryz.call132 (fun w hw=>xP (H:= []) (⟨gx,fs,f,A,c,A1,c1,A2,c2,some ⟨ga,0,none⟩,f.code.length,some ⟨gm,0,none⟩,f.code.length⟩:FC) s hd L At ct r hr hok hs hl hc hR hF ht0 (by omega) w (hw.msub ms))) rfl rfl (fun⟨hd2,L2,A2',c2'⟩ hR2=>?_)
   try dsimp only
   refine rn 1 [6,7,40] rfl<|ae<|b9 rfl (fun hq=>?_) (fun hq=>?_)
   ·obtain rfl:r=none:=by cases r with | none=>rfl | some s'=>cases hq
    have hent:b8 fs f=([],false):=by unfold b8;rw[←hj2]
    rw[hent]
    refine ac<|aa<|rn 2 [4,5] rfl<|ae<|ap (aC (ah (aC (ah ?_))))
    refine bC Tryz.results103 (am rfl) (am rfl) ?_
    intro w hw
    exact⟨((none,0),[],[]),.nil_,rfl,Cw.nilO fq (iU (hw.msub (T:= []) ms))⟩
   obtain⟨s',rfl⟩:∃s',r=some s':=by cases r with | none=>cases hq | some s'=>exact⟨s',rfl⟩
   have hso2:=nZ hok hF ht0 (by omega) hr
   have hj3:it fs f (mu f.code.length s'+1) s'=kb fs f:=by
    rw[←hj2]
    exact oT hok _ _ s' hso2.1 (by omega) (by omega) hso2.2
   dsimp only[List.append_nil]
   rw[List.append_nil]
   refine aq (aH ?_)
   refine kE (s',hd2,L2,A2',c2') (⟨⟨⟨hj3,hso2.1⟩,hR2⟩,by show mu f.code.length s'≤_;omega⟩) (hso2.2) ⟨rfl,rfl,trivial⟩ me
  have ht0:s.todo.length=0:=by omega
  have hj2:=hj1
  rw[it,if_pos ht0] at hj2
  refine bz (aG (aG (bO ?_)))
  refine be (s,hd,L,At,ct) (⟨⟨hj2.symm,hF⟩,hR⟩) ⟨rfl,rfl,trivial⟩ me
 rintro⟨s,hd,L,At,ct⟩ hj
 obtain⟨⟨hj,hF⟩,hR⟩:(kb fs f=some s∧eb f.code.length s)∧fD f.code.length hd L s.at_:=hj
 have hent:b8 fs f=(gW s f.code.length,true):=by unfold b8;rw[hj]
 rw[hent]
 dsimp only[fU]
 refine dx (fun w h=>Cw.nilO fq h) ?_
 refine ac<|aa<|rn 1 [6,7,8] rfl<|ae<|ac<|ac<|aa<|rn 1 [7,8,41] rfl<|af (aL bt rfl rfl) rfl rfl<|rn 1 [7,8,42,43] rfl<|ae<|aE (bD (fun g:Nat×List fq×Option Addr×Nat=>g.1≤f.code.length∧js g.2.1 L (gW s g.1)) (fun g=>f.code.length - g.1) (fun g=> [(7,.pointer (some ⟨gx,0,none⟩)),(8,.slice g.2.2.1 g.2.1.length g.2.2.2),(42,.int .i64 (f.code.length:Int)),(43,.int .i64 (g.1:Int))]) (fun g=>an (.slice g.2.2.1 g.2.1.length g.2.2.2) g.2.1::fU (⟨gx,fs,f,A,c,A1,c1,A2,c2,some ⟨ga,0,none⟩,f.code.length,some ⟨gm,0,none⟩,f.code.length⟩:FC) s hd L At ct) (0,[],none,0) (⟨Nat.zero_le _,.nil_⟩) ⟨rfl,rfl,rfl,rfl,trivial⟩ me ?_)
 rintro⟨i,es,Ae,ce⟩ hi'
 try dsimp only
 obtain⟨hi1,hre⟩:i≤f.code.length∧js es L (gW s i):=hi'
 have hel:=hre.len
 have hul:=rX s i
 dsimp only[fU]
 refine ac<|aa<|rn 1 [7,8,42,43,44] rfl<|ae<|ac<|ar rfl (fun hlt=>?_) (fun hlt=>?_)
 ·have hil:i<f.code.length:=by omega
  have hsu:=mT s i
  refine aq (ak ?_)
  refine ac<|aE<|ac<|aa<|rn 2 [7,8,9,42,43] rfl<|ae<|ac<|aa<|rn 3 [7,8,9,42,43,48] rfl<|af (aj fc Dq rfl rfl (by rfl)) rfl rfl ?_
  refine rn 1 [7,8,9,42,43,49,50] rfl<|af (aQ eB eG (SF.own hF.ml fc) (by omega) rfl rfl rfl) rfl rfl ?_
  refine af (aZ (SF.bool (SF.own hF.ml fc) (by omega)) rfl rfl eh) rfl rfl ?_
  refine ae<|b9 rfl (fun hm=>?_) (fun hm=>?_)
  ·rw[if_pos hm] at hsu
   have hin:=hR.el i hil
   refine aa<|rn 5 [7,9,42,43,53,54,57] rfl<|af (aj fc dp rfl rfl (by rfl)) rfl rfl ?_
   refine rn 1 [7,42,43,53,54,58,59] rfl<|af (aQ bj bJ (SF.own hR.hl fc) (by omega) rfl rfl rfl) rfl rfl ?_
   refine kB (fun w h=>hin.form h fc) ?_
   rintro⟨A3,c3,hv⟩
   rw[hv] at hin
   refine af (aZ (v:= .slice A3 (s.at_.getD i []).length c3) (by rw[←hv];exact SF.hdr (SF.own hR.hl fc) hil) rfl rfl aW) rfl rfl ?_
   refine af (cU (cs:= [_,_]) ww pw rfl rfl (by rfl)) rfl rfl ?_
   refine ai (a8 (cs:= [_,_]) ff ka pw rfl rfl rfl rfl rfl) rfl rfl (fun g2 _=>?_)
   refine ai (dM (α:=fq) (bytes:=32) ⟨i,.slice A3 (s.at_.getD i []).length c3⟩ [] rfl ff (bN pq) rfl (fH fc fc) (eI ⟨⟨by show (-9223372036854775808:Int)≤(i:Int);omega,by show (i:Int)≤9223372036854775807;omega⟩,rfl⟩) (by omega) (by omega) rfl rfl rfl) rfl rfl (fun⟨A5,c5⟩ _=>?_)
   try dsimp only
   refine rn 1 [7,8,42,43] rfl<|bu (aH (ak ?_))
   refine aa<|af (a6 rfl rfl rfl (by omega)) rfl rfl<|rn 1 [7,8,42,43] rfl<|aX (i+1,es++ [⟨i,.slice A3 (s.at_.getD i []).length c3⟩],A5,c5) (⟨hil,by rw[hsu];exact hre.snoc rfl hin⟩) (by show _ - _<_ - _;omega) ⟨rfl,rfl,rfl,rfl,trivial⟩ me
  rw[if_neg (by rw[hm];decide)] at hsu
  refine aq (aH (ak ?_))
  refine aa<|af (a6 rfl rfl rfl (by omega)) rfl rfl<|rn 1 [7,8,42,43] rfl<|aX (i+1,es,Ae,ce) (⟨hil,by rw[hsu];exact hre⟩) (by show _ - _<_ - _;omega) ⟨rfl,rfl,rfl,rfl,trivial⟩ me
 obtain rfl:i=f.code.length:=by omega
 refine bz (aG (aG (bO (ak ?_))))
 refine ac<|aa<|rn 3 [4,5] rfl<|ae<|ap<|bC Tryz.results103 (am rfl) (am rfl) ?_
 intro w hw
 exact⟨((Ae,ce),es,L),hre,rfl,hw.msub ms⟩
theorem ti (A:Option Addr) (c:Nat) (fs:List aA) (k:Nat) (w:World) (hs:Sl w (.slice A fs.length c) fs) (hk:k<fs.length) (hok:iD fs (ax fs k)) (hn0:0<(ax fs k).code.length) :
  Calls Tryz.prog 103 #[.agg #[.slice A fs.length c],.int .i64 (k:Int)] w fun e w'=> ∃g:Option Addr×Nat,True∧e= .returned (.tuple #[.slice g.1 (b8 fs (ax fs k)).1.length g.2,.bool (b8 fs (ax fs k)).2])∧
   Cw w.heap.size w [fS (.slice g.1 (b8 fs (ax fs k)).1.length g.2) (b8 fs (ax fs k)).1] w':=
 (nL A c fs k w hs hk hok hn0).mono fun e w' ⟨g,h1,h2,h3⟩=>⟨g.1,trivial,by rw[←h1.len];exact h2,by rw[←h1.len];exact wY (Hel:= [an (.slice g.1.1 g.2.1.length g.1.2) g.2.1,eD g.2.2]) (H:= []) (wk h1) h3⟩
end
section
theorem hY {fs:List aA} {k:Nat} (hk:k<fs.length):ax fs k∈fs:=by
 unfold ax
 rw[List.getD_eq_getElem?_getD,List.getElem?_eq_getElem hk]
 exact List.getElem_mem hk
theorem gJ {fs:List aA} (h:da fs=0) {k:Nat} (hk:k<fs.length):iD fs (ax fs k)∧0<(ax fs k).code.length:=by
 obtain⟨_,_,hall⟩:=gS h
 obtain⟨_,_,h3,h4,h5,h6,h7⟩:=iW (hall _ (hY hk))
 obtain⟨h40,_⟩:=lC h6
 refine⟨⟨fun i hi=>?_,fun i hi q hq=>?_,h40⟩,by omega⟩
 ·have hf:=h7 _ (ma hi)
  refine⟨fun hc=>?_,fun hc=>?_,fun j hj=>?_,⟨by omega,by omega⟩⟩
  ·unfold dS at hf
   rw[if_pos hc] at hf
   have:=io.1 hf
   omega
  ·unfold dS at hf
   rw[if_neg (by omega),if_neg (by omega),if_pos hc] at hf
   have:=io.1 hf
   omega
  obtain⟨g1,g2,_⟩:=iW (hall _ (hY hj))
  exact⟨g2,g1⟩
 have hf:=h7 _ (ma hi)
 have hg:=(lm (bn (ax fs k).code i) i q).1 hq
 have hjz:((bn (ax fs k).code i).c=10∨(bn (ax fs k).code i).c=11)→0≤(bn (ax fs k).code i).a∧(bn (ax fs k).code i).a<(ax fs k).code.length:=fun hc=>by
  unfold dS at hf
  rw[if_neg (by omega),if_pos hc] at hf
  have:=io.1 hf
  omega
 unfold eW at hg
 split at hg
 ·simp at hg
 split at hg
 ·rename_i hc
  have:=hjz (.inl hc)
  simp at hg
  omega
 split at hg
 ·rename_i hc
  have:=hjz (.inr hc)
  simp at hg
  omega
 simp at hg
 omega
def DM (fs:List aA) (z:Int):List f8×Int:=
 if da fs≠0 then ([],da fs) else if z<0∨(fs.length:Int)≤z then ([],3) else if (b8 fs (ax fs z.toNat)).2=true then ((b8 fs (ax fs z.toNat)).1,0) else ([],4)
def fd (fs:List aA):Int:=if da fs≠0 then da fs else if fs.all (fun f=>(b8 fs f).2)=true then 0 else 4
theorem mB {α:Type} {p:α→Bool} {l:List α} {k:Nat} (d:α) (hk:k<l.length):(l.take (k+1)).all p=((l.take k).all p && p (l.getD k d)):=by
 rw[List.take_add_one,List.getElem?_eq_getElem hk,List.getD_eq_getElem?_getD,List.getElem?_eq_getElem hk,List.all_append]
 simp
set_option maxRecDepth 100000 in
set_option maxHeartbeats 1000000 in
theorem pU (A:Option Addr) (c:Nat) (fs:List aA) (w:World) (hs:Sl w (.slice A fs.length c) fs) :
  Calls Tryz.prog 55 #[.agg #[.slice A fs.length c]] w fun e w'=>e= .returned (.int .i64 (fd fs))∧Below w.heap.size w w':=by
 have b1:=bR hs
 refine enter Tryz.func55 rfl Tryz.ntmps55 rfl ?_
 refine ac<|aa<|ai (bH rfl rfl rfl) rfl rfl (fun g1 _=>?_)
 refine rn 1 [1] rfl<|ae<|ac<|ac<|aa<|af (aY (vs:= [_]) fc cA cg rfl rfl (by rfl) rfl) rfl rfl ?_
 refine ai (bB rfl rfl rfl Tryz.call102 (fun w hw=>uH A c fs w (hw.ro hs))) rfl rfl (fun _ _=>?_)
 refine rn 1 [1,3] rfl<|ae<|ac<|aa<|rn 2 [1,3,10] rfl<|ae<|bX rfl (fun h0=>?_) (fun h0=>?_)
 ·refine ac<|aa<|rn 2 [2] rfl<|ae<|ap (ah ?_)
  refine au C9 (am rfl) ?_
  intro w hw
  exact⟨ej (by unfold fd;rw[if_pos h0]),hw.below⟩
 have hp:fd fs=if fs.all (fun f=>(b8 fs f).2)=true then 0 else 4:=by unfold fd;rw[if_neg (by simpa using h0)]
 refine aq (ak ?_)
 refine ac<|ac<|aa<|rn 1 [1,12] rfl<|af (aj fc cF rfl rfl (by rfl)) rfl rfl ?_
 refine af (aL bA rfl rfl) rfl rfl<|rn 1 [1,14,15] rfl<|ae<|aE (bD (fun k:Nat=>k≤fs.length∧(fs.take k).all (fun f=>(b8 fs f).2)=true) (fun k=>fs.length - k) (fun k=> [(1,.pointer (some ⟨g1,0,none⟩)),(14,.int .i64 (fs.length:Int)),(15,.int .i64 (k:Int))]) (fun _=> [az g1 [.slice A fs.length c] 24]) 0 (⟨Nat.zero_le _,rfl⟩) ⟨rfl,rfl,rfl,trivial⟩ me ?_)
 rintro k hk'
 obtain⟨hk,hall⟩:k≤fs.length∧(fs.take k).all (fun f=>(b8 fs f).2)=true:=hk'
 refine ac<|aa<|rn 1 [1,14,15,16] rfl<|ae<|ac<|ar rfl (fun hlt=>?_) (fun hlt=>?_)
 ·have hkl:k<fs.length:=by omega
  obtain⟨hok,hn0⟩:=gJ h0 hkl
  have hsn:=mB (p:=fun f=>(b8 fs f).2) (default:aA) hkl
  refine aq (ak ?_)
  refine ac<|aE<|ac<|aa<|rn 2 [1,4,14,15] rfl<|ae<|ac<|aa<|af (aY (vs:= [_]) fc cA cg rfl rfl (by rfl) rfl) rfl rfl ?_
  refine rn 1 [1,14,15,19,20] rfl<|ai (dg rfl rfl rfl Tryz.call103 (fun w hw=>ti A c fs k w (hw.ro hs) hkl hok hn0)) rfl rfl (fun⟨A1,c1⟩ _=>?_)
  try dsimp only
  refine rn 5 [1,6,14,15] rfl<|ae<|ac<|aa<|rn 2 [1,14,15,25] rfl<|ae<|b9 rfl (fun h3=>?_) (fun h3=>?_)
  ·have h3:(b8 fs (ax fs k)).2=false:=by simpa using h3
   refine ac<|aa<|rn 1 [2] rfl<|ae<|ap (aC (ah (ah (aC (ah ?_)))))
   refine au C9 (am rfl) ?_
   intro w hw
   refine⟨ej ?_,hw.below⟩
   rw[hp,if_neg]
   intro h
   rw[List.all_eq_true] at h
   have:=h _ (hY hkl)
   rw[h3] at this
   cases this
  have h3:(b8 fs (ax fs k)).2=true:=by simpa using h3
  refine aq (aH (ak ?_))
  refine aa<|af (a6 rfl rfl rfl (by omega)) rfl rfl<|rn 1 [1,14,15] rfl<|aX (k+1) (⟨hkl,by rw[hsn,hall];exact h3⟩) (by show _ - _<_ - _;omega) ⟨rfl,rfl,rfl,trivial⟩ me
 obtain rfl:k=fs.length:=by omega
 rw[List.take_length] at hall
 refine bz (aG (aG (bO (ak ?_))))
 refine ac<|aa<|rn 1 [2] rfl<|ae<|ap<|au C9 (am rfl) ?_
 intro w hw
 exact⟨ej (by rw[hp,if_pos hall]),hw.below⟩
end
section
instance:fz aA kV where
 parts h f:= [an h.v1 f.locals,an h.v2 f.code]
 ok h f:=h.p=f.params∧h.r=f.result
 kk:=rfl
 tt:=rfl
 opn {w F cs f} h:=by
  obtain⟨v1,v2,F1,F2,hcs,hi,h1,h2,hd,hF⟩:=h
  obtain⟨A1,c1,e1,_⟩:=h1.sl.form
  obtain⟨A2,c2,e2,_⟩:=h2.sl.form
  refine⟨⟨f.params,v1,f.result,v2⟩,⟨hcs,hi,by rw[e1];rfl,by rw[e2];rfl⟩,⟨rfl,rfl⟩,F1,F2,h1,⟨F2,fun _=>False,h2,fun _ h=>h,fun _ _ h=>h,fun b=>by simp⟩,hd,hF⟩
 cls {w F h f} hwf hok hH:=by
  obtain⟨F1,F2,h1,⟨F3,F4,h3,h4,h5,h6⟩,hd,hF⟩:=hH
  have e:∀b,F2 b↔F3 b:=fun b=>by rw[h6 b];simp[show¬F4 b from h4 b]
  refine⟨h.v1,h.v2,F1,F3,?_,?_,h1,h3,fun b hb hb'=>hd b hb ((e b).2 hb'),fun b=>by rw[hF b,e b]⟩
  ·show [.int .i64 h.p,h.v1,.int .i64 h.r,h.v2]=_
   rw[hok.1,hok.2]
  rw[←hok.1,←hok.2];exact hwf.1
def D1 (fs:List aA):Prop:=fs.length*64≤140737488355328∧∀f∈fs,f.locals.length*8≤140737488355328∧f.code.length*16≤140737488355328
theorem Cw.oform {α:Type} [Ow α] {B:Nat} {w0 w:World} {H H':List a4} {v:Value} {xs:List α} (hw:Cw B w0 H w) (hp:cz H (an v xs) H'):∃A c,v= .slice A xs.length c:=by
 obtain⟨F,h,_⟩:=hw.rd hp
 obtain⟨A,c,e,_⟩:=cy.sl (show cy w F v xs from h) |>.form
 exact⟨A,c,e⟩
end
section
theorem vl (a b:Int):cX a b=cX b a:=by
 unfold cX bS
 by_cases h1:a=b
 ·simp[h1]
 have h1':¬b=a:=fun e=>h1 e.symm
 by_cases h2:a=3∧b=2
 ·obtain⟨rfl,rfl⟩:=h2;simp
 by_cases h3:b=3∧a=2
 ·obtain⟨rfl,rfl⟩:=h3;simp
 simp[h1,h1',h2,h3]
theorem uO:∀(a b:List Int),bI a b=bI b a
 | [],[]=>rfl
 | [],_::_=>rfl
 | _::_,[]=>rfl
 | a::l,b::m=>by simp only[bI];rw[vl a b,uO l m]
theorem t3 {t:Int} (h:1≤t∧t≤3):t=1∨t=2∨t=3:=by omega
theorem zl {a b:Int} (ha:1≤a∧a≤3) (hb:1≤b∧b≤3) (h:cX a b≠0):1≤cX a b∧cX a b≤3:=by
 rcases t3 ha with rfl | rfl | rfl <;> rcases t3 hb with rfl | rfl | rfl <;> revert h <;> decide
theorem tD {a b c:Int} (ha:1≤a∧a≤3) (hb:1≤b∧b≤3) (hc:1≤c∧c≤3) (h1:cX a b≠0) (h2:cX b c≠0):cX (cX a b) c=cX a (cX b c):=by
 rcases t3 ha with rfl | rfl | rfl <;> rcases t3 hb with rfl | rfl | rfl <;> rcases t3 hc with rfl | rfl | rfl <;> revert h1 h2 <;> decide
theorem xu {a b c:Int} (ha:1≤a∧a≤3) (hb:1≤b∧b≤3) (hc:1≤c∧c≤3) (h1:cX a b≠0) (h2:cX b c=0):cX (cX a b) c=0:=by
 rcases t3 ha with rfl | rfl | rfl <;> rcases t3 hb with rfl | rfl | rfl <;> rcases t3 hc with rfl | rfl | rfl <;> revert h1 h2 <;> decide
theorem sn {a b:Int} (h:cX a b≠0):bS a (cX a b)=true∧bS b (cX a b)=true:=by
 have r:∀x:Int,bS x x=true:=fun x=>by unfold bS;simp
 unfold cX at h⊢
 by_cases h1:bS a b=true
 ·rw[if_pos h1];exact⟨h1,r b⟩
 rw[if_neg h1] at h⊢
 by_cases h2:bS b a=true
 ·rw[if_pos h2];exact⟨r a,h2⟩
 rw[if_neg h2] at h;exact absurd rfl h
theorem iu {a b:Int} {l m j:List Int} (h:bI (a::l) (b::m)=some j):cX a b≠0∧∃k,bI l m=some k∧j=cX a b::k:=by
 simp only[bI] at h
 split at h
 ·cases h
 rename_i h0
 cases e:bI l m with
 | none=>rw[e] at h;cases h
 | some k=>
  rw[e] at h
  simp only[Option.map_some,Option.some.injEq] at h
  exact⟨h0,k,rfl,h.symm⟩
theorem rK:∀{a b j:List Int},bI a b=some j→(∀t∈a,1≤t∧t≤3)→(∀t∈b,1≤t∧t≤3)→∀t∈j,1≤t∧t≤3
 | [],[],j,h,_,_=>by simp[bI] at h;subst h;simp
 | [],_::_,j,h,_,_=>by simp[bI] at h
 | _::_,[],j,h,_,_=>by simp[bI] at h
 | a::l,b::m,j,h,ha,hb=>by
  obtain⟨h0,k,hk,rfl⟩:=iu h
  intro t ht
  rcases List.mem_cons.1 ht with rfl | ht
  ·exact zl (ha a (by simp)) (hb b (by simp)) h0
  exact rK hk (fun t h=>ha t (by simp[h])) (fun t h=>hb t (by simp[h])) t ht
theorem uN:∀{a:List Int},(∀t∈a,1≤t∧t≤3)→bI a a=some a
 | [],_=>rfl
 | a::l,h=>by
  have ha:=h a (by simp)
  have e:cX a a=a:=by unfold cX bS;simp
  simp only[bI]
  rw[if_neg (by rw[e];omega),uN (fun t ht=>h t (by simp[ht])),e]
  rfl
theorem lr:∀{a b j:List Int} {i:Nat},bI a b=some j→i<j.length→bS (a.getD i 0) (j.getD i 0)=true∧bS (b.getD i 0) (j.getD i 0)=true
 | [],[],j,i,h,hi=>by simp[bI] at h;subst h;simp at hi
 | [],_::_,j,_,h,_=>by simp[bI] at h
 | _::_,[],j,_,h,_=>by simp[bI] at h
 | a::l,b::m,j,i,h,hi=>by
  obtain⟨h0,k,hk,rfl⟩:=iu h
  cases i with
  | zero=>exact sn h0
  | succ i=>
   have:=lr (i:=i) hk (by simpa using hi)
   simpa using this
theorem sZ:∀{a b c x r:List Int},(∀t∈a,1≤t∧t≤3)→(∀t∈b,1≤t∧t≤3)→(∀t∈c,1≤t∧t≤3)→bI a b=some x→bI b c=some r→bI x c=bI a r
 | [],[],[],x,r,_,_,_,h1,h2=>by simp[bI] at h1 h2;subst h1 h2;rfl
 | [],[],_::_,_,_,_,_,_,_,h=>by simp[bI] at h
 | [],_::_,_,_,_,_,_,_,h,_=>by simp[bI] at h
 | _::_,[],_,_,_,_,_,_,h,_=>by simp[bI] at h
 | _::_,_::_,[],_,_,_,_,_,_,h=>by simp[bI] at h
 | a::l,b::m,c::n,x,r,ha,hb,hc,h1,h2=>by
  obtain⟨h3,k,hk,rfl⟩:=iu h1
  obtain⟨h4,q,hq,rfl⟩:=iu h2
  simp only[bI]
  rw[tD (ha a (by simp)) (hb b (by simp)) (hc c (by simp)) h3 h4,sZ (fun t h=>ha t (by simp[h])) (fun t h=>hb t (by simp[h])) (fun t h=>hc t (by simp[h])) hk hq]
theorem wM:∀{a b c x:List Int},(∀t∈a,1≤t∧t≤3)→(∀t∈b,1≤t∧t≤3)→(∀t∈c,1≤t∧t≤3)→bI a b=some x→bI b c=none→bI x c=none
 | [],[],[],x,_,_,_,h1,h2=>by simp[bI] at h2
 | [],[],_::_,x,_,_,_,h1,_=>by simp[bI] at h1;subst h1;rfl
 | [],_::_,_,_,_,_,_,h,_=>by simp[bI] at h
 | _::_,[],_,_,_,_,_,h,_=>by simp[bI] at h
 | a::l,b::m,[],x,_,_,_,h,_=>by
  obtain⟨_,k,_,rfl⟩:=iu h
  rfl
 | a::l,b::m,c::n,x,ha,hb,hc,h1,h2=>by
  obtain⟨h3,k,hk,rfl⟩:=iu h1
  simp only[bI] at h2⊢
  by_cases h4:cX b c=0
  ·rw[if_pos (xu (ha a (by simp)) (hb b (by simp)) (hc c (by simp)) h3 h4)]
  rw[if_neg h4] at h2
  have h5:bI m n=none:=by
   cases e:bI m n with
   | none=>rfl
   | some q=>rw[e] at h2;cases h2
  rw[wM (fun t h=>ha t (by simp[h])) (fun t h=>hb t (by simp[h])) (fun t h=>hc t (by simp[h])) hk h5]
  split <;> rfl
set_option maxRecDepth 100000 in
theorem lq (t o:Int) (w:World):Calls Tryz.prog 145 #[.int .i64 t,.int .i64 o] w fun e w'=>e= .returned (.bool (bS t o))∧Below w.heap.size w w':=by
 refine enter Tryz.func145 rfl Tryz.ntmps145 rfl ?_
 refine ac<|aa<|rn 1 [0,1] rfl<|ae<|ac<|aa<|rn 4 [0,1,8] rfl<|bL (t:=8) rfl (fun h1=>?_) (fun h1=>?_)
 ·have h1:=of_decide_eq_true h1
  refine rn 8 [4] rfl<|ae<|ap<|au Cx (am rfl) ?_
  intro w hw
  exact⟨bh (by unfold bS;rw[decide_eq_true h1];rfl),hw.below⟩
 have h1:=of_decide_eq_false h1
 refine rn 3 [1,8,11] rfl<|bL (t:=11) rfl (fun h2=>?_) (fun h2=>?_)
 ·have h2:=of_decide_eq_true h2
  refine rn 5 [4] rfl<|ae<|ap<|au Cx (am rfl) ?_
  intro w hw
  exact⟨bh (by unfold bS;rw[decide_eq_false h1,decide_eq_true h2];rfl),hw.below⟩
 have h2:=of_decide_eq_false h2
 refine rn 5 [4] rfl<|ae<|ap<|au Cx (am rfl) ?_
 intro w hw
 exact⟨bh (by unfold bS;rw[decide_eq_false h1,decide_eq_false h2];rfl),hw.below⟩
end
section
def Le (a b:List Int):Prop:=a.length=b.length∧∀i,i<a.length→bS (a.getD i 0) (b.getD i 0)=true
theorem zJ (t:Int):bS t t=true:=by unfold bS;simp
theorem oF {a b:Int} :bS a b=true↔a=b∨(a=3∧b=2):=by unfold bS;simp
theorem xR {a b c:Int} (h1:bS a b=true) (h2:bS b c=true):bS a c=true:=by
 rw[oF] at *;omega
theorem zK {a b:Int} (h1:bS a b=true) (h2:bS b a=true):a=b:=by
 rw[oF] at *;omega
theorem Le.refl (a:List Int):Le a a:=⟨rfl,fun _ _=>zJ _⟩
theorem Le.trans {a b c:List Int} (h1:Le a b) (h2:Le b c):Le a c:=⟨h1.1.trans h2.1,fun i hi=>xR (h1.2 i hi) (h2.2 i (by rw[←h1.1];exact hi))⟩
theorem yW {a b:List Int} (hl:a.length=b.length) (h:∀i,i<a.length→a.getD i 0=b.getD i 0):a=b:=by
 apply List.ext_getElem hl
 intro i h1 h2
 have:=h i h1
 rwa [List.getD_eq_getElem?_getD,List.getElem?_eq_getElem h1,List.getD_eq_getElem?_getD,List.getElem?_eq_getElem h2] at this
theorem Le.anti {a b:List Int} (h1:Le a b) (h2:Le b a):a=b:=yW h1.1 fun i hi=>zK (h1.2 i hi) (h2.2 i (by rw[←h1.1];exact hi))
theorem fk {l:List Int} {k i:Nat} (h:i<k):(l.take k).getD i 0=l.getD i 0:=by
 rw[List.getD_eq_getElem?_getD,List.getElem?_take,if_pos h,←List.getD_eq_getElem?_getD]
theorem fK {l:List Int} {k i:Nat} :(l.drop k).getD i 0=l.getD (k+i) 0:=by
 rw[List.getD_eq_getElem?_getD,List.getElem?_drop,←List.getD_eq_getElem?_getD]
theorem qe {l m:List Int} {i:Nat} (h:i<l.length):(l++m).getD i 0=l.getD i 0:=by
 rw[List.getD_eq_getElem?_getD,List.getElem?_append_left h,←List.getD_eq_getElem?_getD]
theorem qd {l m:List Int} {i:Nat} (h:l.length≤i):(l++m).getD i 0=m.getD (i - l.length) 0:=by
 rw[List.getD_eq_getElem?_getD,List.getElem?_append_right h,←List.getD_eq_getElem?_getD]
theorem Le.take {a b:List Int} (h:Le a b) (k:Nat):Le (a.take k) (b.take k):=⟨by rw[List.length_take,List.length_take,h.1],fun i hi=>by
 rw[List.length_take] at hi
 rw[fk (by omega),fk (by omega)]
 exact h.2 i (by omega)⟩
theorem Le.drop {a b:List Int} (h:Le a b) (k:Nat):Le (a.drop k) (b.drop k):=⟨by rw[List.length_drop,List.length_drop,h.1],fun i hi=>by
 rw[List.length_drop] at hi
 rw[fK,fK]
 exact h.2 _ (by omega)⟩
theorem Le.app {a b c d:List Int} (h1:Le a b) (h2:Le c d):Le (a++c) (b++d):=⟨by rw[List.length_append,List.length_append,h1.1,h2.1],fun i hi=>by
 rw[List.length_append] at hi
 by_cases h:i<a.length
 ·rw[qe h,qe (by rw[←h1.1];exact h)];exact h1.2 i h
 rw[qd (by omega),qd (by rw[←h1.1];omega),←h1.1];exact h2.2 _ (by omega)⟩
theorem jG {l:List Int} {w:Bool} (h:0<l.length):eQ (l,w)=(l.getD (l.length - 1) 0,l.take (l.length - 1),w):=by unfold eQ;rw[if_neg (by show¬l.length=0;omega)]
theorem rm {w:Bool} :eQ ([],w)=(0,[],true):=rfl
theorem lY (xs:List Int):∀(k:Nat) (l:List Int),(dq xs k (l,true)).2=true
 | 0,_=>rfl
 | k+1,l=>by
  unfold dq
  rcases Nat.eq_zero_or_pos l.length with h | h
  ·have:l= []:=List.eq_nil_of_length_eq_zero h
   subst this
   rw[rm]
   exact lY xs k _
  rw[jG h]
  exact lY xs k _
theorem ln (xs:List Int):∀(k:Nat) (l:List Int) (w:Bool),l.length<k→(dq xs k (l,w)).2=true
 | 0,_,_,h=>absurd h (Nat.not_lt_zero _)
 | k+1,l,w,h=>by
  unfold dq
  rcases Nat.eq_zero_or_pos l.length with h0 | h0
  ·have:l= []:=List.eq_nil_of_length_eq_zero h0
   subst this
   rw[rm]
   exact lY xs k _
  rw[jG h0]
  exact ln xs k _ _ (by rw[List.length_take];omega)
theorem jy (xs:List Int):∀(k:Nat) (l:List Int) (w:Bool),k≤l.length→k≤xs.length→
  (dq xs k (l,w)).1=l.take (l.length - k)∧((dq xs k (l,w)).2=false↔w=false∧Le (l.drop (l.length - k)) (xs.take k))
 | 0,l,w,_,_=>by
  refine⟨by simp[dq],?_⟩
  simp only[dq]
  constructor
  ·intro h;exact⟨h,by rw[Nat.sub_zero,List.drop_length,List.take_zero];exact .refl _⟩
  exact fun h=>h.1
 | k+1,l,w,h,hx=>by
  unfold dq
  rw[jG (by omega)]
  obtain⟨i1,i2⟩:=jy xs k (l.take (l.length - 1)) (w || !bS (l.getD (l.length - 1) 0) (xs.getD k 0)) (by rw[List.length_take];omega) (by omega)
  have hl:(l.take (l.length - 1)).length=l.length - 1:=by rw[List.length_take];omega
  rw[hl] at i1 i2
  refine⟨?_,?_⟩
  ·rw[i1,List.take_take]
   congr 1
   omega
  show (dq xs k (l.take (l.length - 1),w || !bS (l.getD (l.length - 1) 0) (xs.getD k 0))).2=false↔_
  rw[i2]
  have hq:l.length - 1 - k=l.length - (k+1):=by omega
  rw[hq]
  constructor
  ·rintro⟨h1,h2⟩
   simp only[Bool.or_eq_false_iff,Bool.not_eq_false'] at h1
   refine⟨h1.1,by rw[List.length_drop,List.length_take];omega,fun i hi=>?_⟩
   rw[List.length_drop] at hi
   by_cases e:i=k
   ·subst e
    rw[fK,fk (by omega),show l.length - (i+1)+i=l.length - 1 from by omega]
    exact h1.2
   have:=h2.2 i (by rw[List.length_drop,hl];omega)
   rw[fK,fk (by omega),fk (by omega)] at this
   rw[fK,fk (by omega)]
   exact this
  rintro⟨h1,h2⟩
  simp only[Bool.or_eq_false_iff,Bool.not_eq_false']
  have hk:=h2.2 k (by rw[List.length_drop];omega)
  rw[fK,fk (by omega),show l.length - (k+1)+k=l.length - 1 from by omega] at hk
  refine⟨⟨h1,hk⟩,by rw[List.length_drop,hl,List.length_take];omega,fun i hi=>?_⟩
  rw[List.length_drop,hl] at hi
  have:=h2.2 i (by rw[List.length_drop];omega)
  rw[fK,fk (by omega)] at this
  rw[fK,fk (by omega),fk (by omega)]
  exact this
def tl (fs:List aA) (f:aA) (o:bT) (s:List Int):Option (List Int×List Int):=
 if o.c=2 then (if s.length<1 then none else some (s.drop (s.length - 1),[])) else
 if o.c=3 then (if s.length<1 then none else some (s.drop (s.length - 1),[s.getD (s.length - 1) 0,s.getD (s.length - 1) 0])) else
 if o.c=4 then (if s.length<2 then none else some (s.drop (s.length - 2),[s.getD (s.length - 1) 0,s.getD (s.length - 2) 0])) else
 if o.c=8 then some ([],[f.locals.getD o.a.toNat 0]) else if o.c=9 then some ([f.locals.getD o.a.toNat 0],[]) else
 if o.c=12 then some (dK (ax fs o.a.toNat),bE (ax fs o.a.toNat)) else
 if o.c=13 then (if s.length≠(bE f).length then none else some (bE f,[])) else some ((bY o.c).1,(bY o.c).2)
def eE (fs:List aA) (f:aA) (o:bT) (s:List Int):Option (List Int):=if (je fs f o (s,false)).2=true then none else some (je fs f o (s,false)).1
theorem iZ {fs:List aA} {f:aA} {o:bT} {s T V:List Int} (h0:fw fs f o (s,false)=l5 (dq T T.length (s,false)) V) :
  eE fs f o s=if T.length≤s.length∧(s.take (s.length - T.length)++V).length≤8∧(dq T T.length (s,false)).2=false then some (s.take (s.length - T.length)++V) else none:=by
 obtain⟨l',w',e⟩:∃l' w',dq T T.length (s,false)=(l',w'):=⟨_,_,rfl⟩
 have h1:eE fs f o s=if (w' || decide (8<(l'++V).length))=true then none else some (l'++V):=by
  unfold eE je
  rw[h0,e]
  rfl
 rw[h1,e]
 by_cases hl:T.length≤s.length
 ·obtain⟨e1,e2⟩:=jy T T.length s false hl (Nat.le_refl _)
  rw[e] at e1
  have e1:l'=s.take (s.length - T.length):=e1
  subst e1
  by_cases h8:(s.take (s.length - T.length)++V).length≤8
  ·cases w'
   ·rw[decide_eq_false (by omega)]
    exact(if_pos ⟨hl,h8,rfl⟩).symm
   rw[Bool.true_or]
   exact(if_neg (fun h=>by cases h.2.2)).symm
  rw[decide_eq_true (by omega),Bool.or_true]
  exact(if_neg (fun h=>h8 h.2.1)).symm
 have:=ln T T.length s false (by omega)
 rw[e] at this
 have this:w'=true:=this
 subst this
 rw[Bool.true_or]
 exact(if_neg (fun h=>hl h.1)).symm
theorem nX {s:List Int} {k:Nat} (h:k+1≤s.length):dq (s.drop (s.length - (k+1))) (k+1) (s,false)=(s.take (s.length - (k+1)),false):=by
 obtain⟨e1,e2⟩:=jy (s.drop (s.length - (k+1))) (k+1) s false h (by rw[List.length_drop];omega)
 have:(dq (s.drop (s.length - (k+1))) (k+1) (s,false)).2=false:=e2.2 ⟨rfl,by rw[List.take_of_length_le (by rw[List.length_drop];omega)];exact .refl _⟩
 exact Prod.ext e1 this
theorem tK (fs:List aA) (f:aA) (o:bT) (s:List Int):eE fs f o s=match tl fs f o s with
  | none=>none
  | some (T,V)=>if T.length≤s.length∧(s.take (s.length - T.length)++V).length≤8∧(dq T T.length (s,false)).2=false then some (s.take (s.length - T.length)++V) else none:=by
 unfold tl
 by_cases h2:o.c=2
 ·rw[if_pos h2]
  by_cases hl:s.length<1
  ·rw[if_pos hl]
   have:s= []:=List.eq_nil_of_length_eq_zero (by omega)
   subst this
   unfold eE je fw
   rw[if_pos h2]
   rfl
  rw[if_neg hl]
  have e:=nX (s:=s) (k:=0) (by omega)
  have hd:(s.drop (s.length - 1)).length=1:=by rw[List.length_drop];omega
  refine iZ ?_
  rw[hd,e]
  unfold fw
  rw[if_pos h2,jG (by omega)]
  simp[l5]
 rw[if_neg h2]
 by_cases h3:o.c=3
 ·rw[if_pos h3]
  by_cases hl:s.length<1
  ·rw[if_pos hl]
   have:s= []:=List.eq_nil_of_length_eq_zero (by omega)
   subst this
   unfold eE je fw
   rw[if_neg h2,if_pos h3]
   rfl
  rw[if_neg hl]
  have e:=nX (s:=s) (k:=0) (by omega)
  have hd:(s.drop (s.length - 1)).length=1:=by rw[List.length_drop];omega
  refine iZ ?_
  rw[hd,e]
  unfold fw
  rw[if_neg h2,if_pos h3,jG (by omega)]
 rw[if_neg h3]
 by_cases h4:o.c=4
 ·rw[if_pos h4]
  by_cases hl:s.length<2
  ·rw[if_pos hl]
   unfold eE je fw
   rw[if_neg h2,if_neg h3,if_pos h4]
   rcases Nat.eq_zero_or_pos s.length with h0 | h0
   ·have:s= []:=List.eq_nil_of_length_eq_zero h0
    subst this
    rfl
   obtain⟨t,rfl⟩:∃t,s= [t]:=by
    match s,h0,hl with
    | [t],_,_=>exact⟨t,rfl⟩
   rfl
  rw[if_neg hl]
  have e:=nX (s:=s) (k:=1) (by omega)
  have hd:(s.drop (s.length - 2)).length=2:=by rw[List.length_drop];omega
  refine iZ ?_
  rw[hd,e]
  unfold fw
  have hl1:(s.take (s.length - 1)).length=s.length - 1:=by rw[List.length_take];omega
  have p1:eQ (s,false)=(s.getD (s.length - 1) 0,s.take (s.length - 1),false):=jG (by omega)
  have p2:eQ (s.take (s.length - 1),false)=(s.getD (s.length - 2) 0,s.take (s.length - 2),false):=by
   rw[jG (by rw[hl1];omega),hl1,List.take_take,fk (by omega),show min (s.length - 1 - 1) (s.length - 1)=s.length - 2 from by omega,show s.length - 1 - 1=s.length - 2 from by omega]
  rw[if_neg h2,if_neg h3,if_pos h4]
  simp only[p1,p2]
 rw[if_neg h4]
 by_cases h8:o.c=8
 ·rw[if_pos h8]
  refine iZ ?_
  unfold fw
  rw[if_neg h2,if_neg h3,if_neg h4,if_pos h8]
  rfl
 rw[if_neg h8]
 by_cases h9:o.c=9
 ·rw[if_pos h9]
  refine iZ ?_
  unfold fw
  rw[if_neg h2,if_neg h3,if_neg h4,if_neg h8,if_pos h9]
  simp[l5]
 rw[if_neg h9]
 by_cases h12:o.c=12
 ·rw[if_pos h12]
  refine iZ ?_
  unfold fw
  rw[if_neg h2,if_neg h3,if_neg h4,if_neg h8,if_neg h9,if_pos h12]
 rw[if_neg h12]
 by_cases h13:o.c=13
 ·rw[if_pos h13]
  have hS0:fw fs f o (s,false)=((dq (bE f) (bE f).length (s,false)).1,(dq (bE f) (bE f).length (s,false)).2 || decide (0<(dq (bE f) (bE f).length (s,false)).1.length)):=by
   unfold fw
   rw[if_neg h2,if_neg h3,if_neg h4,if_neg h8,if_neg h9,if_neg h12,if_pos h13]
  by_cases hl:s.length≠(bE f).length
  ·rw[if_pos hl]
   have:(fw fs f o (s,false)).2=true:=by
    rw[hS0]
    by_cases hs:s.length<(bE f).length
    ·rw[ln _ _ _ _ hs];rfl
    rw[(jy (bE f) _ s false (by omega) (Nat.le_refl _)).1,List.length_take,decide_eq_true (by omega),Bool.or_true]
   unfold eE je
   rw[this]
   rfl
  rw[if_neg hl]
  have hl:s.length=(bE f).length:=by simpa using hl
  refine iZ ?_
  have e1:=(jy (bE f) _ s false (by omega) (Nat.le_refl _)).1
  rw[hl,Nat.sub_self,List.take_zero] at e1
  rw[hS0]
  obtain⟨l',w',e⟩:∃l' w',dq (bE f) (bE f).length (s,false)=(l',w'):=⟨_,_,rfl⟩
  rw[e] at e1⊢
  have e1:l'= []:=e1
  subst e1
  simp[l5]
 rw[if_neg h13]
 refine iZ ?_
 unfold fw
 rw[if_neg h2,if_neg h3,if_neg h4,if_neg h8,if_neg h9,if_neg h12,if_neg h13]
end
section
theorem fQ {fs:List aA} {f:aA} {o:bT} {s v:List Int} :eE fs f o s=some v↔
  ∃T V,tl fs f o s=some (T,V)∧T.length≤s.length∧(s.take (s.length - T.length)++V).length≤8∧Le (s.drop (s.length - T.length)) T∧v=s.take (s.length - T.length)++V:=by
 have hf:∀T:List Int,T.length≤s.length→((dq T T.length (s,false)).2=false↔Le (s.drop (s.length - T.length)) T):=fun T hT=>by
  rw[(jy T T.length s false hT (Nat.le_refl _)).2,List.take_length]
  simp
 rw[tK]
 constructor
 ·intro h
  cases e:tl fs f o s with
  | none=>rw[e] at h;cases h
  | some p=>
   obtain⟨T,V⟩:=p
   rw[e] at h
   simp only[] at h
   split at h
   ·rename_i hc
    simp only[Option.some.injEq] at h
    exact⟨T,V,rfl,hc.1,hc.2.1,(hf T hc.1).1 hc.2.2,h.symm⟩
   cases h
 rintro⟨T,V,e,h1,h2,h3,rfl⟩
 rw[e]
 simp only[]
 rw[if_pos ⟨h1,h2,(hf T h1).2 h3⟩]
theorem zG {fs:List aA} {f:aA} {o:bT} {a b T V:List Int} (h:Le a b) (e:tl fs f o b=some (T,V)) (hT:Le (b.drop (b.length - T.length)) T) (hl:T.length≤b.length) :
  ∃T' V',tl fs f o a=some (T',V')∧T'.length=T.length∧Le (a.drop (a.length - T.length)) T'∧Le V' V:=by
 have hlen:=h.1
 have fix:∀T V:List Int,Le (b.drop (b.length - T.length)) T→Le (a.drop (a.length - T.length)) T:=fun T V hT=>by rw[hlen];exact(h.drop _).trans hT
 have one:∀i,i<a.length→Le [a.getD i 0] [b.getD i 0]:=fun i hi=>⟨rfl,fun j hj=>by
  have:j=0:=by simpa using hj
  subst this
  exact h.2 i hi⟩
 unfold tl at e⊢
 by_cases h2:o.c=2
 ·rw[if_pos h2] at e⊢
  split at e
  ·cases e
  rename_i hb
  simp only[Option.some.injEq,Prod.mk.injEq] at e
  obtain⟨rfl,rfl⟩:=e
  rw[if_neg (by omega)]
  refine⟨_,_,rfl,by rw[List.length_drop,List.length_drop,hlen],?_,.refl _⟩
  rw[List.length_drop,show b.length - (b.length - 1)=1 from by omega]
  exact .refl _
 rw[if_neg h2] at e⊢
 by_cases h3:o.c=3
 ·rw[if_pos h3] at e⊢
  split at e
  ·cases e
  rename_i hb
  simp only[Option.some.injEq,Prod.mk.injEq] at e
  obtain⟨rfl,rfl⟩:=e
  rw[if_neg (by omega)]
  refine⟨_,_,rfl,by rw[List.length_drop,List.length_drop,hlen],?_,?_⟩
  ·rw[List.length_drop,show b.length - (b.length - 1)=1 from by omega]
   exact .refl _
  rw[←hlen]
  exact(one _ (by omega)).app (one _ (by omega))
 rw[if_neg h3] at e⊢
 by_cases h4:o.c=4
 ·rw[if_pos h4] at e⊢
  split at e
  ·cases e
  rename_i hb
  simp only[Option.some.injEq,Prod.mk.injEq] at e
  obtain⟨rfl,rfl⟩:=e
  rw[if_neg (by omega)]
  refine⟨_,_,rfl,by rw[List.length_drop,List.length_drop,hlen],?_,?_⟩
  ·rw[List.length_drop,show b.length - (b.length - 2)=2 from by omega]
   exact .refl _
  rw[←hlen]
  exact(one _ (by omega)).app (one _ (by omega))
 rw[if_neg h4] at e⊢
 by_cases h8:o.c=8
 ·rw[if_pos h8] at e⊢
  simp only[Option.some.injEq,Prod.mk.injEq] at e
  obtain⟨rfl,rfl⟩:=e
  exact⟨_,_,rfl,rfl,fix _ [] hT,.refl _⟩
 rw[if_neg h8] at e⊢
 by_cases h9:o.c=9
 ·rw[if_pos h9] at e⊢
  simp only[Option.some.injEq,Prod.mk.injEq] at e
  obtain⟨rfl,rfl⟩:=e
  exact⟨_,_,rfl,rfl,fix _ [] hT,.refl _⟩
 rw[if_neg h9] at e⊢
 by_cases h12:o.c=12
 ·rw[if_pos h12] at e⊢
  simp only[Option.some.injEq,Prod.mk.injEq] at e
  obtain⟨rfl,rfl⟩:=e
  exact⟨_,_,rfl,rfl,fix _ [] hT,.refl _⟩
 rw[if_neg h12] at e⊢
 by_cases h13:o.c=13
 ·rw[if_pos h13] at e⊢
  split at e
  ·cases e
  rename_i hb
  simp only[Option.some.injEq,Prod.mk.injEq] at e
  obtain⟨rfl,rfl⟩:=e
  rw[if_neg (by omega)]
  exact⟨_,_,rfl,rfl,fix _ [] hT,.refl _⟩
 rw[if_neg h13] at e⊢
 simp only[Option.some.injEq,Prod.mk.injEq] at e
 obtain⟨rfl,rfl⟩:=e
 exact⟨_,_,rfl,rfl,fix _ [] hT,.refl _⟩
theorem lb {fs:List aA} {f:aA} {o:bT} {a b v:List Int} (h:Le a b) (e:eE fs f o b=some v):∃u,eE fs f o a=some u∧Le u v:=by
 obtain⟨T,V,e1,e2,e3,e4,rfl⟩:=fQ.1 e
 obtain⟨T',V',k1,k2,k3,k4⟩:=zG h e1 e4 e2
 have hlen:=h.1
 have hle:Le (a.take (a.length - T'.length)++V') (b.take (b.length - T.length)++V):=by
  rw[k2,hlen]
  exact(h.take _).app k4
 exact⟨_,fQ.2 ⟨T',V',k1,by rw[k2,hlen];exact e2,by rw[hle.1];exact e3,by rw[k2];exact k3,rfl⟩,hle⟩
def Ty (l:List Int):Prop:= ∀t∈l,1≤t∧t≤3
structure kX (fs:List aA) (f:aA):Prop where
 loc:Ty f.locals
 res:∀k,k<fs.length→(0≤(ax fs k).result∧(ax fs k).result≤2)
theorem Ty.app {a b:List Int} (h1:Ty a) (h2:Ty b):Ty (a++b):=fun t ht=>by
 rcases List.mem_append.1 ht with h | h
 ·exact h1 t h
 exact h2 t h
theorem Ty.at_ {a:List Int} (h:Ty a) {i:Nat} (hi:i<a.length):1≤a.getD i 0∧a.getD i 0≤3:=by
 rw[List.getD_eq_getElem?_getD,List.getElem?_eq_getElem hi]
 exact h _ (List.getElem_mem hi)
theorem Ty.one {t:Int} (h:1≤t∧t≤3):Ty [t]:=fun x hx=>by rw[List.mem_singleton.1 hx];exact h
theorem Ty.two {t u:Int} (h:1≤t∧t≤3) (h2:1≤u∧u≤3):Ty [t,u]:=fun x hx=>by
 rcases List.mem_cons.1 hx with rfl | hx
 ·exact h
 rw[List.mem_singleton.1 hx];exact h2
theorem pC {fs:List aA} {f:aA} {o:bT} {s v:List Int} (ht:kX fs f) (hok:vB fs f o) (hs:Ty s) (e:eE fs f o s=some v):Ty v:=by
 obtain⟨T,V,e1,e2,e3,e4,rfl⟩:=fQ.1 e
 refine Ty.app (fun t h=>hs t (List.mem_of_mem_take h)) ?_
 have nil:Ty []:=fun _ h=>by cases h
 have res:∀k,k<fs.length→Ty (bE (ax fs k)):=fun k hk=>by
  unfold bE
  split
  ·exact nil
  rename_i hr
  have:=ht.res k hk
  exact .one (by omega)
 unfold tl at e1
 split at e1
 ·split at e1
  ·cases e1
  simp only[Option.some.injEq,Prod.mk.injEq] at e1
  obtain⟨rfl,rfl⟩:=e1
  exact nil
 split at e1
 ·split at e1
  ·cases e1
  simp only[Option.some.injEq,Prod.mk.injEq] at e1
  obtain⟨rfl,rfl⟩:=e1
  exact .two (hs.at_ (by omega)) (hs.at_ (by omega))
 split at e1
 ·split at e1
  ·cases e1
  simp only[Option.some.injEq,Prod.mk.injEq] at e1
  obtain⟨rfl,rfl⟩:=e1
  exact .two (hs.at_ (by omega)) (hs.at_ (by omega))
 split at e1
 ·rename_i h8
  simp only[Option.some.injEq,Prod.mk.injEq] at e1
  obtain⟨rfl,rfl⟩:=e1
  have:=hok.loc (.inl h8)
  exact .one (ht.loc.at_ (by omega))
 split at e1
 ·simp only[Option.some.injEq,Prod.mk.injEq] at e1
  obtain⟨rfl,rfl⟩:=e1
  exact nil
 split at e1
 ·rename_i h12
  simp only[Option.some.injEq,Prod.mk.injEq] at e1
  obtain⟨rfl,rfl⟩:=e1
  have:=hok.call h12
  exact res _ (by omega)
 split at e1
 ·split at e1
  ·cases e1
  simp only[Option.some.injEq,Prod.mk.injEq] at e1
  obtain⟨rfl,rfl⟩:=e1
  exact nil
 simp only[Option.some.injEq,Prod.mk.injEq] at e1
 obtain⟨rfl,rfl⟩:=e1
 unfold bY
 repeat (first | split | exact nil | exact .one (by decide) | exact .two (by decide) (by decide))
theorem zk {a b c:Int} (hc:1≤c∧c≤3) (h1:bS a c=true) (h2:bS b c=true):cX a b≠0∧bS (cX a b) c=true:=by
 rw[oF] at h1 h2
 rcases t3 hc with rfl | rfl | rfl
 ·have e1:a=1:=by omega
  have e2:b=1:=by omega
  subst e1 e2;decide
 ·rcases h1 with rfl | ⟨rfl,_⟩ <;> rcases h2 with rfl | ⟨rfl,_⟩ <;> decide
 have e1:a=3:=by omega
 have e2:b=3:=by omega
 subst e1 e2;decide
theorem Le.cons_iff {a b:Int} {l m:List Int} :Le (a::l) (b::m)↔bS a b=true∧Le l m:=by
 constructor
 ·intro h
  refine⟨h.2 0 (by simp),by simpa using h.1,fun i hi=>?_⟩
  have:=h.2 (i+1) (by simpa using hi)
  simpa using this
 rintro⟨h1,h2⟩
 refine⟨by simp[h2.1],fun i hi=>?_⟩
 cases i with
 | zero=>simpa using h1
 | succ i=>simpa using h2.2 i (by simpa using hi)
theorem pO:∀{a b c:List Int},Ty c→Le a c→Le b c→∃j,bI a b=some j∧Le j c
 | [],[],c,_,h,_=>⟨[],rfl,h⟩
 | [],_::_,c,_,h,h'=>by have:=h.1.trans h'.1.symm;simp at this
 | _::_,[],c,_,h,h'=>by have:=h.1.trans h'.1.symm;simp at this
 | a::l,b::m,[],_,h,_=>by have:=h.1;simp at this
 | a::l,b::m,c::n,ht,h,h'=>by
  obtain⟨h1,h2⟩:=Le.cons_iff.1 h
  obtain⟨h3,h4⟩:=Le.cons_iff.1 h'
  obtain⟨k1,k2⟩:=zk (ht c (by simp)) h1 h3
  obtain⟨j,k3,k4⟩:=pO (fun t h=>ht t (by simp[h])) h2 h4
  refine⟨cX a b::j,?_,Le.cons_iff.2 ⟨k2,k4⟩⟩
  simp only[bI]
  rw[if_neg k1,k3]
  rfl
theorem AB {a b j:List Int} (h:bI a b=some j):Le a j∧Le b j:=by
 have hl:=hJ h
 exact⟨⟨by omega,fun i hi=>(lr h (by omega)).1⟩,⟨by omega,fun i hi=>(lr h (by omega)).2⟩⟩
structure kU (fs:List aA) (f:aA) (M:Nat→Option (List Int)):Prop where
 m0:M 0=some []
 ok:∀k s,M k=some s→k<f.code.length∧Ty s∧∃v,eE fs f (bn f.code k) s=some v∧∀q∈cQ (bn f.code k) k,∃s',M q.toNat=some s'∧Le v s'
structure jt (fs:List aA) (f:aA) (s:FSt):Prop where
 m0:s.met.getD 0 false=true
 a0:s.at_.getD 0 []= []
 ty:∀i,s.met.getD i false=true→Ty (s.at_.getD i [])
 le:∀M,kU fs f M→∀i,s.met.getD i false=true→∃t,M i=some t∧Le (s.at_.getD i []) t
structure Up (s s':FSt):Prop where
 up:∀i,s.met.getD i false=true→s'.met.getD i false=true∧Le (s.at_.getD i []) (s'.at_.getD i [])
 old:∀i,s'.met.getD i false=true→(s.met.getD i false=true∧s'.at_.getD i []=s.at_.getD i [])∨(i:Int)∈s'.todo
 td:∀x∈s.todo,x∈s'.todo
theorem Up.refl (s:FSt):Up s s:=⟨fun _ h=>⟨h,.refl _⟩,fun _ h=> .inl ⟨h,rfl⟩,fun _ h=>h⟩
theorem Up.trans {a b c:FSt} (h1:Up a b) (h2:Up b c):Up a c:=
 ⟨fun i h=>by
  obtain⟨k1,k2⟩:=h1.up i h
  obtain⟨k3,k4⟩:=h2.up i k1
  exact⟨k3,k2.trans k4⟩,fun i h=>by
  rcases h2.old i h with ⟨k1,k2⟩ | k
  ·rcases h1.old i k1 with ⟨k3,k4⟩ | k3
   ·exact .inl ⟨k3,k2.trans k4⟩
   exact .inr (h2.td _ k3)
  exact .inr k,fun x h=>h2.td x (h1.td x h)⟩
theorem oS {n:Nat} {s:FSt} (h:eb n s) {i:Nat} (hm:s.met.getD i false=true):i<n:=by
 rcases Nat.lt_or_ge i n with h' | h'
 ·exact h'
 rw[List.getD_eq_getElem?_getD,List.getElem?_eq_none (by rw[h.ml];exact h')] at hm
 cases hm
theorem zc {fs:List aA} {f:aA} {s:FSt} (hF:eb f.code.length s) (hI:jt fs f s) {k:Nat} (hk:k≤f.code.length) {l:List Int} (hl:Ty l) (hle:∀M,kU fs f M→∃t,M k=some t∧Le l t) :
  ((cI f.code.length s k l).1=true→jt fs f (cI f.code.length s k l).2∧Up s (cI f.code.length s k l).2∧(cI f.code.length s k l).2.met.getD k false=true∧Le l ((cI f.code.length s k l).2.at_.getD k []))∧
  ((cI f.code.length s k l).1=false→∀M,¬kU fs f M):=by
 have set_:k<f.code.length→∀j:List Int,Ty j→(k=0→j= [])→(s.met.getD k false=true→Le (s.at_.getD k []) j)→Le l j→(∀M,kU fs f M→∃t,M k=some t∧Le j t)→
   jt fs f ⟨s.at_.set k j,s.met.set k true,s.todo++ [(k:Int)]⟩∧Up s ⟨s.at_.set k j,s.met.set k true,s.todo++ [(k:Int)]⟩∧(s.met.set k true).getD k false=true∧Le l ((s.at_.set k j).getD k []):=by
  intro hkn j hj h0 hup hlj hlm
  have hA:∀i,(s.at_.set k j).getD i []=if i=k then j else s.at_.getD i []:=fun i=>fg (by rw[hF.al];exact hkn)
  have hM:∀i,(s.met.set k true).getD i false=if i=k then true else s.met.getD i false:=fun i=>fg (by rw[hF.ml];exact hkn)
  refine⟨⟨?_,?_,fun i hi=>?_,fun M hMs i hi=>?_⟩,⟨fun i hi=>?_,fun i hi=>?_,fun x hx=>List.mem_append_left _ hx⟩,?_,?_⟩
  ·show (s.met.set k true).getD 0 false=true
   rw[hM]
   split
   ·rfl
   exact hI.m0
  ·show (s.at_.set k j).getD 0 []= []
   rw[hA]
   split
   ·rename_i e;exact h0 e.symm
   exact hI.a0
  ·show Ty ((s.at_.set k j).getD i [])
   have hi:(s.met.set k true).getD i false=true:=hi
   rw[hA]
   rw[hM] at hi
   split
   ·exact hj
   rename_i e;rw[if_neg e] at hi;exact hI.ty i hi
  ·show∃t,M i=some t∧Le ((s.at_.set k j).getD i []) t
   have hi:(s.met.set k true).getD i false=true:=hi
   rw[hA]
   rw[hM] at hi
   split
   ·rename_i e;subst e;exact hlm M hMs
   rename_i e;rw[if_neg e] at hi;exact hI.le M hMs i hi
  ·show (s.met.set k true).getD i false=true∧Le (s.at_.getD i []) ((s.at_.set k j).getD i [])
   rw[hA,hM]
   split
   ·rename_i e;subst e;exact⟨rfl,hup hi⟩
   exact⟨hi,.refl _⟩
  ·have hi:(s.met.set k true).getD i false=true:=hi
   rw[hM] at hi
   by_cases e:i=k
   ·subst e;right;exact List.mem_append_right _ (by simp)
   rw[if_neg e] at hi
   left
   refine⟨hi,?_⟩
   show (s.at_.set k j).getD i []=_
   rw[hA,if_neg e]
  ·rw[hM,if_pos rfl]
  rw[hA,if_pos rfl];exact hlj
 unfold cI
 split
 ·rename_i hkn
  refine⟨fun h=>(by cases h),fun _ M hMs=>?_⟩
  obtain⟨t,h1,_⟩:=hle M hMs
  have:=(hMs.ok k t h1).1
  omega
 rename_i hkn
 split
 ·rename_i hm
  split
  ·rename_i hj
   refine⟨fun h=>(by cases h),fun _ M hMs=>?_⟩
   obtain⟨t,h1,h2⟩:=hle M hMs
   obtain⟨t',h3,h4⟩:=hI.le M hMs k hm
   rw[h1] at h3
   cases h3
   obtain⟨j,h5,_⟩:=pO (hMs.ok k t h1).2.1 h4 h2
   rw[hj] at h5
   cases h5
  rename_i j hj
  have hu:=AB hj
  split
  ·rename_i he
   refine⟨fun _=>⟨hI,.refl _,hm,by rw[←he];exact hu.2⟩,fun h=>(by cases h)⟩
  rename_i he
  refine⟨fun _=>set_ (by omega) j (rK hj (hI.ty k hm) hl) (fun e=>?_) (fun _=>hu.1) hu.2 (fun M hMs=>?_),fun h=>(by cases h)⟩
  ·subst e
   rw[hI.a0] at hj
   have:=(hJ hj).2
   exact List.eq_nil_of_length_eq_zero this
  obtain⟨t,h1,h2⟩:=hle M hMs
  obtain⟨t',h3,h4⟩:=hI.le M hMs k hm
  rw[h1] at h3
  cases h3
  obtain⟨j',h5,h6⟩:=pO (hMs.ok k t h1).2.1 h4 h2
  rw[hj] at h5
  cases h5
  exact⟨t,h1,h6⟩
 rename_i hm
 refine⟨fun _=>set_ (by omega) l hl (fun e=>?_) (fun h=>absurd h hm) (.refl _) hle,fun h=>(by cases h)⟩
 subst e
 exact absurd hI.m0 hm
theorem mZ {fs:List aA} {f:aA} :∀{L:List Int} {s:FSt} {l:List Int},eb f.code.length s→jt fs f s→(∀q∈L,0≤q∧q≤f.code.length)→l.length≤8→s.todo.length+L.length<5000→Ty l→(∀M,kU fs f M→∀q∈L,∃t,M q.toNat=some t∧Le l t)→
  (∀s',cV f.code.length s L l=some s'→jt fs f s'∧Up s s'∧∀q∈L,s'.met.getD q.toNat false=true∧Le l (s'.at_.getD q.toNat []))∧(cV f.code.length s L l=none→∀M,¬kU fs f M)
 | [],s,l,hF,hI,_,_,_,_,_=>by
  refine⟨fun s' e=>?_,fun e=>by simp[cV] at e⟩
  simp only[cV,Option.some.injEq] at e
  subst e
  exact⟨hI,.refl _,fun q h=>by cases h⟩
 | a::L,s,l,hF,hI,hq,h8,ht,hl,hle=>by
  have ha:=hq a (by simp)
  rw[List.length_cons] at ht
  obtain⟨k1,k2⟩:=zc hF hI (k:=a.toNat) (by omega) hl (fun M hM=>hle M hM a (by simp))
  obtain⟨f1,f2⟩:=iY hF (k:=a.toNat) (by omega) h8 (by omega)
  simp only[cV]
  cases hb:(cI f.code.length s a.toNat l).1
  ·simp only[Bool.false_eq_true,if_false]
   exact⟨fun s' e=>(by cases e),fun _=>k2 hb⟩
  simp only[if_true]
  obtain⟨i1,i2,i3,i4⟩:=k1 hb
  obtain⟨j1,j2⟩:=mZ (L:=L) (l:=l) f1 i1 (fun q h=>hq q (by simp[h])) h8 (by omega) hl (fun M hM q h=>hle M hM q (by simp[h]))
  refine⟨fun s' e=>?_,j2⟩
  obtain⟨m1,m2,m3⟩:=j1 s' e
  refine⟨m1,i2.trans m2,fun q h=>?_⟩
  rcases List.mem_cons.1 h with rfl | h
  ·obtain⟨n1,n2⟩:=m2.up _ i3
   exact⟨n1,i4.trans n2⟩
  exact m3 q h
def Dn (fs:List aA) (f:aA) (s:FSt) (i:Nat):Prop:= ∃v,eE fs f (bn f.code i) (s.at_.getD i [])=some v∧∀q∈cQ (bn f.code i) i,s.met.getD q.toNat false=true∧Le v (s.at_.getD q.toNat [])
def Wk (fs:List aA) (f:aA) (s:FSt):Prop:= ∀i:Nat,s.met.getD i false=true→(i:Int)∈s.todo∨Dn fs f s i
theorem Dn.up {fs:List aA} {f:aA} {s s':FSt} {i:Nat} (h:Dn fs f s i) (hu:Up s s') (e:s'.at_.getD i []=s.at_.getD i []):Dn fs f s' i:=by
 obtain⟨v,h1,h2⟩:=h
 refine⟨v,by rw[e];exact h1,fun q hq=>?_⟩
 obtain⟨k1,k2⟩:=h2 q hq
 obtain⟨k3,k4⟩:=hu.up _ k1
 exact⟨k3,k2.trans k4⟩
theorem jx {fs:List aA} {f:aA} {o:bT} {s v:List Int} (h:eE fs f o s=some v):v.length≤8:=by
 obtain⟨T,V,_,_,h3,_,rfl⟩:=fQ.1 h
 exact h3
def Tm (s:FSt):Prop:= ∀x∈s.todo,s.met.getD x.toNat false=true
theorem Bl {n:Nat} {s:FSt} (hF:eb n s) (h:Tm s) {k:Nat} (hk:k≤n) (l:List Int):Tm (cI n s k l).2:=by
 have set_:k≠n→∀j:List Int,Tm ⟨s.at_.set k j,s.met.set k true,s.todo++ [(k:Int)]⟩:=fun hne j x hx=>by
  show (s.met.set k true).getD x.toNat false=true
  rw[fg (by rw[hF.ml];omega)]
  split
  ·rfl
  rename_i e
  rcases List.mem_append.1 hx with hx | hx
  ·exact h x hx
  rw[List.mem_singleton.1 hx] at e;exact absurd (Int.toNat_natCast k) e
 unfold cI
 split
 ·exact h
 rename_i hne
 split
 ·split
  ·exact h
  split
  ·exact h
  exact set_ hne _
 exact set_ hne _
theorem sc {n:Nat} :∀{L:List Int} {s s':FSt} {l:List Int},eb n s→Tm s→(∀q∈L,0≤q∧q≤n)→l.length≤8→s.todo.length+L.length<5000→cV n s L l=some s'→Tm s'
 | [],s,s',l,_,h,_,_,_,e=>by
  simp only[cV,Option.some.injEq] at e
  subst e
  exact h
 | a::L,s,s',l,hF,h,hq,h8,ht,e=>by
  simp only[cV] at e
  split at e
  ·have ha:=hq a (by simp)
   rw[List.length_cons] at ht
   obtain⟨f1,f2⟩:=iY hF (k:=a.toNat) (by omega) h8 (by omega)
   exact sc f1 (Bl hF h (by omega) l) (fun q h=>hq q (by simp[h])) h8 (by omega) e
  cases e
theorem xO {fs:List aA} {f:aA} (hok:iD fs f) (hty:kX fs f) {s:FSt} (hF:eb f.code.length s) (hI:jt fs f s) (hW:Wk fs f s) (htm:Tm s) (ht:0<s.todo.length) (ht2:s.todo.length≤4000) :
  (∀s',iN fs f s=some s'→jt fs f s'∧Wk fs f s'∧Tm s')∧(iN fs f s=none→∀M,¬kU fs f M):=by
 obtain⟨n,hn⟩:∃n,s.todo.length=n+1:=⟨s.todo.length - 1,by omega⟩
 have hget:s.todo[n]? =some (s.todo.getD n 0):=by rw[List.getD_eq_getElem?_getD,List.getElem?_eq_getElem (by omega)];rfl
 have hmem:s.todo.getD n 0∈s.todo:=List.mem_of_getElem? hget
 have htd:=hF.td _ hmem
 have hmk:=htm _ hmem
 obtain⟨k,hk⟩:∃k:Nat,s.todo.getD n 0=(k:Int):=⟨(s.todo.getD n 0).toNat,by omega⟩
 rw[hk,Int.toNat_natCast] at hmk
 have hkl:k<f.code.length:=by omega
 have e:iN fs f s=match eE fs f (bn f.code k) (s.at_.getD k []) with
   | none=>none
   | some v=>cV f.code.length ⟨s.at_,s.met,s.todo.take n⟩ (cQ (bn f.code k) k) v:=by
  unfold iN eE
  dsimp only
  rw[show s.todo.length - 1=n from by omega,hk,Int.toNat_natCast]
  split <;> rfl
 have hF0:eb f.code.length ⟨s.at_,s.met,s.todo.take n⟩:=⟨hF.al,hF.ml,by show (s.todo.take n).length≤_;rw[List.length_take];omega,hF.st,fun x hx=>hF.td x (List.mem_of_mem_take hx)⟩
 have hI0:jt fs f ⟨s.at_,s.met,s.todo.take n⟩:=⟨hI.m0,hI.a0,hI.ty,hI.le⟩
 have hT0:Tm ⟨s.at_,s.met,s.todo.take n⟩:=fun x hx=>htm x (List.mem_of_mem_take hx)
 have hl2:=jq (bn f.code k) k
 have hlt:(s.todo.take n).length+(cQ (bn f.code k) k).length<5000:=by rw[List.length_take];omega
 rw[e]
 cases hv:eE fs f (bn f.code k) (s.at_.getD k []) with
 | none=>
  refine⟨fun s' h=>(by cases h),fun _ M hM=>?_⟩
  obtain⟨t,h1,h2⟩:=hI.le M hM k hmk
  obtain⟨_,_,v,h3,_⟩:=hM.ok k t h1
  obtain⟨u,h4,_⟩:=lb h2 h3
  rw[hv] at h4
  cases h4
 | some v=>
  obtain⟨c1,c2⟩:=mZ hF0 hI0 (hok.to_ k hkl) (jx hv) hlt (pC hty (hok.op k hkl) (hI.ty k hmk) hv) (fun M hM q hq=>by
   obtain⟨t,h1,h2⟩:=hI.le M hM k hmk
   obtain⟨_,_,v',h3,h4⟩:=hM.ok k t h1
   obtain⟨u,h5,h6⟩:=lb h2 h3
   rw[hv] at h5
   cases h5
   obtain⟨s',h7,h8⟩:=h4 q hq
   exact⟨s',h7,h6.trans h8⟩)
  refine⟨fun s' h=>?_,c2⟩
  obtain⟨i1,i2,i3⟩:=c1 s' h
  refine⟨i1,fun i hi=>?_,sc hF0 hT0 (hok.to_ k hkl) (jx hv) hlt h⟩
  rcases i2.old i hi with ⟨h1,h2⟩ | h1
  ·rcases hW i h1 with h3 | h3
   ·by_cases hx:(i:Int)∈s.todo.take n
    ·exact .inl (i2.td _ hx)
    have:(i:Int)=k:=by
     rw[←List.take_append_drop n s.todo] at h3
     rcases List.mem_append.1 h3 with h3 | h3
     ·exact absurd h3 hx
     have:s.todo.drop n= [s.todo.getD n 0]:=by
      rw[List.drop_eq_getElem_cons (by omega),List.drop_of_length_le (by omega)]
      rw[List.getD_eq_getElem?_getD,List.getElem?_eq_getElem (by omega)]
      rfl
     rw[this,List.mem_singleton,hk] at h3
     exact h3
    have:i=k:=by omega
    subst this
    right
    have h2:s'.at_.getD i []=s.at_.getD i []:=h2
    exact⟨v,by rw[h2];exact hv,i3⟩
   exact .inr (Dn.up (s:=⟨s.at_,s.met,s.todo.take n⟩) h3 i2 h2)
  exact .inl h1
theorem rG {fs:List aA} {f:aA} (hok:iD fs f) (hty:kX fs f):∀(k:Nat) {s:FSt},eb f.code.length s→jt fs f s→Wk fs f s→Tm s→mu f.code.length s≤4000→mu f.code.length s<k→
  (∀s',it fs f k s=some s'→eb f.code.length s'∧jt fs f s'∧(∀i:Nat,s'.met.getD i false=true→Dn fs f s' i))∧(it fs f k s=none→∀M,¬kU fs f M)
 | 0,_,_,_,_,_,_,h=>absurd h (Nat.not_lt_zero _)
 | k+1,s,hF,hI,hW,hT,h4,hk=>by
  simp only[it]
  by_cases h0:s.todo.length=0
  ·simp only[h0,if_true]
   refine⟨fun s' e=>?_,fun e=>(by cases e)⟩
   simp only[Option.some.injEq] at e
   subst e
   refine⟨hF,hI,fun i hi=>?_⟩
   rcases hW i hi with h | h
   ·rw[List.eq_nil_of_length_eq_zero h0] at h;cases h
   exact h
  simp only[h0,if_false]
  have htl:s.todo.length≤4000:=by unfold mu at h4;omega
  obtain⟨c1,c2⟩:=xO hok hty hF hI hW hT (by omega) htl
  cases e:iN fs f s with
  | none=>exact⟨fun s' h=>(by cases h),fun _=>c2 e⟩
  | some s1=>
   obtain⟨i1,i2,i3⟩:=c1 s1 e
   obtain⟨j1,j2⟩:=nZ hok hF (by omega) htl e
   exact rG hok hty k j1 i1 i2 i3 (by omega) (by omega)
def MO (s:FSt) (i:Nat):Option (List Int):=if s.met.getD i false=true then some (s.at_.getD i []) else none
theorem fA {s:FSt} {i:Nat} {t:List Int} :MO s i=some t↔s.met.getD i false=true∧s.at_.getD i []=t:=by
 unfold MO
 split
 ·rename_i h
  exact⟨fun e=>⟨h,Option.some.inj e⟩,fun e=>by rw[e.2]⟩
 rename_i h
 exact⟨fun e=>(by cases e),fun e=>absurd e.1 h⟩
theorem kw {fs:List aA} {f:aA} (hok:iD fs f) (hty:kX fs f) (hn:0<f.code.length) :
  (∀s,kb fs f=some s→eb f.code.length s∧kU fs f (MO s)∧∀M,kU fs f M→∀i t,MO s i=some t→∃u,M i=some u∧Le t u)∧(kb fs f=none→∀M,¬kU fs f M):=by
 have hst:fi f.code.length=⟨(List.replicate f.code.length ([]:List Int)).set 0 [],(List.replicate f.code.length false).set 0 true,[0]⟩:=by
  unfold fi cI eS
  rw[if_neg (by omega),if_neg (by rw[gC];decide)]
  rfl
 have hA:∀i,(fi f.code.length).at_.getD i []= []:=fun i=>by
  rw[hst]
  show ((List.replicate f.code.length ([]:List Int)).set 0 []).getD i []= []
  rw[fg (by simpa using hn)]
  split
  ·rfl
  exact gC _ _ _
 have hM:∀i,(fi f.code.length).met.getD i false=if i=0 then true else false:=fun i=>by
  rw[hst]
  show ((List.replicate f.code.length false).set 0 true).getD i false=_
  rw[fg (by simpa using hn)]
  split
  ·rfl
  exact gC _ _ _
 have z:∀i,(fi f.code.length).met.getD i false=true→i=0:=fun i h=>by
  rw[hM] at h
  by_cases e:i=0
  ·exact e
  rw[if_neg e] at h;cases h
 have hI:jt fs f (fi f.code.length):=⟨by rw[hM];rfl,hA 0,fun i _=>by rw[hA];exact fun _ h=>(by cases h),fun M h i hi=>by
  have:=z i hi
  subst this
  exact⟨[],h.m0,by rw[hA];exact .refl _⟩⟩
 have hW:Wk fs f (fi f.code.length):=fun i hi=>by
  have:=z i hi
  subst this
  left
  rw[hst]
  simp
 have hT:Tm (fi f.code.length):=fun x hx=>by
  rw[hst] at hx
  have:x=0:=by simpa using hx
  subst this
  rw[hM];rfl
 obtain⟨o1,o2⟩:=pW hn
 have h40:=hok.n40
 obtain⟨c1,c2⟩:=rG hok hty (mu f.code.length (fi f.code.length)+1) o1 hI hW hT (by omega) (by omega)
 refine⟨fun s e=>?_,c2⟩
 obtain⟨k1,k2,k3⟩:=c1 s e
 refine⟨k1,⟨fA.2 ⟨k2.m0,k2.a0⟩,fun i t h=>?_⟩,fun M hMs i t h=>?_⟩
 ·obtain⟨h1,h2⟩:=fA.1 h
  subst h2
  refine⟨oS k1 h1,k2.ty i h1,?_⟩
  obtain⟨v,h3,h4⟩:=k3 i h1
  refine⟨v,h3,fun q hq=>?_⟩
  obtain⟨h5,h6⟩:=h4 q hq
  exact⟨_,fA.2 ⟨h5,rfl⟩,h6⟩
 obtain⟨h1,h2⟩:=fA.1 h
 subst h2
 exact k2.le M hMs i h1
theorem uX {fs:List aA} (h:da fs=0) {k:Nat} (hk:k<fs.length):kX fs (ax fs k):=by
 obtain⟨_,_,hall⟩:=gS h
 obtain⟨_,_,_,h4,_⟩:=iW (hall _ (hY hk))
 refine⟨fun t ht=>?_,fun j hj=>?_⟩
 ·have:=h4 t ht;omega
 obtain⟨_,_,g3,_⟩:=iW (hall _ (hY hj))
 exact g3
end
section
theorem BK {n:Nat} {s:FSt} (h:eb n s):lL n s≤9*n:=by
 have key:∀m:Nat,((List.range m).map (gD s)).sum≤9*m:=fun m=>by
  induction m with
  | zero=>simp
  | succ m ih=>
   rw[List.range_succ,List.map_append,List.sum_append]
   have:gD s m≤9:=by
    unfold gD
    split
    ·have:=ry (s.at_.getD m []);have:=h.st m;omega
    exact Nat.le_refl _
   simp only[List.map_cons,List.map_nil,List.sum_cons,List.sum_nil]
   omega
 exact key n
theorem xj {n:Nat} {s:FSt} {k:Nat} {l:List Int} :(cI n s k l).2=s∨(cI n s k l).2.todo=s.todo++ [(k:Int)]:=by
 unfold cI
 repeat (first | exact .inl rfl | exact .inr rfl | split)
theorem pe {n:Nat} :∀{L:List Int} {s s':FSt} {l:List Int},cV n s L l=some s'→s'.todo= []→s'=s
 | [],s,s',l,e,_=>by
  simp only[cV,Option.some.injEq] at e
  exact e.symm
 | a::L,s,s',l,e,h=>by
  simp only[cV] at e
  split at e
  ·have h1:=pe e h
   rcases xj (n:=n) (s:=s) (k:=a.toNat) (l:=l) with h2 | h2
   ·rw[h1,h2]
   rw[←h1,h] at h2
   have:=congrArg List.length h2
   simp at this
  cases e
structure Sw (fs:List aA) (f:aA) (s0:FSt) (i:Nat) (s:FSt):Prop where
 ok:eb f.code.length s
 inv:jt fs f s
 mu_:mu f.code.length s≤mu f.code.length s0
 dn:s.todo= []→s=s0∧∀j,j<i→s.met.getD j false=true→Dn fs f s j
theorem Sw.todo {fs:List aA} {f:aA} {s0 s:FSt} {i:Nat} (h:Sw fs f s0 i s) (h0:eb f.code.length s0) (ht:s0.todo= []) (hn:f.code.length≤40):s.todo.length≤360:=by
 have h1:=h.mu_
 have h2:=BK h0
 unfold mu at h1
 rw[ht] at h1
 simp only[List.length_nil] at h1
 omega
theorem Sw.start {fs:List aA} {f:aA} {s0:FSt} (h:eb f.code.length s0) (hi:jt fs f s0):Sw fs f s0 0 s0:=⟨h,hi,Nat.le_refl _,fun _=>⟨rfl,fun _ hj=>absurd hj (Nat.not_lt_zero _)⟩⟩
theorem Sw.skip {fs:List aA} {f:aA} {s0 s:FSt} {i:Nat} (h:Sw fs f s0 i s) (hm:¬s.met.getD i false=true):Sw fs f s0 (i+1) s:=
 ⟨h.ok,h.inv,h.mu_,fun e=>⟨(h.dn e).1,fun j hj hj2=>by
  by_cases e2:j=i
  ·subst e2;exact absurd hj2 hm
  exact(h.dn e).2 j (by omega) hj2⟩⟩
theorem Sw.bad {fs:List aA} {f:aA} {s0 s:FSt} {i:Nat} (h:Sw fs f s0 i s) (hm:s.met.getD i false=true) (hv:eE fs f (bn f.code i) (s.at_.getD i [])=none) (M:Nat→Option (List Int)):¬kU fs f M:=fun hM=>by
 obtain⟨t,h1,h2⟩:=h.inv.le M hM i hm
 obtain⟨_,_,v,h3,_⟩:=hM.ok i t h1
 obtain⟨u,h4,_⟩:=lb h2 h3
 rw[hv] at h4
 cases h4
theorem Sw.comes {fs:List aA} {f:aA} (hok:iD fs f) (hty:kX fs f) {s0 s:FSt} {i:Nat} (h:Sw fs f s0 i s) (h0:eb f.code.length s0) (ht:s0.todo= []) (hi:i<f.code.length) (hm:s.met.getD i false=true) {v:List Int} (hv:eE fs f (bn f.code i) (s.at_.getD i [])=some v)
  {L:List Int} (hL:∀q∈L,q∈cQ (bn f.code i) i) (hl4:L.length≤4) :
  (∀s',cV f.code.length s L v=some s'→jt fs f s'∧Up s s'∧∀q∈L,s'.met.getD q.toNat false=true∧Le v (s'.at_.getD q.toNat []))∧(cV f.code.length s L v=none→∀M,¬kU fs f M):=by
 have h36:=h.todo h0 ht hok.n40
 exact mZ h.ok h.inv (fun q hq=>hok.to_ i hi q (hL q hq)) (jx hv) (by omega) (pC hty (hok.op i hi) (h.inv.ty i hm) hv) (fun M hM q hq=>by
   obtain⟨t,h1,h2⟩:=h.inv.le M hM i hm
   obtain⟨_,_,v',h3,h4⟩:=hM.ok i t h1
   obtain⟨u,h5,h6⟩:=lb h2 h3
   rw[hv] at h5
   cases h5
   obtain⟨s',h7,h8⟩:=h4 q (hL q hq)
   exact⟨s',h7,h6.trans h8⟩)
theorem Sw.step {fs:List aA} {f:aA} (hok:iD fs f) (hty:kX fs f) {s0 s:FSt} {i:Nat} (h:Sw fs f s0 i s) (h0:eb f.code.length s0) (ht:s0.todo= []) (hi:i<f.code.length) (hm:s.met.getD i false=true) {v:List Int} (hv:eE fs f (bn f.code i) (s.at_.getD i [])=some v)
  {s':FSt} (e:cV f.code.length s (cQ (bn f.code i) i) v=some s'):Sw fs f s0 (i+1) s':=by
 have h36:=h.todo h0 ht hok.n40
 have hl2:=jq (bn f.code i) i
 obtain⟨k1,k2,k3⟩:=(h.comes hok hty h0 ht hi hm hv (fun q hq=>hq) (by omega)).1 s' e
 have hc:=m4 h.ok (hok.to_ i hi) (jx hv) (by omega) e
 have hmu:=m5 h.ok (hok.to_ i hi) (jx hv) (by omega) e
 refine⟨hc.1,k1,Nat.le_trans hmu h.mu_,fun e0=>?_⟩
 have es:=pe e e0
 subst es
 obtain⟨d1,d2⟩:=h.dn e0
 refine⟨d1,fun j hj hj2=>?_⟩
 by_cases e2:j=i
 ·subst e2;exact⟨v,hv,k3⟩
 exact d2 j (by omega) hj2
theorem Sw.again {fs:List aA} {f:aA} {s0 s:FSt} {i:Nat} (h:Sw fs f s0 i s) (h0:s0.todo= []) (hne:s.todo≠[]):eb f.code.length ⟨s.at_,s.met,[]⟩∧jt fs f ⟨s.at_,s.met,[]⟩∧lL f.code.length ⟨s.at_,s.met,[]⟩<lL f.code.length s0:=by
 refine⟨⟨h.ok.al,h.ok.ml,by simp,h.ok.st,fun x hx=>by cases hx⟩,⟨h.inv.m0,h.inv.a0,h.inv.ty,h.inv.le⟩,?_⟩
 have h1:=h.mu_
 unfold mu at h1
 rw[h0] at h1
 simp only[List.length_nil] at h1
 have h2:=List.length_pos_iff.2 hne
 show lL f.code.length s<_
 omega
theorem qi {fs:List aA} {f:aA} (hok:iD fs f) (hty:kX fs f) (hn:0<f.code.length) (h:∀M,¬kU fs f M):b8 fs f=([],false):=by
 unfold b8
 cases e:kb fs f with
 | none=>rfl
 | some s=>exact absurd ((kw hok hty hn).1 s e).2.1 (h _)
theorem xa {fs:List aA} {f:aA} (hok:iD fs f) (hty:kX fs f) (hn:0<f.code.length) {s:FSt} (hF:eb f.code.length s) (hI:jt fs f s) (hd:∀i:Nat,s.met.getD i false=true→Dn fs f s i):b8 fs f=(gW s f.code.length,true):=by
 have hst:kU fs f (MO s):=⟨fA.2 ⟨hI.m0,hI.a0⟩,fun i t h=>by
  obtain⟨h1,h2⟩:=fA.1 h
  subst h2
  refine⟨oS hF h1,hI.ty i h1,?_⟩
  obtain⟨v,h3,h4⟩:=hd i h1
  refine⟨v,h3,fun q hq=>?_⟩
  obtain⟨h5,h6⟩:=h4 q hq
  exact⟨_,fA.2 ⟨h5,rfl⟩,h6⟩⟩
 unfold b8
 cases e:kb fs f with
 | none=>exact absurd hst ((kw hok hty hn).2 e _)
 | some s'=>
  obtain⟨k1,k2,k3⟩:=(kw hok hty hn).1 s' e
  show (gW s' f.code.length,true)=_
  congr 1
  unfold gW
  congr 1
  funext i
  by_cases hm:s.met.getD i false=true
  ·obtain⟨t,h1,h2⟩:=hI.le _ k2 i hm
   obtain⟨h3,h4⟩:=fA.1 h1
   subst h4
   obtain⟨u,h5,h6⟩:=k3 _ hst i _ h1
   obtain⟨_,h7⟩:=fA.1 h5
   subst h7
   rw[if_pos hm,if_pos h3,h2.anti h6]
  rw[if_neg hm,if_neg]
  intro h3
  obtain⟨u,h5,_⟩:=k3 _ hst i _ (fA.2 ⟨h3,rfl⟩)
  exact hm (fA.1 h5).1
def nF (n:Nat):FSt:=⟨List.replicate n [],(List.replicate n false).set 0 true,[]⟩
theorem Bt {fs:List aA} {f:aA} (hn:0<f.code.length):eb f.code.length (nF f.code.length)∧jt fs f (nF f.code.length):=by
 have hA:∀i,(nF f.code.length).at_.getD i []= []:=fun i=>gC _ _ _
 have hM:∀i,(nF f.code.length).met.getD i false=if i=0 then true else false:=fun i=>by
  show ((List.replicate f.code.length false).set 0 true).getD i false=_
  rw[fg (by simpa using hn)]
  split
  ·rfl
  exact gC _ _ _
 refine⟨⟨by simp[nF],by simp[nF],by simp[nF],fun i=>by rw[hA];simp,fun x hx=>by cases hx⟩,⟨by rw[hM];rfl,hA 0,fun i _=>by rw[hA];exact fun _ h=>(by cases h),fun M h i hi=>?_⟩⟩
 rw[hM] at hi
 by_cases e:i=0
 ·subst e;exact⟨[],h.m0,by rw[hA];exact .refl _⟩
 rw[if_neg e] at hi;cases hi
end
section
section
variable {B:Nat} {w0:World}
def DZ (l:List f8) (k:Nat):f8:=l.getD k ⟨0,[]⟩
end
def tR (a b:Int):Nat→Int
 | 0=>0
 | k+1=>if tR a b k=0∧bS a (3 - k)=true∧bS b (3 - k)=true then 3 - k else tR a b k
theorem zH {a b:Int} (ha:1≤a∧a≤3) (hb:1≤b∧b≤3):tR a b 3=cX a b:=by
 rcases t3 ha with rfl | rfl | rfl <;> rcases t3 hb with rfl | rfl | rfl <;> decide
set_option maxRecDepth 100000 in
set_option maxHeartbeats 2000000 in
theorem sU (A1 A2:Option Addr) (c1 c2:Nat) (a b:List Int) (w:World) (h1:Sl w (.slice A1 a.length c1) a) (h2:Sl w (.slice A2 b.length c2) b) (ta:Ty a) (tb:Ty b) (hle:a.length≤1000000) :
  Calls Tryz.prog 110 #[.slice A1 a.length c1,.slice A2 b.length c2] w fun e w'=> ∃u,e= .returned (.tuple #[u,.bool (bI a b).isSome])∧Below w.heap.size w w'∧dB w' w.heap.size u ((bI a b).getD []):=by
 have bb:=bR h2
 refine enter Tryz.func110 rfl Tryz.ntmps110 rfl ?_
 refine ac<|aa<|rn 2 [0,1] rfl<|ae<|ac<|ac<|aa<|rn 1 [0,1,10] rfl<|af (aL ag rfl rfl) rfl rfl<|rn 1 [0,1,11,12] rfl<|af (aL ag rfl rfl) rfl rfl<|rn 1 [0,1,14] rfl<|ae<|bX rfl (fun hl=>?_) (fun hl=>?_)
 ·have hn:=rJ (a:=a) (b:=b) (fun e=>hl (by rw[e]))
  refine ac<|aa<|rn 2 [4,5] rfl<|ae<|ap (ah ?_)
  refine bC CA (am rfl) (am rfl) ?_
  intro w hw
  rw[hn]
  exact⟨_,rfl,kD hw⟩
 have hl:a.length=b.length:=by omega
 refine aq (ak ?_)
 refine ac<|aa<|rn 1 [0,1,6] rfl<|ae<|ac<|ac<|aa<|rn 1 [0,1,6,7] rfl<|ae<|dx (fun w h=>Cw.nilO Int h) ?_
 refine aE (bD (fun g:Nat×List Int×Option Addr×Nat=>g.1≤a.length∧bI (a.take g.1) (b.take g.1)=some g.2.1) (fun g=>a.length - g.1) (fun g=> [(0,.slice A1 a.length c1),(1,.slice A2 b.length c2),(6,.slice g.2.2.1 g.2.1.length g.2.2.2),(7,.int .i64 (g.1:Int))]) (fun g=> [an (.slice g.2.2.1 g.2.1.length g.2.2.2) g.2.1]) (0,[],none,0) (⟨Nat.zero_le _,rfl⟩) ⟨rfl,rfl,rfl,rfl,trivial⟩ me ?_)
 rintro⟨i,out,Ao,co⟩ hi'
 try dsimp only
 obtain⟨hi,hj⟩:i≤a.length∧bI (a.take i) (b.take i)=some out:=hi'
 have hol:out.length=i:=by have:=(hJ hj).2;rw[List.length_take] at this;omega
 refine ac<|ac<|aa<|rn 2 [0,1,6,7,15,16] rfl<|af (aL ag rfl rfl) rfl rfl<|rn 1 [0,1,6,7,18] rfl<|ae<|ar rfl (fun hlt=>?_) (fun hlt=>?_)
 ·have hil:i<a.length:=by omega
  have hst:=mh hil (by omega) hj
  have i1:=gy h1 hil
  have i2:=gy h2 (k:=i) (by omega)
  have hbt:=zH (ta.at_ hil) (tb.at_ (i:=i) (by omega))
  refine aq (ak ?_)
  refine ac<|aE<|ac<|aa<|rn 1 [0,1,6,7,8] rfl<|ae<|ac<|ac<|aa<|rn 1 [0,1,6,7,8,9] rfl<|ae<|gR (fun _:Unit=>True) (fun _=> [(0,.slice A1 a.length c1),(1,.slice A2 b.length c2),(6,.slice Ao out.length co),(7,.int .i64 (i:Int)),(8,.int .i64 (cX (a.getD i 0) (b.getD i 0)))]) (fun _=> [an (.slice Ao out.length co) out]) ?_ ?_
  ·refine aE (bD (fun g:Nat×Int=>g.1≤3∧g.2=3 - (g.1:Int)) (fun g=>3 - g.1) (fun g=> [(0,.slice A1 a.length c1),(1,.slice A2 b.length c2),(6,.slice Ao out.length co),(7,.int .i64 (i:Int)),(8,.int .i64 (tR (a.getD i 0) (b.getD i 0) g.1)),(9,.int .i64 g.2)]) (fun _=> [an (.slice Ao out.length co) out]) (0,3) (⟨Nat.zero_le _,rfl⟩) ⟨rfl,rfl,rfl,rfl,rfl,rfl,trivial⟩ me ?_)
   rintro⟨k,x⟩ hk'
   try dsimp only
   obtain⟨hk,hx⟩:k≤3∧x=3 - (k:Int):=hk'
   refine ac<|ac<|aa<|rn 2 [0,1,6,7,8,9,22] rfl<|ae<|ar rfl (fun hk3=>?_) (fun hk3=>?_)
   ·have hk2:k<3:=by omega
    have htr:tR (a.getD i 0) (b.getD i 0) (k+1)=if tR (a.getD i 0) (b.getD i 0) k=0∧bS (a.getD i 0) x=true∧bS (b.getD i 0) x=true then x else tR (a.getD i 0) (b.getD i 0) k:=by rw[tR,hx]
    refine aq (ak ?_)
    refine eo (fun _:Unit=>True) (fun _=> [(0,.slice A1 a.length c1),(1,.slice A2 b.length c2),(6,.slice Ao out.length co),(7,.int .i64 (i:Int)),(8,.int .i64 (tR (a.getD i 0) (b.getD i 0) (k+1))),(9,.int .i64 x)]) (fun _=> [an (.slice Ao out.length co) out]) ?_ ?_
    ·rw[htr]
     refine aE<|ac<|aa<|rn 3 [0,1,6,7,8,9,27] rfl<|bL (t:=27) rfl (fun f1=>?_) (fun f1=>?_)
     ·have f1:=of_decide_eq_true f1
      refine rn 2 [0,1,6,7,8,9,27,28,29] rfl<|af (aQ ag aF (.ro h1) (by omega) rfl rfl rfl) rfl rfl<|af (aZ (SF.int (.ro h1) (by omega)) rfl rfl aw) rfl rfl<|rn 1 [0,1,6,7,8,9,27,31,32] rfl<|ai (bB rfl rfl rfl DU (fun w hw=>lq (a.getD i 0) x w)) rfl rfl (fun _ _=>?_)
      refine rn 2 [0,1,6,7,8,9,35] rfl<|bL (t:=35) rfl (fun f2=>?_) (fun f2=>?_)
      ·refine rn 2 [0,1,6,7,8,9,35,36,37] rfl<|af (aQ ag aF (.ro h2) (by omega) rfl rfl rfl) rfl rfl<|af (aZ (SF.int (.ro h2) (by omega)) rfl rfl aw) rfl rfl<|rn 1 [0,1,6,7,8,9,35,39,40] rfl<|ai (bB rfl rfl rfl DU (fun w hw=>lq (b.getD i 0) x w)) rfl rfl (fun _ _=>?_)
       refine rn 1 [0,1,6,7,8,9,42] rfl<|ae<|b9 rfl (fun f3=>?_) (fun f3=>?_)
       ·rw[if_pos ⟨f1,f2,f3⟩]
        refine aa<|rn 2 [0,1,6,7,8,9] rfl<|bu (aH ?_)
        refine be () (trivial) ⟨rfl,rfl,rfl,rfl,rfl,rfl,trivial⟩ me
       rw[if_neg (fun h=>by rw[h.2.2] at f3;cases f3)]
       refine aq (aH ?_)
       refine be () (trivial) ⟨rfl,rfl,rfl,rfl,rfl,rfl,trivial⟩ me
      rw[if_neg (fun h=>by rw[h.2.1] at f2;cases f2)]
      refine rn 7 [0,1,6,7,8,9,42] rfl<|ae<|cK rfl<|aq (aH ?_)
      refine be () (trivial) ⟨rfl,rfl,rfl,rfl,rfl,rfl,trivial⟩ me
     have f1:=of_decide_eq_false f1
     rw[if_neg (fun h=>f1 h.1)]
     refine rn 15 [0,1,6,7,8,9,42] rfl<|ae<|cK rfl<|aq (aH ?_)
     refine be () (trivial) ⟨rfl,rfl,rfl,rfl,rfl,rfl,trivial⟩ me
    rintro _ _
    refine aa<|rn 1 [0,1,6,7,8,23] rfl<|af (cn rfl rfl rfl (by omega)) rfl rfl<|rn 1 [0,1,6,7,8,9] rfl<|aX (k+1,x - 1) (⟨hk2,by show x - 1=3 - ((k+1:Nat):Int);omega⟩) (by show 3 - (k+1)<3 - k;omega) ⟨rfl,rfl,rfl,rfl,rfl,rfl,trivial⟩ me
   obtain rfl:k=3:=by omega
   rw[hbt]
   refine bz (aG (aG (bO ?_)))
   refine be () (trivial) ⟨rfl,rfl,rfl,rfl,rfl,trivial⟩ me
  rintro _ _
  refine ac<|ac<|aa<|rn 2 [0,1,6,7,8,45] rfl<|ae<|ar rfl (fun h0=>?_) (fun h0=>?_)
  ·rw[if_pos h0] at hst
   have hn:=mi hst hl
   refine ac<|aa<|rn 2 [4,5] rfl<|ae<|ap (ah (aC (ah (ah (aC (ah ?_))))))
   refine bC CA (am rfl) (am rfl) ?_
   intro w hw
   rw[hn]
   exact⟨_,rfl,kD hw⟩
  rw[if_neg h0] at hst
  refine aq (ak ?_)
  refine aa<|rn 2 [0,1,7,46,47] rfl<|ai (a8 (cs:= [_]) ag aF aV rfl rfl rfl rfl rfl) rfl rfl (fun g1 _=>?_)
  refine ai (dM (α:=Int) (bytes:=8) (cX (a.getD i 0) (b.getD i 0)) [] rfl ag (bN cJ) rfl (fH fc fc) (eI (qn i1 i2)) (by omega) (by omega) rfl rfl rfl) rfl rfl (fun⟨A5,c5⟩ _=>?_)
  try dsimp only
  refine rn 1 [0,1,6,7] rfl<|bu (aH (ak ?_))
  refine aa<|rn 1 [0,1,6,19] rfl<|af (a6 rfl rfl rfl (by omega)) rfl rfl<|rn 1 [0,1,6,7] rfl<|aX (i+1,out++ [cX (a.getD i 0) (b.getD i 0)],A5,c5) (⟨hil,hst⟩) (by show _ - _<_ - _;omega) ⟨rfl,rfl,rfl,rfl,trivial⟩ me
 obtain rfl:i=a.length:=by omega
 rw[List.take_length,hl,List.take_length] at hj
 refine bz (aG (aG (bO (ak ?_))))
 refine ac<|aa<|rn 3 [4,5] rfl<|ae<|ap<|bC CA (am rfl) (am rfl) ?_
 intro w hw
 rw[hj]
 exact⟨_,rfl,i6 hw⟩
end
section
def cH (c:Int):List UInt8×List UInt8:=
 if c=1∨c=21 then ([],[105]) else if c=5∨c=6∨c=7 then ([105,105],[105]) else if c=8 then ([],[108]) else if c=9 then ([108],[]) else if c=11∨c=20 then ([105],[]) else if c=14 then ([105],[114]) else if c=15 then ([114,105],[105]) else if c=16 then ([114,105,105],[]) else if c=17∨c=19 then ([114],[105]) else if c=18 then ([],[110]) else ([],[])
def la (local_:Int) (b:UInt8):List Int:=if (b.toNat:Int)=105 then [1] else if (b.toNat:Int)=114 then [2] else if (b.toNat:Int)=110 then [3] else if (b.toNat:Int)=108 then [local_] else []
def gN (local_:Int) (s:List UInt8):List Int:=s.flatMap (la local_)
set_option maxRecDepth 100000 in
set_option maxHeartbeats 1000000 in
theorem uw (c:Int) (w:World):Calls Tryz.prog 143 #[.int .i64 c] w fun e w'=>e= .returned (.tuple #[.string ⟨(cH c).1.toArray⟩,.string ⟨(cH c).2.toArray⟩])∧Below w.heap.size w w':=by
 refine enter Tryz.func143 rfl Tryz.ntmps143 rfl ?_
 refine ac<|aa<|rn 2 [0] rfl<|ae<|ac<|ac<|aa<|rn 1 [4] rfl<|ae<|aE<|ac<|ac<|aa<|rn 2 [4,5] rfl<|ae<|ar rfl (fun h1=>?_) (fun h1=>?_)
 ·refine cS (t:=5) (v':= .bool true) rfl (by rw[decide_eq_true h1]) ?_
  refine aq (ak ?_)
  refine br rfl<|ac<|aa<|rn 2 [2,3] rfl<|ae ?_
  have e:cH c=([],[105]):=by rw[h1];rfl
  refine ap (aC (ah ?_))
  refine bC dR (am rfl) (am rfl) ?_
  intro w hw
  rw[e]
  exact⟨rfl,hw.below⟩
 refine aa<|rn 2 [4,5] rfl<|ae<|ar rfl (fun h21=>?_) (fun h21=>?_)
 ·have e:cH c=([],[105]):=by rw[h21];rfl
  refine ac<|aa<|rn 2 [2,3] rfl<|ae<|ap (aC (ah ?_))
  refine bC dR (am rfl) (am rfl) ?_
  intro w hw
  rw[e]
  exact⟨rfl,hw.below⟩
 refine ac<|ac<|aa<|rn 2 [4,8] rfl<|ae<|ar rfl (fun h5=>?_) (fun h5=>?_)
 ·refine cS (t:=8) (v':= .bool true) rfl (by rw[decide_eq_true h5]) ?_
  refine aq (ak ?_)
  refine br rfl<|ac<|aa<|rn 2 [2,3] rfl<|ae ?_
  have e:cH c=([105,105],[105]):=by rw[h5];rfl
  refine ap (aC (ah ?_))
  refine bC dR (am rfl) (am rfl) ?_
  intro w hw
  rw[e]
  exact⟨rfl,hw.below⟩
 refine ac<|aa<|rn 2 [4,8] rfl<|ae<|ar rfl (fun h6=>?_) (fun h6=>?_)
 ·refine cS (t:=8) (v':= .bool true) rfl (by rw[decide_eq_true h6]) ?_
  refine aq (ak ?_)
  refine br rfl<|ac<|aa<|rn 2 [2,3] rfl<|ae ?_
  have e:cH c=([105,105],[105]):=by rw[h6];rfl
  refine ap (aC (ah ?_))
  refine bC dR (am rfl) (am rfl) ?_
  intro w hw
  rw[e]
  exact⟨rfl,hw.below⟩
 refine aa<|rn 2 [4,8] rfl<|ae<|ar rfl (fun h7=>?_) (fun h7=>?_)
 ·have e:cH c=([105,105],[105]):=by rw[h7];rfl
  refine ac<|aa<|rn 2 [2,3] rfl<|ae<|ap (aC (ah ?_))
  refine bC dR (am rfl) (am rfl) ?_
  intro w hw
  rw[e]
  exact⟨rfl,hw.below⟩
 refine ac<|aa<|rn 2 [4,12] rfl<|ae<|ar rfl (fun h8=>?_) (fun h8=>?_)
 ·have e:cH c=([],[108]):=by rw[h8];rfl
  refine ac<|aa<|rn 2 [2,3] rfl<|ae<|ap (aC (ah ?_))
  refine bC dR (am rfl) (am rfl) ?_
  intro w hw
  rw[e]
  exact⟨rfl,hw.below⟩
 refine ac<|aa<|rn 2 [4,14] rfl<|ae<|ar rfl (fun h9=>?_) (fun h9=>?_)
 ·have e:cH c=([108],[]):=by rw[h9];rfl
  refine ac<|aa<|rn 2 [2,3] rfl<|ae<|ap (aC (ah ?_))
  refine bC dR (am rfl) (am rfl) ?_
  intro w hw
  rw[e]
  exact⟨rfl,hw.below⟩
 refine ac<|ac<|aa<|rn 2 [4,16] rfl<|ae<|ar rfl (fun h11=>?_) (fun h11=>?_)
 ·refine cS (t:=16) (v':= .bool true) rfl (by rw[decide_eq_true h11]) ?_
  refine aq (ak ?_)
  refine br rfl<|ac<|aa<|rn 2 [2,3] rfl<|ae ?_
  have e:cH c=([105],[]):=by rw[h11];rfl
  refine ap (aC (ah ?_))
  refine bC dR (am rfl) (am rfl) ?_
  intro w hw
  rw[e]
  exact⟨rfl,hw.below⟩
 refine aa<|rn 2 [4,16] rfl<|ae<|ar rfl (fun h20=>?_) (fun h20=>?_)
 ·have e:cH c=([105],[]):=by rw[h20];rfl
  refine ac<|aa<|rn 2 [2,3] rfl<|ae<|ap (aC (ah ?_))
  refine bC dR (am rfl) (am rfl) ?_
  intro w hw
  rw[e]
  exact⟨rfl,hw.below⟩
 refine ac<|aa<|rn 2 [4,19] rfl<|ae<|ar rfl (fun h14=>?_) (fun h14=>?_)
 ·have e:cH c=([105],[114]):=by rw[h14];rfl
  refine ac<|aa<|rn 2 [2,3] rfl<|ae<|ap (aC (ah ?_))
  refine bC dR (am rfl) (am rfl) ?_
  intro w hw
  rw[e]
  exact⟨rfl,hw.below⟩
 refine ac<|aa<|rn 2 [4,21] rfl<|ae<|ar rfl (fun h15=>?_) (fun h15=>?_)
 ·have e:cH c=([114,105],[105]):=by rw[h15];rfl
  refine ac<|aa<|rn 2 [2,3] rfl<|ae<|ap (aC (ah ?_))
  refine bC dR (am rfl) (am rfl) ?_
  intro w hw
  rw[e]
  exact⟨rfl,hw.below⟩
 refine ac<|aa<|rn 2 [4,23] rfl<|ae<|ar rfl (fun h16=>?_) (fun h16=>?_)
 ·have e:cH c=([114,105,105],[]):=by rw[h16];rfl
  refine ac<|aa<|rn 2 [2,3] rfl<|ae<|ap (aC (ah ?_))
  refine bC dR (am rfl) (am rfl) ?_
  intro w hw
  rw[e]
  exact⟨rfl,hw.below⟩
 refine ac<|ac<|aa<|rn 2 [4,25] rfl<|ae<|ar rfl (fun h17=>?_) (fun h17=>?_)
 ·refine cS (t:=25) (v':= .bool true) rfl (by rw[decide_eq_true h17]) ?_
  refine aq (ak ?_)
  refine br rfl<|ac<|aa<|rn 2 [2,3] rfl<|ae ?_
  have e:cH c=([114],[105]):=by rw[h17];rfl
  refine ap (aC (ah ?_))
  refine bC dR (am rfl) (am rfl) ?_
  intro w hw
  rw[e]
  exact⟨rfl,hw.below⟩
 refine aa<|rn 2 [4,25] rfl<|ae<|ar rfl (fun h19=>?_) (fun h19=>?_)
 ·have e:cH c=([114],[105]):=by rw[h19];rfl
  refine ac<|aa<|rn 2 [2,3] rfl<|ae<|ap (aC (ah ?_))
  refine bC dR (am rfl) (am rfl) ?_
  intro w hw
  rw[e]
  exact⟨rfl,hw.below⟩
 refine ac<|aa<|rn 2 [28] rfl<|ae<|ar rfl (fun h18=>?_) (fun h18=>?_)
 ·have e:cH c=([],[110]):=by rw[h18];rfl
  refine ac<|aa<|rn 2 [2,3] rfl<|ae<|ap (aC (ah ?_))
  refine bC dR (am rfl) (am rfl) ?_
  intro w hw
  rw[e]
  exact⟨rfl,hw.below⟩
 refine aq (aH (ak ?_))
 refine ac<|aa<|rn 2 [2,3] rfl<|ae ?_
 have e:cH c=([],[]):=by unfold cH;simp[h1,h21,h5,h6,h7,h8,h9,h11,h20,h14,h15,h16,h17,h19,h18]
 refine ap<|bC dR (am rfl) (am rfl) ?_
 intro w hw
 rw[e]
 exact⟨rfl,hw.below⟩
theorem zE (x:Int) (b:UInt8):(la x b).length≤1:=by
 unfold la
 repeat (first | split | simp)
theorem nn (x:Int):∀s:List UInt8,(gN x s).length≤s.length
 | []=>by simp[gN]
 | b::s=>by
  have h1:=nn x s
  have h2:=zE x b
  simp only[gN,List.flatMap_cons,List.length_append,List.length_cons] at *
  omega
theorem xL {x:Int} {s:List UInt8} {i:Nat} (hi:i<s.length):gN x (s.take (i+1))=gN x (s.take i)++la x (s.getD i 0):=by
 unfold gN
 rw[List.take_succ_eq_append_getElem hi,List.flatMap_append,List.getD_eq_getElem?_getD,List.getElem?_eq_getElem hi]
 simp
set_option maxRecDepth 100000 in
set_option maxHeartbeats 1000000 in
theorem oI (s:List UInt8) (x:Int) (hx:a5 x) (w:World) (hl:s.length≤1000):Calls Tryz.prog 144 #[.string ⟨s.toArray⟩,.int .i64 x] w fun e w'=> ∃u,e= .returned u∧Below w.heap.size w w'∧dB w' w.heap.size u (gN x s):=by
 refine enter Tryz.func144 rfl Tryz.ntmps144 rfl ?_
 refine ac<|aa<|rn 1 [0,1] rfl<|ae<|ac<|aa<|rn 1 [0,1,5] rfl<|ae<|ac<|ac<|aa<|rn 1 [0,1,5,6] rfl<|ae<|dx (fun w h=>Cw.nilO Int h) ?_
 refine aE (bD (fun g:Nat×Option Addr×Nat=>g.1≤s.length) (fun g=>s.length - g.1) (fun g=> [(0,.string ⟨s.toArray⟩),(1,.int .i64 x),(5,.slice g.2.1 (gN x (s.take g.1)).length g.2.2),(6,.int .i64 (g.1:Int))]) (fun g=> [an (.slice g.2.1 (gN x (s.take g.1)).length g.2.2) (gN x (s.take g.1))]) (0,none,0) (Nat.zero_le _) ⟨rfl,rfl,rfl,rfl,trivial⟩ me ?_)
 rintro⟨i,Ao,co⟩ hi'
 try dsimp only
 have hi:i≤s.length:=hi'
 have hlt:=nn x (s.take i)
 rw[List.length_take] at hlt
 refine ac<|ac<|aa<|rn 2 [0,1,5,6,7,8] rfl<|af (z4 Tryz.underlying9 rfl rfl) rfl rfl<|rn 1 [0,1,5,6,10] rfl<|ae<|ar rfl (fun hlt=>?_) (fun hlt=>?_)
 ·have hil:i<s.length:=by omega
  have hsn:=xL (x:=x) hil
  refine aq (ak ?_)
  refine eo (fun _:Option Addr×Nat=>True) (fun g=> [(0,.string ⟨s.toArray⟩),(1,.int .i64 x),(5,.slice g.1 (gN x (s.take (i+1))).length g.2),(6,.int .i64 (i:Int))]) (fun g=> [an (.slice g.1 (gN x (s.take (i+1))).length g.2) (gN x (s.take (i+1)))]) ?_ ?_
  ·rw[hsn]
   refine aE<|ac<|aa<|rn 2 [0,1,5,6,13,14] rfl<|af (z5 (k:=i) Tryz.underlying9 hil rfl rfl rfl) rfl rfl<|ae<|aE<|ac<|aa<|rn 2 [0,1,5,6,15,16] rfl<|ae<|ar rfl (fun h1=>?_) (fun h1=>?_)
   ·have e:la x (s.getD i 0)= [1]:=by unfold la;rw[if_pos h1]
    rw[e]
    refine aa<|rn 1 [0,1,6,18] rfl<|ai (a8 (cs:= [_]) ag aF aV rfl rfl rfl rfl rfl) rfl rfl (fun g1 _=>?_)
    refine ai (dM (α:=Int) (bytes:=8) 1 [] rfl ag (bN cJ) rfl (fH fc fc) (eI (show a5 _ from by decide)) (by omega) (by omega) rfl rfl rfl) rfl rfl (fun⟨A5,c5⟩ _=>?_)
    try dsimp only
    refine rn 1 [0,1,5,6] rfl<|bu (aH (aH ?_))
    refine be (A5,c5) (trivial) ⟨rfl,rfl,rfl,rfl,trivial⟩ me
   refine ac<|aa<|rn 2 [0,1,5,6,15,21] rfl<|ae<|ar rfl (fun h2=>?_) (fun h2=>?_)
   ·have e:la x (s.getD i 0)= [2]:=by unfold la;rw[if_neg h1,if_pos h2]
    rw[e]
    refine aa<|rn 1 [0,1,6,23] rfl<|ai (a8 (cs:= [_]) ag aF aV rfl rfl rfl rfl rfl) rfl rfl (fun g2 _=>?_)
    refine ai (dM (α:=Int) (bytes:=8) 2 [] rfl ag (bN cJ) rfl (fH fc fc) (eI (show a5 _ from by decide)) (by omega) (by omega) rfl rfl rfl) rfl rfl (fun⟨A5,c5⟩ _=>?_)
    try dsimp only
    refine rn 1 [0,1,5,6] rfl<|bu (aH (aH ?_))
    refine be (A5,c5) (trivial) ⟨rfl,rfl,rfl,rfl,trivial⟩ me
   refine ac<|aa<|rn 2 [0,1,5,6,15,26] rfl<|ae<|ar rfl (fun h3=>?_) (fun h3=>?_)
   ·have e:la x (s.getD i 0)= [3]:=by unfold la;rw[if_neg h1,if_neg h2,if_pos h3]
    rw[e]
    refine aa<|rn 1 [0,1,6,28] rfl<|ai (a8 (cs:= [_]) ag aF aV rfl rfl rfl rfl rfl) rfl rfl (fun g3 _=>?_)
    refine ai (dM (α:=Int) (bytes:=8) 3 [] rfl ag (bN cJ) rfl (fH fc fc) (eI (show a5 _ from by decide)) (by omega) (by omega) rfl rfl rfl) rfl rfl (fun⟨A5,c5⟩ _=>?_)
    try dsimp only
    refine rn 1 [0,1,5,6] rfl<|bu (aH (aH ?_))
    refine be (A5,c5) (trivial) ⟨rfl,rfl,rfl,rfl,trivial⟩ me
   refine ac<|aa<|rn 2 [0,1,5,6,31] rfl<|ae<|ar rfl (fun h4=>?_) (fun h4=>?_)
   ·have e:la x (s.getD i 0)= [x]:=by unfold la;rw[if_neg h1,if_neg h2,if_neg h3,if_pos h4]
    rw[e]
    refine aa<|rn 2 [0,1,6,33,34] rfl<|ai (a8 (cs:= [_]) ag aF aV rfl rfl rfl rfl rfl) rfl rfl (fun g4 _=>?_)
    refine ai (dM (α:=Int) (bytes:=8) x [] rfl ag (bN cJ) rfl (fH fc fc) (eI hx) (by omega) (by omega) rfl rfl rfl) rfl rfl (fun⟨A5,c5⟩ _=>?_)
    try dsimp only
    refine rn 1 [0,1,5,6] rfl<|bu (aH (aH ?_))
    refine be (A5,c5) (trivial) ⟨rfl,rfl,rfl,rfl,trivial⟩ me
   have e:la x (s.getD i 0)= []:=by unfold la;rw[if_neg h1,if_neg h2,if_neg h3,if_neg h4]
   rw[e,List.append_nil]
   refine aq (aH (aH ?_))
   refine be (Ao,co) (trivial) ⟨rfl,rfl,rfl,rfl,trivial⟩ me
  rintro⟨A5,c5⟩ _
  refine aa<|rn 1 [0,1,5,11] rfl<|af (a6 rfl rfl rfl (by omega)) rfl rfl<|rn 1 [0,1,5,6] rfl<|aX (i+1,A5,c5) (hil) (by show _ - _<_ - _;omega) ⟨rfl,rfl,rfl,rfl,trivial⟩ me
 obtain rfl:i=s.length:=by omega
 refine bz (aG (aG (bO (ak ?_))))
 refine ac<|aa<|rn 2 [4] rfl<|ae<|ap<|au Tryz.results144 (am rfl) ?_
 intro w hw
 rw[List.take_length] at hw⊢
 exact⟨_,rfl,i6 hw⟩
end
section
theorem my {c:Int} (h8:¬c=8) (h9:¬c=9) (x:Int):gN x (cH c).1=(bY c).1∧gN x (cH c).2=(bY c).2:=by
 unfold cH bY
 by_cases h1:c=1∨c=21
 ·rw[if_pos h1,if_pos h1];exact⟨rfl,rfl⟩
 rw[if_neg h1,if_neg h1]
 by_cases h2:c=5∨c=6∨c=7
 ·rw[if_pos h2,if_pos h2];exact⟨rfl,rfl⟩
 rw[if_neg h2,if_neg h2,if_neg h8,if_neg h9]
 by_cases h3:c=11∨c=20
 ·rw[if_pos h3,if_pos h3];exact⟨rfl,rfl⟩
 rw[if_neg h3,if_neg h3]
 by_cases h4:c=14
 ·rw[if_pos h4,if_pos h4];exact⟨rfl,rfl⟩
 rw[if_neg h4,if_neg h4]
 by_cases h5:c=15
 ·rw[if_pos h5,if_pos h5];exact⟨rfl,rfl⟩
 rw[if_neg h5,if_neg h5]
 by_cases h6:c=16
 ·rw[if_pos h6,if_pos h6];exact⟨rfl,rfl⟩
 rw[if_neg h6,if_neg h6]
 by_cases h7:c=17∨c=19
 ·rw[if_pos h7,if_pos h7];exact⟨rfl,rfl⟩
 rw[if_neg h7,if_neg h7]
 by_cases h10:c=18
 ·rw[if_pos h10,if_pos h10];exact⟨rfl,rfl⟩
 rw[if_neg h10,if_neg h10]
 exact⟨rfl,rfl⟩
theorem sX (c:Int):(cH c).1.length≤3∧(cH c).2.length≤3:=by
 unfold cH
 repeat (first | split | decide)
def fI (f:aA) (o:bT):Int:=if o.c=8∨o.c=9 then f.locals.getD o.a.toNat 0 else 0
theorem uq {fs:List aA} {f:aA} {o:bT} {s:List Int} (h2:¬o.c=2) (h3:¬o.c=3) (h4:¬o.c=4) (h12:¬o.c=12) (h13:¬o.c=13):tl fs f o s=some (gN (fI f o) (cH o.c).1,gN (fI f o) (cH o.c).2):=by
 unfold tl fI
 rw[if_neg h2,if_neg h3,if_neg h4,if_neg h12,if_neg h13]
 by_cases h8:o.c=8
 ·rw[if_pos h8,if_pos (.inl h8),h8];rfl
 rw[if_neg h8]
 by_cases h9:o.c=9
 ·rw[if_pos h9,if_pos (.inr h9),h9];rfl
 rw[if_neg h9,if_neg (by omega),(my h8 h9 0).1,(my h8 h9 0).2]
theorem mE {fs:List aA} {f:aA} {o:bT} {s:List Int} (h:tl fs f o s=none):eE fs f o s=none:=by rw[tK,h]
theorem nW {fs:List aA} {f:aA} {o:bT} {s T V:List Int} (h:tl fs f o s=some (T,V)) (hn:¬(T.length≤s.length∧(s.take (s.length - T.length)++V).length≤8∧Le (s.drop (s.length - T.length)) T)):eE fs f o s=none:=by
 cases e:eE fs f o s with
 | none=>rfl
 | some v=>
  obtain⟨T',V',h1,h2,h3,h4,_⟩:=fQ.1 e
  rw[h] at h1
  cases h1
  exact absurd ⟨h2,h3,h4⟩ hn
set_option maxRecDepth 100000 in
set_option maxHeartbeats 4000000 in
theorem xZ (fs:List aA) (f:aA) (o:bT) (s:List Int) (Ap A1 A2 As:Option Addr) (cp c1 c2 cs:Nat) (w:World) (hp:Sl w (.slice Ap fs.length cp) fs) (hlo:Sl w (.slice A1 f.locals.length c1) f.locals) (hs:Sl w (.slice As s.length cs) s)
  (hok:vB fs f o) (hres:∀k,k<fs.length→0≤(ax fs k).result) (hrf:0≤f.result) (hl:s.length≤1000) :
  Calls Tryz.prog 108 #[.agg #[.slice Ap fs.length cp],.agg #[.int .i64 f.params,.slice A1 f.locals.length c1,.int .i64 f.result,.slice A2 f.code.length c2],.agg #[.int .i64 o.c,.int .i64 o.a],.slice As s.length cs] w fun e w'=>
   ∃g:(Option Addr×Nat)×List Int,(∀v,eE fs f o s=some v→g.2=v)∧e= .returned (.tuple #[.slice g.1.1 g.2.length g.1.2,.bool (eE fs f o s).isSome])∧Cw w.heap.size w [an (.slice g.1.1 g.2.length g.1.2) g.2] w':=by
 have hcapS:=bM.cap hs
 refine enter Tryz.func108 rfl Tryz.ntmps108 rfl ?_
 refine ac<|aa<|ai (bH rfl rfl rfl) rfl rfl (fun g1 _=>?_)
 refine ai (bH rfl rfl rfl) rfl rfl (fun g2 _=>?_)
 refine ai (bH rfl rfl rfl) rfl rfl (fun g3 _=>?_)
 refine rn 2 [3,4,5,6] rfl<|ae<|ac<|aa<|rn 1 [3,4,5,6,19] rfl<|af (aL ag rfl rfl) rfl rfl<|rn 1 [3,4,5,6,10] rfl<|ae<|ac<|aa<|rn 2 [3,4,5,6,10,11,12] rfl<|ae<|eo (fun g:List Int×List Int×(Option Addr×Nat)×(Option Addr×Nat)=>tl fs f o s=some (g.1,g.2.1)∧(g.1.length≤1000∧g.2.1.length≤1000)) (fun g=> [(3,.slice As s.length cs),(10,.int .i64 (s.length:Int)),(11,.slice g.2.2.1.1 g.1.length g.2.2.1.2),(12,.slice g.2.2.2.1 g.2.1.length g.2.2.2.2)]) (fun g=> [nk w.heap.size w (.slice g.2.2.1.1 g.1.length g.2.2.1.2) g.1,nk w.heap.size w (.slice g.2.2.2.1 g.2.1.length g.2.2.2.2) g.2.1]) ?_ ?_
 ·have hpar:=hok.par
  refine ac<|aa<|rn 1 [3,4,5,6,10,11,12,21] rfl<|af (aj fc aw rfl rfl (by rfl)) rfl rfl ?_
  refine ae<|aE<|ac<|ac<|aa<|rn 2 [3,4,5,6,10,11,12,22,49] rfl<|ae<|gR (fun _:Unit=>True) (fun _=> [(3,.slice As s.length cs),(4,.pointer (some ⟨g1,0,none⟩)),(5,.pointer (some ⟨g2,0,none⟩)),(6,.pointer (some ⟨g3,0,none⟩)),(10,.int .i64 (s.length:Int)),(11,.slice none 0 0),(12,.slice none 0 0),(22,.int .i64 o.c),(49,.bool (decide (o.c=2∨o.c=3)))]) (fun _=> [az g1 [.slice Ap fs.length cp] 24,az g2 [.int .i64 f.params,.slice A1 f.locals.length c1,.int .i64 f.result,.slice A2 f.code.length c2] 110,az g3 [.int .i64 o.c,.int .i64 o.a] 49]) ?_ ?_
  ·refine ar rfl (fun k2=>?_) (fun k2=>?_)
   ·rw[decide_eq_true (.inl k2)]
    refine cS (t:=49) (v':= .bool true) rfl (by rw[decide_eq_true k2]) ?_
    refine aq<|be () (trivial) ⟨rfl,rfl,rfl,rfl,rfl,rfl,rfl,rfl,rfl,trivial⟩ me
   rw[show decide (o.c=2∨o.c=3)=decide (o.c=3) from decide_eq_decide.2 ⟨fun h=>h.resolve_left k2,.inr⟩]
   refine aa<|rn 2 [3,4,5,6,10,11,12,22,49] rfl<|iq () (trivial) ⟨rfl,rfl,rfl,rfl,rfl,rfl,rfl,rfl,rfl,trivial⟩ me
  rintro _ _
  refine ar rfl (fun k23=>?_) (fun k23=>?_)
  ·refine ac<|ac<|aa<|rn 2 [3,6,10,12,53] rfl<|ae<|ar rfl (fun hn=>?_) (fun hn=>?_)
   ·have hno:=mE (show tl fs f o s=none from by
     unfold tl
     rcases k23 with k | k
     ·rw[if_pos k,if_pos (by omega)]
     rw[if_neg (by omega),if_pos k,if_pos (by omega)])
    refine ac<|aa<|rn 2 [8,9] rfl<|ae<|ap (ah (aC (ah ?_)))
    refine bC k0 (am rfl) (am rfl) ?_
    intro w hw
    exact⟨((none,0),[]),fun v hv=>(by rw[hno] at hv;cases hv),by rw[hno];rfl,Cw.nilO Int (hw.msub (T:= []) ms)⟩
   have hcut:=bM.cut hs (s.length - 1) s.length (by omega) (Nat.le_refl _)
   have hdl:(s.drop (s.length - 1)).length=s.length - (s.length - 1):=List.length_drop
   rw[List.take_of_length_le (by omega),←hdl] at hcut
   refine aq (ak ?_)
   refine ac<|aa<|rn 2 [3,6,10,12,54,55] rfl<|af (cn rfl rfl rfl (by omega)) rfl rfl<|bU (t:=56) (v':= .int .i64 ((s.length - 1:Nat):Int)) rfl (by congr 1;omega) ?_
   refine af (kL (lo:=s.length - 1) (hi:=s.length) ag aF ⟨by omega,by omega⟩ rfl rfl rfl rfl) rfl rfl ?_
   refine rn 1 [3,6,10,11,12] rfl<|ae<|cS (t:=11) (v':= .slice (gv As (s.length - 1) cs 1) (s.drop (s.length - 1)).length (cs - (s.length - 1))) rfl (by rw[hdl]) ?_
   refine ac<|aa<|rn 1 [3,10,11,12,58] rfl<|af (aj fc aw rfl rfl (by rfl)) rfl rfl ?_
   refine rn 1 [3,10,11,12,60] rfl<|ae<|ar rfl (fun h3=>?_) (fun h3=>?_)
   ·have htl:tl fs f o s=some (s.drop (s.length - 1),[s.getD (s.length - 1) 0,s.getD (s.length - 1) 0]):=by unfold tl;rw[if_neg (by omega),if_pos h3,if_neg (by omega)]
    have i1:=gy hs (k:=s.length - 1) (by omega)
    have ez:((s.length:Int) - 1).toNat=s.length - 1:=by omega
    refine bV (.still 0 (.still 1 (.still 2 (.still 3 (.still 4 (.still 5 (.still 6 (.still 7 (.still 8 (.still 9 (.pick 10 (.calm 11 .done) .stop))))))))))) [10,11] rfl (by kernel_rfl) (by kernel_rfl) ?_
    refine aS ha 2 [3,10,11,12,61,62] rfl<|av rfl (cn rfl rfl rfl (by omega)) rfl rfl ha ?_
    refine av rfl (eJ ag aF (.ro hs) (by omega) rfl rfl rfl) rfl rfl ha ?_
    refine av rfl (aZ (SF.int (.ro hs) (by omega)) rfl rfl aw) rfl rfl ha ?_
    refine aS ha 2 [3,10,11,12,65,66,67] rfl<|av rfl (cn rfl rfl rfl (by omega)) rfl rfl ha ?_
    refine av rfl (eJ ag aF (.ro hs) (by omega) rfl rfl rfl) rfl rfl ha ?_
    refine av rfl (aZ (SF.int (.ro hs) (by omega)) rfl rfl aw) rfl rfl ha ?_
    refine aB rfl (a8 (cs:= [_,_]) ag aF aV rfl rfl rfl rfl rfl) rfl rfl (.inl rfl) (fun g4 _=>?_) ay
    refine dY 1 [3,10,11,12] rfl<|cD (aH ?_)
    rw[ez]
    refine be (s.drop (s.length - 1),[s.getD (s.length - 1) 0,s.getD (s.length - 1) 0],(gv As (s.length - 1) cs 1,cs - (s.length - 1)),(some ⟨g4,0,none⟩,2)) (⟨htl,by show (s.drop (s.length - 1)).length≤1000;omega,by show 2≤1000;decide⟩) ⟨rfl,rfl,rfl,rfl,trivial⟩ (fun w h=>(kl hcut (lI (bW (α:=Int) (m:=2) [s.getD (s.length - 1) 0,s.getD (s.length - 1) 0] rfl (kA i1 i1) rfl (by decide) (h.msub (T:= [az g4 _ _]) ms)))).msub ms)
   have htl:tl fs f o s=some (s.drop (s.length - 1),[]):=by unfold tl;rw[if_pos (by omega),if_neg (by omega)]
   refine aq (aH ?_)
   refine be (s.drop (s.length - 1),[],(gv As (s.length - 1) cs 1,cs - (s.length - 1)),(none,0)) (⟨htl,by show (s.drop (s.length - 1)).length≤1000;omega,by show 0≤1000;decide⟩) ⟨rfl,rfl,rfl,rfl,trivial⟩ (fun w h=>(kl hcut (kl (bM.nil_ (α:=Int)) h)).msub ms)
  have n2:¬o.c=2:=fun e=>k23 (.inl e)
  have n3:¬o.c=3:=fun e=>k23 (.inr e)
  refine ac<|aa<|rn 2 [3,4,5,6,10,11,12,22,72] rfl<|ae<|ar rfl (fun h4=>?_) (fun h4=>?_)
  ·refine ac<|ac<|aa<|rn 2 [3,10,75] rfl<|ae<|ar rfl (fun hn=>?_) (fun hn=>?_)
   ·have hno:=mE (show tl fs f o s=none from by unfold tl;rw[if_neg n2,if_neg n3,if_pos h4,if_pos (by omega)])
    refine ac<|aa<|rn 2 [8,9] rfl<|ae<|ap (ah (aC (ah ?_)))
    refine bC k0 (am rfl) (am rfl) ?_
    intro w hw
    exact⟨((none,0),[]),fun v hv=>(by rw[hno] at hv;cases hv),by rw[hno];rfl,Cw.nilO Int (hw.msub (T:= []) ms)⟩
   have htl:tl fs f o s=some (s.drop (s.length - 2),[s.getD (s.length - 1) 0,s.getD (s.length - 2) 0]):=by unfold tl;rw[if_neg n2,if_neg n3,if_pos h4,if_neg (by omega)]
   have hcut:=bM.cut hs (s.length - 2) s.length (by omega) (Nat.le_refl _)
   have hdl:(s.drop (s.length - 2)).length=s.length - (s.length - 2):=List.length_drop
   rw[List.take_of_length_le (by omega),←hdl] at hcut
   have i1:=gy hs (k:=s.length - 1) (by omega)
   have i2:=gy hs (k:=s.length - 2) (by omega)
   have ez:((s.length:Int) - 1).toNat=s.length - 1:=by omega
   have ez2:((s.length:Int) - 2).toNat=s.length - 2:=by omega
   refine aq (ak ?_)
   refine bV (.still 0 (.still 1 (.still 2 (.still 3 (.still 4 (.still 5 (.still 6 (.still 7 (.still 8 (.still 9 (.still 10 (.still 11 (.still 12 (.still 13 (.still 15 (.pick 14 (.still 16 .done) .stop)))))))))))))))) [] rfl (by kernel_rfl) (by kernel_rfl) ?_
   refine aS ha 2 [3,10,76,77] rfl<|av rfl (cn rfl rfl rfl (by omega)) rfl rfl ha ?_
   refine eH (t:=78) (v':= .int .i64 ((s.length - 2:Nat):Int)) rfl (by congr 1;omega) ?_
   refine av rfl (kL (lo:=s.length - 2) (hi:=s.length) ag aF ⟨by omega,by omega⟩ rfl rfl rfl rfl) rfl rfl ha ?_
   refine aS ha 2 [3,10,79,80,81] rfl<|av rfl (cn rfl rfl rfl (by omega)) rfl rfl ha ?_
   refine av rfl (eJ ag aF (.ro hs) (by omega) rfl rfl rfl) rfl rfl ha ?_
   refine av rfl (aZ (SF.int (.ro hs) (by omega)) rfl rfl aw) rfl rfl ha ?_
   refine aS ha 2 [3,10,79,84,85,86] rfl<|av rfl (cn rfl rfl rfl (by omega)) rfl rfl ha ?_
   refine av rfl (eJ ag aF (.ro hs) (by omega) rfl rfl rfl) rfl rfl ha ?_
   refine av rfl (aZ (SF.int (.ro hs) (by omega)) rfl rfl aw) rfl rfl ha ?_
   refine aS ha 1 [3,10,11,84,89] rfl<|aB rfl (a8 (cs:= [_,_]) ag aF aV rfl rfl rfl rfl rfl) rfl rfl (.inr fun _=>ha) (fun g5 _=>?_) ay
   refine aS ha 1 [3,10,11,12] rfl<|cD (aH ?_)
   rw[ez,ez2,←hdl]
   refine be (s.drop (s.length - 2),[s.getD (s.length - 1) 0,s.getD (s.length - 2) 0],(gv As (s.length - 2) cs 1,cs - (s.length - 2)),(some ⟨g5,0,none⟩,2)) (⟨htl,by show (s.drop (s.length - 2)).length≤1000;omega,by show 2≤1000;decide⟩) ⟨rfl,rfl,rfl,rfl,trivial⟩ (fun w h=>(kl hcut (lI (bW (α:=Int) (m:=2) [s.getD (s.length - 1) 0,s.getD (s.length - 2) 0] rfl (kA i1 i2) rfl (by decide) (h.msub (T:= [az g5 _ _]) ms)))).msub ms)
  refine ac<|aa<|rn 2 [3,4,5,6,10,11,12,22,91] rfl<|ae<|ar rfl (fun h12=>?_) (fun h12=>?_)
  ·have ⟨ha0,hal⟩:=hok.call h12
   have hkl:o.a.toNat<fs.length:=by omega
   obtain⟨B1,d1,B2,d2,hBl,hBc,hBi,hcell⟩:=bM.fn hp hkl
   have hpk:=hpar o.a.toNat hkl
   have hrk:=hres o.a.toNat hkl
   have htl:tl fs f o s=some (dK (ax fs o.a.toNat),bE (ax fs o.a.toNat)):=by unfold tl;rw[if_neg n2,if_neg n3,if_neg h4,if_neg (by omega),if_neg (by omega),if_pos h12]
   have hcl:(dK (ax fs o.a.toNat)).length=(ax fs o.a.toNat).params.toNat:=by unfold dK;rw[List.length_take];omega
   have hkp:(ax fs o.a.toNat).params.toNat≤(ax fs o.a.toNat).locals.length:=by omega
   have hto:Sl w (.slice B1 (dK (ax fs o.a.toNat)).length d1) (dK (ax fs o.a.toNat)):=by
    rw[hcl]
    exact bM.to hBl hkp
   have hBcap:=bM.cap hBl
   refine ac<|aa<|rn 1 [3,6,10,12,93] rfl<|af (aj fc cF rfl rfl (by rfl)) rfl rfl ?_
   refine rn 1 [3,10,12,94,95] rfl<|af (aj fc aw rfl rfl (by rfl)) rfl rfl ?_
   refine af (eJ bA bq (.ro hp) (by omega) rfl rfl rfl) rfl rfl<|af (cL (hcell _) rfl rfl ei bq) rfl rfl<|ai (a9 fe rfl rfl) rfl rfl (fun g6 _=>?_)
   refine ai (aM _ fc bq rfl rfl rfl rfl rfl (by rfl) rfl (by rfl)) rfl rfl (fun _ _=>?_)
   refine ae<|ac<|aa<|rn 1 [3,10,12,13,99] rfl<|af (aj fc aW rfl rfl (by rfl)) rfl rfl ?_
   refine rn 1 [3,10,12,13,100,101] rfl<|af (aj fc aw rfl rfl (by rfl)) rfl rfl ?_
   refine bU (t:=102) (v':= .int .i64 ((((ax fs o.a.toNat).params.toNat:Nat)):Int)) rfl (by congr 1;omega) ?_
   refine af (jR (k:=(ax fs o.a.toNat).params.toNat) ag aF (Nat.le_trans hkp hBcap) rfl rfl rfl) rfl rfl<|rn 1 [3,10,11,12,13] rfl<|ae<|ac<|aa<|rn 1 [3,10,11,12,13,104] rfl<|af (aj fc aw rfl rfl (by rfl)) rfl rfl ?_
   refine rn 1 [3,10,11,12,13,106] rfl<|ae<|cS (t:=11) (v':= .slice B1 (dK (ax fs o.a.toNat)).length d1) rfl (by rw[hcl]) ?_
   refine ar rfl (fun hr0=>?_) (fun hr0=>?_)
   ·have er:bE (ax fs o.a.toNat)= [(ax fs o.a.toNat).result]:=by unfold bE;rw[if_neg (by omega)]
    refine aa<|rn 1 [3,10,11,107] rfl<|af (aj fc aw rfl rfl (by rfl)) rfl rfl ?_
    refine ai (a8 (cs:= [_]) ag aF aV rfl rfl rfl rfl rfl) rfl rfl (fun g7 _=>?_)
    refine rn 1 [3,10,11,12] rfl<|bu (aH ?_)
    refine be (dK (ax fs o.a.toNat),[(ax fs o.a.toNat).result],(B1,d1),(some ⟨g7,0,none⟩,1)) (⟨er▸htl,by show (dK (ax fs o.a.toNat)).length≤1000;omega,by show 1≤1000;decide⟩) ⟨rfl,rfl,rfl,rfl,trivial⟩ (fun w h=>(kl hto (lI (bW (α:=Int) (m:=1) [(ax fs o.a.toNat).result] rfl (is hBi.2) rfl (by decide) (h.msub (T:= [az g7 _ _]) ms)))).msub ms)
   have er:bE (ax fs o.a.toNat)= []:=by unfold bE;rw[if_pos (by omega)]
   refine aq (aH ?_)
   refine be (dK (ax fs o.a.toNat),[],(B1,d1),(none,0)) (⟨er▸htl,by show (dK (ax fs o.a.toNat)).length≤1000;omega,by show 0≤1000;decide⟩) ⟨rfl,rfl,rfl,rfl,trivial⟩ (fun w h=>(kl hto (kl (bM.nil_ (α:=Int)) h)).msub ms)
  refine ac<|aa<|rn 2 [3,5,6,10,11,12,110] rfl<|ae<|ar rfl (fun h13=>?_) (fun h13=>?_)
  ·refine ac<|ac<|aa<|rn 1 [3,5,10,11,12,112] rfl<|af (aj fc aw rfl rfl (by rfl)) rfl rfl ?_
   refine rn 1 [3,5,10,11,12,114] rfl<|ae<|gR (fun _:Option Addr×Nat=>True) (fun g=> [(3,.slice As s.length cs),(10,.int .i64 (s.length:Int)),(11,.slice g.1 (bE f).length g.2),(12,.slice none 0 0)]) (fun g=> [nk w.heap.size w (.slice g.1 (bE f).length g.2) (bE f)]) ?_ ?_
   ·refine ar rfl (fun hr0=>?_) (fun hr0=>?_)
    ·have er:bE f= [f.result]:=by unfold bE;rw[if_neg (by omega)]
     rw[er]
     refine aa<|rn 1 [3,10,12,115] rfl<|af (aj fc aw rfl rfl (by rfl)) rfl rfl ?_
     refine ai (a8 (cs:= [_]) ag aF aV rfl rfl rfl rfl rfl) rfl rfl (fun g8 _=>?_)
     refine rn 1 [3,10,11,12] rfl<|iq (some ⟨g8,0,none⟩,1) (trivial) ⟨rfl,rfl,rfl,rfl,trivial⟩ (fun w h=>(lI (bW (α:=Int) (m:=1) [f.result] rfl (is hok.res) rfl (by decide) (h.msub (T:= [az g8 _ _]) ms))).msub ms)
    have er:bE f= []:=by unfold bE;rw[if_pos (by omega)]
    rw[er]
    refine aq<|be (none,0) (trivial) ⟨rfl,rfl,rfl,rfl,trivial⟩ (fun w h=>(kl (bM.nil_ (α:=Int)) h).msub ms)
   rintro⟨A4,c4⟩ _
   try dsimp only
   have hrl:(bE f).length≤1:=by unfold bE;split <;> simp
   refine ac<|aa<|rn 2 [3,10,11,12,118,119] rfl<|af (aL ag rfl rfl) rfl rfl<|rn 1 [3,10,11,12,121] rfl<|ae<|bX rfl (fun hne=>?_) (fun hne=>?_)
   ·have hno:=mE (show tl fs f o s=none from by unfold tl;rw[if_neg n2,if_neg n3,if_neg h4,if_neg (by omega),if_neg (by omega),if_neg h12,if_pos h13,if_pos (by omega)])
    refine ac<|aa<|rn 2 [8,9] rfl<|ae<|ap (aC (ah ?_))
    refine bC k0 (am rfl) (am rfl) ?_
    intro w hw
    exact⟨((none,0),[]),fun v hv=>(by rw[hno] at hv;cases hv),by rw[hno];rfl,Cw.nilO Int (hw.msub (T:= []) ms)⟩
   have htl:tl fs f o s=some (bE f,[]):=by unfold tl;rw[if_neg n2,if_neg n3,if_neg h4,if_neg (by omega),if_neg (by omega),if_neg h12,if_pos h13,if_neg (by omega)]
   refine aq (aH ?_)
   refine be (bE f,[],(A4,c4),(none,0)) (⟨htl,by show (bE f).length≤1000;omega,by show 0≤1000;decide⟩) ⟨rfl,rfl,rfl,rfl,trivial⟩ (fun w h=>(kl (bM.nil_ (α:=Int)) h).msub ms)
  have htl:=uq (fs:=fs) (f:=f) (o:=o) (s:=s) n2 n3 h4 h12 h13
  have hll:=sX o.c
  have h1l:=nn (fI f o) (cH o.c).1
  have h2l:=nn (fI f o) (cH o.c).2
  have hxi:a5 (fI f o):=by
   unfold fI
   split
   ·rename_i k
    have:=hok.loc k
    exact gy hlo (k:=o.a.toNat) (by omega)
   decide
  refine ac<|aa<|rn 1 [3,5,6,10,14] rfl<|ae<|eo (fun _:Unit=>True) (fun _=> [(3,.slice As s.length cs),(6,.pointer (some ⟨g3,0,none⟩)),(10,.int .i64 (s.length:Int)),(14,.int .i64 (fI f o))]) (fun _=> [az g1 [.slice Ap fs.length cp] 24,az g2 [.int .i64 f.params,.slice A1 f.locals.length c1,.int .i64 f.result,.slice A2 f.code.length c2] 110,az g3 [.int .i64 o.c,.int .i64 o.a] 49]) ?_ ?_
  ·refine ac<|aa<|rn 1 [3,5,6,10,14,23] rfl<|af (aj fc aw rfl rfl (by rfl)) rfl rfl ?_
   refine rn 2 [3,5,6,10,14,26] rfl<|bL (t:=26) rfl (fun h8=>?_) (fun h8=>?_)
   ·have h8:o.c=8:=of_decide_eq_true h8
    have el:fI f o=f.locals.getD o.a.toNat 0:=by unfold fI;rw[if_pos (.inl h8)]
    have hlk:=hok.loc (.inl h8)
    rw[el]
    refine rn 4 [3,5,6,10,14,30] rfl<|ae<|br rfl<|aa<|rn 1 [3,6,10,31] rfl<|af (aj fc aW rfl rfl (by rfl)) rfl rfl ?_
    refine rn 1 [3,6,10,32,33] rfl<|af (aj fc aw rfl rfl (by rfl)) rfl rfl ?_
    refine af (eJ ag aF (.ro hlo) (by omega) rfl rfl rfl) rfl rfl<|af (aZ (SF.int (.ro hlo) (by omega)) rfl rfl aw) rfl rfl<|rn 1 [3,6,10,14] rfl<|iq () (trivial) ⟨rfl,rfl,rfl,rfl,trivial⟩ me
   have h8:¬o.c=8:=of_decide_eq_false h8
   refine rn 1 [3,5,6,10,14,26,27] rfl<|af (aj fc aw rfl rfl (by rfl)) rfl rfl ?_
   refine rn 2 [3,5,6,10,14,30] rfl<|ae<|ar rfl (fun h9=>?_) (fun h9=>?_)
   ·have el:fI f o=f.locals.getD o.a.toNat 0:=by unfold fI;rw[if_pos (.inr h9)]
    have hlk:=hok.loc (.inr h9)
    rw[el]
    refine aa<|rn 1 [3,6,10,31] rfl<|af (aj fc aW rfl rfl (by rfl)) rfl rfl ?_
    refine rn 1 [3,6,10,32,33] rfl<|af (aj fc aw rfl rfl (by rfl)) rfl rfl ?_
    refine af (eJ ag aF (.ro hlo) (by omega) rfl rfl rfl) rfl rfl<|af (aZ (SF.int (.ro hlo) (by omega)) rfl rfl aw) rfl rfl<|rn 1 [3,6,10,14] rfl<|iq () (trivial) ⟨rfl,rfl,rfl,rfl,trivial⟩ me
   have el:fI f o=0:=by unfold fI;rw[if_neg (fun h=>h.elim h8 h9)]
   rw[el]
   refine aq<|be () (trivial) ⟨rfl,rfl,rfl,rfl,trivial⟩ me
  rintro _ _
  refine ac<|aa<|rn 1 [3,10,14,38] rfl<|af (aj fc aw rfl rfl (by rfl)) rfl rfl ?_
  refine ai (bB rfl rfl rfl Tryz.call143 (fun w hw=>uw o.c w)) rfl rfl (fun _ _=>?_)
  refine rn 5 [3,10,14,15,16] rfl<|ae<|aa<|rn 2 [3,10,14,16,43,44] rfl<|ai (d9 rfl rfl rfl Tryz.call144 (fun w hw=>oI (cH o.c).1 (fI f o) hxi w (by omega))) rfl rfl (fun⟨A7,c7⟩ _=>?_)
  try dsimp only
  refine rn 2 [3,10,45,46,47] rfl<|ai (d9 rfl rfl rfl Tryz.call144 (fun w hw=>oI (cH o.c).2 (fI f o) hxi w (by omega))) rfl rfl (fun⟨A8,c8⟩ _=>?_)
  try dsimp only
  refine rn 2 [3,10,11,12] rfl<|bu (aH ?_)
  refine be (gN (fI f o) (cH o.c).1,gN (fI f o) (cH o.c).2,(A7,c7),(A8,c8)) (⟨htl,by show (gN (fI f o) (cH o.c).1).length≤1000;omega,by show (gN (fI f o) (cH o.c).2).length≤1000;omega⟩) ⟨rfl,rfl,rfl,rfl,trivial⟩ (fun w' h=>(lI ((lI h).msub (T:= [an (.slice A7 (gN (fI f o) (cH o.c).1).length c7) (gN (fI f o) (cH o.c).1),nk w.heap.size w (.slice A8 (gN (fI f o) (cH o.c).2).length c8) (gN (fI f o) (cH o.c).2)]) ms)).msub ms)
 rintro⟨T,V,⟨At,ct⟩,Av,cv⟩ hg
 obtain⟨htl,hT,hV⟩:tl fs f o s=some (T,V)∧(T.length≤1000∧V.length≤1000):=hg
 try dsimp only
 refine ac<|ac<|aa<|rn 2 [3,10,11,12,122,123] rfl<|af (aL ag rfl rfl) rfl rfl<|rn 1 [3,10,11,12,125] rfl<|ae<|ar rfl (fun h1=>?_) (fun h1=>?_)
 ·have hno:=nW htl (fun h=>by have:=h.1;omega)
  refine ac<|aa<|rn 2 [8,9] rfl<|ae<|ap (ah ?_)
  refine bC k0 (am rfl) (am rfl) ?_
  intro w hw
  exact⟨((none,0),[]),fun v hv=>(by rw[hno] at hv;cases hv),by rw[hno];rfl,Cw.nilO Int (hw.msub (T:= []) ms)⟩
 have hTs:T.length≤s.length:=by omega
 refine aq (ak ?_)
 refine ac<|ac<|aa<|rn 1 [3,10,11,12,17] rfl<|ae<|gR (fun _:Unit=>Le (s.drop (s.length - T.length)) T) (fun _=> [(3,.slice As s.length cs),(10,.int .i64 (s.length:Int)),(11,.slice At T.length ct),(12,.slice Av V.length cv)]) (fun _=> [nk w.heap.size w (.slice At T.length ct) T,nk w.heap.size w (.slice Av V.length cv) V]) ?_ ?_
 ·refine aE (bD (fun i:Nat=>i≤T.length∧∀j,j<i→bS (s.getD (s.length - T.length+j) 0) (T.getD j 0)=true) (fun i=>T.length - i) (fun i=> [(3,.slice As s.length cs),(10,.int .i64 (s.length:Int)),(11,.slice At T.length ct),(12,.slice Av V.length cv),(17,.int .i64 (i:Int))]) (fun _=> [nk w.heap.size w (.slice At T.length ct) T,nk w.heap.size w (.slice Av V.length cv) V]) 0 (⟨Nat.zero_le _,by omega⟩) ⟨rfl,rfl,rfl,rfl,rfl,trivial⟩ me ?_)
  rintro i hi'
  obtain⟨hi,hall⟩:i≤T.length∧∀j,j<i→bS (s.getD (s.length - T.length+j) 0) (T.getD j 0)=true:=hi'
  refine ac<|ac<|aa<|rn 2 [3,10,11,12,17,126,127] rfl<|af (aL ag rfl rfl) rfl rfl<|rn 1 [3,10,11,12,17,129] rfl<|ae<|ar rfl (fun hlt=>?_) (fun hlt=>?_)
  ·have hil:i<T.length:=by omega
   refine aq (ak ?_)
   refine ac<|aE<|ac<|bV (.still 0 (.still 1 (.still 2 (.still 3 (.still 4 (.still 5 (.still 6 (.still 7 (.still 8 (.still 9 (.still 10 (.still 11 (.still 12 (.pick 13 (.still 14 .done) .stop)))))))))))))) [] rfl (by kernel_rfl) (by kernel_rfl) ?_
   refine aS ha 3 [3,10,11,12,17,132,133,134] rfl<|av rfl (aL ag rfl rfl) rfl rfl ha ?_
   refine av rfl (cn rfl rfl rfl (by omega)) rfl rfl ha ?_
   refine aS ha 1 [3,10,11,12,17,132,136,137] rfl<|av rfl (a6 rfl rfl rfl (by omega)) rfl rfl ha ?_
   refine av rfl (eJ ag aF (.ro hs) (by omega) rfl rfl rfl) rfl rfl ha ?_
   refine av rfl (aZ (SF.int (.ro hs) (by omega)) rfl rfl aw) rfl rfl ha ?_
   refine aS ha 2 [3,10,11,12,17,140,141,142] rfl<|av rfl (aQ ag aF (SF.rb rfl fc) (by omega) rfl rfl rfl) rfl rfl ha ?_
   refine av rfl (aZ (SF.int (SF.rb rfl fc) (by omega)) rfl rfl aw) rfl rfl ha ?_
   refine eH (t:=140) (v':= .int .i64 (s.getD (s.length - T.length+i) 0)) rfl (by rw[show ((s.length:Int) - (T.length:Int)+(i:Int)).toNat=s.length - T.length+i from by omega]) ?_
   refine aB rfl (bB rfl rfl rfl DU (fun w hw=>lq (s.getD (s.length - T.length+i) 0) (T.getD i 0) w)) rfl rfl (.inr fun _=>ha) (fun _ _=>?_) ay
   refine aS ha 1 [3,10,11,12,17,146] rfl<|cu<|b9 rfl (fun hb=>?_) (fun hb=>?_)
   ·have hb:bS (s.getD (s.length - T.length+i) 0) (T.getD i 0)=false:=by simpa using hb
    have hno:=nW htl (fun h=>by
     have:=h.2.2.2 i (by rw[List.length_drop];omega)
     rw[fK,hb] at this
     cases this)
    refine ac<|aa<|rn 2 [8,9] rfl<|ae<|ap (aC (ah (ah (aC (ah ?_)))))
    refine bC k0 (am rfl) (am rfl) ?_
    intro w hw
    exact⟨((none,0),[]),fun v hv=>(by rw[hno] at hv;cases hv),by rw[hno];rfl,Cw.nilO Int (hw.msub (T:= []) ms)⟩
   have hb:bS (s.getD (s.length - T.length+i) 0) (T.getD i 0)=true:=by simpa using hb
   refine aq (aH (ak ?_))
   refine aa<|rn 1 [3,10,11,12,130] rfl<|af (a6 rfl rfl rfl (by omega)) rfl rfl<|rn 1 [3,10,11,12,17] rfl<|aX (i+1) (⟨hil,fun j hj=>by by_cases e:j=i;(· rw[e];exact hb);(· exact hall j (by omega))⟩) (by show _ - _<_ - _;omega) ⟨rfl,rfl,rfl,rfl,rfl,trivial⟩ me
  obtain rfl:i=T.length:=by omega
  refine bz (aG (aG (bO ?_)))
  refine be () (⟨by rw[List.length_drop];omega,fun j hj=>by rw[List.length_drop] at hj;rw[fK];exact hall j (by omega)⟩) ⟨rfl,rfl,rfl,rfl,trivial⟩ me
 rintro _ hLe
 refine ac<|aa<|ai (a8 (cs:= []) ag aF aV rfl rfl rfl rfl rfl) rfl rfl (fun g9 _=>?_)
 refine rn 3 [12,147,148,149,150] rfl<|af (aL ag rfl rfl) rfl rfl<|af (cn rfl rfl rfl (by omega)) rfl rfl<|jg (fun w h=>bW (α:=Int) (m:=0) [] rfl (by simp) rfl (by decide) h) ?_
 refine bU (t:=152) (v':= .int .i64 ((s.length - T.length:Nat):Int)) rfl (by congr 1;omega) ?_
 refine af (jR (k:=s.length - T.length) ag aF (by omega) rfl rfl rfl) rfl rfl ?_
 have hto:=bM.to hs (k:=s.length - T.length) (by omega)
 have htl2:(s.take (s.length - T.length)).length=s.length - T.length:=by rw[List.length_take];omega
 refine ai (cT (α:=Int) (bytes:=8) (xs:= []) (ys:=s.take (s.length - T.length)) rfl ag (bN cJ) rfl fc (.ro hto) (by simp only[List.length_nil];omega) (by simp only[List.length_nil];omega) rfl rfl rfl) rfl rfl (fun⟨A5,c5⟩ _=>?_)
 try dsimp only
 refine rn 1 [154,155] rfl ?_
 rw[List.nil_append]
 refine ai (cT (α:=Int) (bytes:=8) (xs:=s.take (s.length - T.length)) (ys:=V) rfl ag (bN cJ) rfl fc (SF.rb rfl fc) (by omega) (by omega) rfl rfl rfl) rfl rfl (fun⟨A6,c6⟩ _=>?_)
 try dsimp only
 refine rn 1 [18] rfl<|ae<|ac<|aa<|rn 2 [157,158] rfl<|af (aL ag rfl rfl) rfl rfl<|rn 3 [8,9] rfl<|ae<|ap<|bC k0 (am rfl) (am rfl) ?_
 intro w hw
 by_cases h8:(s.take (s.length - T.length)++V).length≤8
 ·have hso:eE fs f o s=some (s.take (s.length - T.length)++V):=fQ.2 ⟨T,V,htl,hTs,h8,hLe,rfl⟩
  refine⟨((A6,c6),s.take (s.length - T.length)++V),fun v hv=>by rw[hso] at hv;exact Option.some.inj hv,?_,hw.msub ms⟩
  rw[hso,decide_eq_true (by omega)]
  rfl
 have hno:=nW htl (fun h=>h8 h.2.1)
 refine⟨((A6,c6),s.take (s.length - T.length)++V),fun v hv=>(by rw[hno] at hv;cases hv),?_,hw.msub ms⟩
 rw[hno,decide_eq_false (by omega)]
 rfl
end
section
theorem tF {l:List bT} {pc:Nat} (hb:∀q∈cQ (bn l pc) pc,0≤q∧q≤l.length):cQ (bn l pc) pc=ns l pc:=by
 refine j3 (m9 _ _) ((sS _).filter _) fun a=>?_
 unfold ns
 rw[lm,List.mem_filter,xJ]
 constructor
 ·intro hg
  have:=hb a ((lm _ _ _).2 hg)
  exact⟨by omega,hg⟩
 exact fun hg=>hg.2
set_option maxRecDepth 100000 in
set_option maxHeartbeats 4000000 in
theorem mK (A:Option Addr) (c:Nat) (fs:List aA) (k:Nat) (w:World) (hs:Sl w (.slice A fs.length c) fs) (hk:k<fs.length) (hok:iD fs (ax fs k)) (hty:kX fs (ax fs k)) (hn0:0<(ax fs k).code.length) :
  Calls Tryz.prog 59 #[.agg #[.slice A fs.length c],.int .i64 (k:Int)] w fun e w'=> ∃g:(Option Addr×Nat)×List fq×List (Value×List Int),js g.2.1 g.2.2 (b8 fs (ax fs k)).1∧e= .returned (.tuple #[.slice g.1.1 g.2.1.length g.1.2,.bool (b8 fs (ax fs k)).2])∧
   Cw w.heap.size w [an (.slice g.1.1 g.2.1.length g.1.2) g.2.1,eD g.2.2] w':=by
 obtain⟨A1,c1,A2,c2,hl,hc,hi,hcell⟩:=hs.fn hk
 have hrf:=(hty.res k hk).1
 have hres:∀j,j<fs.length→0≤(ax fs j).result:=fun j hj=>(hty.res j hj).1
 generalize ax fs k=f at hl hc hi hcell hok hty hn0 hrf⊢
 have hn40:=hok.n40
 have h0:=Bt (fs:=fs) hn0
 have hR0:fD f.code.length (List.replicate f.code.length gG) [] (nF f.code.length).at_:=⟨by simp,by simp[nF],fun i _=>by
  show gB [] ((List.replicate f.code.length gG).getD i gG).v ((List.replicate f.code.length ([]:List Int)).getD i [])
  rw[gC,gC]
  exact .nil_⟩
 refine enter Tryz.func59 rfl Tryz.ntmps59 rfl ?_
 refine ac<|aa<|ai (bH rfl rfl rfl) rfl rfl (fun g1 _=>?_)
 refine rn 2 [1,2] rfl<|ae<|ac<|aa<|rn 1 [1,2,20] rfl<|af (aj fc cF rfl rfl (by rfl)) rfl rfl ?_
 refine rn 1 [1,2,21,22] rfl<|af (aQ (k:=k) bA bq (.ro hs) (by omega) rfl rfl rfl) rfl rfl<|rn 1 [1,2,24] rfl<|af (aZ (fun w hw=>hcell _ w hw 3 _ rfl) rfl rfl dk) rfl rfl ?_
 refine rn 1 [1,2,6] rfl<|ae<|ac<|aa<|rn 1 [1,2,6,26] rfl<|af (aL bt rfl rfl) rfl rfl<|ai (jJ (α:=fE) gG bj jX rfl (fun w=>⟨⟨rfl,rfl⟩,fun _ h=>h⟩) rfl (by omega) rfl rfl rfl) rfl rfl (fun ga _=>?_)
 refine rn 1 [1,2,6,7] rfl<|ae<|ac<|aa<|rn 1 [1,2,6,7,29] rfl<|af (aL bt rfl rfl) rfl rfl<|ai (jJ (α:=Bool) false eB oA rfl (fun w=>⟨rfl,fun _ h=>h⟩) rfl (by omega) rfl rfl rfl) rfl rfl (fun gm _=>?_)
 refine rn 1 [1,2,6,7,8] rfl<|ae<|ac<|aa<|rn 1 [1,2,6,7,8,32] rfl<|af (fV (k:=0) eB eG rfl hn0 rfl rfl rfl) rfl rfl<|ai (ir (α:=Bool) true false rfl fc hn0 trivial eG rfl rfl rfl rfl rfl rfl rfl rfl) rfl rfl (fun _ _=>?_)
 refine ae<|ac<|ac<|aa<|rn 1 [1,2,6,7,8,9] rfl<|ae<|dx (fun w h=>iU h) ?_
 refine gR (fun g:FSt×List fE×List (Value×List Int)=>(b8 fs f=(gW g.1 f.code.length,true)∧eb f.code.length g.1)∧fD f.code.length g.2.1 g.2.2 g.1.at_) (fun g=> [(6,.slice A2 f.code.length c2),(7,.slice (some ⟨ga,0,none⟩) f.code.length f.code.length),(8,.slice (some ⟨gm,0,none⟩) f.code.length f.code.length)]) (fun g=> [az g1 [.slice A fs.length c] 24,an (.slice (some ⟨ga,0,none⟩) f.code.length f.code.length) g.2.1,an (.slice (some ⟨gm,0,none⟩) f.code.length f.code.length) g.1.met,eD g.2.2]) ?_ ?_
 ·refine aE (bD (fun g:Bool×FSt×List fE×List (Value×List Int)=>((eb f.code.length g.2.1∧jt fs f g.2.1)∧g.2.1.todo= []∧(g.1=false→∀i:Nat,g.2.1.met.getD i false=true→Dn fs f g.2.1 i))∧fD f.code.length g.2.2.1 g.2.2.2 g.2.1.at_) (fun g=>2*lL f.code.length g.2.1+g.1.toNat) (fun g=> [(1,.int .i64 (k:Int)),(2,.pointer (some ⟨g1,0,none⟩)),(6,.slice A2 f.code.length c2),(7,.slice (some ⟨ga,0,none⟩) f.code.length f.code.length),(8,.slice (some ⟨gm,0,none⟩) f.code.length f.code.length),(9,.bool g.1)]) (fun g=> [az g1 [.slice A fs.length c] 24,an (.slice (some ⟨ga,0,none⟩) f.code.length f.code.length) g.2.2.1,an (.slice (some ⟨gm,0,none⟩) f.code.length f.code.length) g.2.1.met,eD g.2.2.2]) (true,nF f.code.length,List.replicate f.code.length gG,[]) (⟨⟨h0,rfl,fun h=>(by cases h)⟩,hR0⟩) ⟨rfl,rfl,rfl,rfl,rfl,rfl,trivial⟩ (fun _ h=>h.msub ms) ?_)
  rintro⟨more,s0,hd,L⟩ hj
  try dsimp only
  obtain⟨⟨⟨hF0,hI0⟩,hT0,hD0⟩,hR⟩:((eb f.code.length s0∧jt fs f s0)∧s0.todo= []∧(more=false→∀i:Nat,s0.met.getD i false=true→Dn fs f s0 i))∧fD f.code.length hd L s0.at_:=hj
  refine ac<|ac<|aa<|rn 1 [1,2,6,7,8,34] rfl<|ae<|b9 rfl (fun hmore=>?_) (fun hmore=>?_)
  ·have hmore:more=true:=hmore
   subst hmore
   refine aq (ak ?_)
   refine aE<|ac<|aa<|rn 1 [1,2,6,7,8,9] rfl<|ae<|ac<|aa<|rn 1 [1,2,6,7,8,9,10] rfl<|ae<|aE (bD (fun g:Nat×Bool×FSt×List fE×List (Value×List Int)=>((g.1≤f.code.length∧g.2.1=decide (0<g.2.2.1.todo.length))∧Sw fs f s0 g.1 g.2.2.1)∧fD f.code.length g.2.2.2.1 g.2.2.2.2 g.2.2.1.at_) (fun g=>f.code.length - g.1) (fun g=> [(1,.int .i64 (k:Int)),(2,.pointer (some ⟨g1,0,none⟩)),(6,.slice A2 f.code.length c2),(7,.slice (some ⟨ga,0,none⟩) f.code.length f.code.length),(8,.slice (some ⟨gm,0,none⟩) f.code.length f.code.length),(9,.bool g.2.1),(10,.int .i64 (g.1:Int))]) (fun g=> [az g1 [.slice A fs.length c] 24,an (.slice (some ⟨ga,0,none⟩) f.code.length f.code.length) g.2.2.2.1,an (.slice (some ⟨gm,0,none⟩) f.code.length f.code.length) g.2.2.1.met,eD g.2.2.2.2]) (0,false,s0,hd,L) (⟨⟨⟨Nat.zero_le _,by rw[hT0];rfl⟩,.start hF0 hI0⟩,hR⟩) ⟨rfl,rfl,rfl,rfl,rfl,rfl,rfl,trivial⟩ (fun _ h=>h.msub ms) ?_)
   rintro⟨i,b,s,hd,L⟩ hj
   try dsimp only
   obtain⟨⟨⟨hi0,hb⟩,hS⟩,hR2⟩:((i≤f.code.length∧b=decide (0<s.todo.length))∧Sw fs f s0 i s)∧fD f.code.length hd L s.at_:=hj
   have hF:=hS.ok
   have hT36:=hS.todo hF0 hT0 hn40
   refine ac<|ac<|aa<|rn 2 [1,2,6,7,8,9,10,35,36] rfl<|af (aL bt rfl rfl) rfl rfl<|rn 1 [1,2,6,7,8,9,10,38] rfl<|ae<|ar rfl (fun hlt=>?_) (fun hlt=>?_)
   ·have hil:i<f.code.length:=by omega
    refine aq (ak ?_)
    refine ac<|aE<|ac<|ac<|aa<|rn 2 [1,2,6,7,8,9,10,41,42] rfl<|af (aQ eB eG (SF.own hF.ml fc) (by omega) rfl rfl rfl) rfl rfl ?_
    refine af (aZ (SF.bool (SF.own hF.ml fc) (by omega)) rfl rfl eh) rfl rfl ?_
    refine rn 1 [1,2,6,7,8,9,10,45] rfl<|ae<|b9 rfl (fun hm=>?_) (fun hm=>?_)
    ·have hm:¬s.met.getD i false=true:=by simpa using hm
     refine bz (aG (bO (ak ?_)))
     refine aa<|rn 1 [1,2,6,7,8,9,39] rfl<|af (a6 rfl rfl rfl (by omega)) rfl rfl<|rn 1 [1,2,6,7,8,9,10] rfl<|aX (i+1,b,s,hd,L) (⟨⟨⟨hil,hb⟩,hS.skip hm⟩,hR2⟩) (by show _ - _<_ - _;omega) ⟨rfl,rfl,rfl,rfl,rfl,rfl,rfl,trivial⟩ (fun _ h=>h.msub ms)
    have hm:s.met.getD i false=true:=by simpa using hm
    have hin:=hR2.el i hil
    refine fa (fun w h=>hin.form h fc) ?_
    rintro⟨A3,c3,hv⟩
    rw[hv] at hin
    have h8:=hF.st i
    refine aq (ak ?_)
    refine ac<|bV (.still 0 (.still 1 (.still 2 (.still 3 (.still 4 (.still 5 (.still 6 (.still 7 (.still 8 (.still 9 (.still 10 (.still 11 (.still 12 (.still 13 (.pick 14 (.still 15 (.still 16 (.still 17 (.still 18 (.still 19 .done))))) .stop))))))))))))))) [] rfl (by kernel_rfl) (by kernel_rfl) ?_
    refine av rfl (aY (vs:= [_]) fc cA cg rfl rfl (by rfl) rfl) rfl rfl ha ?_
    refine aS ha 1 [1,2,6,7,8,9,10,47,48] rfl<|av rfl (aj fc cF rfl rfl (by rfl)) rfl rfl ha ?_
    refine aS ha 1 [1,2,6,7,8,9,10,47,49,50] rfl<|av rfl (aQ (k:=k) bA bq (.ro hs) (by omega) rfl rfl rfl) rfl rfl ha ?_
    refine av rfl (cL (hcell _) rfl rfl ei bq) rfl rfl ha ?_
    refine aS ha 2 [1,2,6,7,8,9,10,47,52,53,54] rfl<|av rfl (aQ bt cE (.ro hc) (by omega) rfl rfl rfl) rfl rfl ha ?_
    refine av rfl (cL (cs:= [_,_]) (SF.op (.ro hc) (by omega)) rfl rfl gT cE) rfl rfl ha ?_
    refine aS ha 2 [1,2,6,7,8,9,10,47,52,56,57,58] rfl<|av rfl (aQ bj bJ (SF.own hR2.hl fc) (by omega) rfl rfl rfl) rfl rfl ha ?_
    refine av rfl (aZ (v:= .slice A3 (s.at_.getD i []).length c3) (by rw[←hv];exact SF.hdr (SF.own hR2.hl fc) hil) rfl rfl aW) rfl rfl ha ?_
    refine aB rfl (dg rfl rfl rfl Tryz.call108 (fun w hw=>xZ fs f (bn f.code i) (s.at_.getD i []) A A1 A2 A3 c c1 c2 c3 w (hw.ro hs) (hw.ro hl) (hin.sl hw fc) (hok.op i hil) hres hrf (by omega))) rfl rfl (.inr fun _=>ha) (fun⟨⟨A4,c4⟩,T⟩ hT=>?_) ay
    try dsimp only
    refine aS ha 5 [1,2,6,7,8,9,10,11,12] rfl<|cu<|ac<|ac<|aa<|rn 2 [1,2,6,7,8,9,10,11,65] rfl<|ae<|b9 rfl (fun hok1=>?_) (fun hok1=>?_)
    ·have hv0:eE fs f (bn f.code i) (s.at_.getD i [])=none:=by
      cases e:eE fs f (bn f.code i) (s.at_.getD i []) with
      | none=>rfl
      | some v=>rw[e] at hok1;cases hok1
     rw[qi hok hty hn0 (hS.bad hm hv0)]
     refine ac<|aa<|rn 2 [4,5] rfl<|ae<|ap (ah (aC (ah (ah (aC (aC (ah (aC (ah ?_)))))))))
     refine bC vF (am rfl) (am rfl) ?_
     intro w hw
     exact⟨((none,0),[],[]),.nil_,rfl,Cw.nilO fq (iU (hw.msub (T:= []) ms))⟩
    obtain⟨v,hv0⟩:∃v,eE fs f (bn f.code i) (s.at_.getD i [])=some v:=by
     cases e:eE fs f (bn f.code i) (s.at_.getD i []) with
     | none=>rw[e] at hok1;cases hok1
     | some v=>exact⟨v,rfl⟩
    have hTv:T=v:=hT v hv0
    subst hTv
    have hT8:=jx hv0
    have hTty:=pC hty (hok.op i hil) (hS.inv.ty i hm) hv0
    refine dx (fun w h=>l8 (oY (h.msub (T:=an (.slice A4 T.length c4) T::eD L:: [az g1 [.slice A fs.length c] 24,an (.slice (some ⟨ga,0,none⟩) f.code.length f.code.length) hd,an (.slice (some ⟨gm,0,none⟩) f.code.length f.code.length) s.met]) ms))) ?_
    have hinT:gB ((.slice A4 T.length c4,T)::L) (.slice A4 T.length c4) T:= .new
    have hR3:=hR2.cons (.slice A4 T.length c4,T)
    generalize (.slice A4 T.length c4,T)::L=L3 at hinT hR3⊢
    obtain⟨LL,hLL⟩:∃LL,cQ (bn f.code i) i=LL:=⟨_,rfl⟩
    have hto:=hok.to_ i hil
    have hl2:=jq (bn f.code i) i
    have hcs:=fun(K:List Int) (h1:∀q∈K,q∈cQ (bn f.code i) i) (h2:K.length≤4)=>hS.comes hok hty hF0 hT0 hil hm hv0 (L:=K) h1 h2
    have hnx:=tF (l:=f.code) (pc:=i) (fun q hq=>hto q hq)
    have hstp:=fun s'=>hS.step (s':=s') hok hty hF0 hT0 hil hm hv0
    rw[hLL] at hto hl2 hcs hnx hstp
    have hnext:∀w1,Sl w1 (.slice A2 f.code.length c2) f.code→Calls Tryz.prog 109 #[.slice A2 f.code.length c2,.int .i64 (i:Int)] w1 fun e w'=> ∃g:Option Addr×Nat,True∧e= .returned (.slice g.1 LL.length g.2)∧Cw w1.heap.size w1 [an (.slice g.1 LL.length g.2) LL] w':=fun w1 h=>by
     rw[hnx]
     exact zS A2 c2 f.code i w1 h hil hn40
    refine aq (ak ?_)
    refine ac<|aa<|rn 2 [1,2,6,7,8,9,10,11,66,67] rfl<|ai (dg rfl rfl rfl Tryz.call109 (fun w hw=>hnext w (hw.ro hc))) rfl rfl (fun⟨A7,c7⟩ _=>?_)
    try dsimp only
    refine rn 1 [1,2,6,7,8,9,10,11,13] rfl<|ae<|ac<|aa<|rn 1 [1,2,6,7,8,9,10,11,13,14] rfl<|ae<|aE (bD (fun g:Nat×Bool×FSt×List fE×List (Value×List Int)=>(((g.1≤LL.length∧g.2.1=decide (0<g.2.2.1.todo.length))∧eb f.code.length g.2.2.1∧g.2.2.1.todo.length≤s.todo.length+g.1)∧cV f.code.length s (LL.take g.1) T=some g.2.2.1∧gB g.2.2.2.2 (.slice A4 T.length c4) T)∧fD f.code.length g.2.2.2.1 g.2.2.2.2 g.2.2.1.at_) (fun g=>LL.length - g.1) (fun g=> [(1,.int .i64 (k:Int)),(2,.pointer (some ⟨g1,0,none⟩)),(6,.slice A2 f.code.length c2),(7,.slice (some ⟨ga,0,none⟩) f.code.length f.code.length),(8,.slice (some ⟨gm,0,none⟩) f.code.length f.code.length),(9,.bool g.2.1),(10,.int .i64 (i:Int)),(11,.slice A4 T.length c4),(13,.slice A7 LL.length c7),(14,.int .i64 (g.1:Int))]) (fun g=> [az g1 [.slice A fs.length c] 24,an (.slice (some ⟨ga,0,none⟩) f.code.length f.code.length) g.2.2.2.1,an (.slice (some ⟨gm,0,none⟩) f.code.length f.code.length) g.2.2.1.met,eD g.2.2.2.2,an (.slice A7 LL.length c7) LL]) (0,b,s,hd,L3) (⟨⟨⟨⟨Nat.zero_le _,hb⟩,hF,Nat.le_refl _⟩,rfl,hinT⟩,hR3⟩) ⟨rfl,rfl,rfl,rfl,rfl,rfl,rfl,rfl,rfl,rfl,trivial⟩ (fun _ h=>h.msub ms) ?_)
    rintro⟨j,b,s',hd,L⟩ hj
    try dsimp only
    obtain⟨⟨⟨⟨hj0,hb2⟩,hF2,htd2⟩,hco,hinT2⟩,hR4⟩:(((j≤LL.length∧b=decide (0<s'.todo.length))∧eb f.code.length s'∧s'.todo.length≤s.todo.length+j)∧cV f.code.length s (LL.take j) T=some s'∧gB L (.slice A4 T.length c4) T)∧fD f.code.length hd L s'.at_:=hj
    refine ac<|ac<|aa<|rn 2 [1,2,6,7,8,9,10,11,13,14,69,70] rfl<|af (aL ag rfl rfl) rfl rfl<|rn 1 [1,2,6,7,8,9,10,11,13,14,72] rfl<|ae<|ar rfl (fun hjl=>?_) (fun hjl=>?_)
    ·have hjl:j<LL.length:=by omega
     have hmem:LL.getD j 0∈LL:=by rw[List.getD_eq_getElem?_getD,List.getElem?_eq_getElem hjl];exact List.getElem_mem _
     obtain⟨q,hq⟩:∃q:Nat,LL.getD j 0=(q:Int):=⟨(LL.getD j 0).toNat,by have:=hto _ hmem;omega⟩
     have hqn:q≤f.code.length:=by have:=hto _ hmem;omega
     have hsn:=lz hjl hco
     rw[hq,Int.toNat_natCast] at hsn
     have hco2:=iY hF2 hqn hT8 (by omega)
     refine aq (ak ?_)
     refine ac<|aE<|ac<|aa<|rn 2 [1,2,6,7,8,9,10,11,13,14,75,76] rfl<|af (aQ ag aF (SF.own rfl fc) (by omega) rfl rfl rfl) rfl rfl ?_
     refine af (aZ (SF.int (SF.own rfl fc) (by omega)) rfl rfl aw) rfl rfl ?_
     refine rn 1 [1,2,6,7,8,9,10,11,13,14,15] rfl<|ae<|ac<|ac<|aa<|rn 2 [1,2,6,7,8,9,10,11,13,14,15,79,80] rfl<|af (aL bt rfl rfl) rfl rfl<|rn 1 [1,2,6,7,8,9,10,11,13,14,15,82] rfl<|ae<|cS (t:=15) (v':= .int .i64 (q:Int)) rfl (by rw[hq]) ?_
     have hfail:(cI f.code.length s' q T).1=false→b8 fs f=([],false):=fun h=>qi hok hty hn0 ((hcs LL (fun q h=>h) (by omega)).2 (lA (k:=j+1) (by rw[hsn,h];rfl)))
     refine ar rfl (fun hqe=>?_) (fun hqe=>?_)
     ·rw[hfail (by unfold cI;rw[if_pos (by omega)])]
      refine ac<|aa<|rn 2 [4,5] rfl<|ae<|ap (ah (aC (ah (ah (aC (aC (ah (ah (aC (aC (ah (aC (ah ?_)))))))))))))
      refine bC vF (am rfl) (am rfl) ?_
      intro w hw
      exact⟨((none,0),[],[]),.nil_,rfl,Cw.nilO fq (iU (hw.msub (T:= []) ms))⟩
     have hql:q<f.code.length:=by omega
     refine aq (ak ?_)
     refine ac<|ac<|aa<|rn 2 [1,2,6,7,8,9,10,11,13,14,15,83,84] rfl<|af (aQ eB eG (SF.own hF2.ml fc) (by omega) rfl rfl rfl) rfl rfl ?_
     refine af (aZ (SF.bool (SF.own hF2.ml fc) (by omega)) rfl rfl eh) rfl rfl ?_
     refine rn 1 [1,2,6,7,8,9,10,11,13,14,15,87] rfl<|ae<|b9 rfl (fun hmq=>?_) (fun hmq=>?_)
     ·have hmq:¬s'.met.getD q false=true:=by simpa using hmq
      have hc1:cI f.code.length s' q T=(true,⟨s'.at_.set q T,s'.met.set q true,s'.todo++ [(q:Int)]⟩):=by unfold cI;rw[if_neg (by omega),if_neg hmq]
      rw[hc1] at hco2 hsn
      refine ac<|aa<|rn 5 [1,2,6,7,8,10,11,13,14,88,89,90,91,92] rfl<|af (fV bj bJ rfl hql rfl rfl rfl) rfl rfl<|ai (ir (α:=fE) ⟨.slice A4 T.length c4⟩ gG rfl fc hql rfl bJ rfl rfl rfl rfl rfl rfl rfl rfl) rfl rfl (fun _ _=>?_)
      refine af (fV eB eG rfl hql rfl rfl rfl) rfl rfl<|ai (ir (α:=Bool) true false rfl fc hql trivial eG rfl rfl rfl rfl rfl rfl rfl rfl) rfl rfl (fun _ _=>?_)
      refine rn 1 [1,2,6,7,8,9,10,11,13,14] rfl<|ae<|bz (aG (bO (ak ?_)))
      refine aa<|rn 1 [1,2,6,7,8,9,10,11,13,73] rfl<|af (a6 rfl rfl rfl (by omega)) rfl rfl<|rn 1 [1,2,6,7,8,9,10,11,13,14] rfl<|aX (j+1,true,⟨s'.at_.set q T,s'.met.set q true,s'.todo++ [(q:Int)]⟩,hd.set q ⟨.slice A4 T.length c4⟩,L) (⟨⟨⟨⟨hjl,by simp⟩,hco2.1,by show (s'.todo++ [(q:Int)]).length≤s.todo.length+(j+1);rw[List.length_append,List.length_singleton];omega⟩,hsn,hinT2⟩,hR4.set hql hinT2⟩) (by show _ - _<_ - _;omega) ⟨rfl,rfl,rfl,rfl,rfl,rfl,rfl,rfl,rfl,rfl,trivial⟩ (fun _ h=>h.msub ms)
     have hmq:s'.met.getD q false=true:=by simpa using hmq
     have hI2:=((hcs (LL.take j) (fun q h=>List.mem_of_mem_take h) (by rw[List.length_take];omega)).1 s' hco).1
     have hin5:=hR4.el q hql
     have h85:=hF2.st q
     refine fa (fun w h=>hin5.form h fc) ?_
     rintro⟨A5,c5,hv5⟩
     rw[hv5] at hin5
     refine aq (ak ?_)
     refine ac<|aa<|rn 2 [1,2,6,7,8,9,10,11,13,14,15,96,97] rfl<|af (aQ bj bJ (SF.own hR4.hl fc) (by omega) rfl rfl rfl) rfl rfl ?_
     refine af (aZ (v:= .slice A5 (s'.at_.getD q []).length c5) (by rw[←hv5];exact SF.hdr (SF.own hR4.hl fc) hql) rfl rfl aW) rfl rfl ?_
     refine rn 1 [1,2,6,7,8,9,10,11,13,14,15,99,100] rfl<|ai (d9 rfl rfl rfl Tryz.call110 (fun w hw=>sU A5 A4 c5 c4 (s'.at_.getD q []) T w (hin5.sl hw fc) (hinT2.sl hw fc) (hI2.ty q hmq) hTty (by omega))) rfl rfl (fun⟨A6,c6⟩ _=>?_)
     try dsimp only
     refine rn 5 [1,2,6,7,8,9,10,11,13,14,15,16,17] rfl<|ae<|ac<|ac<|aa<|rn 2 [1,2,6,7,8,9,10,11,13,14,15,16,105] rfl<|ae<|b9 rfl (fun hjo=>?_) (fun hjo=>?_)
     ·have hjn:bI (s'.at_.getD q []) T=none:=by
       cases e:bI (s'.at_.getD q []) T with
       | none=>rfl
       | some v=>rw[e] at hjo;cases hjo
      rw[hfail (by unfold cI;rw[if_neg (by omega),if_pos hmq,hjn])]
      refine ac<|aa<|rn 2 [4,5] rfl<|ae<|ap (ah (aC (ah (ah (aC (aC (ah (ah (aC (aC (ah (aC (ah ?_)))))))))))))
      refine bC vF (am rfl) (am rfl) ?_
      intro w hw
      exact⟨((none,0),[],[]),.nil_,rfl,Cw.nilO fq (iU (hw.msub (T:= []) ms))⟩
     obtain⟨jn,hjn⟩:∃v,bI (s'.at_.getD q []) T=some v:=by
      cases e:bI (s'.at_.getD q []) T with
      | none=>rw[e] at hjo;cases hjo
      | some v=>exact⟨v,rfl⟩
     rw[hjn,Option.getD_some]
     refine aq (ak ?_)
     refine ac<|aa<|rn 3 [1,2,6,7,8,9,10,11,13,14,15,16,106,107,108] rfl<|af (aQ bj bJ (SF.own hR4.hl fc) (by omega) rfl rfl rfl) rfl rfl ?_
     refine af (aZ (v:= .slice A5 (s'.at_.getD q []).length c5) (by rw[←hv5];exact SF.hdr (SF.own hR4.hl fc) hql) rfl rfl aW) rfl rfl ?_
     refine ai (bB rfl rfl rfl nE (fun w hw=>ip A6 A5 c6 c5 jn (s'.at_.getD q []) w (SF.at_ (SF.own rfl fc) hw) (hin5.sl hw fc))) rfl rfl (fun _ _=>?_)
     refine rn 1 [1,2,6,7,8,9,10,11,13,14,15,16,112] rfl<|ae<|b9 rfl (fun he=>?_) (fun he=>?_)
     ·have he:¬jn=s'.at_.getD q []:=by simpa using he
      have hset:s'.met.set q true=s'.met:=by
       refine List.ext_getElem (by simp) fun n h1 h2=>?_
       rw[List.getElem_set]
       split
       ·rename_i e
        subst e
        rw[List.getD_eq_getElem?_getD,List.getElem?_eq_getElem h2] at hmq
        exact hmq.symm
       rfl
      have hc1:cI f.code.length s' q T=(true,⟨s'.at_.set q jn,s'.met,s'.todo++ [(q:Int)]⟩):=by
       unfold cI
       rw[if_neg (by omega),if_pos hmq,hjn]
       simp only[]
       rw[if_neg he,hset]
      rw[hc1] at hco2 hsn
      refine dx (fun w h=>l8 (oY (h.msub (T:=an (.slice A6 jn.length c6) jn::eD L:: [az g1 [.slice A fs.length c] 24,an (.slice (some ⟨ga,0,none⟩) f.code.length f.code.length) hd,an (.slice (some ⟨gm,0,none⟩) f.code.length f.code.length) s'.met,an (.slice A7 LL.length c7) LL]) ms))) ?_
      refine aa<|rn 3 [1,2,6,7,8,10,11,13,14,113,114,115] rfl<|af (fV bj bJ rfl hql rfl rfl rfl) rfl rfl<|ai (ir (α:=fE) ⟨.slice A6 jn.length c6⟩ gG rfl fc hql rfl bJ rfl rfl rfl rfl rfl rfl rfl rfl) rfl rfl (fun _ _=>?_)
      refine rn 1 [1,2,6,7,8,9,10,11,13,14] rfl<|bu (aH (ak ?_))
      refine aa<|rn 1 [1,2,6,7,8,9,10,11,13,73] rfl<|af (a6 rfl rfl rfl (by omega)) rfl rfl<|rn 1 [1,2,6,7,8,9,10,11,13,14] rfl<|aX (j+1,true,⟨s'.at_.set q jn,s'.met,s'.todo++ [(q:Int)]⟩,hd.set q ⟨.slice A6 jn.length c6⟩,(.slice A6 jn.length c6,jn)::L) (⟨⟨⟨⟨hjl,by simp⟩,hco2.1,by show (s'.todo++ [(q:Int)]).length≤s.todo.length+(j+1);rw[List.length_append,List.length_singleton];omega⟩,hsn,hinT2.cons⟩,(hR4.cons _).set hql .new⟩) (by show _ - _<_ - _;omega) ⟨rfl,rfl,rfl,rfl,rfl,rfl,rfl,rfl,rfl,rfl,trivial⟩ (fun _ h=>h.msub ms)
     have he:jn=s'.at_.getD q []:=by simpa using he
     have hc1:cI f.code.length s' q T=(true,s'):=by
      unfold cI
      rw[if_neg (by omega),if_pos hmq,hjn]
      simp only[]
      rw[if_pos he]
     rw[hc1] at hco2 hsn
     refine aq (aH (ak ?_))
     refine aa<|rn 1 [1,2,6,7,8,9,10,11,13,73] rfl<|af (a6 rfl rfl rfl (by omega)) rfl rfl<|rn 1 [1,2,6,7,8,9,10,11,13,14] rfl<|aX (j+1,b,s',hd,L) (⟨⟨⟨⟨hjl,hb2⟩,hF2,by show s'.todo.length≤s.todo.length+(j+1);omega⟩,hsn,hinT2⟩,hR4⟩) (by show _ - _<_ - _;omega) ⟨rfl,rfl,rfl,rfl,rfl,rfl,rfl,rfl,rfl,rfl,trivial⟩ (fun _ h=>h.msub ms)
    obtain rfl:j=LL.length:=by omega
    rw[List.take_length] at hco
    have hS2:=hstp s' hco
    refine bz (aG (aG (bO (aH (ak ?_)))))
    refine aa<|rn 1 [1,2,6,7,8,9,39] rfl<|af (a6 rfl rfl rfl (by omega)) rfl rfl<|rn 1 [1,2,6,7,8,9,10] rfl<|aX (i+1,b,s',hd,L) (⟨⟨⟨hil,hb2⟩,hS2⟩,hR4⟩) (by show _ - _<_ - _;omega) ⟨rfl,rfl,rfl,rfl,rfl,rfl,rfl,trivial⟩ (fun _ h=>h.msub ms)
   obtain rfl:i=f.code.length:=by omega
   refine bz (aG (aG (bO (aH ?_))))
   by_cases hne:s.todo= []
   ·obtain⟨rfl,hdn⟩:=hS.dn hne
    refine kE (b,s,hd,L) (⟨⟨⟨hF,hS.inv⟩,hne,fun _ j hj=>hdn j (oS hF hj) hj⟩,hR2⟩) ((by rw[hb,hne];exact Nat.lt_succ_self _)) ⟨rfl,rfl,rfl,rfl,rfl,rfl,trivial⟩ (fun _ h=>h.msub ms)
   obtain⟨a1,a2,a3⟩:=hS.again hT0 hne
   refine kE (b,⟨s.at_,s.met,[]⟩,hd,L) (⟨⟨⟨a1,a2⟩,rfl,fun h=>absurd (List.length_pos_iff.2 hne) (by rw[hb] at h;simpa using h)⟩,hR2⟩) ((by cases b;(· show 2*lL f.code.length ⟨s.at_,s.met,[]⟩+0<2*lL f.code.length s0+1;omega);(· show 2*lL f.code.length ⟨s.at_,s.met,[]⟩+1<2*lL f.code.length s0+1;omega))) ⟨rfl,rfl,rfl,rfl,rfl,rfl,trivial⟩ (fun _ h=>h.msub ms)
  have hmore:more=false:=by simpa using hmore
  have hd0:=xa hok hty hn0 hF0 hI0 (hD0 hmore)
  refine bz (aG (aG (bO ?_)))
  refine be (s0,hd,L) (⟨⟨hd0,hF0⟩,hR⟩) ⟨rfl,rfl,rfl,trivial⟩ (fun _ h=>h.msub ms)
 rintro⟨s,hd,L⟩ hj
 obtain⟨⟨hent,hF⟩,hR⟩:(b8 fs f=(gW s f.code.length,true)∧eb f.code.length s)∧fD f.code.length hd L s.at_:=hj
 rw[hent]
 try dsimp only
 refine dx (fun w h=>Cw.nilO fq h) ?_
 refine ac<|aa<|rn 1 [6,7,8,18] rfl<|ae<|ac<|ac<|aa<|rn 1 [6,7,8,18,19] rfl<|ae<|aE (bD (fun g:Nat×List fq×Option Addr×Nat=>g.1≤f.code.length∧js g.2.1 L (gW s g.1)) (fun g=>f.code.length - g.1) (fun g=> [(6,.slice A2 f.code.length c2),(7,.slice (some ⟨ga,0,none⟩) f.code.length f.code.length),(8,.slice (some ⟨gm,0,none⟩) f.code.length f.code.length),(18,.slice g.2.2.1 g.2.1.length g.2.2.2),(19,.int .i64 (g.1:Int))]) (fun g=> [an (.slice g.2.2.1 g.2.1.length g.2.2.2) g.2.1,an (.slice (some ⟨ga,0,none⟩) f.code.length f.code.length) hd,an (.slice (some ⟨gm,0,none⟩) f.code.length f.code.length) s.met,eD L]) (0,[],none,0) (⟨Nat.zero_le _,.nil_⟩) ⟨rfl,rfl,rfl,rfl,rfl,trivial⟩ me ?_)
 rintro⟨i,es,Ae,ce⟩ hi'
 try dsimp only
 obtain⟨hi1,hre⟩:i≤f.code.length∧js es L (gW s i):=hi'
 have hel:=hre.len
 have hul:=rX s i
 refine ac<|ac<|aa<|rn 2 [6,7,8,18,19,117,118] rfl<|af (aL bt rfl rfl) rfl rfl<|rn 1 [6,7,8,18,19,120] rfl<|ae<|ar rfl (fun hlt=>?_) (fun hlt=>?_)
 ·have hil:i<f.code.length:=by omega
  have hsu:=mT s i
  refine aq (ak ?_)
  refine ac<|aE<|ac<|aa<|rn 2 [6,7,8,18,19,123,124] rfl<|af (aQ eB eG (SF.own hF.ml fc) (by omega) rfl rfl rfl) rfl rfl ?_
  refine af (aZ (SF.bool (SF.own hF.ml fc) (by omega)) rfl rfl eh) rfl rfl ?_
  refine ae<|b9 rfl (fun hm=>?_) (fun hm=>?_)
  ·rw[if_pos hm] at hsu
   have hin:=hR.el i hil
   refine aa<|rn 4 [6,7,8,19,127,128,129,130] rfl<|af (aQ bj bJ (SF.own hR.hl fc) (by omega) rfl rfl rfl) rfl rfl ?_
   refine kB (fun w h=>hin.form h fc) ?_
   rintro⟨A3,c3,hv⟩
   rw[hv] at hin
   refine af (aZ (v:= .slice A3 (s.at_.getD i []).length c3) (by rw[←hv];exact SF.hdr (SF.own hR.hl fc) hil) rfl rfl aW) rfl rfl ?_
   refine af (cU (cs:= [_,_]) ww pw rfl rfl (by rfl)) rfl rfl ?_
   refine ai (a8 (cs:= [_,_]) ff ka pw rfl rfl rfl rfl rfl) rfl rfl (fun g2 _=>?_)
   refine ai (dM (α:=fq) (bytes:=32) ⟨i,.slice A3 (s.at_.getD i []).length c3⟩ [] rfl ff (bN pq) rfl (fH fc fc) (eI ⟨⟨by show (-9223372036854775808:Int)≤(i:Int);omega,by show (i:Int)≤9223372036854775807;omega⟩,rfl⟩) (by omega) (by omega) rfl rfl rfl) rfl rfl (fun⟨A5,c5⟩ _=>?_)
   try dsimp only
   refine rn 1 [6,7,8,18,19] rfl<|bu (aH (ak ?_))
   refine aa<|rn 1 [6,7,8,18,121] rfl<|af (a6 rfl rfl rfl (by omega)) rfl rfl<|rn 1 [6,7,8,18,19] rfl<|aX (i+1,es++ [⟨i,.slice A3 (s.at_.getD i []).length c3⟩],A5,c5) (⟨hil,by rw[hsu];exact hre.snoc rfl hin⟩) (by show _ - _<_ - _;omega) ⟨rfl,rfl,rfl,rfl,rfl,trivial⟩ me
  rw[if_neg (by rw[hm];decide)] at hsu
  refine aq (aH (ak ?_))
  refine aa<|rn 1 [6,7,8,18,121] rfl<|af (a6 rfl rfl rfl (by omega)) rfl rfl<|rn 1 [6,7,8,18,19] rfl<|aX (i+1,es,Ae,ce) (⟨hil,by rw[hsu];exact hre⟩) (by show _ - _<_ - _;omega) ⟨rfl,rfl,rfl,rfl,rfl,trivial⟩ me
 obtain rfl:i=f.code.length:=by omega
 refine bz (aG (aG (bO (ak ?_))))
 refine ac<|aa<|rn 3 [4,5] rfl<|ae<|ap<|bC vF (am rfl) (am rfl) ?_
 intro w hw
 exact⟨((Ae,ce),es,L),hre,rfl,hw.msub ms⟩
end
section
def jp (fs:List aA) (i:Nat):Int:=if da fs≠0 then da fs else if (fs.take i).all (fun f=>(b8 fs f).2)=true then 0 else 4
theorem yR {fs:List aA} {i:Nat} (h:jp fs i≠0):jp fs i=fd fs:=by
 unfold jp at h⊢
 unfold fd
 by_cases h0:da fs≠0
 ·rw[if_pos h0,if_pos h0]
 rw[if_neg h0] at h⊢
 rw[if_neg h0]
 by_cases h1:(fs.take i).all (fun f=>(b8 fs f).2)=true
 ·rw[if_pos h1] at h;exact absurd rfl h
 rw[if_neg h1,if_neg]
 intro h2
 apply h1
 rw[List.all_eq_true] at h2⊢
 exact fun x hx=>h2 x (List.mem_of_mem_take hx)
theorem yQ {fs:List aA} :jp fs fs.length=fd fs:=by unfold jp fd;rw[List.take_length]
theorem w7 {fs:List aA} {i:Nat} (h:jp fs i=0):da fs=0∧(fs.take i).all (fun f=>(b8 fs f).2)=true:=by
 unfold jp at h
 by_cases h0:da fs≠0
 ·rw[if_pos h0] at h;exact absurd h h0
 rw[if_neg h0] at h
 refine⟨by simpa using h0,?_⟩
 split at h
 ·assumption
 cases h
set_option maxRecDepth 100000 in
set_option maxHeartbeats 1000000 in
theorem pJ (A:Option Addr) (c:Nat) (fs:List aA) (w:World) (hs:Sl w (.slice A fs.length c) fs) :
  Calls Tryz.prog 16 #[.agg #[.slice A fs.length c]] w fun e w'=>e= .returned (.int .i64 (fd fs))∧Below w.heap.size w w':=by
 have b1:=bR hs
 refine enter Tryz.func16 rfl Tryz.ntmps16 rfl ?_
 refine ac<|aa<|ai (bH rfl rfl rfl) rfl rfl (fun g1 _=>?_)
 refine rn 1 [1] rfl<|ae<|ac<|aa<|af (aY (vs:= [_]) fc cA cg rfl rfl (by rfl) rfl) rfl rfl ?_
 refine ai (bB rfl rfl rfl Tryz.call58 (fun w hw=>sV A c fs w (hw.ro hs))) rfl rfl (fun _ _=>?_)
 refine rn 1 [1,3] rfl<|ae<|ac<|ac<|aa<|rn 1 [1,3,4] rfl<|ae<|gR (fun e:Int=>e=fd fs) (fun e=> [(3,.int .i64 e)]) (fun _=> []) ?_ ?_
 ·refine aE (bD (fun g:Nat×Int=>g.1≤fs.length∧g.2=jp fs g.1) (fun g=>fs.length - g.1) (fun g=> [(1,.pointer (some ⟨g1,0,none⟩)),(3,.int .i64 g.2),(4,.int .i64 (g.1:Int))]) (fun _=> [az g1 [.slice A fs.length c] 24]) (0,da fs) (⟨Nat.zero_le _,by show da fs=jp fs 0;unfold jp;rw[List.take_zero];by_cases h:da fs≠0;(· rw[if_pos h]);(· rw[if_neg h,List.all_nil,if_pos rfl];simpa using h)⟩) ⟨rfl,rfl,rfl,trivial⟩ me ?_)
  rintro⟨i,e⟩ hj
  try dsimp only
  obtain⟨hi,he⟩:i≤fs.length∧e=jp fs i:=hj
  refine ac<|ac<|aa<|rn 2 [1,3,4,9,10] rfl<|af (aj fc cF rfl rfl (by rfl)) rfl rfl ?_
  refine af (aL bA rfl rfl) rfl rfl<|rn 2 [1,3,4,14] rfl<|bL (t:=14) rfl (fun h1=>?_) (fun h1=>?_)
  ·have h1:=of_decide_eq_true h1
   have hil:i<fs.length:=by omega
   refine rn 3 [1,3,4,17] rfl<|ae<|ar rfl (fun h2=>?_) (fun h2=>?_)
   ·have hz:jp fs i=0:=by omega
    obtain⟨hc0,hall⟩:=w7 hz
    obtain⟨hok,hn0⟩:=gJ hc0 hil
    have hty:=uX hc0 hil
    have hsn:=mB (p:=fun f=>(b8 fs f).2) (default:aA) hil
    have hnx:jp fs (i+1)=if (b8 fs (ax fs i)).2=true then 0 else 4:=by
     unfold jp
     rw[if_neg (by simpa using hc0),hsn,hall]
     rfl
    refine aq (ak ?_)
    refine ac<|aE<|ac<|aa<|af (aY (vs:= [_]) fc cA cg rfl rfl (by rfl) rfl) rfl rfl ?_
    refine rn 1 [1,3,4,21,22] rfl<|ai (dg rfl rfl rfl Tryz.call59 (fun w hw=>mK A c fs i w (hw.ro hs) hil hok hty hn0)) rfl rfl (fun⟨⟨A1,c1⟩,es,L⟩ _=>?_)
    try dsimp only
    refine rn 5 [1,3,4,6] rfl<|ae<|ac<|aa<|rn 2 [1,3,4,27] rfl<|ae<|b9 rfl (fun h3=>?_) (fun h3=>?_)
    ·have h3:(b8 fs (ax fs i)).2=false:=by simpa using h3
     refine aa<|rn 1 [1,3,4] rfl<|bu (aH (ak ?_))
     refine aa<|rn 1 [1,3,18] rfl<|af (a6 rfl rfl rfl (by omega)) rfl rfl<|rn 1 [1,3,4] rfl<|aX (i+1,4) (⟨hil,by rw[hnx,h3];rfl⟩) (by show _ - _<_ - _;omega) ⟨rfl,rfl,rfl,trivial⟩ me
    have h3:(b8 fs (ax fs i)).2=true:=by simpa using h3
    refine aq (aH (ak ?_))
    refine aa<|rn 1 [1,3,18] rfl<|af (a6 rfl rfl rfl (by omega)) rfl rfl<|rn 1 [1,3,4] rfl<|aX (i+1,e) (⟨hil,by rw[hnx,h3];show e=0;exact h2⟩) (by show _ - _<_ - _;omega) ⟨rfl,rfl,rfl,trivial⟩ me
   refine bz (aG (aG (bO ?_)))
   refine be e (by rw[he];exact yR (by rw[←he];exact h2)) ⟨rfl,trivial⟩ me
  have h1:=of_decide_eq_false h1
  obtain rfl:i=fs.length:=by omega
  refine rn 3 [1,3,4,17] rfl<|ae<|cK rfl<|bz (aG (aG (bO ?_)))
  refine be e (he.trans yQ) ⟨rfl,trivial⟩ me
 rintro e rfl
 refine ac<|aa<|rn 2 [2] rfl<|ae<|ap<|au Tryz.results16 (am rfl) ?_
 intro w hw
 exact⟨rfl,hw.below⟩
end
end Go.Proofs.YtpacloheigifkaaGreat
