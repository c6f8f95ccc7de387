/- Texts of one proof, one behind the other: lemmas alone. -/
import Derived.Test.YtpacloheigifkaaGreatM0A
import Derived.Deep.QuietTactic
import Derived.BigQuiet
import Derived.Test.YtpacloheigifkaaGreatM18A
import Derived.Test.YtpacloheigifkaaGreatM14A
import Derived.Test.YtpacloheigifkaaGreatM4A
import Derived.Test.YtpacloheigifkaaGreatM23A

namespace Go.Proofs.YtpacloheigifkaaGreat
open Go.RowKit
section
theorem ee {a b:Int} (h:a=b):Ending.returned (.int .i64 a)= .returned (.int .i64 b):=by rw[h]
instance:Ow bT where
 ty:=49
 own _ F cs o:=(cs= [.int .i64 o.c,.int .i64 o.a]∧aX o.c∧aX o.a)∧∀b,¬F b
 rd_ h:=h.1
 lt h hb:=(h.2 _ hb).elim
 frame h _:=h
 cong h hf:=⟨h.1,fun b hb=>h.2 b ((hf b).2 hb)⟩
instance:cO bT where
 enc o:= [.int .i64 o.c,.int .i64 o.a]
 wf o:=aX o.c∧aX o.a
 rep_iff:=Iff.rfl
 own_iff:=Iff.rfl
instance:gB bT:=⟨108⟩
theorem cX:(Tryz.prog.info? 3).map (fun i=>(i.zero,i.size,i.bytes))=some (some (.int .i64 0),1,8):=by kernel_rfl
theorem pj:(Tryz.prog.info? 4).map (fun i=>(i.zero,i.size,i.bytes))=some (some (.bool false),1,1):=by kernel_rfl
theorem jq {a:Int} (h:aX a):∀x∈[a],aX x:=by intro x hx;rw[List.mem_singleton.1 hx];exact h
theorem kS {a b:Int} (h:aX a) (h2:aX b):∀x∈[a,b],aX x:=by
 intro x hx
 rcases List.mem_cons.1 hx with hx | hx
 ·rw[hx];exact h
 rw[List.mem_singleton.1 hx];exact h2
section
variable {P:Program} {n:NF} {o:Oper} {env:cU} {B:Nat} {w0:World} {H H':List bj}
def bx (l:List bT) (k:Nat):bT:=l.getD k default
theorem SF.op {A:Option Addr} {xs:List bT} {m c k:Nat} (hs:SF B w0 H A m c xs) (hk:k<m):∀w,Cw B w0 H w→∀j v,([.int .i64 (bx xs k).c,.int .i64 (bx xs k).a]:List Value)[j]? =some v→w.cell? ⟨ab A,ao A+k*2+j,none⟩=some v:=
 fun w hw _ _ hj=>SF.cell hs hk default hj w hw
theorem SF.opc {A:Option Addr} {xs:List bT} {m c k:Nat} (hs:SF B w0 H A m c xs) (hk:k<m):∀w,Cw B w0 H w→w.cell? ⟨ab A,ao A+k*2+0,none⟩=some (.int .i64 (bx xs k).c):=fun w hw=>SF.op hs hk w hw 0 _ rfl
theorem SF.opa {A:Option Addr} {xs:List bT} {m c k:Nat} (hs:SF B w0 H A m c xs) (hk:k<m):∀w,Cw B w0 H w→w.cell? ⟨ab A,ao A+k*2+1,none⟩=some (.int .i64 (bx xs k).a):=fun w hw=>SF.op hs hk w hw 1 _ rfl
theorem SF.bool {A:Option Addr} {xs:List Bool} {m c k:Nat} (hs:SF B w0 H A m c xs) (hk:k<m):∀w,Cw B w0 H w→w.cell? ⟨ab A,ao A+k*1,none⟩=some (.bool (xs.getD k false)):=fun w hw=>SF.cell hs hk false (j:=0) rfl w hw
theorem r9 {w:World} {B:Nat} {A:Option Addr} {xs:List bT} {m c k:Nat} (h:bS w B (.slice A m c) xs) (hk:k<m):aX (bx xs k).c∧aX (bx xs k).a:=by
 obtain⟨cs,hr,_⟩:=h.elr hk default
 exact hr.2
end
def zx (n:Nat) (o:bT):Bool:=(decide (o.c=10) || decide (o.c=11)) && (decide (o.a<0) || decide ((n:Int)≤o.a))
def pV (l:List bT):Int:=if dQ l=0 then (if l.length=0 then 5 else if l.any (zx l.length) then 3 else 0) else dQ l
def eY (o:bT) (pc to_:Int):Bool:=if o.c=13 then false else if o.c=10 then decide (to_=o.a) else if o.c=11 then decide (to_=pc+1) || decide (to_=o.a) else decide (to_=pc+1)
def cW (o:bT) (pc:Int):List Int:=if o.c=13 then [] else if o.c=10 then [o.a] else if o.c=11 then (if pc+1=o.a then [pc+1] else if o.a<pc+1 then [o.a,pc+1] else [pc+1,o.a]) else [pc+1]
def fZ (n:Nat):List Int:=(List.range n).map fun i:Nat=>(i:Int)
def n4 (l:List bT) (pc:Nat):List Int:=(fZ (l.length+1)).filter (eY (bx l pc) pc)
def C2 (l:List bT) (to_:Int):List Int:=(fZ l.length).filter fun i=>eY (bx l i.toNat) i to_
def CN (l:List bT) (pc:Int):Int:=if pV l=0 then (if pc<0∨(l.length:Int)≤pc then 3 else 0) else pV l
def C3 (l:List bT) (pc:Int):Int:=if pV l=0 then (if pc<0∨(l.length:Int)<pc then 3 else 0) else pV l
def DZ (l:List bT) (pc:Int):List Int:=if CN l pc=0 then n4 l pc.toNat else []
def D7 (l:List bT) (pc:Int):List Int:=if C3 l pc=0 then C2 l pc else []
inductive nS (l:List bT) (p:Nat):Nat→Prop where
 | refl:nS l p p
 | step {q r:Nat} :nS l p q→q<l.length→eY (bx l q) q r=true→nS l p r
theorem nS.trans {l:List bT} {p q r:Nat} (h1:nS l p q) (h2:nS l q r):nS l p r:=by
 induction h2 with
 | refl=>exact h1
 | step _ h3 h4 ih=>exact .step ih h3 h4
abbrev DU (l:List bT) (q:Nat):Prop:=nS l 0 q
noncomputable def rchB (l:List bT) (i:Int):Bool:= @decide (DU l i.toNat) (Classical.propDecidable _)
noncomputable def reachL (l:List bT):List Int:=(fZ (l.length+1)).filter (rchB l)
noncomputable def reachR (l:List bT):List Int:=if pV l=0 then reachL l else []
theorem wk (n:Nat):fZ (n+1)=fZ n++ [(n:Int)]:=by simp[fZ,List.range_succ]
theorem xZ {n:Nat} {a:Int} :a∈fZ n↔0≤a∧a<n:=by
 simp only[fZ,List.mem_map,List.mem_range]
 constructor
 ·rintro⟨i,h,rfl⟩;omega
 intro h;exact⟨a.toNat,by omega,by omega⟩
theorem tF (n:Nat):(fZ n).Pairwise (· < ·):=by
 unfold fZ
 rw[List.pairwise_map]
 exact List.pairwise_lt_range.imp (by intro a b h;omega)
theorem x7 (n:Nat):(fZ n).length=n:=by simp[fZ]
theorem oD (p:Int→Bool) (n:Nat):(fZ (n+1)).filter p=(fZ n).filter p++(if p n then [(n:Int)] else []):=by
 rw[wk,List.filter_append]
 congr 1
 by_cases h:p n=true <;> simp[h]
theorem vG {p:Int→Bool} {n:Nat} (h:p n=true):(fZ (n+1)).filter p=(fZ n).filter p++ [(n:Int)]:=by rw[oD,if_pos h]
theorem xu {p:Int→Bool} {n:Nat} (h:¬p n=true):(fZ (n+1)).filter p=(fZ n).filter p:=by rw[oD,if_neg h,List.append_nil]
theorem vH (p:Int→Bool) (n:Nat):((fZ n).filter p).length≤n:=by
 have:=List.length_filter_le p (fZ n)
 rw[x7] at this
 exact this
theorem nr:∀{xs ys:List Int},xs.Pairwise (· < ·)→ys.Pairwise (· < ·)→(∀a,a∈xs↔a∈ys)→xs=ys
 | [],[],_,_,_=>rfl
 | [],y::ys,_,_,h=>by have:=(h y).2 (by simp);simp at this
 | x::xs,[],_,_,h=>by have:=(h x).1 (by simp);simp at this
 | x::xs,y::ys,hx,hy,h=>by
  rw[List.pairwise_cons] at hx hy
  have e:x=y:=by
   have h1:=(h x).1 (by simp)
   have h2:=(h y).2 (by simp)
   rw[List.mem_cons] at h1 h2
   rcases h1 with h1 | h1
   ·exact h1
   rcases h2 with h2 | h2
   ·exact h2.symm
   have a1:=hx.1 y h2
   have a2:=hy.1 x h1
   omega
  subst e
  congr 1
  refine nr hx.2 hy.2 fun a=>?_
  have h1:=h a
  rw[List.mem_cons,List.mem_cons] at h1
  constructor
  ·intro ha
   rcases h1.1 (.inr ha) with e | h2
   ·have:=hx.1 a ha;omega
   exact h2
  intro ha
  rcases h1.2 (.inr ha) with e | h2
  ·have:=hy.1 a ha;omega
  exact h2
theorem lO (o:bT) (pc a:Int):a∈cW o pc↔eY o pc a=true:=by
 unfold cW eY
 split
 ·simp
 split
 ·simp
 split
 ·split
  ·rename_i h;simp;omega
  split
  ·simp;omega
  simp
 simp
theorem nM (o:bT) (pc:Int):(cW o pc).Pairwise (· < ·):=by
 unfold cW
 split
 ·simp
 split
 ·simp
 split
 ·split
  ·simp
  split
  ·simp;omega
  simp;omega
 simp
theorem mM {l:List bT} {k:Nat} (h:k<l.length):bx l k∈l:=by
 unfold bx
 rw[List.getD_eq_getElem?_getD,List.getElem?_eq_getElem h]
 exact List.getElem_mem h
theorem jf {α:Type} {p:α→Bool} {l:List α} {k:Nat} (d:α) (hk:k<l.length):(l.take (k+1)).any p=((l.take k).any p || p (l.getD k d)):=by
 rw[List.take_add_one,List.getElem?_eq_getElem hk,List.getD_eq_getElem?_getD,List.getElem?_eq_getElem hk,List.any_append]
 simp
theorem wn {xs ys:List Int} {k:Nat} (h:xs.take k=ys.take k) (hx:k<xs.length) (hy:k<ys.length) (he:xs.getD k 0=ys.getD k 0):xs.take (k+1)=ys.take (k+1):=by
 rw[List.take_succ_eq_append_getElem hx,List.take_succ_eq_append_getElem hy,h]
 rw[List.getD_eq_getElem?_getD,List.getElem?_eq_getElem hx,List.getD_eq_getElem?_getD,List.getElem?_eq_getElem hy] at he
 simp only[Option.getD_some] at he
 rw[he]
theorem jA (A1 A2:Option Addr) (c1 c2:Nat) (xs ys:List Int) (w:World) (h1:Sl w (.slice A1 xs.length c1) xs) (h2:Sl w (.slice A2 ys.length c2) ys):Calls Tryz.prog 51 #[.slice A1 xs.length c1,.slice A2 ys.length c2] w fun e w'=>e= .returned (.bool (decide (xs=ys)))∧Below w.heap.size w w':=by
 have b1:=bV h1
 refine enter Tryz.func51 rfl Tryz.ntmps51 rfl ?_
 refine ac<|aa<|rn 1 [0,1] rfl<|ae<|ac<|ac<|aa<|rn 1 [0,1,6] rfl<|af (aS ah rfl rfl) rfl rfl<|rn 1 [0,1,7,8] rfl<|af (aS ah rfl rfl) rfl rfl<|rn 1 [0,1,10] rfl<|ae<|bZ rfl (fun h=>?_) (fun h=>?_)
 ·refine ac<|aa<|rn 1 [4] rfl<|ae<|av (aj ?_)
  refine aB Di (ap rfl) ?_
  intro w hw
  exact⟨bz (by simp;intro e;exact h (by simp[e])),hw.below⟩
 refine az (au ?_)
 refine ac<|ac<|aa<|rn 1 [0,1,5] rfl<|ae<|aP (cn (fun k:Nat=>k≤xs.length∧xs.take k=ys.take k) (fun k=>xs.length - k) (fun k=> [(0,.slice A1 xs.length c1),(1,.slice A2 ys.length c2),(5,.int .i64 (k:Int))]) (fun _=> []) 0 (by simp) ⟨rfl,rfl,rfl,trivial⟩ me ?_)
 rintro k ⟨hk,ht⟩
 try dsimp only
 refine ac<|ac<|aa<|rn 2 [0,1,5,11,12] rfl<|af (aS ah rfl rfl) rfl rfl<|rn 1 [0,1,5,14] rfl<|ae<|ay rfl (fun h3=>?_) (fun h3=>?_)
 ·refine az (au ?_)
  refine ac<|aP<|ac<|bN (.still 0 (.still 1 (.still 2 (.still 3 (.still 4 (.still 5 (.still 6 (.still 7 (.still 8 .done))))))))) [] rfl (by kernel_rfl) (by kernel_rfl) ?_
  refine aW ha 2 [0,1,5,17,18] rfl<|an rfl (aQ ah aH (.ro h1) (by omega) rfl rfl rfl) rfl rfl ha ?_
  refine an rfl (a9 (SF.int (.ro h1) (by omega)) rfl rfl aq) rfl rfl ha ?_
  refine aW ha 2 [0,1,5,20,21,22] rfl<|an rfl (aQ ah aH (.ro h2) (by omega) rfl rfl rfl) rfl rfl ha ?_
  refine an rfl (a9 (SF.int (.ro h2) (by omega)) rfl rfl aq) rfl rfl ha ?_
  refine aW ha 1 [0,1,5,25] rfl<|cA<|bZ rfl (fun h4=>?_) (fun h4=>?_)
  ·refine ac<|aa<|rn 1 [4] rfl<|ae<|av (aF (aj (aj (aF (aj ?_)))))
   refine aB Di (ap rfl) ?_
   intro w hw
   exact⟨bz (by simp;intro e;exact h4 (by simp[e])),hw.below⟩
  refine az (aI (au ?_))
  refine aa<|rn 1 [0,1,15] rfl<|af (bR rfl rfl rfl (by omega)) rfl rfl<|rn 1 [0,1,5] rfl<|bD (k+1) (⟨by omega,wn ht (by omega) (by omega) h4⟩) (by show _ - _<_ - _;omega) ⟨rfl,rfl,rfl,trivial⟩ me
 refine bY (aU (aU (cz (au ?_))))
 refine ac<|aa<|rn 1 [4] rfl<|ae<|av<|aB Di (ap rfl) ?_
 intro w hw
 exact⟨bz (by rw[List.take_of_length_le (by omega),List.take_of_length_le (by omega)] at ht;simp[ht]),hw.below⟩
end
section
set_option maxRecDepth 100000 in
theorem yL (A:Option Addr) (c:Nat) (l:List bT) (f:FuncId) (cap:Array Value) (p:bT→Bool) (w:World) (hs:Sl w (.slice A l.length c) l) (hcall:∀a w,(callFunc f a).run Tryz.prog w= .ok (.enter f a) w)
  (hf:∀w1,Below w.heap.size w w1→∀k,k<l.length→Calls Tryz.prog f ([Value.agg #[.int .i64 (bx l k).c,.int .i64 (bx l k).a]]++cap.toList).toArray w1 fun e w'=>e= .returned (.bool (p (bx l k)))∧Below w1.heap.size w1 w') :
  Calls Tryz.prog 204 #[.slice A l.length c,.func (.func f) #[] cap] w fun e w'=> ∃r:Int,decide (0≤r)=l.any p∧e= .returned (.int .i64 r)∧Cw w.heap.size w [] w':=by
 have b1:=bV hs
 refine enter Tryz.func204 rfl Tryz.ntmps204 rfl ?_
 refine ac<|aa<|rn 1 [0,1] rfl<|ae<|ac<|ac<|aa<|rn 1 [0,1,6] rfl<|af (aS bu rfl rfl) rfl rfl<|rn 1 [0,1,7,8] rfl<|ae<|aP (cn (fun k:Nat=>k≤l.length∧(l.take k).any p=false) (fun k=>l.length - k) (fun k=> [(0,.slice A l.length c),(1,.func (.func f) #[] cap),(7,.int .i64 (l.length:Int)),(8,.int .i64 (k:Int))]) (fun _=> []) 0 (⟨Nat.zero_le _,rfl⟩) ⟨rfl,rfl,rfl,rfl,trivial⟩ me ?_)
 rintro k hk'
 obtain⟨hk,hno⟩:k≤l.length∧(l.take k).any p=false:=hk'
 refine ac<|aa<|rn 1 [0,1,7,8,9] rfl<|ae<|ac<|ay rfl (fun hlt=>?_) (fun hlt=>?_)
 ·have hkl:k<l.length:=by omega
  have hsn:=jf (p:=p) default hkl
  refine az (au ?_)
  refine ac<|aP<|ac<|aa<|rn 2 [0,1,5,7,8] rfl<|ae<|ac<|aa<|rn 3 [0,1,5,7,8,11,12,13] rfl<|af (aQ bu b8 (.ro hs) (by omega) rfl rfl rfl) rfl rfl<|af (cu (cs:= [_,_]) (SF.op (.ro hs) (by omega)) rfl rfl eS b8) rfl rfl<|ag (gN rfl rfl rfl hcall (fun w hw=>hf w hw.below k hkl)) rfl rfl (fun _ _=>?_)
  refine ae<|cB rfl (fun hp=>?_) (fun hp=>?_)
  ·have hp:p (bx l k)=true:=hp
   refine ac<|aa<|rn 2 [4] rfl<|ae<|av (aF (aj (aj (aF (aj ?_)))))
   refine aB Tryz.results204 (ap rfl) ?_
   intro w hw
   refine⟨(k:Int),?_,rfl,hw⟩
   have h2:l.any p=true:=List.any_eq_true.2 ⟨_,mM hkl,hp⟩
   rw[h2]
   exact decide_eq_true (by omega)
  have hp:p (bx l k)=false:=hp
  refine az (aI (au ?_))
  refine aa<|af (bR rfl rfl rfl (by omega)) rfl rfl<|rn 1 [0,1,7,8] rfl<|bD (k+1) ((by refine⟨by omega,?_⟩;rw[hsn,hno];exact hp)) (by show _ - _<_ - _;omega) ⟨rfl,rfl,rfl,rfl,trivial⟩ me
 obtain rfl:k=l.length:=by omega
 refine bY (aU (aU (cz (au ?_))))
 refine ac<|aa<|rn 1 [4] rfl<|ae<|av<|aB Tryz.results204 (ap rfl) ?_
 intro w hw
 refine⟨-1,?_,rfl,hw⟩
 rw[List.take_length] at hno
 rw[hno]
 rfl
set_option maxRecDepth 100000 in
theorem tX (A:Option Addr) (c:Nat) (l:List bT) (f:FuncId) (cap:Array Value) (p:bT→Bool) (w:World) (hs:Sl w (.slice A l.length c) l) (hcall:∀a w,(callFunc f a).run Tryz.prog w= .ok (.enter f a) w)
  (hf:∀w1,Below w.heap.size w w1→∀k,k<l.length→Calls Tryz.prog f ([Value.agg #[.int .i64 (bx l k).c,.int .i64 (bx l k).a]]++cap.toList).toArray w1 fun e w'=>e= .returned (.bool (p (bx l k)))∧Below w1.heap.size w1 w') :
  Calls Tryz.prog 162 #[.slice A l.length c,.func (.func f) #[] cap] w fun e w'=>e= .returned (.bool (l.any p))∧Below w.heap.size w w':=by
 refine enter Tryz.func162 rfl Tryz.ntmps162 rfl ?_
 refine ac<|aa<|rn 1 [0,1] rfl<|ae<|ac<|aa<|rn 2 [5,6] rfl<|ag (cI rfl rfl rfl Tryz.call204 (fun w hw=>yL A c l f cap p w (hw.ro hs) hcall (fun w1 h1=>hf w1 (hw.below.trans (h1.mono hw.le))))) rfl rfl (fun r hr=>?_)
 refine rn 2 [4] rfl<|ae<|av<|aB Tryz.results162 (ap rfl) ?_
 intro w hw
 exact⟨bz hr,hw.below⟩
def C8 (l:List bT):Int:=if dQ l=0 then (if l.length=0 then 5 else 0) else dQ l
def Eg (l:List bT) (i:Nat):Int:=if C8 l=0 then (if (l.take i).any (zx l.length) then 3 else 0) else C8 l
end
section
theorem qI (n:Int):aX (gT n):=by unfold gT aX;omega
theorem tP (b:UInt8) (r:List UInt8):aX (e9 b r).1.c∧aX (e9 b r).1.a:=by
 have hb:=b.toNat_lt
 have h0:aX (b.toNat:Int):=by unfold aX;omega
 have h1:aX 0:=by unfold aX;omega
 unfold e9
 split
 ·exact⟨h0,h1⟩
 split
 ·exact⟨h0,h1⟩
 refine⟨h0,?_⟩
 dsimp only
 split
 ·exact qI _
 exact h1
theorem sG (k:Nat):∀(r:List UInt8) (out:List bT),(∀o∈out,aX o.c∧aX o.a)→out.length≤40→(∀o∈(eB k r out).1,aX o.c∧aX o.a)∧(eB k r out).1.length≤40:=by
 induction k with
 | zero=>intro r out h h40;cases r <;> simp[eB] <;> first | exact⟨h,h40⟩ | skip
 | succ k ih=>
  intro r out h h40
  cases r with
  | nil=>simpa [eB] using ⟨h,h40⟩
  | cons b r=>
   simp only[eB]
   split
   ·simp
   split
   ·simp
   rename_i h41
   refine ih _ _ (fun o ho=>?_) (by simp at h41⊢;omega)
   rcases List.mem_append.1 ho with ho | ho
   ·exact h o ho
   simp at ho;subst ho;exact tP b r
theorem rx (l:List UInt8):(∀o∈(eM l).1,aX o.c∧aX o.a)∧(eM l).1.length≤40:=sG _ _ _ (by simp) (by simp)
end
section
def pO:List bT:= [⟨1,3⟩,⟨3,0⟩,⟨20,0⟩,⟨1,1⟩,⟨6,0⟩,⟨3,0⟩,⟨11,8⟩,⟨10,1⟩,⟨2,0⟩,⟨13,0⟩]
theorem AC (l:List bT) (h:(l.all fun o=>decide (aX o.c∧aX o.a))=true):∀o∈l,cO.wf o:=fun o ho=>by
 have:=of_decide_eq_true (List.all_eq_true.1 h o ho)
 exact this
set_option maxRecDepth 100000 in
theorem yJ (w:World):Calls Tryz.prog 118 #[] w fun e w'=> ∃g:Nat,True∧e= .returned (.slice (some ⟨g,0,none⟩) 10 10)∧Cw w.heap.size w [ak (.slice (some ⟨g,0,none⟩) 10 10) pO] w':=by
 refine enter Tryz.func118 rfl Tryz.ntmps118 rfl ?_
 refine ac<|aa<|rn 1 [] rfl<|ae<|ac<|aa<|af (cq (cs:= [_,_]) fG cr rfl rfl (by rfl)) rfl rfl ?_
 refine af (cq (cs:= [_,_]) fG cr rfl rfl (by rfl)) rfl rfl ?_
 refine af (cq (cs:= [_,_]) fG cr rfl rfl (by rfl)) rfl rfl ?_
 refine af (cq (cs:= [_,_]) fG cr rfl rfl (by rfl)) rfl rfl ?_
 refine af (cq (cs:= [_,_]) fG cr rfl rfl (by rfl)) rfl rfl ?_
 refine af (cq (cs:= [_,_]) fG cr rfl rfl (by rfl)) rfl rfl ?_
 refine af (cq (cs:= [_,_]) fG cr rfl rfl (by rfl)) rfl rfl ?_
 refine af (cq (cs:= [_,_]) fG cr rfl rfl (by rfl)) rfl rfl ?_
 refine af (cq (cs:= [_,_]) fG cr rfl rfl (by rfl)) rfl rfl ?_
 refine af (cq (cs:= [_,_]) fG cr rfl rfl (by rfl)) rfl rfl ?_
 refine ag (bh (cs:= [_,_,_,_,_,_,_,_,_,_,_,_,_,_,_,_,_,_,_,_]) bu b8 cr rfl rfl rfl rfl rfl) rfl rfl (fun g1 _=>?_)
 refine rn 1 [0] rfl<|ae<|dP (fun w h=>cc (α:=bT) (m:=10) pO rfl (AC _ (by decide)) rfl (by decide) h) ?_
 refine av<|aB Tryz.results118 (ap rfl) ?_
 intro w hw
 exact⟨g1,trivial,rfl,hw⟩
end
end Go.Proofs.YtpacloheigifkaaGreat
