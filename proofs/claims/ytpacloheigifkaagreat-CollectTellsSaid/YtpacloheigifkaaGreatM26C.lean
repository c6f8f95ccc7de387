/- Texts of one proof, one behind the other: lemmas alone. -/
import Derived.Test.YtpacloheigifkaaGreatM0C
import Derived.Deep.QuietTactic
import Derived.BigQuiet
import Derived.Test.YtpacloheigifkaaGreatM18C
import Derived.Test.YtpacloheigifkaaGreatM14C
import Derived.Test.YtpacloheigifkaaGreatM4C
import Derived.Test.YtpacloheigifkaaGreatM23C

namespace Go.Proofs.YtpacloheigifkaaGreat
open Go.RowKit
section
theorem ej {a b:Int} (h:a=b):Ending.returned (.int .i64 a)= .returned (.int .i64 b):=by rw[h]
instance:Ow bT where
 ty:=49
 own _ F cs o:=(cs= [.int .i64 o.c,.int .i64 o.a]∧a5 o.c∧a5 o.a)∧∀b,¬F b
 rd_ h:=h.1
 lt h hb:=(h.2 _ hb).elim
 frame h _:=h
 cong h hf:=⟨h.1,fun b hb=>h.2 b ((hf b).2 hb)⟩
instance:cG bT where
 enc o:= [.int .i64 o.c,.int .i64 o.a]
 wf o:=a5 o.c∧a5 o.a
 rep_iff:=Iff.rfl
 own_iff:=Iff.rfl
instance:gk bT:=⟨108⟩
theorem cJ:(Tryz.prog.info? 3).map (fun i=>(i.zero,i.size,i.bytes))=some (some (.int .i64 0),1,8):=by kernel_rfl
theorem oA:(Tryz.prog.info? 4).map (fun i=>(i.zero,i.size,i.bytes))=some (some (.bool false),1,1):=by kernel_rfl
theorem is {a:Int} (h:a5 a):∀x∈[a],a5 x:=by intro x hx;rw[List.mem_singleton.1 hx];exact h
theorem kA {a b:Int} (h:a5 a) (h2:a5 b):∀x∈[a,b],a5 x:=by
 intro x hx
 rcases List.mem_cons.1 hx with hx | hx
 ·rw[hx];exact h
 rw[List.mem_singleton.1 hx];exact h2
section
variable {P:Program} {n:NF} {o:Oper} {env:cM} {B:Nat} {w0:World} {H H':List a4}
def bn (l:List bT) (k:Nat):bT:=l.getD k default
theorem SF.op {A:Option Addr} {xs:List bT} {m c k:Nat} (hs:SF B w0 H A m c xs) (hk:k<m):∀w,Cw B w0 H w→∀j v,([.int .i64 (bn xs k).c,.int .i64 (bn xs k).a]:List Value)[j]? =some v→w.cell? ⟨ab A,ao A+k*2+j,none⟩=some v:=
 fun w hw _ _ hj=>SF.cell hs hk default hj w hw
theorem SF.opc {A:Option Addr} {xs:List bT} {m c k:Nat} (hs:SF B w0 H A m c xs) (hk:k<m):∀w,Cw B w0 H w→w.cell? ⟨ab A,ao A+k*2+0,none⟩=some (.int .i64 (bn xs k).c):=fun w hw=>SF.op hs hk w hw 0 _ rfl
theorem SF.opa {A:Option Addr} {xs:List bT} {m c k:Nat} (hs:SF B w0 H A m c xs) (hk:k<m):∀w,Cw B w0 H w→w.cell? ⟨ab A,ao A+k*2+1,none⟩=some (.int .i64 (bn xs k).a):=fun w hw=>SF.op hs hk w hw 1 _ rfl
theorem SF.bool {A:Option Addr} {xs:List Bool} {m c k:Nat} (hs:SF B w0 H A m c xs) (hk:k<m):∀w,Cw B w0 H w→w.cell? ⟨ab A,ao A+k*1,none⟩=some (.bool (xs.getD k false)):=fun w hw=>SF.cell hs hk false (j:=0) rfl w hw
theorem ru {w:World} {B:Nat} {A:Option Addr} {xs:List bT} {m c k:Nat} (h:bM w B (.slice A m c) xs) (hk:k<m):a5 (bn xs k).c∧a5 (bn xs k).a:=by
 obtain⟨cs,hr,_⟩:=h.elr hk default
 exact hr.2
end
def zv (n:Nat) (o:bT):Bool:=(decide (o.c=10) || decide (o.c=11)) && (decide (o.a<0) || decide ((n:Int)≤o.a))
def oZ (l:List bT):Int:=if dJ l=0 then (if l.length=0 then 5 else if l.any (zv l.length) then 3 else 0) else dJ l
def eW (o:bT) (pc to_:Int):Bool:=if o.c=13 then false else if o.c=10 then decide (to_=o.a) else if o.c=11 then decide (to_=pc+1) || decide (to_=o.a) else decide (to_=pc+1)
def cQ (o:bT) (pc:Int):List Int:=if o.c=13 then [] else if o.c=10 then [o.a] else if o.c=11 then (if pc+1=o.a then [pc+1] else if o.a<pc+1 then [o.a,pc+1] else [pc+1,o.a]) else [pc+1]
def fP (n:Nat):List Int:=(List.range n).map fun i:Nat=>(i:Int)
def ns (l:List bT) (pc:Nat):List Int:=(fP (l.length+1)).filter (eW (bn l pc) pc)
def CU (l:List bT) (to_:Int):List Int:=(fP l.length).filter fun i=>eW (bn l i.toNat) i to_
def CH (l:List bT) (pc:Int):Int:=if oZ l=0 then (if pc<0∨(l.length:Int)≤pc then 3 else 0) else oZ l
def CV (l:List bT) (pc:Int):Int:=if oZ l=0 then (if pc<0∨(l.length:Int)<pc then 3 else 0) else oZ l
def DG (l:List bT) (pc:Int):List Int:=if CH l pc=0 then ns l pc.toNat else []
def DP (l:List bT) (pc:Int):List Int:=if CV l pc=0 then CU l pc else []
inductive nj (l:List bT) (p:Nat):Nat→Prop where
 | refl:nj l p p
 | step {q r:Nat} :nj l p q→q<l.length→eW (bn l q) q r=true→nj l p r
theorem nj.trans {l:List bT} {p q r:Nat} (h1:nj l p q) (h2:nj l q r):nj l p r:=by
 induction h2 with
 | refl=>exact h1
 | step _ h3 h4 ih=>exact .step ih h3 h4
abbrev DA (l:List bT) (q:Nat):Prop:=nj l 0 q
noncomputable def rchB (l:List bT) (i:Int):Bool:= @decide (DA l i.toNat) (Classical.propDecidable _)
noncomputable def reachL (l:List bT):List Int:=(fP (l.length+1)).filter (rchB l)
noncomputable def reachR (l:List bT):List Int:=if oZ l=0 then reachL l else []
theorem vI (n:Nat):fP (n+1)=fP n++ [(n:Int)]:=by simp[fP,List.range_succ]
theorem xJ {n:Nat} {a:Int} :a∈fP n↔0≤a∧a<n:=by
 simp only[fP,List.mem_map,List.mem_range]
 constructor
 ·rintro⟨i,h,rfl⟩;omega
 intro h;exact⟨a.toNat,by omega,by omega⟩
theorem sS (n:Nat):(fP n).Pairwise (· < ·):=by
 unfold fP
 rw[List.pairwise_map]
 exact List.pairwise_lt_range.imp (by intro a b h;omega)
theorem xK (n:Nat):(fP n).length=n:=by simp[fP]
theorem nK (p:Int→Bool) (n:Nat):(fP (n+1)).filter p=(fP n).filter p++(if p n then [(n:Int)] else []):=by
 rw[vI,List.filter_append]
 congr 1
 by_cases h:p n=true <;> simp[h]
theorem u4 {p:Int→Bool} {n:Nat} (h:p n=true):(fP (n+1)).filter p=(fP n).filter p++ [(n:Int)]:=by rw[nK,if_pos h]
theorem w9 {p:Int→Bool} {n:Nat} (h:¬p n=true):(fP (n+1)).filter p=(fP n).filter p:=by rw[nK,if_neg h,List.append_nil]
theorem u5 (p:Int→Bool) (n:Nat):((fP n).filter p).length≤n:=by
 have:=List.length_filter_le p (fP n)
 rw[xK] at this
 exact this
theorem j3:∀{xs ys:List Int},xs.Pairwise (· < ·)→ys.Pairwise (· < ·)→(∀a,a∈xs↔a∈ys)→xs=ys
 | [],[],_,_,_=>rfl
 | [],y::ys,_,_,h=>by have:=(h y).2 (by simp);simp at this
 | x::xs,[],_,_,h=>by have:=(h x).1 (by simp);simp at this
 | x::xs,y::ys,hx,hy,h=>by
  rw[List.pairwise_cons] at hx hy
  have e:x=y:=by
   have h1:=(h x).1 (by simp)
   have h2:=(h y).2 (by simp)
   rw[List.mem_cons] at h1 h2
   rcases h1 with h1 | h1
   ·exact h1
   rcases h2 with h2 | h2
   ·exact h2.symm
   have a1:=hx.1 y h2
   have a2:=hy.1 x h1
   omega
  subst e
  congr 1
  refine j3 hx.2 hy.2 fun a=>?_
  have h1:=h a
  rw[List.mem_cons,List.mem_cons] at h1
  constructor
  ·intro ha
   rcases h1.1 (.inr ha) with e | h2
   ·have:=hx.1 a ha;omega
   exact h2
  intro ha
  rcases h1.2 (.inr ha) with e | h2
  ·have:=hy.1 a ha;omega
  exact h2
theorem lm (o:bT) (pc a:Int):a∈cQ o pc↔eW o pc a=true:=by
 unfold cQ eW
 split
 ·simp
 split
 ·simp
 split
 ·split
  ·rename_i h;simp;omega
  split
  ·simp;omega
  simp
 simp
theorem m9 (o:bT) (pc:Int):(cQ o pc).Pairwise (· < ·):=by
 unfold cQ
 split
 ·simp
 split
 ·simp
 split
 ·split
  ·simp
  split
  ·simp;omega
  simp;omega
 simp
theorem ma {l:List bT} {k:Nat} (h:k<l.length):bn l k∈l:=by
 unfold bn
 rw[List.getD_eq_getElem?_getD,List.getElem?_eq_getElem h]
 exact List.getElem_mem h
theorem iS {α:Type} {p:α→Bool} {l:List α} {k:Nat} (d:α) (hk:k<l.length):(l.take (k+1)).any p=((l.take k).any p || p (l.getD k d)):=by
 rw[List.take_add_one,List.getElem?_eq_getElem hk,List.getD_eq_getElem?_getD,List.getElem?_eq_getElem hk,List.any_append]
 simp
theorem vL {xs ys:List Int} {k:Nat} (h:xs.take k=ys.take k) (hx:k<xs.length) (hy:k<ys.length) (he:xs.getD k 0=ys.getD k 0):xs.take (k+1)=ys.take (k+1):=by
 rw[List.take_succ_eq_append_getElem hx,List.take_succ_eq_append_getElem hy,h]
 rw[List.getD_eq_getElem?_getD,List.getElem?_eq_getElem hx,List.getD_eq_getElem?_getD,List.getElem?_eq_getElem hy] at he
 simp only[Option.getD_some] at he
 rw[he]
theorem ip (A1 A2:Option Addr) (c1 c2:Nat) (xs ys:List Int) (w:World) (h1:Sl w (.slice A1 xs.length c1) xs) (h2:Sl w (.slice A2 ys.length c2) ys):Calls Tryz.prog 51 #[.slice A1 xs.length c1,.slice A2 ys.length c2] w fun e w'=>e= .returned (.bool (decide (xs=ys)))∧Below w.heap.size w w':=by
 have b1:=bR h1
 refine enter Tryz.func51 rfl Tryz.ntmps51 rfl ?_
 refine ac<|aa<|rn 1 [0,1] rfl<|ae<|ac<|ac<|aa<|rn 1 [0,1,6] rfl<|af (aL ag rfl rfl) rfl rfl<|rn 1 [0,1,7,8] rfl<|af (aL ag rfl rfl) rfl rfl<|rn 1 [0,1,10] rfl<|ae<|bX rfl (fun h=>?_) (fun h=>?_)
 ·refine ac<|aa<|rn 1 [4] rfl<|ae<|ap (ah ?_)
  refine au Da (am rfl) ?_
  intro w hw
  exact⟨bh (by simp;intro e;exact h (by simp[e])),hw.below⟩
 refine aq (ak ?_)
 refine ac<|ac<|aa<|rn 1 [0,1,5] rfl<|ae<|aE (bD (fun k:Nat=>k≤xs.length∧xs.take k=ys.take k) (fun k=>xs.length - k) (fun k=> [(0,.slice A1 xs.length c1),(1,.slice A2 ys.length c2),(5,.int .i64 (k:Int))]) (fun _=> []) 0 (by simp) ⟨rfl,rfl,rfl,trivial⟩ me ?_)
 rintro k ⟨hk,ht⟩
 try dsimp only
 refine ac<|ac<|aa<|rn 2 [0,1,5,11,12] rfl<|af (aL ag rfl rfl) rfl rfl<|rn 1 [0,1,5,14] rfl<|ae<|ar rfl (fun h3=>?_) (fun h3=>?_)
 ·refine aq (ak ?_)
  refine ac<|aE<|ac<|bV (.still 0 (.still 1 (.still 2 (.still 3 (.still 4 (.still 5 (.still 6 (.still 7 (.still 8 .done))))))))) [] rfl (by kernel_rfl) (by kernel_rfl) ?_
  refine aS ha 2 [0,1,5,17,18] rfl<|av rfl (aQ ag aF (.ro h1) (by omega) rfl rfl rfl) rfl rfl ha ?_
  refine av rfl (aZ (SF.int (.ro h1) (by omega)) rfl rfl aw) rfl rfl ha ?_
  refine aS ha 2 [0,1,5,20,21,22] rfl<|av rfl (aQ ag aF (.ro h2) (by omega) rfl rfl rfl) rfl rfl ha ?_
  refine av rfl (aZ (SF.int (.ro h2) (by omega)) rfl rfl aw) rfl rfl ha ?_
  refine aS ha 1 [0,1,5,25] rfl<|cu<|bX rfl (fun h4=>?_) (fun h4=>?_)
  ·refine ac<|aa<|rn 1 [4] rfl<|ae<|ap (aC (ah (ah (aC (ah ?_)))))
   refine au Da (am rfl) ?_
   intro w hw
   exact⟨bh (by simp;intro e;exact h4 (by simp[e])),hw.below⟩
  refine aq (aH (ak ?_))
  refine aa<|rn 1 [0,1,15] rfl<|af (a6 rfl rfl rfl (by omega)) rfl rfl<|rn 1 [0,1,5] rfl<|aX (k+1) (⟨by omega,vL ht (by omega) (by omega) h4⟩) (by show _ - _<_ - _;omega) ⟨rfl,rfl,rfl,trivial⟩ me
 refine bz (aG (aG (bO (ak ?_))))
 refine ac<|aa<|rn 1 [4] rfl<|ae<|ap<|au Da (am rfl) ?_
 intro w hw
 exact⟨bh (by rw[List.take_of_length_le (by omega),List.take_of_length_le (by omega)] at ht;simp[ht]),hw.below⟩
end
section
set_option maxRecDepth 100000 in
theorem yG (A:Option Addr) (c:Nat) (l:List bT) (f:FuncId) (cap:Array Value) (p:bT→Bool) (w:World) (hs:Sl w (.slice A l.length c) l) (hcall:∀a w,(callFunc f a).run Tryz.prog w= .ok (.enter f a) w)
  (hf:∀w1,Below w.heap.size w w1→∀k,k<l.length→Calls Tryz.prog f ([Value.agg #[.int .i64 (bn l k).c,.int .i64 (bn l k).a]]++cap.toList).toArray w1 fun e w'=>e= .returned (.bool (p (bn l k)))∧Below w1.heap.size w1 w') :
  Calls Tryz.prog 204 #[.slice A l.length c,.func (.func f) #[] cap] w fun e w'=> ∃r:Int,decide (0≤r)=l.any p∧e= .returned (.int .i64 r)∧Cw w.heap.size w [] w':=by
 have b1:=bR hs
 refine enter Tryz.func204 rfl Tryz.ntmps204 rfl ?_
 refine ac<|aa<|rn 1 [0,1] rfl<|ae<|ac<|ac<|aa<|rn 1 [0,1,6] rfl<|af (aL bt rfl rfl) rfl rfl<|rn 1 [0,1,7,8] rfl<|ae<|aE (bD (fun k:Nat=>k≤l.length∧(l.take k).any p=false) (fun k=>l.length - k) (fun k=> [(0,.slice A l.length c),(1,.func (.func f) #[] cap),(7,.int .i64 (l.length:Int)),(8,.int .i64 (k:Int))]) (fun _=> []) 0 (⟨Nat.zero_le _,rfl⟩) ⟨rfl,rfl,rfl,rfl,trivial⟩ me ?_)
 rintro k hk'
 obtain⟨hk,hno⟩:k≤l.length∧(l.take k).any p=false:=hk'
 refine ac<|aa<|rn 1 [0,1,7,8,9] rfl<|ae<|ac<|ar rfl (fun hlt=>?_) (fun hlt=>?_)
 ·have hkl:k<l.length:=by omega
  have hsn:=iS (p:=p) default hkl
  refine aq (ak ?_)
  refine ac<|aE<|ac<|aa<|rn 2 [0,1,5,7,8] rfl<|ae<|ac<|aa<|rn 3 [0,1,5,7,8,11,12,13] rfl<|af (aQ bt cE (.ro hs) (by omega) rfl rfl rfl) rfl rfl<|af (cL (cs:= [_,_]) (SF.op (.ro hs) (by omega)) rfl rfl gT cE) rfl rfl<|ai (oO rfl rfl rfl hcall (fun w hw=>hf w hw.below k hkl)) rfl rfl (fun _ _=>?_)
  refine ae<|b9 rfl (fun hp=>?_) (fun hp=>?_)
  ·have hp:p (bn l k)=true:=hp
   refine ac<|aa<|rn 2 [4] rfl<|ae<|ap (aC (ah (ah (aC (ah ?_)))))
   refine au Tryz.results204 (am rfl) ?_
   intro w hw
   refine⟨(k:Int),?_,rfl,hw⟩
   have h2:l.any p=true:=List.any_eq_true.2 ⟨_,ma hkl,hp⟩
   rw[h2]
   exact decide_eq_true (by omega)
  have hp:p (bn l k)=false:=hp
  refine aq (aH (ak ?_))
  refine aa<|af (a6 rfl rfl rfl (by omega)) rfl rfl<|rn 1 [0,1,7,8] rfl<|aX (k+1) ((by refine⟨by omega,?_⟩;rw[hsn,hno];exact hp)) (by show _ - _<_ - _;omega) ⟨rfl,rfl,rfl,rfl,trivial⟩ me
 obtain rfl:k=l.length:=by omega
 refine bz (aG (aG (bO (ak ?_))))
 refine ac<|aa<|rn 1 [4] rfl<|ae<|ap<|au Tryz.results204 (am rfl) ?_
 intro w hw
 refine⟨-1,?_,rfl,hw⟩
 rw[List.take_length] at hno
 rw[hno]
 rfl
set_option maxRecDepth 100000 in
theorem tq (A:Option Addr) (c:Nat) (l:List bT) (f:FuncId) (cap:Array Value) (p:bT→Bool) (w:World) (hs:Sl w (.slice A l.length c) l) (hcall:∀a w,(callFunc f a).run Tryz.prog w= .ok (.enter f a) w)
  (hf:∀w1,Below w.heap.size w w1→∀k,k<l.length→Calls Tryz.prog f ([Value.agg #[.int .i64 (bn l k).c,.int .i64 (bn l k).a]]++cap.toList).toArray w1 fun e w'=>e= .returned (.bool (p (bn l k)))∧Below w1.heap.size w1 w') :
  Calls Tryz.prog 162 #[.slice A l.length c,.func (.func f) #[] cap] w fun e w'=>e= .returned (.bool (l.any p))∧Below w.heap.size w w':=by
 refine enter Tryz.func162 rfl Tryz.ntmps162 rfl ?_
 refine ac<|aa<|rn 1 [0,1] rfl<|ae<|ac<|aa<|rn 2 [5,6] rfl<|ai (dg rfl rfl rfl Tryz.call204 (fun w hw=>yG A c l f cap p w (hw.ro hs) hcall (fun w1 h1=>hf w1 (hw.below.trans (h1.mono hw.le))))) rfl rfl (fun r hr=>?_)
 refine rn 2 [4] rfl<|ae<|ap<|au Tryz.results162 (am rfl) ?_
 intro w hw
 exact⟨bh hr,hw.below⟩
def C0 (l:List bT):Int:=if dJ l=0 then (if l.length=0 then 5 else 0) else dJ l
def DY (l:List bT) (i:Nat):Int:=if C0 l=0 then (if (l.take i).any (zv l.length) then 3 else 0) else C0 l
end
section
theorem pS (n:Int):a5 (iL n):=by unfold iL a5;omega
theorem tg (b:UInt8) (r:List UInt8):a5 (e9 b r).1.c∧a5 (e9 b r).1.a:=by
 have hb:=b.toNat_lt
 have h0:a5 (b.toNat:Int):=by unfold a5;omega
 have h1:a5 0:=by unfold a5;omega
 unfold e9
 split
 ·exact⟨h0,h1⟩
 split
 ·exact⟨h0,h1⟩
 refine⟨h0,?_⟩
 dsimp only
 split
 ·exact pS _
 exact h1
theorem r4 (k:Nat):∀(r:List UInt8) (out:List bT),(∀o∈out,a5 o.c∧a5 o.a)→out.length≤40→(∀o∈(eC k r out).1,a5 o.c∧a5 o.a)∧(eC k r out).1.length≤40:=by
 induction k with
 | zero=>intro r out h h40;cases r <;> simp[eC] <;> first | exact⟨h,h40⟩ | skip
 | succ k ih=>
  intro r out h h40
  cases r with
  | nil=>simpa [eC] using ⟨h,h40⟩
  | cons b r=>
   simp only[eC]
   split
   ·simp
   split
   ·simp
   rename_i h41
   refine ih _ _ (fun o ho=>?_) (by simp at h41⊢;omega)
   rcases List.mem_append.1 ho with ho | ho
   ·exact h o ho
   simp at ho;subst ho;exact tg b r
theorem qD (l:List UInt8):(∀o∈(eK l).1,a5 o.c∧a5 o.a)∧(eK l).1.length≤40:=r4 _ _ _ (by simp) (by simp)
end
end Go.Proofs.YtpacloheigifkaaGreat
