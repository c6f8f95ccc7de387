/- Texts of one proof, one behind the other: lemmas alone. -/
import Derived.Test.YtpacloheigifkaaGreatM0D
import Derived.Deep.QuietTactic
import Derived.BigQuiet
import Derived.Test.YtpacloheigifkaaGreatM18D
import Derived.Test.YtpacloheigifkaaGreatM14D
import Derived.Test.YtpacloheigifkaaGreatM4D
import Derived.Test.YtpacloheigifkaaGreatM23D

namespace Go.Proofs.YtpacloheigifkaaGreat
open Go.RowKit
section
theorem dV {a b:Int} (h:a=b):Ending.returned (.int .i64 a)= .returned (.int .i64 b):=by rw[h]
instance:Ow cn where
 ty:=49
 own _ F cs o:=(cs= [.int .i64 o.c,.int .i64 o.a]∧aX o.c∧aX o.a)∧∀b,¬F b
 rd_ h:=h.1
 lt h hb:=(h.2 _ hb).elim
 frame h _:=h
 cong h hf:=⟨h.1,fun b hb=>h.2 b ((hf b).2 hb)⟩
instance:cX cn where
 enc o:= [.int .i64 o.c,.int .i64 o.a]
 wf o:=aX o.c∧aX o.a
 rep_iff:=Iff.rfl
 own_iff:=Iff.rfl
instance:gP cn:=⟨108⟩
theorem da:(Tryz.prog.info? 3).map (fun i=>(i.zero,i.size,i.bytes))=some (some (.int .i64 0),1,8):=by kernel_rfl
theorem qa:(Tryz.prog.info? 4).map (fun i=>(i.zero,i.size,i.bytes))=some (some (.bool false),1,1):=by kernel_rfl
theorem iH {a:Int} (h:aX a):∀x∈[a],aX x:=by intro x hx;rw[List.mem_singleton.1 hx];exact h
theorem lD {a b:Int} (h:aX a) (h2:aX b):∀x∈[a,b],aX x:=by
 intro x hx
 rcases List.mem_cons.1 hx with hx | hx
 ·rw[hx];exact h
 rw[List.mem_singleton.1 hx];exact h2
section
variable {P:Program} {n:NF} {o:Oper} {env:de} {B:Nat} {w0:World} {H H':List bj}
def bB (l:List cn) (k:Nat):cn:=l.getD k default
theorem SF.op {A:Option Addr} {xs:List cn} {m c k:Nat} (hs:SF B w0 H A m c xs) (hk:k<m):∀w,Cw B w0 H w→∀j v,([.int .i64 (bB xs k).c,.int .i64 (bB xs k).a]:List Value)[j]? =some v→w.cell? ⟨ab A,ao A+k*2+j,none⟩=some v:=
 fun w hw _ _ hj=>SF.cell hs hk default hj w hw
theorem SF.opc {A:Option Addr} {xs:List cn} {m c k:Nat} (hs:SF B w0 H A m c xs) (hk:k<m):∀w,Cw B w0 H w→w.cell? ⟨ab A,ao A+k*2+0,none⟩=some (.int .i64 (bB xs k).c):=fun w hw=>SF.op hs hk w hw 0 _ rfl
theorem SF.opa {A:Option Addr} {xs:List cn} {m c k:Nat} (hs:SF B w0 H A m c xs) (hk:k<m):∀w,Cw B w0 H w→w.cell? ⟨ab A,ao A+k*2+1,none⟩=some (.int .i64 (bB xs k).a):=fun w hw=>SF.op hs hk w hw 1 _ rfl
theorem SF.bool {A:Option Addr} {xs:List Bool} {m c k:Nat} (hs:SF B w0 H A m c xs) (hk:k<m):∀w,Cw B w0 H w→w.cell? ⟨ab A,ao A+k*1,none⟩=some (.bool (xs.getD k false)):=fun w hw=>SF.cell hs hk false (j:=0) rfl w hw
theorem tB {w:World} {B:Nat} {A:Option Addr} {xs:List cn} {m c k:Nat} (h:bX w B (.slice A m c) xs) (hk:k<m):aX (bB xs k).c∧aX (bB xs k).a:=by
 obtain⟨cs,hr,_⟩:=h.elr hk default
 exact hr.2
end
def Bv (n:Nat) (o:cn):Bool:=(decide (o.c=10) || decide (o.c=11)) && (decide (o.a<0) || decide ((n:Int)≤o.a))
def qF (l:List cn):Int:=if d9 l=0 then (if l.length=0 then 5 else if l.any (Bv l.length) then 3 else 0) else d9 l
def fq (o:cn) (pc to_:Int):Bool:=if o.c=13 then false else if o.c=10 then decide (to_=o.a) else if o.c=11 then decide (to_=pc+1) || decide (to_=o.a) else decide (to_=pc+1)
def di (o:cn) (pc:Int):List Int:=if o.c=13 then [] else if o.c=10 then [o.a] else if o.c=11 then (if pc+1=o.a then [pc+1] else if o.a<pc+1 then [o.a,pc+1] else [pc+1,o.a]) else [pc+1]
def gF (n:Nat):List Int:=(List.range n).map fun i:Nat=>(i:Int)
def o7 (l:List cn) (pc:Nat):List Int:=(gF (l.length+1)).filter (fq (bB l pc) pc)
def EA (l:List cn) (to_:Int):List Int:=(gF l.length).filter fun i=>fq (bB l i.toNat) i to_
def El (l:List cn) (pc:Int):Int:=if qF l=0 then (if pc<0∨(l.length:Int)≤pc then 3 else 0) else qF l
def EB (l:List cn) (pc:Int):Int:=if qF l=0 then (if pc<0∨(l.length:Int)<pc then 3 else 0) else qF l
def FJ (l:List cn) (pc:Int):List Int:=if El l pc=0 then o7 l pc.toNat else []
def FT (l:List cn) (pc:Int):List Int:=if EB l pc=0 then EA l pc else []
inductive oV (l:List cn) (p:Nat):Nat→Prop where
 | refl:oV l p p
 | step {q r:Nat} :oV l p q→q<l.length→fq (bB l q) q r=true→oV l p r
theorem oV.trans {l:List cn} {p q r:Nat} (h1:oV l p q) (h2:oV l q r):oV l p r:=by
 induction h2 with
 | refl=>exact h1
 | step _ h3 h4 ih=>exact .step ih h3 h4
abbrev FB (l:List cn) (q:Nat):Prop:=oV l 0 q
noncomputable def rchB (l:List cn) (i:Int):Bool:= @decide (FB l i.toNat) (Classical.propDecidable _)
noncomputable def reachL (l:List cn):List Int:=(gF (l.length+1)).filter (rchB l)
noncomputable def reachR (l:List cn):List Int:=if qF l=0 then reachL l else []
theorem xJ (n:Nat):gF (n+1)=gF n++ [(n:Int)]:=by simp[gF,List.range_succ]
theorem zG {n:Nat} {a:Int} :a∈gF n↔0≤a∧a<n:=by
 simp only[gF,List.mem_map,List.mem_range]
 constructor
 ·rintro⟨i,h,rfl⟩;omega
 intro h;exact⟨a.toNat,by omega,by omega⟩
theorem uM (n:Nat):(gF n).Pairwise (· < ·):=by
 unfold gF
 rw[List.pairwise_map]
 exact List.pairwise_lt_range.imp (by intro a b h;omega)
theorem zH (n:Nat):(gF n).length=n:=by simp[gF]
theorem pu (p:Int→Bool) (n:Nat):(gF (n+1)).filter p=(gF n).filter p++(if p n then [(n:Int)] else []):=by
 rw[xJ,List.filter_append]
 congr 1
 by_cases h:p n=true <;> simp[h]
theorem w5 {p:Int→Bool} {n:Nat} (h:p n=true):(gF (n+1)).filter p=(gF n).filter p++ [(n:Int)]:=by rw[pu,if_pos h]
theorem yX {p:Int→Bool} {n:Nat} (h:¬p n=true):(gF (n+1)).filter p=(gF n).filter p:=by rw[pu,if_neg h,List.append_nil]
theorem w6 (p:Int→Bool) (n:Nat):((gF n).filter p).length≤n:=by
 have:=List.length_filter_le p (gF n)
 rw[zH] at this
 exact this
theorem oq:∀{xs ys:List Int},xs.Pairwise (· < ·)→ys.Pairwise (· < ·)→(∀a,a∈xs↔a∈ys)→xs=ys
 | [],[],_,_,_=>rfl
 | [],y::ys,_,_,h=>by have:=(h y).2 (by simp);simp at this
 | x::xs,[],_,_,h=>by have:=(h x).1 (by simp);simp at this
 | x::xs,y::ys,hx,hy,h=>by
  rw[List.pairwise_cons] at hx hy
  have e:x=y:=by
   have h1:=(h x).1 (by simp)
   have h2:=(h y).2 (by simp)
   rw[List.mem_cons] at h1 h2
   rcases h1 with h1 | h1
   ·exact h1
   rcases h2 with h2 | h2
   ·exact h2.symm
   have a1:=hx.1 y h2
   have a2:=hy.1 x h1
   omega
  subst e
  congr 1
  refine oq hx.2 hy.2 fun a=>?_
  have h1:=h a
  rw[List.mem_cons,List.mem_cons] at h1
  constructor
  ·intro ha
   rcases h1.1 (.inr ha) with e | h2
   ·have:=hx.1 a ha;omega
   exact h2
  intro ha
  rcases h1.2 (.inr ha) with e | h2
  ·have:=hy.1 a ha;omega
  exact h2
theorem my (o:cn) (pc a:Int):a∈di o pc↔fq o pc a=true:=by
 unfold di fq
 split
 ·simp
 split
 ·simp
 split
 ·split
  ·rename_i h;simp;omega
  split
  ·simp;omega
  simp
 simp
theorem oP (o:cn) (pc:Int):(di o pc).Pairwise (· < ·):=by
 unfold di
 split
 ·simp
 split
 ·simp
 split
 ·split
  ·simp
  split
  ·simp;omega
  simp;omega
 simp
theorem nC {l:List cn} {k:Nat} (h:k<l.length):bB l k∈l:=by
 unfold bB
 rw[List.getD_eq_getElem?_getD,List.getElem?_eq_getElem h]
 exact List.getElem_mem h
theorem jB {α:Type} {p:α→Bool} {l:List α} {k:Nat} (d:α) (hk:k<l.length):(l.take (k+1)).any p=((l.take k).any p || p (l.getD k d)):=by
 rw[List.take_add_one,List.getElem?_eq_getElem hk,List.getD_eq_getElem?_getD,List.getElem?_eq_getElem hk,List.any_append]
 simp
theorem xM {xs ys:List Int} {k:Nat} (h:xs.take k=ys.take k) (hx:k<xs.length) (hy:k<ys.length) (he:xs.getD k 0=ys.getD k 0):xs.take (k+1)=ys.take (k+1):=by
 rw[List.take_succ_eq_append_getElem hx,List.take_succ_eq_append_getElem hy,h]
 rw[List.getD_eq_getElem?_getD,List.getElem?_eq_getElem hx,List.getD_eq_getElem?_getD,List.getElem?_eq_getElem hy] at he
 simp only[Option.getD_some] at he
 rw[he]
theorem jT (A1 A2:Option Addr) (c1 c2:Nat) (xs ys:List Int) (w:World) (h1:Sl w (.slice A1 xs.length c1) xs) (h2:Sl w (.slice A2 ys.length c2) ys):Calls Tryz.prog 51 #[.slice A1 xs.length c1,.slice A2 ys.length c2] w fun e w'=>e= .returned (.bool (decide (xs=ys)))∧Below w.heap.size w w':=by
 have b1:=bO h1
 refine enter Tryz.func51 rfl Tryz.ntmps51 rfl ?_
 refine ac<|aa<|rn 1 [0,1] rfl<|ae<|ac<|ac<|aa<|rn 1 [0,1,6] rfl<|af (aN ah rfl rfl) rfl rfl<|rn 1 [0,1,7,8] rfl<|af (aN ah rfl rfl) rfl rfl<|rn 1 [0,1,10] rfl<|ae<|b9 rfl (fun h=>?_) (fun h=>?_)
 ·refine ac<|aa<|rn 1 [4] rfl<|ae<|au (ak ?_)
  refine aA EU (aq rfl) ?_
  intro w hw
  exact⟨bt (by simp;intro e;exact h (by simp[e])),hw.below⟩
 refine ax (ap ?_)
 refine ac<|ac<|aa<|rn 1 [0,1,5] rfl<|ae<|aL (b8 (fun k:Nat=>k≤xs.length∧xs.take k=ys.take k) (fun k=>xs.length - k) (fun k=> [(0,.slice A1 xs.length c1),(1,.slice A2 ys.length c2),(5,.int .i64 (k:Int))]) (fun _=> []) 0 (by simp) ⟨rfl,rfl,rfl,trivial⟩ me ?_)
 rintro k ⟨hk,ht⟩
 try dsimp only
 refine ac<|ac<|aa<|rn 2 [0,1,5,11,12] rfl<|af (aN ah rfl rfl) rfl rfl<|rn 1 [0,1,5,14] rfl<|ae<|aw rfl (fun h3=>?_) (fun h3=>?_)
 ·refine ax (ap ?_)
  refine ac<|aL<|ac<|bQ (.still 0 (.still 1 (.still 2 (.still 3 (.still 4 (.still 5 (.still 6 (.still 7 (.still 8 .done))))))))) [] rfl (by kernel_rfl) (by kernel_rfl) ?_
  refine aV ha 2 [0,1,5,17,18] rfl<|an rfl (aO ah aI (.ro h1) (by omega) rfl rfl rfl) rfl rfl ha ?_
  refine an rfl (a8 (SF.int (.ro h1) (by omega)) rfl rfl ar) rfl rfl ha ?_
  refine aV ha 2 [0,1,5,20,21,22] rfl<|an rfl (aO ah aI (.ro h2) (by omega) rfl rfl rfl) rfl rfl ha ?_
  refine an rfl (a8 (SF.int (.ro h2) (by omega)) rfl rfl ar) rfl rfl ha ?_
  refine aV ha 1 [0,1,5,25] rfl<|cJ<|b9 rfl (fun h4=>?_) (fun h4=>?_)
  ·refine ac<|aa<|rn 1 [4] rfl<|ae<|au (aG (ak (ak (aG (ak ?_)))))
   refine aA EU (aq rfl) ?_
   intro w hw
   exact⟨bt (by simp;intro e;exact h4 (by simp[e])),hw.below⟩
  refine ax (aK (ap ?_))
  refine aa<|rn 1 [0,1,15] rfl<|af (bH rfl rfl rfl (by omega)) rfl rfl<|rn 1 [0,1,5] rfl<|br (k+1) (⟨by omega,xM ht (by omega) (by omega) h4⟩) (by show _ - _<_ - _;omega) ⟨rfl,rfl,rfl,trivial⟩ me
 refine bN (aM (aM (cc (ap ?_))))
 refine ac<|aa<|rn 1 [4] rfl<|ae<|au<|aA EU (aq rfl) ?_
 intro w hw
 exact⟨bt (by rw[List.take_of_length_le (by omega),List.take_of_length_le (by omega)] at ht;simp[ht]),hw.below⟩
end
section
set_option maxRecDepth 100000 in
theorem AH (A:Option Addr) (c:Nat) (l:List cn) (f:FuncId) (cap:Array Value) (p:cn→Bool) (w:World) (hs:Sl w (.slice A l.length c) l) (hcall:∀a w,(callFunc f a).run Tryz.prog w= .ok (.enter f a) w)
  (hf:∀w1,Below w.heap.size w w1→∀k,k<l.length→Calls Tryz.prog f ([Value.agg #[.int .i64 (bB l k).c,.int .i64 (bB l k).a]]++cap.toList).toArray w1 fun e w'=>e= .returned (.bool (p (bB l k)))∧Below w1.heap.size w1 w') :
  Calls Tryz.prog 204 #[.slice A l.length c,.func (.func f) #[] cap] w fun e w'=> ∃r:Int,decide (0≤r)=l.any p∧e= .returned (.int .i64 r)∧Cw w.heap.size w [] w':=by
 have b1:=bO hs
 refine enter Tryz.func204 rfl Tryz.ntmps204 rfl ?_
 refine ac<|aa<|rn 1 [0,1] rfl<|ae<|ac<|ac<|aa<|rn 1 [0,1,6] rfl<|af (aN bz rfl rfl) rfl rfl<|rn 1 [0,1,7,8] rfl<|ae<|aL (b8 (fun k:Nat=>k≤l.length∧(l.take k).any p=false) (fun k=>l.length - k) (fun k=> [(0,.slice A l.length c),(1,.func (.func f) #[] cap),(7,.int .i64 (l.length:Int)),(8,.int .i64 (k:Int))]) (fun _=> []) 0 (⟨Nat.zero_le _,rfl⟩) ⟨rfl,rfl,rfl,rfl,trivial⟩ me ?_)
 rintro k hk'
 obtain⟨hk,hno⟩:k≤l.length∧(l.take k).any p=false:=hk'
 refine ac<|aa<|rn 1 [0,1,7,8,9] rfl<|ae<|ac<|aw rfl (fun hlt=>?_) (fun hlt=>?_)
 ·have hkl:k<l.length:=by omega
  have hsn:=jB (p:=p) default hkl
  refine ax (ap ?_)
  refine ac<|aL<|ac<|aa<|rn 2 [0,1,5,7,8] rfl<|ae<|ac<|aa<|rn 3 [0,1,5,7,8,11,12,13] rfl<|af (aO bz cG (.ro hs) (by omega) rfl rfl rfl) rfl rfl<|af (cr (cs:= [_,_]) (SF.op (.ro hs) (by omega)) rfl rfl gK cG) rfl rfl<|ag (hJ rfl rfl rfl hcall (fun w hw=>hf w hw.below k hkl)) rfl rfl (fun _ _=>?_)
  refine ae<|cH rfl (fun hp=>?_) (fun hp=>?_)
  ·have hp:p (bB l k)=true:=hp
   refine ac<|aa<|rn 2 [4] rfl<|ae<|au (aG (ak (ak (aG (ak ?_)))))
   refine aA Tryz.results204 (aq rfl) ?_
   intro w hw
   refine⟨(k:Int),?_,rfl,hw⟩
   have h2:l.any p=true:=List.any_eq_true.2 ⟨_,nC hkl,hp⟩
   rw[h2]
   exact decide_eq_true (by omega)
  have hp:p (bB l k)=false:=hp
  refine ax (aK (ap ?_))
  refine aa<|af (bH rfl rfl rfl (by omega)) rfl rfl<|rn 1 [0,1,7,8] rfl<|br (k+1) ((by refine⟨by omega,?_⟩;rw[hsn,hno];exact hp)) (by show _ - _<_ - _;omega) ⟨rfl,rfl,rfl,rfl,trivial⟩ me
 obtain rfl:k=l.length:=by omega
 refine bN (aM (aM (cc (ap ?_))))
 refine ac<|aa<|rn 1 [4] rfl<|ae<|au<|aA Tryz.results204 (aq rfl) ?_
 intro w hw
 refine⟨-1,?_,rfl,hw⟩
 rw[List.take_length] at hno
 rw[hno]
 rfl
set_option maxRecDepth 100000 in
theorem vc (A:Option Addr) (c:Nat) (l:List cn) (f:FuncId) (cap:Array Value) (p:cn→Bool) (w:World) (hs:Sl w (.slice A l.length c) l) (hcall:∀a w,(callFunc f a).run Tryz.prog w= .ok (.enter f a) w)
  (hf:∀w1,Below w.heap.size w w1→∀k,k<l.length→Calls Tryz.prog f ([Value.agg #[.int .i64 (bB l k).c,.int .i64 (bB l k).a]]++cap.toList).toArray w1 fun e w'=>e= .returned (.bool (p (bB l k)))∧Below w1.heap.size w1 w') :
  Calls Tryz.prog 162 #[.slice A l.length c,.func (.func f) #[] cap] w fun e w'=>e= .returned (.bool (l.any p))∧Below w.heap.size w w':=by
 refine enter Tryz.func162 rfl Tryz.ntmps162 rfl ?_
 refine ac<|aa<|rn 1 [0,1] rfl<|ae<|ac<|aa<|rn 2 [5,6] rfl<|ag (cO rfl rfl rfl Tryz.call204 (fun w hw=>AH A c l f cap p w (hw.ro hs) hcall (fun w1 h1=>hf w1 (hw.below.trans (h1.mono hw.le))))) rfl rfl (fun r hr=>?_)
 refine rn 2 [4] rfl<|ae<|au<|aA Tryz.results162 (aq rfl) ?_
 intro w hw
 exact⟨bt hr,hw.below⟩
def EH (l:List cn):Int:=if d9 l=0 then (if l.length=0 then 5 else 0) else d9 l
def F6 (l:List cn) (i:Nat):Int:=if EH l=0 then (if (l.take i).any (Bv l.length) then 3 else 0) else EH l
end
section
theorem rH (n:Int):aX (ik n):=by unfold ik aX;omega
theorem uZ (b:UInt8) (r:List UInt8):aX (fx b r).1.c∧aX (fx b r).1.a:=by
 have hb:=b.toNat_lt
 have h0:aX (b.toNat:Int):=by unfold aX;omega
 have h1:aX 0:=by unfold aX;omega
 unfold fx
 split
 ·exact⟨h0,h1⟩
 split
 ·exact⟨h0,h1⟩
 refine⟨h0,?_⟩
 dsimp only
 split
 ·exact rH _
 exact h1
theorem t7 (k:Nat):∀(r:List UInt8) (out:List cn),(∀o∈out,aX o.c∧aX o.a)→out.length≤40→(∀o∈(eR k r out).1,aX o.c∧aX o.a)∧(eR k r out).1.length≤40:=by
 induction k with
 | zero=>intro r out h h40;cases r <;> simp[eR] <;> first | exact⟨h,h40⟩ | skip
 | succ k ih=>
  intro r out h h40
  cases r with
  | nil=>simpa [eR] using ⟨h,h40⟩
  | cons b r=>
   simp only[eR]
   split
   ·simp
   split
   ·simp
   rename_i h41
   refine ih _ _ (fun o ho=>?_) (by simp at h41⊢;omega)
   rcases List.mem_append.1 ho with ho | ho
   ·exact h o ho
   simp at ho;subst ho;exact uZ b r
theorem sB (l:List UInt8):(∀o∈(fb l).1,aX o.c∧aX o.a)∧(fb l).1.length≤40:=t7 _ _ _ (by simp) (by simp)
end
section
def Eq:List cn:= [⟨1,3⟩,⟨3,0⟩,⟨20,0⟩,⟨1,1⟩,⟨6,0⟩,⟨3,0⟩,⟨11,8⟩,⟨10,1⟩,⟨2,0⟩,⟨13,0⟩]
end
end Go.Proofs.YtpacloheigifkaaGreat
