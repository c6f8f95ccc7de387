/- Texts of one proof, one behind the other: lemmas alone. -/
import Derived.Test.YtpacloheigifkaaGreatM0I
import Derived.Deep.QuietTactic
import Derived.BigQuiet
import Derived.Test.YtpacloheigifkaaGreatM18I
import Derived.Test.YtpacloheigifkaaGreatM14I
import Derived.Test.YtpacloheigifkaaGreatM4I
import Derived.Test.YtpacloheigifkaaGreatM23I

namespace Go.Proofs.YtpacloheigifkaaGreat
open Go.RowKit
section
theorem eH {a b:Int} (h:a=b):Ending.returned (.int .i64 a)= .returned (.int .i64 b):=by rw[h]
instance:Ow cc where
 ty:=49
 own _ F cs o:=(cs= [.int .i64 o.c,.int .i64 o.a]∧be o.c∧be o.a)∧∀b,¬F b
 rd_ h:=h.1
 lt h hb:=(h.2 _ hb).elim
 frame h _:=h
 cong h hf:=⟨h.1,fun b hb=>h.2 b ((hf b).2 hb)⟩
instance:cS cc where
 enc o:= [.int .i64 o.c,.int .i64 o.a]
 wf o:=be o.c∧be o.a
 rep_iff:=Iff.rfl
 own_iff:=Iff.rfl
instance:iI cc:=⟨108⟩
theorem eE:(Tryz.prog.info? 3).map (fun i=>(i.zero,i.size,i.bytes))=some (some (.int .i64 0),1,8):=by kernel_rfl
theorem ry:(Tryz.prog.info? 4).map (fun i=>(i.zero,i.size,i.bytes))=some (some (.bool false),1,1):=by kernel_rfl
theorem gD {a:Int} (h:be a):∀x∈[a],be x:=by intro x hx;rw[List.mem_singleton.1 hx];exact h
theorem kl {a b:Int} (h:be a) (h2:be b):∀x∈[a,b],be x:=by
 intro x hx
 rcases List.mem_cons.1 hx with hx | hx
 ·rw[hx];exact h
 rw[List.mem_singleton.1 hx];exact h2
section
variable {P:Program} {n:NF} {o:Oper} {env:cK} {B:Nat} {w0:World} {H H':List a7}
def bG (l:List cc) (k:Nat):cc:=l.getD k default
theorem SF.op {A:Option Addr} {xs:List cc} {m c k:Nat} (hs:SF B w0 H A m c xs) (hk:k<m):∀w,Cw B w0 H w→∀j v,([.int .i64 (bG xs k).c,.int .i64 (bG xs k).a]:List Value)[j]? =some v→w.cell? ⟨ab A,ao A+k*2+j,none⟩=some v:=
 fun w hw _ _ hj=>SF.cell hs hk default hj w hw
theorem SF.opc {A:Option Addr} {xs:List cc} {m c k:Nat} (hs:SF B w0 H A m c xs) (hk:k<m):∀w,Cw B w0 H w→w.cell? ⟨ab A,ao A+k*2+0,none⟩=some (.int .i64 (bG xs k).c):=fun w hw=>SF.op hs hk w hw 0 _ rfl
theorem SF.opa {A:Option Addr} {xs:List cc} {m c k:Nat} (hs:SF B w0 H A m c xs) (hk:k<m):∀w,Cw B w0 H w→w.cell? ⟨ab A,ao A+k*2+1,none⟩=some (.int .i64 (bG xs k).a):=fun w hw=>SF.op hs hk w hw 1 _ rfl
theorem SF.bool {A:Option Addr} {xs:List Bool} {m c k:Nat} (hs:SF B w0 H A m c xs) (hk:k<m):∀w,Cw B w0 H w→w.cell? ⟨ab A,ao A+k*1,none⟩=some (.bool (xs.getD k false)):=fun w hw=>SF.cell hs hk false (j:=0) rfl w hw
theorem vH {w:World} {B:Nat} {A:Option Addr} {xs:List cc} {m c k:Nat} (h:bW w B (.slice A m c) xs) (hk:k<m):be (bG xs k).c∧be (bG xs k).a:=by
 obtain⟨cs,hr,_⟩:=h.elr hk default
 exact hr.2
end
def DV (n:Nat) (o:cc):Bool:=(decide (o.c=10) || decide (o.c=11)) && (decide (o.a<0) || decide ((n:Int)≤o.a))
def sn (l:List cc):Int:=if d8 l=0 then (if l.length=0 then 5 else if l.any (DV l.length) then 3 else 0) else d8 l
def fJ (o:cc) (pc to_:Int):Bool:=if o.c=13 then false else if o.c=10 then decide (to_=o.a) else if o.c=11 then decide (to_=pc+1) || decide (to_=o.a) else decide (to_=pc+1)
def dd (o:cc) (pc:Int):List Int:=if o.c=13 then [] else if o.c=10 then [o.a] else if o.c=11 then (if pc+1=o.a then [pc+1] else if o.a<pc+1 then [o.a,pc+1] else [pc+1,o.a]) else [pc+1]
def hJ (n:Nat):List Int:=(List.range n).map fun i:Nat=>(i:Int)
def qd (l:List cc) (pc:Nat):List Int:=(hJ (l.length+1)).filter (fJ (bG l pc) pc)
def Hk (l:List cc) (to_:Int):List Int:=(hJ l.length).filter fun i=>fJ (bG l i.toNat) i to_
def GY (l:List cc) (pc:Int):Int:=if sn l=0 then (if pc<0∨(l.length:Int)≤pc then 3 else 0) else sn l
def Hl (l:List cc) (pc:Int):Int:=if sn l=0 then (if pc<0∨(l.length:Int)<pc then 3 else 0) else sn l
def Ii (l:List cc) (pc:Int):List Int:=if GY l pc=0 then qd l pc.toNat else []
def Iq (l:List cc) (pc:Int):List Int:=if Hl l pc=0 then Hk l pc else []
inductive pY (l:List cc) (p:Nat):Nat→Prop where
 | refl:pY l p p
 | step {q r:Nat} :pY l p q→q<l.length→fJ (bG l q) q r=true→pY l p r
theorem pY.trans {l:List cc} {p q r:Nat} (h1:pY l p q) (h2:pY l q r):pY l p r:=by
 induction h2 with
 | refl=>exact h1
 | step _ h3 h4 ih=>exact .step ih h3 h4
abbrev Ie (l:List cc) (q:Nat):Prop:=pY l 0 q
noncomputable def rchB (l:List cc) (i:Int):Bool:= @decide (Ie l i.toNat) (Classical.propDecidable _)
noncomputable def reachL (l:List cc):List Int:=(hJ (l.length+1)).filter (rchB l)
noncomputable def reachR (l:List cc):List Int:=if sn l=0 then reachL l else []
theorem zQ (n:Nat):hJ (n+1)=hJ n++ [(n:Int)]:=by simp[hJ,List.range_succ]
theorem Ci {n:Nat} {a:Int} :a∈hJ n↔0≤a∧a<n:=by
 simp only[hJ,List.mem_map,List.mem_range]
 constructor
 ·rintro⟨i,h,rfl⟩;omega
 intro h;exact⟨a.toNat,by omega,by omega⟩
theorem wZ (n:Nat):(hJ n).Pairwise (· < ·):=by
 unfold hJ
 rw[List.pairwise_map]
 exact List.pairwise_lt_range.imp (by intro a b h;omega)
theorem Cj (n:Nat):(hJ n).length=n:=by simp[hJ]
theorem qG (p:Int→Bool) (n:Nat):(hJ (n+1)).filter p=(hJ n).filter p++(if p n then [(n:Int)] else []):=by
 rw[zQ,List.filter_append]
 congr 1
 by_cases h:p n=true <;> simp[h]
theorem zh {p:Int→Bool} {n:Nat} (h:p n=true):(hJ (n+1)).filter p=(hJ n).filter p++ [(n:Int)]:=by rw[qG,if_pos h]
theorem BB {p:Int→Bool} {n:Nat} (h:¬p n=true):(hJ (n+1)).filter p=(hJ n).filter p:=by rw[qG,if_neg h,List.append_nil]
theorem zi (p:Int→Bool) (n:Nat):((hJ n).filter p).length≤n:=by
 have:=List.length_filter_le p (hJ n)
 rw[Cj] at this
 exact this
theorem mX:∀{xs ys:List Int},xs.Pairwise (· < ·)→ys.Pairwise (· < ·)→(∀a,a∈xs↔a∈ys)→xs=ys
 | [],[],_,_,_=>rfl
 | [],y::ys,_,_,h=>by have:=(h y).2 (by simp);simp at this
 | x::xs,[],_,_,h=>by have:=(h x).1 (by simp);simp at this
 | x::xs,y::ys,hx,hy,h=>by
  rw[List.pairwise_cons] at hx hy
  have e:x=y:=by
   have h1:=(h x).1 (by simp)
   have h2:=(h y).2 (by simp)
   rw[List.mem_cons] at h1 h2
   rcases h1 with h1 | h1
   ·exact h1
   rcases h2 with h2 | h2
   ·exact h2.symm
   have a1:=hx.1 y h2
   have a2:=hy.1 x h1
   omega
  subst e
  congr 1
  refine mX hx.2 hy.2 fun a=>?_
  have h1:=h a
  rw[List.mem_cons,List.mem_cons] at h1
  constructor
  ·intro ha
   rcases h1.1 (.inr ha) with e | h2
   ·have:=hx.1 a ha;omega
   exact h2
  intro ha
  rcases h1.2 (.inr ha) with e | h2
  ·have:=hy.1 a ha;omega
  exact h2
theorem m9 (o:cc) (pc a:Int):a∈dd o pc↔fJ o pc a=true:=by
 unfold dd fJ
 split
 ·simp
 split
 ·simp
 split
 ·split
  ·rename_i h;simp;omega
  split
  ·simp;omega
  simp
 simp
theorem pS (o:cc) (pc:Int):(dd o pc).Pairwise (· < ·):=by
 unfold dd
 split
 ·simp
 split
 ·simp
 split
 ·split
  ·simp
  split
  ·simp;omega
  simp;omega
 simp
theorem oF {l:List cc} {k:Nat} (h:k<l.length):bG l k∈l:=by
 unfold bG
 rw[List.getD_eq_getElem?_getD,List.getElem?_eq_getElem h]
 exact List.getElem_mem h
theorem j7 {α:Type} {p:α→Bool} {l:List α} {k:Nat} (d:α) (hk:k<l.length):(l.take (k+1)).any p=((l.take k).any p || p (l.getD k d)):=by
 rw[List.take_add_one,List.getElem?_eq_getElem hk,List.getD_eq_getElem?_getD,List.getElem?_eq_getElem hk,List.any_append]
 simp
theorem zT {xs ys:List Int} {k:Nat} (h:xs.take k=ys.take k) (hx:k<xs.length) (hy:k<ys.length) (he:xs.getD k 0=ys.getD k 0):xs.take (k+1)=ys.take (k+1):=by
 rw[List.take_succ_eq_append_getElem hx,List.take_succ_eq_append_getElem hy,h]
 rw[List.getD_eq_getElem?_getD,List.getElem?_eq_getElem hx,List.getD_eq_getElem?_getD,List.getElem?_eq_getElem hy] at he
 simp only[Option.getD_some] at he
 rw[he]
theorem kI (A1 A2:Option Addr) (c1 c2:Nat) (xs ys:List Int) (w:World) (h1:Sl w (.slice A1 xs.length c1) xs) (h2:Sl w (.slice A2 ys.length c2) ys):Calls Tryz.prog 51 #[.slice A1 xs.length c1,.slice A2 ys.length c2] w fun e w'=>e= .returned (.bool (decide (xs=ys)))∧Below w.heap.size w w':=by
 have b1:=cn h1
 refine enter Tryz.func51 rfl Tryz.ntmps51 rfl ?_
 refine ac<|aa<|rn 1 [0,1] rfl<|ae<|ac<|ac<|aa<|rn 1 [0,1,6] rfl<|af (aM ah rfl rfl) rfl rfl<|rn 1 [0,1,7,8] rfl<|af (aM ah rfl rfl) rfl rfl<|rn 1 [0,1,10] rfl<|ae<|bY rfl (fun h=>?_) (fun h=>?_)
 ·refine ac<|aa<|rn 1 [4] rfl<|ae<|aq (ai ?_)
  refine av HJ (an rfl) ?_
  intro w hw
  exact⟨bE (by simp;intro e;exact h (by simp[e])),hw.below⟩
 refine ar (am ?_)
 refine ac<|ac<|aa<|rn 1 [0,1,5] rfl<|ae<|aB (bI (fun k:Nat=>k≤xs.length∧xs.take k=ys.take k) (fun k=>xs.length - k) (fun k=> [(0,.slice A1 xs.length c1),(1,.slice A2 ys.length c2),(5,.int .i64 (k:Int))]) (fun _=> []) 0 (by simp) ⟨rfl,rfl,rfl,trivial⟩ me ?_)
 rintro k ⟨hk,ht⟩
 try dsimp only
 refine ac<|ac<|aa<|rn 2 [0,1,5,11,12] rfl<|af (aM ah rfl rfl) rfl rfl<|rn 1 [0,1,5,14] rfl<|ae<|aw rfl (fun h3=>?_) (fun h3=>?_)
 ·refine ar (am ?_)
  refine ac<|aB<|ac<|cD (.still 0 (.still 1 (.still 2 (.still 3 (.still 4 (.still 5 (.still 6 (.still 7 (.still 8 .done))))))))) [] rfl (by kernel_rfl) (by kernel_rfl) ?_
  refine aU ha 2 [0,1,5,17,18] rfl<|ax rfl (aQ ah aF (.ro h1) (by omega) rfl rfl rfl) rfl rfl ha ?_
  refine ax rfl (a8 (SF.int (.ro h1) (by omega)) rfl rfl au) rfl rfl ha ?_
  refine aU ha 2 [0,1,5,20,21,22] rfl<|ax rfl (aQ ah aF (.ro h2) (by omega) rfl rfl rfl) rfl rfl ha ?_
  refine ax rfl (a8 (SF.int (.ro h2) (by omega)) rfl rfl au) rfl rfl ha ?_
  refine aU ha 1 [0,1,5,25] rfl<|cT<|bY rfl (fun h4=>?_) (fun h4=>?_)
  ·refine ac<|aa<|rn 1 [4] rfl<|ae<|aq (aC (ai (ai (aC (ai ?_)))))
   refine av HJ (an rfl) ?_
   intro w hw
   exact⟨bE (by simp;intro e;exact h4 (by simp[e])),hw.below⟩
  refine ar (aH (am ?_))
  refine aa<|rn 1 [0,1,15] rfl<|af (br rfl rfl rfl (by omega)) rfl rfl<|rn 1 [0,1,5] rfl<|a5 (k+1) (⟨by omega,zT ht (by omega) (by omega) h4⟩) (by show _ - _<_ - _;omega) ⟨rfl,rfl,rfl,trivial⟩ me
 refine bz (aD (aD (bO (am ?_))))
 refine ac<|aa<|rn 1 [4] rfl<|ae<|aq<|av HJ (an rfl) ?_
 intro w hw
 exact⟨bE (by rw[List.take_of_length_le (by omega),List.take_of_length_le (by omega)] at ht;simp[ht]),hw.below⟩
end
section
set_option maxRecDepth 100000 in
theorem C9 (A:Option Addr) (c:Nat) (l:List cc) (f:FuncId) (cap:Array Value) (p:cc→Bool) (w:World) (hs:Sl w (.slice A l.length c) l) (hcall:∀a w,(callFunc f a).run Tryz.prog w= .ok (.enter f a) w)
  (hf:∀w1,Below w.heap.size w w1→∀k,k<l.length→Calls Tryz.prog f ([Value.agg #[.int .i64 (bG l k).c,.int .i64 (bG l k).a]]++cap.toList).toArray w1 fun e w'=>e= .returned (.bool (p (bG l k)))∧Below w1.heap.size w1 w') :
  Calls Tryz.prog 204 #[.slice A l.length c,.func (.func f) #[] cap] w fun e w'=> ∃r:Int,decide (0≤r)=l.any p∧e= .returned (.int .i64 r)∧Cw w.heap.size w [] w':=by
 have b1:=cn hs
 refine enter Tryz.func204 rfl Tryz.ntmps204 rfl ?_
 refine ac<|aa<|rn 1 [0,1] rfl<|ae<|ac<|ac<|aa<|rn 1 [0,1,6] rfl<|af (aM bw rfl rfl) rfl rfl<|rn 1 [0,1,7,8] rfl<|ae<|aB (bI (fun k:Nat=>k≤l.length∧(l.take k).any p=false) (fun k=>l.length - k) (fun k=> [(0,.slice A l.length c),(1,.func (.func f) #[] cap),(7,.int .i64 (l.length:Int)),(8,.int .i64 (k:Int))]) (fun _=> []) 0 (⟨Nat.zero_le _,rfl⟩) ⟨rfl,rfl,rfl,rfl,trivial⟩ me ?_)
 rintro k hk'
 obtain⟨hk,hno⟩:k≤l.length∧(l.take k).any p=false:=hk'
 refine ac<|aa<|rn 1 [0,1,7,8,9] rfl<|ae<|ac<|aw rfl (fun hlt=>?_) (fun hlt=>?_)
 ·have hkl:k<l.length:=by omega
  have hsn:=j7 (p:=p) default hkl
  refine ar (am ?_)
  refine ac<|aB<|ac<|aa<|rn 2 [0,1,5,7,8] rfl<|ae<|ac<|aa<|rn 3 [0,1,5,7,8,11,12,13] rfl<|af (aQ bw cG (.ro hs) (by omega) rfl rfl rfl) rfl rfl<|af (cY (cs:= [_,_]) (SF.op (.ro hs) (by omega)) rfl rfl iJ cG) rfl rfl<|ag (rT rfl rfl rfl hcall (fun w hw=>hf w hw.below k hkl)) rfl rfl (fun _ _=>?_)
  refine ae<|cg rfl (fun hp=>?_) (fun hp=>?_)
  ·have hp:p (bG l k)=true:=hp
   refine ac<|aa<|rn 2 [4] rfl<|ae<|aq (aC (ai (ai (aC (ai ?_)))))
   refine av Tryz.results204 (an rfl) ?_
   intro w hw
   refine⟨(k:Int),?_,rfl,hw⟩
   have h2:l.any p=true:=List.any_eq_true.2 ⟨_,oF hkl,hp⟩
   rw[h2]
   exact decide_eq_true (by omega)
  have hp:p (bG l k)=false:=hp
  refine ar (aH (am ?_))
  refine aa<|af (br rfl rfl rfl (by omega)) rfl rfl<|rn 1 [0,1,7,8] rfl<|a5 (k+1) ((by refine⟨by omega,?_⟩;rw[hsn,hno];exact hp)) (by show _ - _<_ - _;omega) ⟨rfl,rfl,rfl,rfl,trivial⟩ me
 obtain rfl:k=l.length:=by omega
 refine bz (aD (aD (bO (am ?_))))
 refine ac<|aa<|rn 1 [4] rfl<|ae<|aq<|av Tryz.results204 (an rfl) ?_
 intro w hw
 refine⟨-1,?_,rfl,hw⟩
 rw[List.take_length] at hno
 rw[hno]
 rfl
set_option maxRecDepth 100000 in
theorem xu (A:Option Addr) (c:Nat) (l:List cc) (f:FuncId) (cap:Array Value) (p:cc→Bool) (w:World) (hs:Sl w (.slice A l.length c) l) (hcall:∀a w,(callFunc f a).run Tryz.prog w= .ok (.enter f a) w)
  (hf:∀w1,Below w.heap.size w w1→∀k,k<l.length→Calls Tryz.prog f ([Value.agg #[.int .i64 (bG l k).c,.int .i64 (bG l k).a]]++cap.toList).toArray w1 fun e w'=>e= .returned (.bool (p (bG l k)))∧Below w1.heap.size w1 w') :
  Calls Tryz.prog 162 #[.slice A l.length c,.func (.func f) #[] cap] w fun e w'=>e= .returned (.bool (l.any p))∧Below w.heap.size w w':=by
 refine enter Tryz.func162 rfl Tryz.ntmps162 rfl ?_
 refine ac<|aa<|rn 1 [0,1] rfl<|ae<|ac<|aa<|rn 2 [5,6] rfl<|ag (cO rfl rfl rfl Tryz.call204 (fun w hw=>C9 A c l f cap p w (hw.ro hs) hcall (fun w1 h1=>hf w1 (hw.below.trans (h1.mono hw.le))))) rfl rfl (fun r hr=>?_)
 refine rn 2 [4] rfl<|ae<|aq<|av Tryz.results162 (an rfl) ?_
 intro w hw
 exact⟨bE hr,hw.below⟩
def Hw (l:List cc):Int:=if d8 l=0 then (if l.length=0 then 5 else 0) else d8 l
def IG (l:List cc) (i:Nat):Int:=if Hw l=0 then (if (l.take i).any (DV l.length) then 3 else 0) else Hw l
end
section
theorem tH (n:Int):be (ia n):=by unfold ia be;omega
theorem xj (b:UInt8) (r:List UInt8):be (fN b r).1.c∧be (fN b r).1.a:=by
 have hb:=b.toNat_lt
 have h0:be (b.toNat:Int):=by unfold be;omega
 have h1:be 0:=by unfold be;omega
 unfold fN
 split
 ·exact⟨h0,h1⟩
 split
 ·exact⟨h0,h1⟩
 refine⟨h0,?_⟩
 dsimp only
 split
 ·exact tH _
 exact h1
theorem wc (k:Nat):∀(r:List UInt8) (out:List cc),(∀o∈out,be o.c∧be o.a)→out.length≤40→(∀o∈(fg k r out).1,be o.c∧be o.a)∧(fg k r out).1.length≤40:=by
 induction k with
 | zero=>intro r out h h40;cases r <;> simp[fg] <;> first | exact⟨h,h40⟩ | skip
 | succ k ih=>
  intro r out h h40
  cases r with
  | nil=>simpa [fg] using ⟨h,h40⟩
  | cons b r=>
   simp only[fg]
   split
   ·simp
   split
   ·simp
   rename_i h41
   refine ih _ _ (fun o ho=>?_) (by simp at h41⊢;omega)
   rcases List.mem_append.1 ho with ho | ho
   ·exact h o ho
   simp at ho;subst ho;exact xj b r
theorem uD (l:List UInt8):(∀o∈(fB l).1,be o.c∧be o.a)∧(fB l).1.length≤40:=wc _ _ _ (by simp) (by simp)
end
section
def sc:List cc:= [⟨1,3⟩,⟨3,0⟩,⟨20,0⟩,⟨1,1⟩,⟨6,0⟩,⟨3,0⟩,⟨11,8⟩,⟨10,1⟩,⟨2,0⟩,⟨13,0⟩]
theorem EP (l:List cc) (h:(l.all fun o=>decide (be o.c∧be o.a))=true):∀o∈l,cS.wf o:=fun o ho=>by
 have:=of_decide_eq_true (List.all_eq_true.1 h o ho)
 exact this
set_option maxRecDepth 100000 in
theorem C3 (w:World):Calls Tryz.prog 118 #[] w fun e w'=> ∃g:Nat,True∧e= .returned (.slice (some ⟨g,0,none⟩) 10 10)∧Cw w.heap.size w [ap (.slice (some ⟨g,0,none⟩) 10 10) sc] w':=by
 refine enter Tryz.func118 rfl Tryz.ntmps118 rfl ?_
 refine ac<|aa<|rn 1 [] rfl<|ae<|ac<|aa<|af (bN (cs:= [_,_]) ew bL rfl rfl (by rfl)) rfl rfl ?_
 refine af (bN (cs:= [_,_]) ew bL rfl rfl (by rfl)) rfl rfl ?_
 refine af (bN (cs:= [_,_]) ew bL rfl rfl (by rfl)) rfl rfl ?_
 refine af (bN (cs:= [_,_]) ew bL rfl rfl (by rfl)) rfl rfl ?_
 refine af (bN (cs:= [_,_]) ew bL rfl rfl (by rfl)) rfl rfl ?_
 refine af (bN (cs:= [_,_]) ew bL rfl rfl (by rfl)) rfl rfl ?_
 refine af (bN (cs:= [_,_]) ew bL rfl rfl (by rfl)) rfl rfl ?_
 refine af (bN (cs:= [_,_]) ew bL rfl rfl (by rfl)) rfl rfl ?_
 refine af (bN (cs:= [_,_]) ew bL rfl rfl (by rfl)) rfl rfl ?_
 refine af (bN (cs:= [_,_]) ew bL rfl rfl (by rfl)) rfl rfl ?_
 refine ag (bu (cs:= [_,_,_,_,_,_,_,_,_,_,_,_,_,_,_,_,_,_,_,_]) bw cG bL rfl rfl rfl rfl rfl) rfl rfl (fun g1 _=>?_)
 refine rn 1 [0] rfl<|ae<|dA (fun w h=>cE (α:=cc) (m:=10) sc rfl (EP _ (by decide)) rfl (by decide) h) ?_
 refine aq<|av Tryz.results118 (an rfl) ?_
 intro w hw
 exact⟨g1,trivial,rfl,hw⟩
end
end Go.Proofs.YtpacloheigifkaaGreat
