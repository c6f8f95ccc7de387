/- Texts of one proof, one behind the other: lemmas alone. -/
import Derived.Test.YthfkmcbblnbfaaaGreatDoorM0U
import Derived.Lib.AppendStr
import Derived.Test.YthfkmcbblnbfaaaGreatDoorM14U

namespace Go.Proofs.YthfkmcbblnbfaaaGreatDoor
set_option maxRecDepth 100000
set_option maxHeartbeats 16000000
open Go.RowKit
section
instance:Ow UInt8 where
 ty:=5
 own _ F cs x:=cs= [.int .u8 (x.toNat:Int)]/\∀b,¬F b
 rd_ h:=h.1
 lt h hb:=(h.2 _ hb).elim
 frame h _:=h
 cong h hf:=⟨h.1,fun b hb=>h.2 b ((hf b).2 hb)⟩
instance:bA UInt8 where
 enc x:= [.int .u8 (x.toNat:Int)]
 wf _:=True
 rep_iff:=⟨fun h=>⟨h,trivial⟩,fun h=>h.1⟩
 own_iff:=⟨fun h=>⟨⟨h.1,trivial⟩,h.2⟩,fun h=>⟨h.1.1,h.2⟩⟩
section
variable {P:Program} (w:World)
end
section
variable {P:Program} {n:NF} {B:Nat} {w0:World} {env:aZ} {H H':List ar} {o:Oper}
end
end
section
def oS {α:Type} [Ow α] (Hel:List ar) (cs:List Value) (xs:List α):Prop:= ∀w F,Hs w Hel F->∃Fs:Nat->Nat->Prop,j3 w Fs cs xs/\(∀i j b,i<xs.length->j<xs.length->Fs i b->Fs j b->i=j)/\∀b,F b↔∃i,i<xs.length/\Fs i b
section
variable {α:Type} [Ow α] {Hel Hel2:List ar} {cs cs2:List Value} {x:α} {xs:List α}
theorem oS.nil_:oS [] [] ([]:List α):=fun w F h=>⟨fun _ _=>False,j3.nil_ _ _,by simp,fun b=>by simp[h b]⟩
theorem oS.cons (h1:∀w F,Hs w Hel F->Ow.own w F cs x) (h2:oS Hel2 cs2 xs):oS (Hel++Hel2) (cs++cs2) (x::xs):=by
 intro w F h
 obtain⟨F1,F2,k1,k2,kd,kF⟩:=h.split
 obtain⟨Fs,e2,d2,f2⟩:=h2 w F2 k2
 have h1:=h1 w F1 k1
 have hl:=am.len (Ow.rd_ h1)
 have e1:j3 w (fun _=>F1) cs [x]:=⟨by simp[hl],fun j y hy=>by
  cases j with
  | zero=>
   simp only[List.getElem?_cons_zero,au] at hy
   subst hy
   simp only[Nat.zero_mul,lY]
   rw[a6 (by omega)]
   exact h1
  | succ j=>simp at hy⟩
 have:=e1.append e2
 refine⟨_,this,?_,?_⟩
 ·intro i j b hi hj hib hjb
  simp only[aA,aH] at hi hj hib hjb
  by_cases i0:i<0+1 <;> by_cases j0:j<0+1
  ·omega
  ·simp only[i0,j0,if_true,if_false] at hib hjb
   exact(kd b hib ((f2 b).2 ⟨_,by omega,hjb⟩)).elim
  ·simp only[i0,j0,if_true,if_false] at hib hjb
   exact(kd b hjb ((f2 b).2 ⟨_,by omega,hib⟩)).elim
  simp only[i0,j0,if_false] at hib hjb
  have:=d2 _ _ b (by omega) (by omega) hib hjb
  omega
 intro b
 rw[kF b,f2 b]
 simp only[aA,aH]
 constructor
 ·rintro(hb | ⟨i,hi,hb⟩)
  ·exact⟨0,by omega,by simpa using hb⟩
  exact⟨i+1,by omega,by simpa using hb⟩
 rintro⟨i,hi,hb⟩
 by_cases i0:i<0+1
 ·simp only[i0,if_true] at hb;exact .inl hb
 simp only[i0,if_false] at hb;exact .inr ⟨_,by omega,hb⟩
end
section
variable {B:Nat} {w0:World} {H:List ar}
theorem vw {α:Type} [Ow α] {g m:Nat} {cs:List Value} {Hel:List ar} {xs:List α} (hel:oS Hel cs xs) (hl:xs.length=m) (hm:m<=140737488355328) {w:World} (h:Cw B w0 (af g cs (Ow.ty α)::(Hel++H)) w) :
  Cw B w0 (aj (.slice (some ⟨g,0,none⟩) m m) xs::H) w:=by
 have h:=Cw.pack (l1:=af g cs (Ow.ty α)::Hel) (l2:=H) h
 refine h.upd fun F hF _=>?_
 obtain⟨F1,F2,⟨hg,k1⟩,k2,kd,kF⟩:∃F1 F2:Nat->Prop,(w.heap[g]? =some (.cells cs.toArray (Ow.ty α) (0,0))/\∀b,F1 b↔b=g)/\Hs w Hel F2/\(∀b,F1 b->F2 b->False)/\∀b,F b↔F1 b\/F2 b:=hF
 obtain⟨Fs,e2,d2,f2⟩:=hel w F2 k2
 subst hl
 refine⟨F,.inr ⟨g,0,xs.length,cs.toArray,Fs,ed.of e2 hg (by simp) (ay _) (by unfold maxLen;omega) (by simp[e2.len]) hm (fun b=>by rw[kF b,k1 b,f2 b]) (fun i hi hb=>kd g ((k1 g).2 rfl) ((f2 g).2 ⟨i,hi,hb⟩)) d2⟩,rfl,rfl,rfl,ay _,fun _ _ _=>rfl,fun b hb=> .inl hb⟩
end
section
variable {P:Program} {n:NF} {B:Nat} {w0:World} {Q:Exit->Act->World->Prop} {env:aZ} {H:List ar} {x y z:Code}
end
end
section
def fL {α:Type} [am α] (v:Value) (xs:List α):ar where
 P w F:=(∀b,F b->b<w.heap.size)/\∀w',(∀b,F b->w'.heap[b]? =w.heap[b]?)->Sl w' v xs
 loc {w w' F} h hw:=⟨fun b hb=>by
   have h1:=h.1 b hb
   have h2:=hw b hb
   rw[hO h1] at h2
   exact(bC.1 h2).1,fun w'' h''=>h.2 w'' fun b hb=>(h'' b hb).trans (hw b hb)⟩
 lt h hb:=h.1 _ hb
def dI (L:List (Value×List Int)):ar:=ar.pack (L.map fun p=>fL p.1 p.2)
def gH (L:List (Value×List Int)) (v:Value) (xs:List Int):Prop:=(v= .slice none 0 0/\xs= [])\/(v,xs)∈L
theorem gH.cons {L:List (Value×List Int)} {v:Value} {xs:List Int} {p:Value×List Int} (h:gH L v xs):gH (p::L) v xs:=h.imp id (List.mem_cons_of_mem _)
theorem gH.new {L:List (Value×List Int)} {v:Value} {xs:List Int} :gH ((v,xs)::L) v xs:= .inr (List.mem_cons_self ..)
theorem gH.nil_ {L:List (Value×List Int)} :gH L (.slice none 0 0) []:= .inl ⟨rfl,rfl⟩
section
variable {B:Nat} {w0 w:World} {H H':List ar}
theorem pT {α:Type} [Ow α] {v:Value} {xs:List α} (h:Cw B w0 (aj v xs::H) w):Cw B w0 (fL v xs::H) w:=by
 refine h.upd fun F ho _=>⟨F,⟨fun b hb=>bS.lt (show bS w F v xs from ho) hb,fun w' hw'=>bS.sl (bS.frame (show bS w F v xs from ho) hw')⟩,rfl,rfl,rfl,ay _,fun _ _ _=>rfl,fun b hb=> .inl hb⟩
theorem ry {α:Type} [am α] {Hel:List ar} {v:Value} {xs:List α} (hr:∀w F,Hs w Hel F->Sl w v xs) (h:Cw B w0 (Hel++H) w):Cw B w0 (fL v xs::H) w:=by
 have h:=Cw.pack h
 refine h.upd fun F ho _=>?_
 have ho:Hs w Hel F:=ho
 exact⟨F,⟨fun b hb=>Hs.lt ho hb,fun w' hw'=>hr w' F (Hs.loc ho hw')⟩,rfl,rfl,rfl,ay _,fun _ _ _=>rfl,fun b hb=> .inl hb⟩
theorem SF.rd {α:Type} [am α] {A:Option Addr} {m c:Nat} {xs:List α} (hl:xs.length=m) (hp:bY H (fL (.slice A m c) xs) H'):SF B w0 H A m c xs:=
 ⟨hl,fun w hw=>by obtain⟨F,h,_⟩:=hw.rd hp;exact h.2 w fun _ _=>rfl⟩
theorem Cw.rdSl {α:Type} [am α] {v:Value} {xs:List α} (hw:Cw B w0 H w) (hp:bY H (fL v xs) H'):Sl w v xs:=by
 obtain⟨F,h,_⟩:=hw.rd hp;exact h.2 w fun _ _=>rfl
theorem Hs.mem {w:World} :∀{l:List ar} {F:Nat->Prop} {R:ar},R∈l->Hs w l F->∃F',R.P w F'/\∀b,F' b->F b
 | _::l,F,R,hm,⟨F1,F2,h1,h2,h3,h4⟩=>by
  rcases cc.1 hm with e | e
  ·subst e;exact⟨F1,h1,fun b hb=>(h4 b).2 (.inl hb)⟩
  obtain⟨F',h5,h6⟩:=Hs.mem e h2
  exact⟨F',h5,fun b hb=>(h4 b).2 (.inr (h6 b hb))⟩
theorem gL (h:Cw B w0 H w):Cw B w0 (dI []::H) w:=by
 obtain⟨h1,h2,F,h3,h4⟩:=h
 exact⟨h1,h2,F,⟨fun _=>False,F,fun _ h=>h,h3,fun _ h _=>h,fun b=>by simp⟩,h4⟩
theorem mG {v:Value} {xs:List Int} {L:List (Value×List Int)} (h:Cw B w0 (fL v xs::dI L::H) w):Cw B w0 (dI ((v,xs)::L)::H) w:=by
 obtain⟨h1,h2,F,⟨F1,F2,k1,⟨F3,F4,k3,k4,k5,k6⟩,k7,k8⟩,h4⟩:=h
 refine⟨h1,h2,F,⟨fun b=>F1 b\/F3 b,F4,⟨F1,F3,k1,k3,fun b hb hb'=>k7 b hb ((k6 b).2 (.inl hb')),fun b=>iK⟩,k4,?_,?_⟩,h4⟩
 ·rintro b (hb | hb) hb'
  ·exact k7 b hb ((k6 b).2 (.inr hb'))
  exact k5 b hb hb'
 intro b
 rw[k8 b,k6 b,or_assoc]
theorem gH.sl {L:List (Value×List Int)} {v:Value} {xs:List Int} (h:gH L v xs) (hw:Cw B w0 H w) (hp:bY H (dI L) H'):Sl w v xs:=by
 rcases h with ⟨rfl,rfl⟩ | h
 ·exact Sl.nil_
 obtain⟨F,hF,_⟩:=hw.rd hp
 obtain⟨F',h5,_⟩:=Hs.mem (List.mem_map_of_mem (f:=fun p:Value×List Int=>fL p.1 p.2) h) (show Hs w _ F from hF)
 exact h5.2 w fun _ _=>rfl
theorem gH.form {L:List (Value×List Int)} {v:Value} {xs:List Int} (h:gH L v xs) (hw:Cw B w0 H w) (hp:bY H (dI L) H'):∃A c,v= .slice A xs.length c:=by
 obtain⟨A,c,e,_⟩:=(h.sl hw hp).form
 exact⟨A,c,e⟩
end
structure fp where
 v:Value
instance:am fp where
 k:=1
 rep _ _ cs h:=cs= [h.v]/\h.v.oneCell'=true
 len h:=by rw[h.1];rfl
 keep h _:=h
 more h _:=h
 one h:=by rw[h.1];simpa using h.2
instance:Ow fp where
 ty:=35
 own _ F cs h:=(cs= [h.v]/\h.v.oneCell'=true)/\∀b,¬F b
 rd_ h:=h.1
 lt h hb:=(h.2 _ hb).elim
 frame h _:=h
 cong h hf:=⟨h.1,fun b hb=>h.2 b ((hf b).2 hb)⟩
instance:bA fp where
 enc h:= [h.v]
 wf h:=h.v.oneCell'=true
 rep_iff:=iK
 own_iff:=iK
def gO:fp:=⟨.slice none 0 0⟩
section
variable {P:Program} {n:NF} {B:Nat} {w0:World} {env:aZ} {H H':List ar} {o:Oper}
theorem SF.hdr {A:Option Addr} {xs:List fp} {m c k:Nat} (hs:SF B w0 H A m c xs) (hk:k<m):∀w,Cw B w0 H w->w.cell? ⟨ab A,ao A+k*1,none⟩=some (xs.getD k gO).v:=fun w hw=>SF.cell hs hk gO (j:=0) rfl w hw
theorem fT {i j:Operand} {t e:TypeId} {ki:IntKind} {sz m c k b0 o0:Nat} {A:Option Addr} (hu:P.underlying t=some (.slice e)) (hz:∀w,(sizeOf e).run P w= .ok sz w) (hA:A=some ⟨b0,o0,none⟩) (hk:k<m) (hop:o.op= .indexAddr t i j) (hi:opv env i=some (.slice A m c)) (hj:opv env j=some (.int ki (k:Int))) :
  QS P n B w0 o env H (.pointer (some ⟨ab A,ao A+k*sz,none⟩)):=by
 intro a w hf hw
 subst hA
 have e1:(0:Int)<=k/\(k:Int)<m:=by omega
 unfold execOp
 simp only[hop,hf.opv hi,hf.opv hj,Sem.run_bind,Instr.indexAt,asIntOf,Sem.run_pure,Result.andThen_ok,run_underlying hu,e1,and_self,if_true,hz,eJ,ab,ao,aV]
theorem SF.addr {α:Type} [am α] {A:Option Addr} {m c:Nat} {xs:List α} (hs:SF B w0 H A m c xs) (h0:0<m) {w:World} (hw:Cw B w0 H w):∃b o,A=some ⟨b,o,none⟩:=(hs.2 w hw).addr h0
theorem An {i:Operand} {t u e:TypeId} {A:Option Addr} {m c:Nat} {v:Value} (hr:∀w,(binOp .eql t (.slice A m c) (.slice none 0 0)).run P w= .ok v w) (hop:o.op= .binOp .eql t i (.const (.slice none 0 0)) u) (hi:opv env i=some (.slice A m c)) (hg:∀w,(eqGuard .eql t i (.const (.slice none 0 0)) (.slice A m c) (.slice none 0 0)).run P w= .ok () w):QS P n B w0 o env H v:=by
 intro a w hf hw
 have hj:a.eval (.const (.slice none 0 0))= .slice none 0 0:=rfl
 unfold execOp
 simp only[hop,hf.opv hi,hj,Sem.run_bind,hg,Result.andThen_ok,hr,Sem.run_pure]
end
end
section
def nW {α:Type} [am α] (B:Nat) (w0:World) (v:Value) (xs:List α):ar where
 P w F:=(∀b,F b->b<w.heap.size)/\∀w',(∀b,F b->w'.heap[b]? =w.heap[b]?)->iu B w0 w'->B<=w'.heap.size->Sl w' v xs
 loc {w w' F} h hw:=⟨fun b hb=>by
   have h1:=h.1 b hb
   have h2:=hw b hb
   rw[hO h1] at h2
   exact(bC.1 h2).1,fun w'' h''=>h.2 w'' fun b hb=>(h'' b hb).trans (hw b hb)⟩
 lt h hb:=h.1 _ hb
section
variable {B:Nat} {w0 w:World} {H H':List ar}
theorem SF.rb {α:Type} [am α] {A:Option Addr} {m c:Nat} {xs:List α} (hl:xs.length=m) (hp:bY H (nW B w0 (.slice A m c) xs) H'):SF B w0 H A m c xs:=
 ⟨hl,fun w hw=>by obtain⟨F,h,_⟩:=hw.rd hp;exact h.2 w (fun _ _=>rfl) (.of_below hw.below) hw.le⟩
theorem kY {α:Type} [am α] {v:Value} {xs:List α} (h:aT w0 B v xs) (hw:Cw B w0 H w):Cw B w0 (nW B w0 v xs::H) w:=by
 obtain⟨h1,h2,F,h3,h4⟩:=hw
 exact⟨h1,h2,F,⟨fun _=>False,F,⟨fun _ h=>h.elim,fun w' _ hc hb=>(h.keep hc).more hb⟩,h3,fun _ h _=>h,fun b=>by simp⟩,h4⟩
theorem mi {α:Type} [Ow α] {v:Value} {xs:List α} (h:Cw B w0 (aj v xs::H) w):Cw B w0 (nW B w0 v xs::H) w:=by
 refine h.upd fun F ho _=>⟨F,⟨fun b hb=>bS.lt (show bS w F v xs from ho) hb,fun w' hw' _ _=>bS.sl (bS.frame (show bS w F v xs from ho) hw')⟩,rfl,rfl,rfl,ay _,fun _ _ _=>rfl,fun b hb=> .inl hb⟩
end
end
section
section
variable {P:Program} {n:NF} {B:Nat} {w0:World} {o:Oper} {env:aZ} {H:List ar}
theorem OT.mem {γ:Type} {Φ:γ->Prop} {val:γ->Value} {H' H'':γ->List ar} (h:OT P n B w0 o env H Φ val H') (hm:∀g w,Cw B w0 (H' g) w->Cw B w0 (H'' g) w):OT P n B w0 o env H Φ val H'':=fun a w hf hw=>
 Oper.wp_mono_ (h a w hf hw) (fun _ _ ⟨g,h1,h2,h3⟩=>⟨g,h1,h2,hm g _ h3⟩) (fun _ _ _ h=>h)
end
class gj (α:Type) (η:outParam Type) [Ow α] [bA η] where
 parts:η->α->List ar
 ok:η->α->Prop
 kk:am.k η=am.k α
 tt:Ow.ty η=Ow.ty α
 opn:∀{w:World} {F:Nat->Prop} {cs:List Value} {x:α},Ow.own w F cs x->∃h:η,(cs=bA.enc h/\bA.wf h)/\ok h x/\Hs w (parts h x) F
 cls:∀{w:World} {F:Nat->Prop} {h:η} {x:α},bA.wf h->ok h x->Hs w (parts h x) F->Ow.own w F (bA.enc h) x
section
variable {α η:Type} [Ow α] [bA η] [gj α η]
def jl (l:List (η×α)):Prop:= ∀p∈l,gj.ok p.1 p.2
def gi (l:List (η×α)):ar:=ar.pack (l.flatMap fun p=>gj.parts p.1 p.2)
theorem Hs.cong {w:World} :∀{l:List ar} {F F':Nat->Prop},Hs w l F->(∀b,F b↔F' b)->Hs w l F'
 | [],_,_,h,e=>fun b hb=>h b ((e b).2 hb)
 | _::_,_,_,⟨F1,F2,h1,h2,h3,h4⟩,e=>⟨F1,F2,h1,h2,h3,fun b=>(e b).symm.trans (h4 b)⟩
theorem yH {w:World} :∀(l:List (η×α)) (Fs:Nat->Nat->Prop),(∀(i:Nat) (p:η×α),l[i]? =some p->Hs w (gj.parts p.1 p.2) (Fs i))->(∀i j b,i<l.length->j<l.length->Fs i b->Fs j b->i=j)->
  Hs w (l.flatMap fun p=>gj.parts p.1 p.2) (fun b=> ∃i,i<l.length/\Fs i b)
 | [],_,_,_=>fun b ⟨i,hi,_⟩=>by simp at hi
 | p::l,Fs,h,hd=>by
  have h1:=h 0 p rfl
  have h2:=yH l (fun i=>Fs (i+1)) (fun i q hq=>h (i+1) q (by simpa using hq)) (fun i j b hi hj hb hb'=>by
   have:=hd (i+1) (j+1) b (by simp;omega) (by simp;omega) hb hb'
   omega)
  rw[dD]
  refine(h1.join h2 fun b hb ⟨i,hi,hb'⟩=>?_).cong fun b=>?_
  ·have:=hd 0 (i+1) b (by simp) (by simp;omega) hb hb'
   omega
  constructor
  ·rintro(hb | ⟨i,hi,hb⟩)
   ·exact⟨0,by simp,hb⟩
   exact⟨i+1,by simp;omega,hb⟩
  rintro⟨i,hi,hb⟩
  cases i with
  | zero=>exact .inl hb
  | succ i=>exact .inr ⟨i,by simp at hi;omega,hb⟩
theorem zh {w:World} :∀(l:List (η×α)) (F:Nat->Prop),Hs w (l.flatMap fun p=>gj.parts p.1 p.2) F->∃Fs:Nat->Nat->Prop,(∀(i:Nat) (p:η×α),l[i]? =some p->Hs w (gj.parts p.1 p.2) (Fs i))/\
  (∀i j b,i<l.length->j<l.length->Fs i b->Fs j b->i=j)/\∀b,F b↔∃i,i<l.length/\Fs i b
 | [],F,h=>⟨fun _ _=>False,by simp,by simp,fun b=>by simp[show¬F b from h b]⟩
 | p::l,F,h=>by
  rw[dD] at h
  obtain⟨F1,F2,h1,h2,hd,hF⟩:=h.split
  obtain⟨Fs,k1,k2,k3⟩:=zh l F2 h2
  refine⟨fun i=>match i with | 0=>F1 | i+1=>Fs i,?_,?_,?_⟩
  ·intro i q hq
   cases i with
   | zero=>simp at hq;subst hq;exact h1
   | succ i=>exact k1 i q (by simpa using hq)
  ·intro i j b hi hj hb hb'
   simp only[aA] at hi hj
   cases i with
   | zero=>
    cases j with
    | zero=>rfl
    | succ j=>exact(hd b hb ((k3 b).2 ⟨j,by omega,hb'⟩)).elim
   | succ i=>
    cases j with
    | zero=>exact(hd b hb' ((k3 b).2 ⟨i,by omega,hb⟩)).elim
    | succ j=>have:=k2 i j b (by omega) (by omega) hb hb';omega
  intro b
  rw[hF b,k3 b]
  constructor
  ·rintro(hb | ⟨i,hi,hb⟩)
   ·exact⟨0,by simp,hb⟩
   exact⟨i+1,by simp;omega,hb⟩
  rintro⟨i,hi,hb⟩
  cases i with
  | zero=>exact .inl hb
  | succ i=>exact .inr ⟨i,by simp at hi;omega,hb⟩
variable {B:Nat} {w0:World} {H H':List ar}
theorem Cw.unpack {w:World} {l1 l2:List ar} (h:Cw B w0 (ar.pack l1::l2) w):Cw B w0 (l1++l2) w:=by
 obtain⟨h1,h2,F,⟨F1,F2,h5,h6,h7,h8⟩,h4⟩:=h
 exact⟨h1,h2,F,(Hs.join (show Hs w l1 F1 from h5) h6 h7).cong fun b=>(h8 b).symm,h4⟩
theorem EU {v:Value} {xs:List α} {w:World} (h:Cw B w0 (aj v xs::H) w):∃l:List (η×α),l.map Prod.snd=xs/\jl l/\Cw B w0 (aj v (l.map Prod.fst)::gi l::H) w:=by
 obtain⟨h1,h2,F,⟨F1,F2,h5,h6,h7,h8⟩,h4⟩:=h
 have h5:bS w F1 v xs:=h5
 rcases h5 with ⟨rfl,rfl,h9⟩ | ⟨g,p,cap,cur,Fs,ho⟩
 ·exact⟨[],rfl,by simp[jl],h1,h2,F,⟨fun _=>False,F,bS.nil_ w,⟨fun _=>False,F,fun _ h=>h,h6.cong fun b=>by rw[h8 b];simp[h9 b],fun _ h=>h.elim,fun b=>by simp⟩,fun _ h=>h.elim,fun b=>by simp⟩,h4⟩
 have hex:∀i,i<xs.length->∃q:η×α,xs[i]? =some q.2/\((cur.toList.drop (p+i*am.k α)).take (am.k α)=bA.enc q.1/\bA.wf q.1)/\gj.ok q.1 q.2/\Hs w (gj.parts q.1 q.2) (Fs i):=fun i hi=>by
  obtain⟨h,k1,k2,k3⟩:=gj.opn (ho.el i _ (ae hi))
  exact⟨(h,xs[i]),ae hi,k1,k2,k3⟩
 have key:∀n,n<=xs.length->∃l:List (η×α),l.length=n/\∀i q,l[i]? =some q->xs[i]? =some q.2/\((cur.toList.drop (p+i*am.k α)).take (am.k α)=bA.enc q.1/\bA.wf q.1)/\gj.ok q.1 q.2/\Hs w (gj.parts q.1 q.2) (Fs i):=by
  intro n
  induction n with
  | zero=>exact fun _=>⟨[],rfl,fun i q h=>by simp at h⟩
  | succ n ih=>
   intro hn
   obtain⟨l,hl,hq⟩:=ih (by omega)
   obtain⟨q,hq2⟩:=hex n (by omega)
   refine⟨l++ [q],by simp[hl],fun i r hr=>?_⟩
   by_cases hi:i<l.length
   ·rw[cI hi] at hr;exact hq i r hr
   rw[bB (by omega)] at hr
   have h0:i - l.length<1:=(aq.1 hr).1
   obtain rfl:i=n:=by omega
   rw[show i - l.length=0 from by omega] at hr
   simp at hr
   subst hr
   exact hq2
 obtain⟨l,hl,hq⟩:=key xs.length (ay _)
 have hsnd:l.map Prod.snd=xs:=by
  apply dT
  intro i
  rw[cE]
  by_cases hi:i<l.length
  ·have:=(hq i l[i] (ae hi)).1
   rw[ae hi,this]
   rfl
  rw[aM (by omega),aM (by omega)]
  rfl
 have hall:=yH (w:=w) l Fs (fun i q h=>(hq i q h).2.2.2) (fun i j b hi hj=>ho.dj i j b (by omega) (by omega))
 refine⟨l,hsnd,fun q hm=>?_,h1,h2,F,⟨fun b=>b=g,fun b=>(∃i,i<l.length/\Fs i b)\/F2 b,.inr ⟨g,p,cap,cur,fun _ _=>False,?_⟩,⟨_,F2,hall,h6,fun b ⟨i,hi,hb⟩ hb'=>h7 b ((ho.hF b).2 (.inr ⟨i,by omega,hb⟩)) hb',fun b=>iK⟩,?_,?_⟩,h4⟩
 ·obtain⟨i,hi,rfl⟩:=bD hm
  exact(hq i _ (ae hi)).2.2.1
 ·refine⟨by rw[bH,hl];exact ho.hv,by rw[gj.tt (α:=α) (η:=η)];exact ho.hg,by rw[bH,hl];exact ho.hn,ho.hc,by rw[gj.kk (α:=α) (η:=η)];exact ho.hs,by rw[bH,hl];exact ho.hl,fun i h hh=>?_,fun b=>by simp,fun _ _ h=>h,fun _ _ _ _ _ h=>h.elim⟩
  rw[cE] at hh
  obtain⟨q,hq1,rfl⟩:=Option.map_eq_some_iff.1 hh
  rw[gj.kk (α:=α) (η:=η)]
  exact bA.own_iff.2 ⟨(hq i q hq1).2.1,fun _ h=>h⟩
 ·rintro b rfl (⟨i,hi,hb⟩ | hb)
  ·exact ho.ng i (by omega) hb
  exact h7 b ((ho.hF b).2 (.inl rfl)) hb
 intro b
 rw[h8 b,ho.hF b,<-hl,or_assoc]
theorem Fw {v:Value} {l:List (η×α)} {w:World} (hok:jl l) (h:Cw B w0 (aj v (l.map Prod.fst)::gi l::H) w):Cw B w0 (aj v (l.map Prod.snd)::H) w:=by
 obtain⟨h1,h2,F,⟨F1,F2,h5,⟨F3,F4,k3,k4,k5,k6⟩,h7,h8⟩,h4⟩:=h
 have h5:bS w F1 v (l.map Prod.fst):=h5
 have k3:Hs w (l.flatMap fun p=>gj.parts p.1 p.2) F3:=k3
 rcases h5 with ⟨rfl,h9,h10⟩ | ⟨g,p,cap,cur,Fs,ho⟩
 ·have:l= []:=by simpa using h9
  subst this
  exact⟨h1,h2,F,⟨fun _=>False,F,bS.nil_ w,k4.cong fun b=>by rw[h8 b,k6 b];simp[h10 b,show¬F3 b from k3 b],fun _ h=>h.elim,fun b=>by simp⟩,h4⟩
 obtain⟨Gs,m1,m2,m3⟩:=zh l F3 k3
 have hno:∀i b,i<l.length->¬Fs i b:=fun i b hi hb=>((bA.own_iff.1 (ho.el i _ (ae (by simpa using hi)))).2 b) hb
 have hg:∀b,F1 b↔b=g:=fun b=>by
  rw[ho.hF b]
  constructor
  ·rintro(h | ⟨i,hi,hb⟩)
   ·exact h
   exact(hno i b (by simpa using hi) hb).elim
  exact .inl
 refine⟨h1,h2,F,⟨fun b=>b=g\/∃i,i<l.length/\Gs i b,F4,.inr ⟨g,p,cap,cur,Gs,?_⟩,k4,?_,?_⟩,h4⟩
 ·refine⟨by rw[bH];have:=ho.hv;rwa [bH] at this,by rw[<-gj.tt (α:=α) (η:=η)];exact ho.hg,by have:=ho.hn;simpa using this,ho.hc,by rw[<-gj.kk (α:=α) (η:=η)];exact ho.hs,by have:=ho.hl;simpa using this,fun i x hx=>?_,fun b=>by simp,fun i hi hb=>?_,fun i j b hi hj=>m2 i j b (by simpa using hi) (by simpa using hj)⟩
  ·rw[cE] at hx
   obtain⟨q,hq1,rfl⟩:=Option.map_eq_some_iff.1 hx
   have hel:=bA.own_iff.1 (ho.el i q.1 (by rw[cE,hq1];rfl))
   rw[gj.kk (α:=α) (η:=η)] at hel
   rw[hel.1.1]
   exact gj.cls hel.1.2 (hok q (cJ hq1)) (m1 i q hq1)
  exact h7 g ((hg g).2 rfl) ((k6 g).2 (.inl ((m3 g).2 ⟨i,by simpa using hi,hb⟩)))
 ·rintro b (rfl | ⟨i,hi,hb⟩) hb'
  ·exact h7 b ((hg b).2 rfl) ((k6 b).2 (.inr hb'))
  exact k5 b ((m3 b).2 ⟨i,hi,hb⟩) hb'
 intro b
 rw[h8 b,k6 b,hg b,m3 b,or_assoc]
theorem yO {β γ:Type} (f:β->List γ) {l l':List β} (h:l.Perm l'):(l.flatMap f).Perm (l'.flatMap f):=by
 induction h with
 | nil=>exact .refl _
 | cons x _ ih=>rw[dD,dD];exact List.Perm.append_left _ ih
 | swap x y l=>
  simp only[dD]
  rw[<-cu,<-cu]
  exact List.Perm.append_right _ List.perm_append_comm
 | trans _ _ h1 h2=>exact h1.trans h2
theorem sM {l l':List (η×α)} {w:World} (hp:l.Perm l') (h:Cw B w0 (gi l::H) w):Cw B w0 (gi l'::H) w:=by
 have h:=Cw.unpack h
 refine Cw.pack (h.perm (List.Perm.append_right _ (yO _ hp)))
theorem z2 {p:η×α} {l:List (η×α)} {w:World} (h:Cw B w0 (gi (p::l)::H) w):Cw B w0 (gj.parts p.1 p.2++gi l::H) w:=by
 have h:=Cw.unpack h
 rw[dD,cu] at h
 exact(Cw.pack (h.perm (List.perm_append_comm_assoc _ _ _))).perm List.perm_middle.symm
theorem z6 {p:η×α} {l:List (η×α)} {w:World} (h:Cw B w0 (gj.parts p.1 p.2++gi l::H) w):Cw B w0 (gi (p::l)::H) w:=by
 have h:=Cw.unpack (h.perm List.perm_middle)
 refine Cw.pack ?_
 rw[dD,cu]
 exact h.perm (List.perm_append_comm_assoc _ _ _)
theorem vM {β:Type} :∀{l:List β} {k:Nat} (hk:k<l.length),l.Perm (l[k]::l.eraseIdx k)
 | _::_,0,_=> .refl _
 | x::l,k+1,hk=>by
  have:=vM (l:=l) (k:=k) (by simpa using hk)
  simp only[List.getElem_cons_succ,List.eraseIdx_cons_succ]
  exact(List.Perm.cons x this).trans (List.Perm.swap ..)
theorem tj {β:Type} :∀{l:List β} {k:Nat} (_:k<l.length) (q:β),(l.set k q).Perm (q::l.eraseIdx k)
 | _::_,0,_,_=> .refl _
 | x::l,k+1,hk,q=>by
  have:=tj (l:=l) (k:=k) (by simpa using hk) q
  simp only[List.set_cons_succ,List.eraseIdx_cons_succ]
  exact(List.Perm.cons x this).trans (List.Perm.swap ..)
theorem xU {l:List (η×α)} {k:Nat} {w:World} (hk:k<l.length) (h:Cw B w0 (gi l::H) w):Cw B w0 (gj.parts l[k].1 l[k].2++gi (l.eraseIdx k)::H) w:=z2 (sM (vM hk) h)
theorem Cp {l:List (η×α)} {k:Nat} {q:η×α} {w:World} (hk:k<l.length) (h:Cw B w0 (gj.parts q.1 q.2++gi (l.eraseIdx k)::H) w):Cw B w0 (gi (l.set k q)::H) w:=sM (tj hk q).symm (z6 h)
theorem jl.set {l:List (η×α)} {k:Nat} {q:η×α} (h:jl l) (hq:gj.ok q.1 q.2):jl (l.set k q):=fun p hp=>by
 rcases List.mem_or_eq_of_mem_set hp with h1 | h1
 ·exact h p h1
 subst h1;exact hq
theorem jl.snoc {l:List (η×α)} {q:η×α} (h:jl l) (hq:gj.ok q.1 q.2):jl (l++ [q]):=fun p hp=>by
 rcases cS.1 hp with h1 | h1
 ·exact h p h1
 simp at h1;subst h1;exact hq
section
variable {P:Program} {n:NF} {Q:Exit->Act->World->Prop} {env:aZ} {x:Code} {ops:Array Oper} {os:List Oper}
theorem Fu {v:Value} {xs:List α} (hp:bY H (aj v xs) H') (h:∀l:List (η×α),l.map Prod.snd=xs->jl l->CW P n B w0 x Q env (aj v (l.map Prod.fst)::gi l::H')):CW P n B w0 x Q env H:=fun a w hf hw=>by
 obtain⟨l,h1,h2,h3⟩:=EU (hw.perm hp)
 exact h l h1 h2 a w hf h3
end
end
end
end Go.Proofs.YthfkmcbblnbfaaaGreatDoor
