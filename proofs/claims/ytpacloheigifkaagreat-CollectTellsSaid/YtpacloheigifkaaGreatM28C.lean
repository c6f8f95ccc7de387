/- Texts of one proof, one behind the other: lemmas alone. -/
import Derived.Test.YtpacloheigifkaaGreatM0C
import Derived.Lib.AppendStr
import Derived.Deep.QuietTactic
import Derived.BigQuiet
import Derived.Test.YtpacloheigifkaaGreatM14C
import Derived.Test.YtpacloheigifkaaGreatM26C
import Derived.Test.YtpacloheigifkaaGreatM4C
import Derived.Test.YtpacloheigifkaaGreatM17C
import Derived.Test.YtpacloheigifkaaGreatM23C
import Derived.Test.YtpacloheigifkaaGreatM1C

namespace Go.Proofs.YtpacloheigifkaaGreat
open Go.RowKit
section
structure aA where
 params:Int
 locals:List Int
 result:Int
 code:List bT
 deriving DecidableEq
instance:Inhabited aA:=⟨⟨0,[],0,[]⟩⟩
instance:aK aA where
 k:=4
 rep w B cs f:= ∃v1 v2,cs= [.int .i64 f.params,v1,.int .i64 f.result,v2]∧(a5 f.params∧a5 f.result)∧bM w B v1 f.locals∧bM w B v2 f.code
 len h:=by obtain⟨v1,v2,h,_⟩:=h;rw[h];rfl
 keep h hc:=by obtain⟨v1,v2,h,hi,h1,h2⟩:=h;exact⟨v1,v2,h,hi,h1.keep hc,h2.keep hc⟩
 more h hb:=by obtain⟨v1,v2,h,hi,h1,h2⟩:=h;exact⟨v1,v2,h,hi,h1.more hb,h2.more hb⟩
 one h:=by
  obtain⟨v1,v2,h,hi,h1,h2⟩:=h
  obtain⟨A1,c1,rfl,_⟩:=h1.form
  obtain⟨A2,c2,rfl,_⟩:=h2.form
  rw[h]
  simp[Value.oneCell']
instance:Ow aA where
 ty:=110
 own w F cs f:= ∃v1 v2 F1 F2,cs= [.int .i64 f.params,v1,.int .i64 f.result,v2]∧(a5 f.params∧a5 f.result)∧cy w F1 v1 f.locals∧cy w F2 v2 f.code∧(∀b,F1 b→F2 b→False)∧∀b,F b↔F1 b∨F2 b
 rd_ h:=by obtain⟨v1,v2,F1,F2,h,hi,h1,h2,_⟩:=h;exact⟨v1,v2,h,hi,h1.sl,h2.sl⟩
 lt h hb:=by
  obtain⟨v1,v2,F1,F2,h,hi,h1,h2,_,hF⟩:=h
  rcases(hF _).1 hb with h | h
  ·exact h1.lt h
  exact h2.lt h
 frame h hf:=by
  obtain⟨v1,v2,F1,F2,h,hi,h1,h2,hd,hF⟩:=h
  exact⟨v1,v2,F1,F2,h,hi,h1.frame fun b hb=>hf b ((hF b).2 (.inl hb)),h2.frame fun b hb=>hf b ((hF b).2 (.inr hb)),hd,hF⟩
 cong h hf:=by
  obtain⟨v1,v2,F1,F2,h,hi,h1,h2,hd,hF⟩:=h
  exact⟨v1,v2,F1,F2,h,hi,h1,h2,hd,fun b=>(hf b).symm.trans (hF b)⟩
instance:gk aA:=⟨22⟩
section
variable {B:Nat} {w0:World} {H:List a4}
def ax (l:List aA) (k:Nat):aA:=l.getD k default
theorem bM.fn {A:Option Addr} {m c k:Nat} {xs:List aA} (h:bM w0 B (.slice A m c) xs) (hk:k<m):∃A1 c1 A2 c2,bM w0 B (.slice A1 (ax xs k).locals.length c1) (ax xs k).locals∧bM w0 B (.slice A2 (ax xs k).code.length c2) (ax xs k).code∧(a5 (ax xs k).params∧a5 (ax xs k).result)∧
  ∀H w,Cw B w0 H w→∀j v,([.int .i64 (ax xs k).params,.slice A1 (ax xs k).locals.length c1,.int .i64 (ax xs k).result,.slice A2 (ax xs k).code.length c2]:List Value)[j]? =some v→w.cell? ⟨ab A,ao A+k*4+j,none⟩=some v:=by
 obtain⟨cs,⟨v1,v2,hcs,hi,h1,h2⟩,hc⟩:=h.elr hk default
 obtain⟨A1,c1,rfl,_⟩:=h1.form
 obtain⟨A2,c2,rfl,_⟩:=h2.form
 subst hcs
 exact⟨A1,c1,A2,c2,h1,h2,hi,fun H w hw j v hv=>hc j v hv H w hw⟩
theorem BT {v1 v2:Value} {f:aA} (hi:a5 f.params∧a5 f.result):∀(w:World) (F:Nat→Prop),Hs w [an v1 f.locals,an v2 f.code] F→Ow.own w F [.int .i64 f.params,v1,.int .i64 f.result,v2] f:=by
 rintro w F ⟨F1,F2,h1,⟨F3,F4,h3,h4,h5,h6⟩,hd,hF⟩
 have e:∀b,F2 b↔F3 b:=fun b=>by rw[h6 b];simp[h4 b]
 exact⟨v1,v2,F1,F3,rfl,hi,h1,h3,fun b hb hb'=>hd b hb ((e b).2 hb'),fun b=>by rw[hF b,e b]⟩
end
def bx (n a b:Int):Bool:=decide (a≤n) && decide (n≤b)
def dS (nf nl nc:Nat) (o:bT):Bool:=
 if o.c=8∨o.c=9 then bx o.a 0 ((nl:Int) - 1) else if o.c=10∨o.c=11 then bx o.a 0 ((nc:Int) - 1) else if o.c=12 then bx o.a 0 ((nf:Int) - 1) else true
def fy (t:Int):Bool:=!bx t 1 2
def dN (nf:Nat) (f:aA):Int:=
 if 6<f.locals.length then 2 else if bx f.params 0 f.locals.length=false then 3 else if bx f.result 0 2=false∨f.locals.any fy=true then 6 else if f.code.length=0 then 5 else
 if dJ f.code≠0 then dJ f.code else if f.code.any (fun o=>!dS nf f.locals.length f.code.length o)=true then 3 else 0
def dD {α:Type} (g:α→Int):List α→Int
 | []=>0
 | f::l=>if g f≠0 then g f else dD g l
def da (fs:List aA):Int:=
 if fs.length=0 then 5 else if 5<fs.length then 2 else if dD (dN fs.length) fs≠0 then dD (dN fs.length) fs else if 0<(ax fs 0).params∨(ax fs 0).result≠0 then 4 else 0
def gA (f:aA):List UInt8:=
 [dU f.params,dU f.locals.length]++f.locals.map dU++ [dU f.result,dU ((dc f.code).length / 256),dU (dc f.code).length]++dc f.code
def ws (fs:List aA):List UInt8:=dU fs.length::fs.flatMap gA
def Dm (fs:List aA):List UInt8×Int:=if da fs≠0 then ([],da fs) else (ws fs,0)
abbrev nh:=List UInt8×Bool
def iM (r:nh) (n:Int):List UInt8×nh:=((gK r.1 n).1,(gK r.1 n).2.1,r.2 || !(gK r.1 n).2.2)
def eU (r:nh):Int×nh:=(match (iM r 1).1 with | []=>0 | b::_=>(b.toNat:Int),(iM r 1).2)
def fL:Nat→nh→List Int→List Int×nh
 | 0,r,acc=>(acc,r)
 | k+1,r,acc=>if r.2 then (acc,r) else fL k (eU r).2 (acc++ [(eU r).1])
def jU (r:nh):aA×nh:=
 let p:=eU r
 let n:=eU p.2
 let l:=fL n.1.toNat n.2 []
 let t:=eU l.2
 let a:=eU t.2
 let b:=eU a.2
 let c:=iM b.2 (a.1*256+b.1)
 (⟨p.1,l.1,t.1,(eK c.1).1⟩,c.2.1,c.2.2 || decide ((eK c.1).2≠0))
def hU:Nat→nh→List aA→List aA×nh
 | 0,r,acc=>(acc,r)
 | k+1,r,acc=>if r.2 then (acc,r) else hU k (jU r).2 (acc++ [(jU r).1])
def mO (s:List UInt8):List aA×nh:=hU (eU (s,false)).1.toNat (eU (s,false)).2 []
def Do (s:List UInt8):List aA×Int:=
 if 2000<s.length then ([],2) else if (mO s).2.2=true∨(mO s).2.1≠[] then ([],1) else if da (mO s).1≠0 then ([],da (mO s).1) else ((mO s).1,0)
theorem gi {α:Type} {g:α→Int} {l:List α} {k:Nat} (d:α) (hk:k<l.length) (h:dD g (l.take k)=0):dD g (l.take (k+1))=g (l.getD k d):=by
 induction l generalizing k with
 | nil=>simp at hk
 | cons a l ih=>
  cases k with
  | zero=>simp[dD];intro e;exact e.symm
  | succ k=>
   simp only[List.take_succ_cons,dD] at h⊢
   have ha:g a=0:=by
    by_cases e:g a=0
    ·exact e
    rw[if_pos e] at h;exact absurd h e
   rw[if_neg (by simp[ha])] at h⊢
   rw[ih (by simpa using hk) h]
   simp
theorem j7 {α:Type} {g:α→Int} {l:List α} {k:Nat} (h:dD g (l.take k)≠0):dD g l=dD g (l.take k):=by
 induction l generalizing k with
 | nil=>simp
 | cons a l ih=>
  cases k with
  | zero=>simp[dD] at h
  | succ k=>
   simp only[List.take_succ_cons,dD] at h⊢
   split
   ·rfl
   rename_i e;rw[if_neg e] at h;exact ih h
end
section
structure aR where
 ref:Bool
 n:Int
 deriving DecidableEq
instance:Inhabited aR:=⟨⟨false,0⟩⟩
instance:aK aR where
 k:=2
 rep _ _ cs v:=cs= [.bool v.ref,.int .i64 v.n]∧a5 v.n
 len h:=by rw[h.1];rfl
 keep h _:=h
 more h _:=h
 one h:=by rw[h.1];simp[Value.oneCell']
instance:Ow aR where
 ty:=103
 own _ F cs v:=(cs= [.bool v.ref,.int .i64 v.n]∧a5 v.n)∧∀b,¬F b
 rd_ h:=h.1
 lt h hb:=(h.2 _ hb).elim
 frame h _:=h
 cong h hf:=⟨h.1,fun b hb=>h.2 b ((hf b).2 hb)⟩
instance:cG aR where
 enc v:= [.bool v.ref,.int .i64 v.n]
 wf v:=a5 v.n
 rep_iff:=Iff.rfl
 own_iff:=Iff.rfl
instance:gk aR:=⟨95⟩
structure aO where
 func:Int
 pc:Int
 locals:List aR
 stack:List aR
 deriving DecidableEq
instance:Inhabited aO:=⟨⟨0,0,[],[]⟩⟩
structure aU where
 func:Int
 pc:Int
 lv:Value
 sv:Value
instance:Inhabited aU:=⟨⟨0,0,.slice none 0 0,.slice none 0 0⟩⟩
def aU.wf (h:aU):Prop:=(a5 h.func∧a5 h.pc)∧h.lv.oneCell'=true∧h.sv.oneCell'=true
instance:aK aU where
 k:=4
 rep _ _ cs h:=cs= [.int .i64 h.func,.int .i64 h.pc,h.lv,h.sv]∧h.wf
 len h:=by rw[h.1];rfl
 keep h _:=h
 more h _:=h
 one h:=by rw[h.1];simpa [Value.oneCell',aU.wf] using h.2.2
instance:Ow aU where
 ty:=97
 own _ F cs h:=(cs= [.int .i64 h.func,.int .i64 h.pc,h.lv,h.sv]∧h.wf)∧∀b,¬F b
 rd_ h:=h.1
 lt h hb:=(h.2 _ hb).elim
 frame h _:=h
 cong h hf:=⟨h.1,fun b hb=>h.2 b ((hf b).2 hb)⟩
instance:cG aU where
 enc h:= [.int .i64 h.func,.int .i64 h.pc,h.lv,h.sv]
 wf h:=h.wf
 rep_iff:=Iff.rfl
 own_iff:=Iff.rfl
instance:gk aU:=⟨25⟩
theorem wQ {w:World} {F:Nat→Prop} {R S:a4} :Hs w [R,S] F↔∃F1 F2,R.P w F1∧S.P w F2∧(∀b,F1 b→F2 b→False)∧∀b,F b↔F1 b∨F2 b:=by
 constructor
 ·rintro⟨F1,F2,h1,⟨F3,F4,h3,h4,h5,h6⟩,hd,hF⟩
  have e:∀b,F2 b↔F3 b:=fun b=>by rw[h6 b];simp[show¬F4 b from h4 b]
  exact⟨F1,F3,h1,h3,fun b hb hb'=>hd b hb ((e b).2 hb'),fun b=>by rw[hF b,e b]⟩
 rintro⟨F1,F2,h1,h2,hd,hF⟩
 exact⟨F1,F2,h1,⟨F2,fun _=>False,h2,fun _ h=>h,fun _ _ h=>h,fun b=>by simp⟩,hd,hF⟩
theorem lO {α:Type} [Ow α] {w:World} {F:Nat→Prop} {v:Value} {xs:List α} (h:cy w F v xs):v.oneCell'=true:=by
 obtain⟨A,c,e,_⟩:=h.sl.form
 rw[e];rfl
instance:aK aO where
 k:=4
 rep w B cs f:= ∃v1 v2,cs= [.int .i64 f.func,.int .i64 f.pc,v1,v2]∧(a5 f.func∧a5 f.pc)∧bM w B v1 f.locals∧bM w B v2 f.stack
 len h:=by obtain⟨v1,v2,h,_⟩:=h;rw[h];rfl
 keep h hc:=by obtain⟨v1,v2,h,hi,h1,h2⟩:=h;exact⟨v1,v2,h,hi,h1.keep hc,h2.keep hc⟩
 more h hb:=by obtain⟨v1,v2,h,hi,h1,h2⟩:=h;exact⟨v1,v2,h,hi,h1.more hb,h2.more hb⟩
 one h:=by
  obtain⟨v1,v2,h,hi,h1,h2⟩:=h
  obtain⟨A1,c1,rfl,_⟩:=h1.form
  obtain⟨A2,c2,rfl,_⟩:=h2.form
  rw[h]
  simp[Value.oneCell']
instance:Ow aO where
 ty:=97
 own w F cs f:= ∃v1 v2,cs= [.int .i64 f.func,.int .i64 f.pc,v1,v2]∧(a5 f.func∧a5 f.pc)∧Hs w [an v1 f.locals,an v2 f.stack] F
 rd_ h:=by
  obtain⟨v1,v2,h,hi,hh⟩:=h
  obtain⟨F1,F2,h1,h2,_⟩:=wQ.1 hh
  exact⟨v1,v2,h,hi,cy.sl h1,cy.sl h2⟩
 lt h hb:=by obtain⟨v1,v2,h,hi,hh⟩:=h;exact hh.lt hb
 frame h hf:=by obtain⟨v1,v2,h,hi,hh⟩:=h;exact⟨v1,v2,h,hi,hh.loc hf⟩
 cong h hf:=by obtain⟨v1,v2,h,hi,hh⟩:=h;exact⟨v1,v2,h,hi,hh.cong hf⟩
instance:gk aO:=⟨25⟩
instance:fz aO aU where
 parts h f:= [an h.lv f.locals,an h.sv f.stack]
 ok h f:=h.func=f.func∧h.pc=f.pc
 kk:=rfl
 tt:=rfl
 opn {w F cs f} h:=by
  obtain⟨v1,v2,hcs,hi,hh⟩:=h
  obtain⟨F1,F2,h1,h2,_⟩:=wQ.1 hh
  exact⟨⟨f.func,f.pc,v1,v2⟩,⟨hcs,hi,lO h1,lO h2⟩,⟨rfl,rfl⟩,hh⟩
 cls {w F h f} hwf hok hH:=by
  refine⟨h.lv,h.sv,?_,?_,hH⟩
  ·show [.int .i64 h.func,.int .i64 h.pc,h.lv,h.sv]=_
   rw[hok.1,hok.2]
  rw[←hok.1,←hok.2];exact hwf.1
structure aI where
 frames:List aO
 blocks:List (List Int)
 inn:List Int
 out:List Int
 status:Int
 trap:Int
 deriving DecidableEq
instance:Inhabited aI:=⟨⟨[],[],[],[],0,0⟩⟩
structure iA where
 fv:Value
 bv:Value
 iv:Value
 ov:Value
 status:Int
 trap:Int
instance:Inhabited iA:=⟨⟨.slice none 0 0,.slice none 0 0,.slice none 0 0,.slice none 0 0,0,0⟩⟩
def iA.wf (h:iA):Prop:=(a5 h.status∧a5 h.trap)∧h.fv.oneCell'=true∧h.bv.oneCell'=true∧h.iv.oneCell'=true∧h.ov.oneCell'=true
instance:aK iA where
 k:=6
 rep _ _ cs h:=cs= [h.fv,h.bv,h.iv,h.ov,.int .i64 h.status,.int .i64 h.trap]∧h.wf
 len h:=by rw[h.1];rfl
 keep h _:=h
 more h _:=h
 one h:=by rw[h.1];simpa [Value.oneCell',iA.wf] using h.2.2
instance:Ow iA where
 ty:=29
 own _ F cs h:=(cs= [h.fv,h.bv,h.iv,h.ov,.int .i64 h.status,.int .i64 h.trap]∧h.wf)∧∀b,¬F b
 rd_ h:=h.1
 lt h hb:=(h.2 _ hb).elim
 frame h _:=h
 cong h hf:=⟨h.1,fun b hb=>h.2 b ((hf b).2 hb)⟩
instance:cG iA where
 enc h:= [h.fv,h.bv,h.iv,h.ov,.int .i64 h.status,.int .i64 h.trap]
 wf h:=h.wf
 rep_iff:=Iff.rfl
 own_iff:=Iff.rfl
instance:gk iA:=⟨65⟩
def Ea (w:World) (B:Nat) (h:iA) (m:aI):Prop:=(h.status=m.status∧h.trap=m.trap)∧(a5 m.status∧a5 m.trap)∧bM w B h.fv m.frames∧bM w B h.bv m.blocks∧bM w B h.iv m.inn∧bM w B h.ov m.out
instance:aK aI where
 k:=6
 rep w B cs m:= ∃v1 v2 v3 v4,cs= [v1,v2,v3,v4,.int .i64 m.status,.int .i64 m.trap]∧(a5 m.status∧a5 m.trap)∧bM w B v1 m.frames∧bM w B v2 m.blocks∧bM w B v3 m.inn∧bM w B v4 m.out
 len h:=by obtain⟨v1,v2,v3,v4,h,_⟩:=h;rw[h];rfl
 keep h hc:=by obtain⟨v1,v2,v3,v4,h,hi,h1,h2,h3,h4⟩:=h;exact⟨v1,v2,v3,v4,h,hi,h1.keep hc,h2.keep hc,h3.keep hc,h4.keep hc⟩
 more h hb:=by obtain⟨v1,v2,v3,v4,h,hi,h1,h2,h3,h4⟩:=h;exact⟨v1,v2,v3,v4,h,hi,h1.more hb,h2.more hb,h3.more hb,h4.more hb⟩
 one h:=by
  obtain⟨v1,v2,v3,v4,h,hi,h1,h2,h3,h4⟩:=h
  obtain⟨A1,c1,rfl,_⟩:=h1.form
  obtain⟨A2,c2,rfl,_⟩:=h2.form
  obtain⟨A3,c3,rfl,_⟩:=h3.form
  obtain⟨A4,c4,rfl,_⟩:=h4.form
  rw[h]
  simp[Value.oneCell']
theorem tZ {w:World} {F:Nat→Prop} {R S T U:a4} (h:Hs w [R,S,T,U] F):∃F1 F2 F3 F4,R.P w F1∧S.P w F2∧T.P w F3∧U.P w F4:=by
 obtain⟨F1,_,h1,⟨F2,_,h2,⟨F3,_,h3,⟨F4,_,h4,_⟩,_⟩,_⟩,_⟩:=h
 exact⟨F1,F2,F3,F4,h1,h2,h3,h4⟩
instance:Ow aI where
 ty:=29
 own w F cs m:= ∃v1 v2 v3 v4,cs= [v1,v2,v3,v4,.int .i64 m.status,.int .i64 m.trap]∧(a5 m.status∧a5 m.trap)∧Hs w [an v1 m.frames,an v2 m.blocks,an v3 m.inn,an v4 m.out] F
 rd_ h:=by
  obtain⟨v1,v2,v3,v4,h,hi,hh⟩:=h
  obtain⟨F1,F2,F3,F4,h1,h2,h3,h4⟩:=tZ hh
  exact⟨v1,v2,v3,v4,h,hi,cy.sl h1,cy.sl h2,cy.sl h3,cy.sl h4⟩
 lt h hb:=by obtain⟨v1,v2,v3,v4,h,hi,hh⟩:=h;exact hh.lt hb
 frame h hf:=by obtain⟨v1,v2,v3,v4,h,hi,hh⟩:=h;exact⟨v1,v2,v3,v4,h,hi,hh.loc hf⟩
 cong h hf:=by obtain⟨v1,v2,v3,v4,h,hi,hh⟩:=h;exact⟨v1,v2,v3,v4,h,hi,hh.cong hf⟩
instance:gk aI:=⟨65⟩
instance:fz aI iA where
 parts h m:= [an h.fv m.frames,an h.bv m.blocks,an h.iv m.inn,an h.ov m.out]
 ok h m:=h.status=m.status∧h.trap=m.trap
 kk:=rfl
 tt:=rfl
 opn {w F cs m} h:=by
  obtain⟨v1,v2,v3,v4,hcs,hi,hh⟩:=h
  obtain⟨F1,F2,F3,F4,h1,h2,h3,h4⟩:=tZ hh
  exact⟨⟨v1,v2,v3,v4,m.status,m.trap⟩,⟨hcs,hi,lO h1,lO h2,lO h3,lO h4⟩,⟨rfl,rfl⟩,hh⟩
 cls {w F h m} hwf hok hH:=by
  refine⟨h.fv,h.bv,h.iv,h.ov,?_,?_,hH⟩
  ·show [h.fv,h.bv,h.iv,h.ov,.int .i64 h.status,.int .i64 h.trap]=_
   rw[hok.1,hok.2]
  rw[←hok.1,←hok.2];exact hwf.1
section
variable {B:Nat} {w0:World} {H:List a4}
def aN (l:List aO) (k:Nat):aO:=l.getD k default
theorem bM.fr {A:Option Addr} {m c k:Nat} {xs:List aO} (h:bM w0 B (.slice A m c) xs) (hk:k<m):∃A1 c1 A2 c2,bM w0 B (.slice A1 (aN xs k).locals.length c1) (aN xs k).locals∧bM w0 B (.slice A2 (aN xs k).stack.length c2) (aN xs k).stack∧(a5 (aN xs k).func∧a5 (aN xs k).pc)∧
  ∀H w,Cw B w0 H w→∀j v,([.int .i64 (aN xs k).func,.int .i64 (aN xs k).pc,.slice A1 (aN xs k).locals.length c1,.slice A2 (aN xs k).stack.length c2]:List Value)[j]? =some v→w.cell? ⟨ab A,ao A+k*4+j,none⟩=some v:=by
 obtain⟨cs,⟨v1,v2,hcs,hi,h1,h2⟩,hc⟩:=h.elr hk default
 obtain⟨A1,c1,rfl,_⟩:=h1.form
 obtain⟨A2,c2,rfl,_⟩:=h2.form
 subst hcs
 exact⟨A1,c1,A2,c2,h1,h2,hi,fun H w hw j v hv=>hc j v hv H w hw⟩
structure MA where
 Af:Option Addr
 cf:Nat
 Ab:Option Addr
 cb:Nat
 Ai:Option Addr
 ci:Nat
 Ao:Option Addr
 co:Nat
structure dE (B:Nat) (w:World) (a:MA) (m:aI):Prop where
 f:bM w B (.slice a.Af m.frames.length a.cf) m.frames
 b:bM w B (.slice a.Ab m.blocks.length a.cb) m.blocks
 i:bM w B (.slice a.Ai m.inn.length a.ci) m.inn
 o:bM w B (.slice a.Ao m.out.length a.co) m.out
 s:a5 m.status
 t:a5 m.trap
theorem dE.ro {w:World} {a:MA} {m:aI} (hw:Cw B w0 H w) (h:dE B w0 a m):dE w.heap.size w a m:=⟨hw.ro h.f,hw.ro h.b,hw.ro h.i,hw.ro h.o,h.s,h.t⟩
def jm (l:List aI) (k:Nat):aI:=l.getD k default
theorem SF.val {A:Option Addr} {xs:List aR} {m c k:Nat} (hs:SF B w0 H A m c xs) (hk:k<m) (d:aR):∀w,Cw B w0 H w→∀j v,([.bool (xs.getD k d).ref,.int .i64 (xs.getD k d).n]:List Value)[j]? =some v→w.cell? ⟨ab A,ao A+k*2+j,none⟩=some v:=fun w hw _ _ hv=>SF.cell hs hk d hv w hw
end
end
section
structure kV where
 p:Int
 v1:Value
 r:Int
 v2:Value
instance:Inhabited kV:=⟨⟨0,.slice none 0 0,0,.slice none 0 0⟩⟩
def kV.wf (h:kV):Prop:=(a5 h.p∧a5 h.r)∧h.v1.oneCell'=true∧h.v2.oneCell'=true
instance:aK kV where
 k:=4
 rep _ _ cs h:=cs= [.int .i64 h.p,h.v1,.int .i64 h.r,h.v2]∧h.wf
 len h:=by rw[h.1];rfl
 keep h _:=h
 more h _:=h
 one h:=by rw[h.1];simpa [Value.oneCell',kV.wf] using h.2.2
instance:Ow kV where
 ty:=110
 own _ F cs h:=(cs= [.int .i64 h.p,h.v1,.int .i64 h.r,h.v2]∧h.wf)∧∀b,¬F b
 rd_ h:=h.1
 lt h hb:=(h.2 _ hb).elim
 frame h _:=h
 cong h hf:=⟨h.1,fun b hb=>h.2 b ((hf b).2 hb)⟩
instance:cG kV where
 enc h:= [.int .i64 h.p,h.v1,.int .i64 h.r,h.v2]
 wf h:=h.wf
 rep_iff:=Iff.rfl
 own_iff:=Iff.rfl
instance:gk kV:=⟨22⟩
def C5 (B:Nat) (w0:World) (h:kV) (f:aA):Prop:=h.p=f.params∧h.r=f.result∧(a5 f.params∧a5 f.result)∧bM w0 B h.v1 f.locals∧bM w0 B h.v2 f.code
theorem C5.rep {B:Nat} {w0 w:World} {h:kV} {f:aA} (hh:C5 B w0 h f) (hc:gM B w0 w) (hb:B≤w.heap.size):aK.rep w w.heap.size [.int .i64 h.p,h.v1,.int .i64 h.r,h.v2] f:=by
 obtain⟨h1,h2,h3,h4,h5⟩:=hh
 exact⟨h.v1,h.v2,by rw[h1,h2],h3,(h4.keep hc).more hb,(h5.keep hc).more hb⟩
end
section
set_option maxRecDepth 100000 in
theorem fW (n a b:Int) (w:World):Calls Tryz.prog 158 #[.int .i64 n,.int .i64 a,.int .i64 b] w fun e w'=>e= .returned (.bool (bx n a b))∧Below w.heap.size w w':=by
 refine enter Tryz.func158 rfl Tryz.ntmps158 rfl ?_
 refine ac<|aa<|rn 1 [0,1,2] rfl<|ae<|ac<|aa<|rn 4 [0,2,10] rfl<|bL (t:=10) rfl (fun h1=>?_) (fun h1=>?_)
 ·refine rn 5 [6] rfl<|ae<|ap<|au Tryz.results158 (am rfl) ?_
  intro w hw
  exact⟨bh (by unfold bx;rw[h1];rfl),hw.below⟩
 refine rn 5 [6] rfl<|ae<|ap<|au Tryz.results158 (am rfl) ?_
 intro w hw
 exact⟨bh (by unfold bx;rw[h1];rfl),hw.below⟩
set_option maxRecDepth 100000 in
theorem yB (t:Int) (w:World):Calls Tryz.prog 160 #[.int .i64 t] w fun e w'=>e= .returned (.bool (fy t))∧Below w.heap.size w w':=by
 refine enter Tryz.func160 rfl Tryz.ntmps160 rfl ?_
 refine ac<|aa<|rn 1 [0] rfl<|ae<|ac<|aa<|rn 1 [3] rfl<|ai (bB rfl rfl rfl kx (fun w hw=>fW t 1 2 w)) rfl rfl (fun _ _=>?_)
 refine rn 2 [2] rfl<|ae<|ap<|au Tryz.results160 (am rfl) ?_
 intro w hw
 exact⟨rfl,hw.below⟩
set_option maxRecDepth 100000 in
theorem wP (A:Option Addr) (c:Nat) (l:List Int) (f:FuncId) (cap:Array Value) (p:Int→Bool) (w:World) (hs:Sl w (.slice A l.length c) l) (hcall:∀a w,(callFunc f a).run Tryz.prog w= .ok (.enter f a) w)
  (hf:∀w1,Below w.heap.size w w1→∀x,x∈l→Calls Tryz.prog f ([Value.int .i64 x]++cap.toList).toArray w1 fun e w'=>e= .returned (.bool (p x))∧Below w1.heap.size w1 w') :
  Calls Tryz.prog 203 #[.slice A l.length c,.func (.func f) #[] cap] w fun e w'=> ∃r:Int,decide (0≤r)=l.any p∧e= .returned (.int .i64 r)∧Cw w.heap.size w [] w':=by
 have b1:=bR hs
 refine enter Tryz.func203 rfl Tryz.ntmps203 rfl ?_
 refine ac<|aa<|rn 1 [0,1] rfl<|ae<|ac<|ac<|aa<|rn 1 [0,1,6] rfl<|af (aL ag rfl rfl) rfl rfl<|rn 1 [0,1,7,8] rfl<|ae<|aE (bD (fun k:Nat=>k≤l.length∧(l.take k).any p=false) (fun k=>l.length - k) (fun k=> [(0,.slice A l.length c),(1,.func (.func f) #[] cap),(7,.int .i64 (l.length:Int)),(8,.int .i64 (k:Int))]) (fun _=> []) 0 (⟨Nat.zero_le _,rfl⟩) ⟨rfl,rfl,rfl,rfl,trivial⟩ me ?_)
 rintro k hk'
 obtain⟨hk,hno⟩:k≤l.length∧(l.take k).any p=false:=hk'
 refine ac<|aa<|rn 1 [0,1,7,8,9] rfl<|ae<|ac<|ar rfl (fun hlt=>?_) (fun hlt=>?_)
 ·have hkl:k<l.length:=by omega
  have hm:l.getD k 0∈l:=by rw[List.getD_eq_getElem?_getD,List.getElem?_eq_getElem hkl];exact List.getElem_mem hkl
  have hsn:=iS (p:=p) 0 hkl
  refine aq (ak ?_)
  refine ac<|aE<|ac<|aa<|rn 2 [0,1,5,7,8] rfl<|ae<|ac<|aa<|rn 3 [0,1,5,7,8,11,12,13] rfl<|af (aQ ag aF (.ro hs) (by omega) rfl rfl rfl) rfl rfl<|af (aZ (SF.int (.ro hs) (by omega)) rfl rfl aw) rfl rfl<|ai (oO rfl rfl rfl hcall (fun w hw=>hf w hw.below (l.getD k 0) hm)) rfl rfl (fun _ _=>?_)
  refine ae<|b9 rfl (fun hp=>?_) (fun hp=>?_)
  ·have hp:p (l.getD k 0)=true:=hp
   refine ac<|aa<|rn 2 [4] rfl<|ae<|ap (aC (ah (ah (aC (ah ?_)))))
   refine au sG (am rfl) ?_
   intro w hw
   refine⟨(k:Int),?_,rfl,hw⟩
   have h2:l.any p=true:=List.any_eq_true.2 ⟨_,hm,hp⟩
   rw[h2]
   exact decide_eq_true (by omega)
  have hp:p (l.getD k 0)=false:=hp
  refine aq (aH (ak ?_))
  refine aa<|af (a6 rfl rfl rfl (by omega)) rfl rfl<|rn 1 [0,1,7,8] rfl<|aX (k+1) ((by refine⟨by omega,?_⟩;rw[hsn,hno];exact hp)) (by show _ - _<_ - _;omega) ⟨rfl,rfl,rfl,rfl,trivial⟩ me
 obtain rfl:k=l.length:=by omega
 refine bz (aG (aG (bO (ak ?_))))
 refine ac<|aa<|rn 1 [4] rfl<|ae<|ap<|au sG (am rfl) ?_
 intro w hw
 refine⟨-1,?_,rfl,hw⟩
 rw[List.take_length] at hno
 rw[hno]
 rfl
set_option maxRecDepth 100000 in
theorem mX (A:Option Addr) (c:Nat) (l:List Int) (f:FuncId) (cap:Array Value) (p:Int→Bool) (w:World) (hs:Sl w (.slice A l.length c) l) (hcall:∀a w,(callFunc f a).run Tryz.prog w= .ok (.enter f a) w)
  (hf:∀w1,Below w.heap.size w w1→∀x,x∈l→Calls Tryz.prog f ([Value.int .i64 x]++cap.toList).toArray w1 fun e w'=>e= .returned (.bool (p x))∧Below w1.heap.size w1 w') :
  Calls Tryz.prog 159 #[.slice A l.length c,.func (.func f) #[] cap] w fun e w'=>e= .returned (.bool (l.any p))∧Below w.heap.size w w':=by
 refine enter Tryz.func159 rfl Tryz.ntmps159 rfl ?_
 refine ac<|aa<|rn 1 [0,1] rfl<|ae<|ac<|aa<|rn 2 [5,6] rfl<|ai (dg rfl rfl rfl Tryz.call203 (fun w hw=>wP A c l f cap p w (hw.ro hs) hcall (fun w1 h1=>hf w1 (hw.below.trans (h1.mono hw.le))))) rfl rfl (fun r hr=>?_)
 refine rn 2 [4] rfl<|ae<|ap<|au Tryz.results159 (am rfl) ?_
 intro w hw
 exact⟨bh hr,hw.below⟩
set_option maxRecDepth 100000 in
theorem yP (Ap A1 A2:Option Addr) (cp c1 c2 n nl nc:Nat) (pa re:Int) (o:bT) (w:World) (hn:n≤140737488355328) (hnl:nl≤140737488355328) (hnc:nc≤140737488355328) :
  Calls Tryz.prog 164 #[.agg #[.slice Ap n cp],.agg #[.int .i64 pa,.slice A1 nl c1,.int .i64 re,.slice A2 nc c2],.agg #[.int .i64 o.c,.int .i64 o.a]] w fun e w'=>e= .returned (.bool (dS n nl nc o))∧Below w.heap.size w w':=by
 refine enter Tryz.func164 rfl Tryz.ntmps164 rfl ?_
 refine ac<|aa<|ai (bH rfl rfl rfl) rfl rfl (fun g1 _=>?_)
 refine ai (bH rfl rfl rfl) rfl rfl (fun g2 _=>?_)
 refine ai (bH rfl rfl rfl) rfl rfl (fun g3 _=>?_)
 refine rn 1 [3,4,5] rfl<|ae<|ac<|ac<|aa<|rn 1 [3,4,5,7] rfl<|af (aj fc aw rfl rfl (by rfl)) rfl rfl ?_
 refine ae<|aE<|ac<|ac<|aa<|rn 2 [3,4,5,8,9] rfl<|ae<|ar rfl (fun h1=>?_) (fun h1=>?_)
 ·refine aq (ak ?_)
  refine cS (t:=9) (v':= .bool true) rfl (by rw[decide_eq_true h1]) ?_
  refine br rfl<|ac<|aa<|rn 1 [4,12] rfl<|af (aj fc aw rfl rfl (by rfl)) rfl rfl ?_
  refine rn 1 [13,14] rfl<|af (aj fc aW rfl rfl (by rfl)) rfl rfl ?_
  refine af (aL ag rfl rfl) rfl rfl<|af (cn rfl rfl rfl (by omega)) rfl rfl<|ai (bB rfl rfl rfl kx (fun w hw=>fW _ _ _ w)) rfl rfl (fun _ _=>?_)
  refine rn 1 [6] rfl<|ae<|ap (aC (ah ?_))
  refine au kZ (am rfl) ?_
  intro w hw
  exact⟨bh (by unfold dS;rw[if_pos (.inl h1)]),hw.below⟩
 refine aa<|rn 2 [3,4,5,8,9] rfl<|ae<|ar rfl (fun h2=>?_) (fun h2=>?_)
 ·refine ac<|aa<|rn 1 [4,12] rfl<|af (aj fc aw rfl rfl (by rfl)) rfl rfl ?_
  refine rn 1 [13,14] rfl<|af (aj fc aW rfl rfl (by rfl)) rfl rfl ?_
  refine af (aL ag rfl rfl) rfl rfl<|af (cn rfl rfl rfl (by omega)) rfl rfl<|ai (bB rfl rfl rfl kx (fun w hw=>fW _ _ _ w)) rfl rfl (fun _ _=>?_)
  refine rn 1 [6] rfl<|ae<|ap (aC (ah ?_))
  refine au kZ (am rfl) ?_
  intro w hw
  exact⟨bh (by unfold dS;rw[if_pos (.inr h2)]),hw.below⟩
 have h12:¬(o.c=8∨o.c=9):=by omega
 refine ac<|ac<|aa<|rn 2 [3,4,5,8,19] rfl<|ae<|ar rfl (fun h3=>?_) (fun h3=>?_)
 ·refine aq (ak ?_)
  refine cS (t:=19) (v':= .bool true) rfl (by rw[decide_eq_true h3]) ?_
  refine br rfl<|ac<|aa<|rn 1 [4,22] rfl<|af (aj fc aw rfl rfl (by rfl)) rfl rfl ?_
  refine rn 1 [23,24] rfl<|af (aj fc dk rfl rfl (by rfl)) rfl rfl ?_
  refine af (aL bt rfl rfl) rfl rfl<|af (cn rfl rfl rfl (by omega)) rfl rfl<|ai (bB rfl rfl rfl kx (fun w hw=>fW _ _ _ w)) rfl rfl (fun _ _=>?_)
  refine rn 1 [6] rfl<|ae<|ap (aC (ah ?_))
  refine au kZ (am rfl) ?_
  intro w hw
  exact⟨bh (by unfold dS;rw[if_neg h12,if_pos (.inl h3)]),hw.below⟩
 refine aa<|rn 2 [3,4,5,8,19] rfl<|ae<|ar rfl (fun h4=>?_) (fun h4=>?_)
 ·refine ac<|aa<|rn 1 [4,22] rfl<|af (aj fc aw rfl rfl (by rfl)) rfl rfl ?_
  refine rn 1 [23,24] rfl<|af (aj fc dk rfl rfl (by rfl)) rfl rfl ?_
  refine af (aL bt rfl rfl) rfl rfl<|af (cn rfl rfl rfl (by omega)) rfl rfl<|ai (bB rfl rfl rfl kx (fun w hw=>fW _ _ _ w)) rfl rfl (fun _ _=>?_)
  refine rn 1 [6] rfl<|ae<|ap (aC (ah ?_))
  refine au kZ (am rfl) ?_
  intro w hw
  exact⟨bh (by unfold dS;rw[if_neg h12,if_pos (.inr h4)]),hw.below⟩
 have h34:¬(o.c=10∨o.c=11):=by omega
 refine ac<|aa<|rn 2 [3,5,29] rfl<|ae<|ar rfl (fun h5=>?_) (fun h5=>?_)
 ·refine ac<|aa<|rn 1 [3,31] rfl<|af (aj fc aw rfl rfl (by rfl)) rfl rfl ?_
  refine rn 1 [32,33] rfl<|af (aj fc cF rfl rfl (by rfl)) rfl rfl ?_
  refine af (aL bA rfl rfl) rfl rfl<|af (cn rfl rfl rfl (by omega)) rfl rfl<|ai (bB rfl rfl rfl kx (fun w hw=>fW _ _ _ w)) rfl rfl (fun _ _=>?_)
  refine rn 1 [6] rfl<|ae<|ap (aC (ah ?_))
  refine au kZ (am rfl) ?_
  intro w hw
  exact⟨bh (by unfold dS;rw[if_neg h12,if_neg h34,if_pos h5]),hw.below⟩
 refine aq (aH (ak ?_))
 refine ac<|aa<|rn 1 [6] rfl<|ae<|ap<|au kZ (am rfl) ?_
 intro w hw
 exact⟨bh (by unfold dS;rw[if_neg h12,if_neg h34,if_neg h5]),hw.below⟩
end
section
theorem ue {B:Nat} {w0:World} {H H':List a4} {g:Nat} {cs:List Value} {T:TypeId} (hp:cz H (az g cs T) H'):∀w,Cw B w0 H w→∀j v,cs[j]? =some v→w.cell? ⟨g,0+j,none⟩=some v:=fun w hw j v hv=>by
 rw[Nat.zero_add]
 exact eq hp (by rw[fC];exact hv) w hw
set_option maxRecDepth 100000 in
theorem yo (o:bT) (gp gf:Nat) (Ap A1 A2:Option Addr) (cp c1 c2 n nl nc:Nat) (pa re:Int) (w:World) (hn:n≤140737488355328) (hnl:nl≤140737488355328) (hnc:nc≤140737488355328) (hgp:gp<w.heap.size) (hgf:gf<w.heap.size)
  (hcp:∀j v,([.slice Ap n cp]:List Value)[j]? =some v→w.cell? ⟨gp,0+j,none⟩=some v) (hcf:∀j v,([.int .i64 pa,.slice A1 nl c1,.int .i64 re,.slice A2 nc c2]:List Value)[j]? =some v→w.cell? ⟨gf,0+j,none⟩=some v) :
  Calls Tryz.prog 163 #[.agg #[.int .i64 o.c,.int .i64 o.a],.pointer (some ⟨gp,0,none⟩),.pointer (some ⟨gf,0,none⟩)] w fun e w'=>e= .returned (.bool (!dS n nl nc o))∧Below w.heap.size w w':=by
 refine enter Tryz.func163 rfl Tryz.ntmps163 rfl ?_
 refine ac<|aa<|ai (bH rfl rfl rfl) rfl rfl (fun g1 _=>?_)
 refine rn 1 [1,2,3] rfl<|ae<|ac<|aa<|af (cL (fun w hw j v hv=>(hw.below.cell hgp).trans (hcp j v hv)) rfl rfl cA cg) rfl rfl ?_
 refine af (cL (fun w hw j v hv=>(hw.below.cell hgf).trans (hcf j v hv)) rfl rfl ei bq) rfl rfl ?_
 refine af (aY (vs:= [_,_]) fc gT cE rfl rfl (by rfl) rfl) rfl rfl ?_
 refine ai (bB rfl rfl rfl Tryz.call164 (fun w hw=>yP Ap A1 A2 cp c1 c2 n nl nc pa re o w hn hnl hnc)) rfl rfl (fun _ _=>?_)
 refine rn 2 [4] rfl<|ae<|ap<|au Tryz.results163 (am rfl) ?_
 intro w hw
 exact⟨rfl,hw.below⟩
set_option maxRecDepth 100000 in
set_option maxHeartbeats 1000000 in
theorem ym (Ap A1 A2:Option Addr) (cp c1 c2 n:Nat) (f:aA) (w:World) (hn:n≤140737488355328) (hl:Sl w (.slice A1 f.locals.length c1) f.locals) (hc:Sl w (.slice A2 f.code.length c2) f.code) :
  Calls Tryz.prog 130 #[.agg #[.slice Ap n cp],.agg #[.int .i64 f.params,.slice A1 f.locals.length c1,.int .i64 f.result,.slice A2 f.code.length c2]] w fun e w'=>e= .returned (.int .i64 (dN n f))∧Below w.heap.size w w':=by
 have b1:=bR hl
 have b2:=bR hc
 refine enter Tryz.func130 rfl Tryz.ntmps130 rfl ?_
 refine ac<|aa<|ai (bH rfl rfl rfl) rfl rfl (fun g1 _=>?_)
 refine ai (bH rfl rfl rfl) rfl rfl (fun g2 _=>?_)
 refine rn 1 [2,3] rfl<|ae<|ac<|aE<|ac<|aa<|rn 1 [2,3,7] rfl<|af (aj fc aW rfl rfl (by rfl)) rfl rfl ?_
 refine af (aL ag rfl rfl) rfl rfl<|rn 2 [2,3,6] rfl<|ae<|ar rfl (fun h1=>?_) (fun h1=>?_)
 ·refine ac<|aa<|rn 1 [4] rfl<|ae<|ap (aC (ah ?_))
  refine au im (am rfl) ?_
  intro w hw
  exact⟨ej (by unfold dN;rw[if_pos (by omega)]),hw.below⟩
 have h1:¬6<f.locals.length:=by omega
 refine ac<|aa<|rn 1 [2,3,12] rfl<|af (aj fc aw rfl rfl (by rfl)) rfl rfl ?_
 refine rn 1 [2,3,13,14] rfl<|af (aj fc aW rfl rfl (by rfl)) rfl rfl ?_
 refine af (aL ag rfl rfl) rfl rfl<|ai (bB rfl rfl rfl kx (fun w hw=>fW f.params 0 f.locals.length w)) rfl rfl (fun _ _=>?_)
 refine rn 2 [2,3,11] rfl<|ae<|b9 rfl (fun h2=>?_) (fun h2=>?_)
 ·have h2:bx f.params 0 f.locals.length=false:=by simpa using h2
  refine ac<|aa<|rn 1 [4] rfl<|ae<|ap (aC (ah ?_))
  refine au im (am rfl) ?_
  intro w hw
  exact⟨ej (by unfold dN;rw[if_neg h1,if_pos h2]),hw.below⟩
 have h2:¬bx f.params 0 f.locals.length=false:=by simpa using h2
 refine ac<|ac<|aa<|rn 1 [2,3,20] rfl<|af (aj fc aw rfl rfl (by rfl)) rfl rfl ?_
 refine ai (bB rfl rfl rfl kx (fun w hw=>fW f.result 0 2 w)) rfl rfl (fun _ _=>?_)
 refine rn 2 [2,3,19] rfl<|ae<|b9 rfl (fun h3=>?_) (fun h3=>?_)
 ·have h3':bx f.result 0 2=false:=by simpa using h3
  refine aq (ak ?_)
  refine cS (t:=19) (v':= .bool true) rfl (by rw[h3]) ?_
  refine br rfl<|ac<|aa<|rn 1 [4] rfl<|ae<|ap (aC (ah ?_))
  refine au im (am rfl) ?_
  intro w hw
  exact⟨ej (by unfold dN;rw[if_neg h1,if_neg h2,if_pos (.inl h3')]),hw.below⟩
 have h3:¬bx f.result 0 2=false:=by simpa using h3
 refine aa<|rn 1 [2,3,24] rfl<|af (aj fc aW rfl rfl (by rfl)) rfl rfl ?_
 refine ai (bB rfl rfl rfl DT (fun w hw=>mX A1 c1 f.locals _ _ fy w (hw.ro hl) Tryz.call160 (fun w1 _ x _=>yB x w1))) rfl rfl (fun _ _=>?_)
 refine rn 1 [2,3,19] rfl<|ae<|b9 rfl (fun h4=>?_) (fun h4=>?_)
 ·have h4:f.locals.any fy=true:=h4
  refine ac<|aa<|rn 1 [4] rfl<|ae<|ap (aC (ah ?_))
  refine au im (am rfl) ?_
  intro w hw
  exact⟨ej (by unfold dN;rw[if_neg h1,if_neg h2,if_pos (.inr h4)]),hw.below⟩
 have h4:¬(bx f.result 0 2=false∨f.locals.any fy=true):=by
  rintro(h | h)
  ·exact h3 h
  rw[show f.locals.any fy=false from h4] at h;cases h
 refine ac<|aa<|rn 1 [2,3,28] rfl<|af (aj fc dk rfl rfl (by rfl)) rfl rfl ?_
 refine af (aL bt rfl rfl) rfl rfl<|rn 2 [2,3,27] rfl<|ae<|ar rfl (fun h5=>?_) (fun h5=>?_)
 ·refine ac<|aa<|rn 1 [4] rfl<|ae<|ap (aC (ah ?_))
  refine au im (am rfl) ?_
  intro w hw
  exact⟨ej (by unfold dN;rw[if_neg h1,if_neg h2,if_neg h4,if_pos (by omega)]),hw.below⟩
 have h5:¬f.code.length=0:=by omega
 refine aq (aH (ak ?_))
 refine ac<|ac<|aa<|rn 1 [2,3,32] rfl<|af (aj fc dk rfl rfl (by rfl)) rfl rfl ?_
 refine ai (bB rfl rfl rfl Tryz.call161 (fun w hw=>ze _ f.code w (hw.ro hc))) rfl rfl (fun _ _=>?_)
 refine rn 1 [2,3,5] rfl<|ae<|ac<|aa<|rn 2 [2,3,5,36] rfl<|ae<|bX rfl (fun h6=>?_) (fun h6=>?_)
 ·refine ac<|aa<|rn 2 [4] rfl<|ae<|ap (ah ?_)
  refine au im (am rfl) ?_
  intro w hw
  exact⟨ej (by unfold dN;rw[if_neg h1,if_neg h2,if_neg h4,if_neg h5,if_pos h6]),hw.below⟩
 have h6:¬dJ f.code≠0:=fun h=>h h6
 refine aq (ak ?_)
 refine ac<|ac<|aa<|rn 1 [2,3,38] rfl<|af (aj fc dk rfl rfl (by rfl)) rfl rfl ?_
 refine rn 1 [39,40] rfl<|ai (bB rfl rfl rfl Tryz.call162 (fun w hw=>tq A2 c2 f.code _ _ (fun o=>!dS n f.locals.length f.code.length o) w (hw.ro hc) Tryz.call163 (fun w1 h1 k hk=>yo (bn f.code k) g1 g2 Ap A1 A2 cp c1 c2 n f.locals.length f.code.length f.params f.result w1 hn b1 b2 (Nat.lt_of_lt_of_le (ia hw fc) h1.size) (Nat.lt_of_lt_of_le (ia hw fc) h1.size) (fun j v hv=>(h1.cell (ia hw fc)).trans (ue fc w hw j v hv)) (fun j v hv=>(h1.cell (ia hw fc)).trans (ue fc w hw j v hv))))) rfl rfl (fun _ _=>?_)
 refine ae<|b9 rfl (fun h7=>?_) (fun h7=>?_)
 ·refine ac<|aa<|rn 1 [4] rfl<|ae<|ap (ah ?_)
  refine au im (am rfl) ?_
  intro w hw
  exact⟨ej (by unfold dN;rw[if_neg h1,if_neg h2,if_neg h4,if_neg h5,if_neg h6,if_pos h7]),hw.below⟩
 refine aq (ak ?_)
 refine ac<|aa<|rn 1 [4] rfl<|ae<|ap<|au im (am rfl) ?_
 intro w hw
 exact⟨ej (by unfold dN;rw[if_neg h1,if_neg h2,if_neg h4,if_neg h5,if_neg h6,if_neg (by rw[h7];decide)]),hw.below⟩
set_option maxRecDepth 100000 in
set_option maxHeartbeats 1000000 in
theorem uH (A:Option Addr) (c:Nat) (fs:List aA) (w:World) (hs:Sl w (.slice A fs.length c) fs) :
  Calls Tryz.prog 102 #[.agg #[.slice A fs.length c]] w fun e w'=>e= .returned (.int .i64 (da fs))∧Below w.heap.size w w':=by
 have b1:=bR hs
 refine enter Tryz.func102 rfl Tryz.ntmps102 rfl ?_
 refine ac<|aa<|ai (bH rfl rfl rfl) rfl rfl (fun g1 _=>?_)
 refine rn 1 [1] rfl<|ae<|ac<|aE<|ac<|aa<|rn 1 [1,8] rfl<|af (aj fc cF rfl rfl (by rfl)) rfl rfl ?_
 refine af (aL bA rfl rfl) rfl rfl<|rn 2 [1,7] rfl<|ae<|ar rfl (fun h1=>?_) (fun h1=>?_)
 ·refine ac<|aa<|rn 1 [2] rfl<|ae<|ap (aC (ah ?_))
  refine au k9 (am rfl) ?_
  intro w hw
  exact⟨ej (by unfold da;rw[if_pos (by omega)]),hw.below⟩
 have h1:¬fs.length=0:=by omega
 refine ac<|aa<|rn 1 [1,13] rfl<|af (aj fc cF rfl rfl (by rfl)) rfl rfl ?_
 refine af (aL bA rfl rfl) rfl rfl<|rn 2 [1,12] rfl<|ae<|ar rfl (fun h2=>?_) (fun h2=>?_)
 ·refine ac<|aa<|rn 1 [2] rfl<|ae<|ap (aC (ah ?_))
  refine au k9 (am rfl) ?_
  intro w hw
  exact⟨ej (by unfold da;rw[if_neg h1,if_pos (by omega)]),hw.below⟩
 have h2:¬5<fs.length:=by omega
 refine aq (aH (ak ?_))
 refine ac<|ac<|aa<|rn 1 [1,17] rfl<|af (aj fc cF rfl rfl (by rfl)) rfl rfl ?_
 refine af (aL bA rfl rfl) rfl rfl<|rn 1 [1,18,19,20] rfl<|ae<|aE (bD (fun k:Nat=>k≤fs.length∧dD (dN fs.length) (fs.take k)=0) (fun k=>fs.length - k) (fun k=> [(1,.pointer (some ⟨g1,0,none⟩)),(18,.slice A fs.length c),(19,.int .i64 (fs.length:Int)),(20,.int .i64 (k:Int))]) (fun _=> [az g1 [.slice A fs.length c] 24]) 0 (⟨Nat.zero_le _,rfl⟩) ⟨rfl,rfl,rfl,rfl,trivial⟩ me ?_)
 rintro k hk'
 obtain⟨hk,hno⟩:k≤fs.length∧dD (dN fs.length) (fs.take k)=0:=hk'
 refine ac<|aa<|rn 1 [1,18,19,20,21] rfl<|ae<|ac<|ar rfl (fun hlt=>?_) (fun hlt=>?_)
 ·have hkl:k<fs.length:=by omega
  have hsn:=gi (g:=dN fs.length) default hkl hno
  obtain⟨A1,c1,A2,c2,hl,hc,hi,hcell⟩:=hs.fn hkl
  refine aq (ak ?_)
  refine ac<|aE<|ac<|aa<|af (aQ bA bq (.ro hs) (by omega) rfl rfl rfl) rfl rfl<|af (cL (hcell _) rfl rfl ei bq) rfl rfl<|ai (a9 fe rfl rfl) rfl rfl (fun g2 _=>?_)
  refine ai (aM _ fc bq rfl rfl rfl rfl rfl (by rfl) rfl (by rfl)) rfl rfl (fun _ _=>?_)
  refine ae<|ac<|aa<|af (aY (vs:= [_]) fc cA cg rfl rfl (by rfl) rfl) rfl rfl ?_
  refine af (aY (vs:= [_,_,_,_]) fc ei bq rfl rfl (by rfl) rfl) rfl rfl ?_
  refine ai (bB rfl rfl rfl Tryz.call130 (fun w hw=>ym A A1 A2 c c1 c2 fs.length (ax fs k) w b1 (hw.ro hl) (hw.ro hc))) rfl rfl (fun _ _=>?_)
  refine rn 1 [1,5,18,19,20] rfl<|ae<|ac<|aa<|rn 2 [1,5,18,19,20,28] rfl<|ae<|bX rfl (fun he=>?_) (fun he=>?_)
  ·refine ac<|aa<|rn 2 [2] rfl<|ae<|ap (aC (ah (ah (aC (ah ?_)))))
   refine au k9 (am rfl) ?_
   intro w hw
   have e2:dD (dN fs.length) fs=dN fs.length (ax fs k):=by
    rw[j7 (k:=k+1) (by rw[hsn];exact he),hsn];rfl
   exact⟨ej (by unfold da;rw[if_neg h1,if_neg h2,e2,if_pos he]),hw.below⟩
  refine aq (aH (ak ?_))
  refine aa<|af (a6 rfl rfl rfl (by omega)) rfl rfl<|rn 1 [1,18,19,20] rfl<|aX (k+1) (⟨by show k+1≤_;omega,hsn.trans he⟩) (by show _ - _<_ - _;omega) ⟨rfl,rfl,rfl,rfl,trivial⟩ me
 obtain rfl:k=fs.length:=by omega
 rw[List.take_length] at hno
 obtain⟨A1,c1,A2,c2,hl,hc,hi,hcell⟩:=hs.fn (k:=0) (by omega)
 have hno:¬dD (dN fs.length) fs≠0:=fun h=>h hno
 refine bz (aG (aG (bO (ak ?_))))
 refine ac<|ac<|aa<|rn 1 [31] rfl<|af (aj fc cF rfl rfl (by rfl)) rfl rfl ?_
 refine af (aQ (k:=0) bA bq (.ro hs) (by omega) rfl rfl rfl) rfl rfl<|af (cL (hcell _) rfl rfl ei bq) rfl rfl<|ai (a9 fe rfl rfl) rfl rfl (fun g3 _=>?_)
 refine ai (aM _ fc bq rfl rfl rfl rfl rfl (by rfl) rfl (by rfl)) rfl rfl (fun _ _=>?_)
 refine ae<|ac<|aa<|rn 1 [6,35] rfl<|af (aj fc aw rfl rfl (by rfl)) rfl rfl ?_
 refine rn 2 [6,38] rfl<|bL (t:=38) rfl (fun h3=>?_) (fun h3=>?_)
 ·have h3:=of_decide_eq_true h3
  refine rn 4 [42] rfl<|ae<|br rfl<|ac<|aa<|rn 1 [2] rfl<|ae<|ap (ah ?_)
  refine au k9 (am rfl) ?_
  intro w hw
  exact⟨ej (by unfold da;rw[if_neg h1,if_neg h2,if_neg hno,if_pos (.inl h3)]),hw.below⟩
 have h3:=of_decide_eq_false h3
 refine rn 1 [38,39] rfl<|af (aj fc aw rfl rfl (by rfl)) rfl rfl ?_
 refine rn 2 [42] rfl<|ae<|bX rfl (fun h4=>?_) (fun h4=>?_)
 ·refine ac<|aa<|rn 1 [2] rfl<|ae<|ap (ah ?_)
  refine au k9 (am rfl) ?_
  intro w hw
  exact⟨ej (by unfold da;rw[if_neg h1,if_neg h2,if_neg hno,if_pos (.inr h4)]),hw.below⟩
 refine aq (ak ?_)
 refine ac<|aa<|rn 1 [2] rfl<|ae<|ap<|au k9 (am rfl) ?_
 intro w hw
 exact⟨ej (by unfold da;rw[if_neg h1,if_neg h2,if_neg hno,if_neg (fun h=>h.elim h3 (fun e=>e h4))]),hw.below⟩
end
section
theorem et (n a b:Int) (w:World):Calls Tryz.prog 68 #[.int .i64 n,.int .i64 a,.int .i64 b] w fun e w'=>e= .returned (.bool (bx n a b))∧w=w':=kK n a b w
theorem sq {p:Int→Bool} {l:List Int} {k:Nat} (hk:k<l.length):(l.take (k+1)).any p=((l.take k).any p || p (l.getD k 0)):=iS 0 hk
theorem o4 {n nl nc:Nat} {o:bT} (h:o.c=8∨o.c=9):dS n nl nc o=bx o.a 0 ((nl:Int) - 1):=by unfold dS;rw[if_pos h]
theorem o3 {n nl nc:Nat} {o:bT} (h:o.c=10∨o.c=11):dS n nl nc o=bx o.a 0 ((nc:Int) - 1):=by unfold dS;rw[if_neg (by omega),if_pos h]
theorem w6 {n nl nc:Nat} {o:bT} (h:o.c=12):dS n nl nc o=bx o.a 0 ((n:Int) - 1):=by unfold dS;rw[if_neg (by omega),if_neg (by omega),if_pos h]
theorem BY {n nl nc:Nat} {o:bT} (h1:¬o.c=8) (h2:¬o.c=9) (h3:¬o.c=10) (h4:¬o.c=11) (h5:¬o.c=12):dS n nl nc o=true:=by unfold dS;rw[if_neg (by omega),if_neg (by omega),if_neg h5]
theorem ku {α:Type} {g:α→Int} {l:List α} (h:dD g l=0):∀x∈l,g x=0:=by
 induction l with
 | nil=>simp
 | cons a l ih=>
  simp only[dD] at h
  have ha:g a=0:=by
   by_cases e:g a=0
   ·exact e
   rw[if_pos e] at h;exact absurd h e
  rw[if_neg (fun e=>e ha)] at h
  intro x hx
  rcases List.mem_cons.1 hx with rfl | hx
  ·exact ha
  exact ih h x hx
theorem sW {n:Nat} {f:aA} (h:dN n f=0):0≤f.result∧f.result≤2:=by
 unfold dN at h
 split at h
 ·cases h
 split at h
 ·cases h
 split at h
 ·cases h
 rename_i h1
 have:bx f.result 0 2=true:=by
  cases e:bx f.result 0 2
  ·exact absurd (.inl e) h1
  rfl
 unfold bx at this
 simp only[Bool.and_eq_true,decide_eq_true_eq] at this
 exact this
set_option maxRecDepth 100000 in
set_option maxHeartbeats 4000000 in
theorem sV (A:Option Addr) (c:Nat) (fs:List aA) (w:World) (hs:Sl w (.slice A fs.length c) fs) :
  Calls Tryz.prog 58 #[.agg #[.slice A fs.length c]] w fun e w'=>e= .returned (.int .i64 (da fs))∧Below w.heap.size w w':=by
 have b1:=bR hs
 refine enter Tryz.func58 rfl Tryz.ntmps58 rfl ?_
 refine ac<|aa<|ai (bH rfl rfl rfl) rfl rfl (fun g1 _=>?_)
 refine rn 1 [1] rfl<|ae<|ac<|ac<|aa<|rn 1 [1,10] rfl<|af (aj fc cF rfl rfl (by rfl)) rfl rfl ?_
 refine af (aL bA rfl rfl) rfl rfl<|rn 1 [1,13] rfl<|ae<|ar rfl (fun h1=>?_) (fun h1=>?_)
 ·refine ac<|aa<|rn 1 [2] rfl<|ae<|ap (ah ?_)
  refine au ev (am rfl) ?_
  intro w hw
  exact⟨ej (by unfold da;rw[if_pos (by omega)]),hw.below⟩
 have h1:¬fs.length=0:=by omega
 refine aq (ak ?_)
 refine ac<|ac<|aa<|rn 1 [1,14] rfl<|af (aj fc cF rfl rfl (by rfl)) rfl rfl ?_
 refine af (aL bA rfl rfl) rfl rfl<|rn 1 [1,17] rfl<|ae<|ar rfl (fun h2=>?_) (fun h2=>?_)
 ·refine ac<|aa<|rn 1 [2] rfl<|ae<|ap (ah ?_)
  refine au ev (am rfl) ?_
  intro w hw
  exact⟨ej (by unfold da;rw[if_neg h1,if_pos (by omega)]),hw.below⟩
 have h2:¬5<fs.length:=by omega
 refine aq (ak ?_)
 refine ac<|ac<|aa<|rn 1 [1,3] rfl<|ae<|aE (bD (fun k:Nat=>k≤fs.length∧dD (dN fs.length) (fs.take k)=0) (fun k=>fs.length - k) (fun k=> [(1,.pointer (some ⟨g1,0,none⟩)),(3,.int .i64 (k:Int))]) (fun _=> [az g1 [.slice A fs.length c] 24]) 0 (⟨Nat.zero_le _,rfl⟩) ⟨rfl,rfl,trivial⟩ me ?_)
 rintro k hk'
 obtain⟨hk,hno⟩:k≤fs.length∧dD (dN fs.length) (fs.take k)=0:=hk'
 refine ac<|ac<|aa<|rn 2 [1,3,18,19] rfl<|af (aj fc cF rfl rfl (by rfl)) rfl rfl ?_
 refine af (aL bA rfl rfl) rfl rfl<|rn 1 [1,3,22] rfl<|ae<|ar rfl (fun hlt=>?_) (fun hlt=>?_)
 ·have hkl:k<fs.length:=by omega
  have hsn:=gi (g:=dN fs.length) default hkl hno
  obtain⟨A1,c1,A2,c2,hl,hc,hi,hcell⟩:=hs.fn hkl
  have b3:=bR hl
  have b4:=bR hc
  have bad:∀e,dN fs.length (ax fs k)=e→e≠0→da fs=e:=fun e he h0=>by
   have e2:dD (dN fs.length) fs=dN fs.length (ax fs k):=by
    rw[j7 (k:=k+1) (by rw[hsn];show dN fs.length (ax fs k)≠0;rw[he];exact h0),hsn];rfl
   unfold da
   rw[if_neg h1,if_neg h2,e2,he,if_pos h0]
  refine aq (ak ?_)
  refine ac<|aE<|ac<|aa<|rn 1 [1,3,25] rfl<|af (aj fc cF rfl rfl (by rfl)) rfl rfl ?_
  refine rn 1 [1,3,26,27] rfl<|af (aQ bA bq (.ro hs) (by omega) rfl rfl rfl) rfl rfl<|af (cL (hcell _) rfl rfl ei bq) rfl rfl<|ai (a9 fe rfl rfl) rfl rfl (fun g2 _=>?_)
  refine ai (aM _ fc bq rfl rfl rfl rfl rfl (by rfl) rfl (by rfl)) rfl rfl (fun _ _=>?_)
  refine ae<|ac<|ac<|aa<|rn 1 [1,3,4,30] rfl<|af (aj fc aW rfl rfl (by rfl)) rfl rfl ?_
  refine af (aL ag rfl rfl) rfl rfl<|rn 1 [1,3,4,33] rfl<|ae<|ar rfl (fun k1=>?_) (fun k1=>?_)
  ·refine ac<|aa<|rn 1 [2] rfl<|ae<|ap (ah (aC (ah (ah (aC (ah ?_))))))
   refine au ev (am rfl) ?_
   intro w hw
   exact⟨ej (bad 2 (by unfold dN;rw[if_pos (by omega)]) (by decide)).symm,hw.below⟩
  have k1:¬6<(ax fs k).locals.length:=by omega
  refine aq (ak ?_)
  refine ac<|ac<|aa<|rn 1 [1,3,4,34] rfl<|af (aj fc aw rfl rfl (by rfl)) rfl rfl ?_
  refine rn 1 [1,3,4,35,36] rfl<|af (aj fc aW rfl rfl (by rfl)) rfl rfl ?_
  refine af (aL ag rfl rfl) rfl rfl<|ai (bB rfl rfl rfl gY ((fun w hw=>eM ((fun w hw=>et _ _ _ w) w hw)))) rfl rfl (fun _ _=>?_)
  refine rn 1 [1,3,4,40] rfl<|ae<|b9 rfl (fun k2=>?_) (fun k2=>?_)
  ·have k2:bx (ax fs k).params 0 (ax fs k).locals.length=false:=by simpa using k2
   refine ac<|aa<|rn 1 [2] rfl<|ae<|ap (ah (aC (ah (ah (aC (ah ?_))))))
   refine au ev (am rfl) ?_
   intro w hw
   exact⟨ej (bad 3 (by unfold dN;rw[if_neg k1,if_pos k2]) (by decide)).symm,hw.below⟩
  have k2:¬bx (ax fs k).params 0 (ax fs k).locals.length=false:=by simpa using k2
  refine aq (ak ?_)
  refine ac<|aa<|rn 1 [1,3,4,41] rfl<|af (aj fc aw rfl rfl (by rfl)) rfl rfl ?_
  refine ai (bB rfl rfl rfl gY ((fun w hw=>eM ((fun w hw=>et _ _ _ w) w hw)))) rfl rfl (fun _ _=>?_)
  refine rn 1 [1,3,4,5] rfl<|ae<|ac<|ac<|aa<|rn 1 [1,3,4,5,6] rfl<|ae<|aE (bD (fun g:Nat×Bool=>g.1≤(ax fs k).locals.length∧g.2=(bx (ax fs k).result 0 2 && !((ax fs k).locals.take g.1).any fy)) (fun g=>(ax fs k).locals.length - g.1) (fun g=> [(1,.pointer (some ⟨g1,0,none⟩)),(3,.int .i64 (k:Int)),(4,.pointer (some ⟨g2,0,none⟩)),(5,.bool g.2),(6,.int .i64 (g.1:Int))]) (fun _=> [az g1 [.slice A fs.length c] 24,az g2 [.int .i64 (ax fs k).params,.slice A1 (ax fs k).locals.length c1,.int .i64 (ax fs k).result,.slice A2 (ax fs k).code.length c2] 110]) (0,bx (ax fs k).result 0 2) (⟨Nat.zero_le _,by simp⟩) ⟨rfl,rfl,rfl,rfl,rfl,trivial⟩ me ?_)
  rintro⟨i,b⟩ hi'
  try dsimp only
  obtain⟨hil,hb⟩:i≤(ax fs k).locals.length∧b=(bx (ax fs k).result 0 2 && !((ax fs k).locals.take i).any fy):=hi'
  refine ac<|ac<|aa<|rn 2 [1,3,4,5,6,44,45] rfl<|af (aj fc aW rfl rfl (by rfl)) rfl rfl ?_
  refine af (aL ag rfl rfl) rfl rfl<|rn 1 [1,3,4,5,6,48] rfl<|ae<|ar rfl (fun hlt2=>?_) (fun hlt2=>?_)
  ·have hil2:i<(ax fs k).locals.length:=by omega
   have hsn2:=sq (p:=fy) hil2
   refine aq (ak ?_)
   refine ac<|aE<|aa<|rn 2 [1,3,4,6,52] rfl<|bL (t:=52) rfl (fun hbt=>?_) (fun hbt=>?_)
   ·have hbt:b=true:=hbt
    rw[hb] at hbt
    simp only[Bool.and_eq_true,Bool.not_eq_true'] at hbt
    refine rn 1 [1,3,4,6,52,53] rfl<|af (aj fc aW rfl rfl (by rfl)) rfl rfl ?_
    refine rn 1 [1,3,4,6,52,54,55] rfl<|af (aQ ag aF (.ro hl) (by omega) rfl rfl rfl) rfl rfl<|af (aZ (SF.int (.ro hl) (by omega)) rfl rfl aw) rfl rfl<|ai (bB rfl rfl rfl gY ((fun w hw=>eM ((fun w hw=>et _ _ _ w) w hw)))) rfl rfl (fun _ _=>?_)
    refine rn 2 [1,3,4,5,6] rfl<|bu (aH (ak ?_))
    refine aa<|rn 1 [1,3,4,5,49] rfl<|af (a6 rfl rfl rfl (by omega)) rfl rfl<|rn 1 [1,3,4,5,6] rfl<|aX (i+1,bx ((ax fs k).locals.getD i 0) 1 2) (⟨by show i+1≤_;omega,by show _=(_ && !List.any _ _);rw[hsn2,hbt.1,hbt.2];simp[fy]⟩) (by show _ - _<_ - _;omega) ⟨rfl,rfl,rfl,rfl,rfl,trivial⟩ me
   have hbt:b=false:=hbt
   rw[hb] at hbt
   refine rn 8 [1,3,4,5,6] rfl<|bu (aH (ak ?_))
   refine aa<|rn 1 [1,3,4,5,49] rfl<|af (a6 rfl rfl rfl (by omega)) rfl rfl<|rn 1 [1,3,4,5,6] rfl<|aX (i+1,false) (⟨by show i+1≤_;omega,by show _=(_ && !List.any _ _);rw[hsn2,Bool.not_or,←Bool.and_assoc,hbt];rfl⟩) (by show _ - _<_ - _;omega) ⟨rfl,rfl,rfl,rfl,rfl,trivial⟩ me
  obtain rfl:i=(ax fs k).locals.length:=by omega
  rw[List.take_length] at hb
  refine bz (aG (aG (bO (ak ?_))))
  refine ac<|ac<|aa<|rn 2 [1,3,4,61] rfl<|ae<|b9 rfl (fun k3=>?_) (fun k3=>?_)
  ·have k3:bx (ax fs k).result 0 2=false∨(ax fs k).locals.any fy=true:=by
    have:b=false:=by simpa using k3
    rw[hb] at this
    cases e:bx (ax fs k).result 0 2
    ·exact .inl rfl
    rw[e] at this;exact .inr (by simpa using this)
   refine ac<|aa<|rn 1 [2] rfl<|ae<|ap (ah (aC (ah (ah (aC (ah ?_))))))
   refine au ev (am rfl) ?_
   intro w hw
   exact⟨ej (bad 6 (by unfold dN;rw[if_neg k1,if_neg k2,if_pos k3]) (by decide)).symm,hw.below⟩
  have k3:¬(bx (ax fs k).result 0 2=false∨(ax fs k).locals.any fy=true):=by
   have:b=true:=by simpa using k3
   rw[hb] at this
   simp only[Bool.and_eq_true,Bool.not_eq_true'] at this
   rintro(h | h)
   ·rw[this.1] at h;cases h
   rw[this.2] at h;cases h
  refine aq (ak ?_)
  refine ac<|ac<|aa<|rn 1 [1,3,4,62] rfl<|af (aj fc dk rfl rfl (by rfl)) rfl rfl ?_
  refine af (aL bt rfl rfl) rfl rfl<|rn 1 [1,3,4,65] rfl<|ae<|ar rfl (fun k4=>?_) (fun k4=>?_)
  ·refine ac<|aa<|rn 1 [2] rfl<|ae<|ap (ah (aC (ah (ah (aC (ah ?_))))))
   refine au ev (am rfl) ?_
   intro w hw
   exact⟨ej (bad 5 (by unfold dN;rw[if_neg k1,if_neg k2,if_neg k3,if_pos (by omega)]) (by decide)).symm,hw.below⟩
  have k4:¬(ax fs k).code.length=0:=by omega
  refine aq (ak ?_)
  refine ac<|aa<|rn 1 [1,3,4,66] rfl<|af (aj fc dk rfl rfl (by rfl)) rfl rfl ?_
  refine ai (bB rfl rfl rfl Tryz.call107 (fun w hw=>pK _ (ax fs k).code w (hw.ro hc))) rfl rfl (fun _ _=>?_)
  refine rn 1 [1,3,4,7] rfl<|ae<|ac<|ac<|aa<|rn 2 [1,3,4,7,70] rfl<|ae<|bX rfl (fun k5=>?_) (fun k5=>?_)
  ·refine ac<|aa<|rn 2 [2] rfl<|ae<|ap (ah (aC (ah (ah (aC (ah ?_))))))
   refine au ev (am rfl) ?_
   intro w hw
   exact⟨ej (bad _ (by unfold dN;rw[if_neg k1,if_neg k2,if_neg k3,if_neg k4,if_pos k5]) k5).symm,hw.below⟩
  have k5:¬dJ (ax fs k).code≠0:=fun h=>h k5
  have three:∀j,j<(ax fs k).code.length→dS fs.length (ax fs k).locals.length (ax fs k).code.length (bn (ax fs k).code j)=false→dN fs.length (ax fs k)=3:=fun j hj h=>by
   unfold dN
   rw[if_neg k1,if_neg k2,if_neg k3,if_neg k4,if_neg k5,if_pos (List.any_eq_true.2 ⟨_,ma hj,by rw[h];rfl⟩)]
  refine aq (ak ?_)
  refine ac<|aa<|rn 1 [1,3,4,8] rfl<|ae<|aE (bD (fun j:Nat=>j≤(ax fs k).code.length∧((ax fs k).code.take j).any (fun o=>!dS fs.length (ax fs k).locals.length (ax fs k).code.length o)=false) (fun j=>(ax fs k).code.length - j) (fun j=> [(1,.pointer (some ⟨g1,0,none⟩)),(3,.int .i64 (k:Int)),(4,.pointer (some ⟨g2,0,none⟩)),(8,.int .i64 (j:Int))]) (fun _=> [az g1 [.slice A fs.length c] 24,az g2 [.int .i64 (ax fs k).params,.slice A1 (ax fs k).locals.length c1,.int .i64 (ax fs k).result,.slice A2 (ax fs k).code.length c2] 110]) 0 (⟨Nat.zero_le _,rfl⟩) ⟨rfl,rfl,rfl,rfl,trivial⟩ me ?_)
  rintro j hj'
  obtain⟨hj,hno3⟩:j≤(ax fs k).code.length∧((ax fs k).code.take j).any (fun o=>!dS fs.length (ax fs k).locals.length (ax fs k).code.length o)=false:=hj'
  refine ac<|ac<|aa<|rn 2 [1,3,4,8,72,73] rfl<|af (aj fc dk rfl rfl (by rfl)) rfl rfl ?_
  refine af (aL bt rfl rfl) rfl rfl<|rn 1 [1,3,4,8,76] rfl<|ae<|ar rfl (fun hlt3=>?_) (fun hlt3=>?_)
  ·have hjl:j<(ax fs k).code.length:=by omega
   have hsn3:=iS (p:=fun o=>!dS fs.length (ax fs k).locals.length (ax fs k).code.length o) default hjl
   refine aq (ak ?_)
   refine ac<|aE<|ac<|aa<|rn 1 [1,3,4,8,79] rfl<|af (aj fc dk rfl rfl (by rfl)) rfl rfl ?_
   refine rn 1 [1,3,4,8,80,81] rfl<|af (aQ bt cE (.ro hc) (by omega) rfl rfl rfl) rfl rfl<|af (cL (cs:= [_,_]) (SF.op (.ro hc) (by omega)) rfl rfl gT cE) rfl rfl<|ai (a9 dv rfl rfl) rfl rfl (fun g3 _=>?_)
   refine ai (aM _ fc cE rfl rfl rfl rfl rfl (by rfl) rfl (by rfl)) rfl rfl (fun _ _=>?_)
   refine ae<|ac<|aa<|rn 1 [1,3,4,8,9,84] rfl<|af (aj fc aw rfl rfl (by rfl)) rfl rfl ?_
   refine rn 2 [1,3,4,8,9,87] rfl<|bL (t:=87) rfl (fun c8=>?_) (fun c8=>?_)
   ·have c8:=of_decide_eq_true c8
    refine rn 6 [1,3,4,8,9,92,93] rfl<|af (aj fc aw rfl rfl (by rfl)) rfl rfl ?_
    refine rn 1 [1,3,4,8,9,92,94,95] rfl<|af (aj fc aW rfl rfl (by rfl)) rfl rfl ?_
    refine af (aL ag rfl rfl) rfl rfl<|af (cn rfl rfl rfl (by omega)) rfl rfl<|ai (bB rfl rfl rfl gY ((fun w hw=>eM ((fun w hw=>et _ _ _ w) w hw)))) rfl rfl (fun _ _=>?_)
    refine rn 3 [1,3,4,8,9,102] rfl<|bL (t:=102) rfl (fun q=>?_) (fun q=>?_)
    ·have q:bx (bn (ax fs k).code j).a 0 (((ax fs k).locals.length:Int) - 1)=false:=by simpa using q
     refine rn 34 [1,3,4,8,136] rfl<|ae<|br rfl<|ac<|aa<|rn 1 [2] rfl<|ae<|ap (aC (ah (ah (aC (aC (ah (ah (aC (ah ?_)))))))))
     refine au ev (am rfl) ?_
     intro w hw
     exact⟨ej (bad 3 (three j hjl ((o4 (.inl c8)).trans q)) (by decide)).symm,hw.below⟩
    have q:bx (bn (ax fs k).code j).a 0 (((ax fs k).locals.length:Int) - 1)=true:=by simpa using q
    refine rn 1 [1,3,4,8,9,102,103] rfl<|af (aj fc aw rfl rfl (by rfl)) rfl rfl ?_
    refine rn 2 [1,3,4,8,9,102,106] rfl<|bU (t:=106) (v':= .bool false) rfl (by rw[decide_eq_false (by omega)]) ?_
    refine rn 1 [1,3,4,8,9,102,106,107] rfl<|af (aj fc aw rfl rfl (by rfl)) rfl rfl ?_
    refine rn 3 [1,3,4,8,9,102,111] rfl<|bU (t:=111) (v':= .bool false) rfl (by rw[decide_eq_false (by omega)]) ?_
    refine rn 12 [1,3,4,8,9,122,123] rfl<|af (aj fc aw rfl rfl (by rfl)) rfl rfl ?_
    refine rn 2 [1,3,4,8,9,122,126] rfl<|bU (t:=126) (v':= .bool false) rfl (by rw[decide_eq_false (by omega)]) ?_
    refine rn 10 [1,3,4,8,136] rfl<|ae<|cK rfl<|aq (aH (ak ?_))
    refine aa<|rn 1 [1,3,4,77] rfl<|af (a6 rfl rfl rfl (by omega)) rfl rfl<|rn 1 [1,3,4,8] rfl<|aX (j+1) (⟨by show j+1≤_;omega,by show List.any _ _=false;rw[hsn3,hno3,show dS fs.length (ax fs k).locals.length (ax fs k).code.length ((ax fs k).code.getD j default)=true from(o4 (.inl c8)).trans q];rfl⟩) (by show _ - _<_ - _;omega) ⟨rfl,rfl,rfl,rfl,trivial⟩ me
   have c8:=of_decide_eq_false c8
   refine rn 1 [1,3,4,8,9,87,88] rfl<|af (aj fc aw rfl rfl (by rfl)) rfl rfl ?_
   refine rn 3 [1,3,4,8,9,92] rfl<|bL (t:=92) rfl (fun c9=>?_) (fun c9=>?_)
   ·have c9:=of_decide_eq_true c9
    refine rn 1 [1,3,4,8,9,92,93] rfl<|af (aj fc aw rfl rfl (by rfl)) rfl rfl ?_
    refine rn 1 [1,3,4,8,9,92,94,95] rfl<|af (aj fc aW rfl rfl (by rfl)) rfl rfl ?_
    refine af (aL ag rfl rfl) rfl rfl<|af (cn rfl rfl rfl (by omega)) rfl rfl<|ai (bB rfl rfl rfl gY ((fun w hw=>eM ((fun w hw=>et _ _ _ w) w hw)))) rfl rfl (fun _ _=>?_)
    refine rn 3 [1,3,4,8,9,102] rfl<|bL (t:=102) rfl (fun q=>?_) (fun q=>?_)
    ·have q:bx (bn (ax fs k).code j).a 0 (((ax fs k).locals.length:Int) - 1)=false:=by simpa using q
     refine rn 34 [1,3,4,8,136] rfl<|ae<|br rfl<|ac<|aa<|rn 1 [2] rfl<|ae<|ap (aC (ah (ah (aC (aC (ah (ah (aC (ah ?_)))))))))
     refine au ev (am rfl) ?_
     intro w hw
     exact⟨ej (bad 3 (three j hjl ((o4 (.inr c9)).trans q)) (by decide)).symm,hw.below⟩
    have q:bx (bn (ax fs k).code j).a 0 (((ax fs k).locals.length:Int) - 1)=true:=by simpa using q
    refine rn 1 [1,3,4,8,9,102,103] rfl<|af (aj fc aw rfl rfl (by rfl)) rfl rfl ?_
    refine rn 2 [1,3,4,8,9,102,106] rfl<|bU (t:=106) (v':= .bool false) rfl (by rw[decide_eq_false (by omega)]) ?_
    refine rn 1 [1,3,4,8,9,102,106,107] rfl<|af (aj fc aw rfl rfl (by rfl)) rfl rfl ?_
    refine rn 3 [1,3,4,8,9,102,111] rfl<|bU (t:=111) (v':= .bool false) rfl (by rw[decide_eq_false (by omega)]) ?_
    refine rn 12 [1,3,4,8,9,122,123] rfl<|af (aj fc aw rfl rfl (by rfl)) rfl rfl ?_
    refine rn 2 [1,3,4,8,9,122,126] rfl<|bU (t:=126) (v':= .bool false) rfl (by rw[decide_eq_false (by omega)]) ?_
    refine rn 10 [1,3,4,8,136] rfl<|ae<|cK rfl<|aq (aH (ak ?_))
    refine aa<|rn 1 [1,3,4,77] rfl<|af (a6 rfl rfl rfl (by omega)) rfl rfl<|rn 1 [1,3,4,8] rfl<|aX (j+1) (⟨by show j+1≤_;omega,by show List.any _ _=false;rw[hsn3,hno3,show dS fs.length (ax fs k).locals.length (ax fs k).code.length ((ax fs k).code.getD j default)=true from(o4 (.inr c9)).trans q];rfl⟩) (by show _ - _<_ - _;omega) ⟨rfl,rfl,rfl,rfl,trivial⟩ me
   have c9:=of_decide_eq_false c9
   refine rn 11 [1,3,4,8,9,102,103] rfl<|af (aj fc aw rfl rfl (by rfl)) rfl rfl ?_
   refine rn 2 [1,3,4,8,9,102,106] rfl<|bL (t:=106) rfl (fun c10=>?_) (fun c10=>?_)
   ·have c10:=of_decide_eq_true c10
    refine rn 6 [1,3,4,8,9,102,111,112] rfl<|af (aj fc aw rfl rfl (by rfl)) rfl rfl ?_
    refine rn 1 [1,3,4,8,9,102,111,113,114] rfl<|af (aj fc dk rfl rfl (by rfl)) rfl rfl ?_
    refine af (aL bt rfl rfl) rfl rfl<|af (cn rfl rfl rfl (by omega)) rfl rfl<|ai (bB rfl rfl rfl gY ((fun w hw=>eM ((fun w hw=>et _ _ _ w) w hw)))) rfl rfl (fun _ _=>?_)
    refine rn 4 [1,3,4,8,9,122] rfl<|bL (t:=122) rfl (fun q=>?_) (fun q=>?_)
    ·have q:bx (bn (ax fs k).code j).a 0 (((ax fs k).code.length:Int) - 1)=false:=by simpa using q
     refine rn 14 [1,3,4,8,136] rfl<|ae<|br rfl<|ac<|aa<|rn 1 [2] rfl<|ae<|ap (aC (ah (ah (aC (aC (ah (ah (aC (ah ?_)))))))))
     refine au ev (am rfl) ?_
     intro w hw
     exact⟨ej (bad 3 (three j hjl ((o3 (.inl c10)).trans q)) (by decide)).symm,hw.below⟩
    have q:bx (bn (ax fs k).code j).a 0 (((ax fs k).code.length:Int) - 1)=true:=by simpa using q
    refine rn 1 [1,3,4,8,9,122,123] rfl<|af (aj fc aw rfl rfl (by rfl)) rfl rfl ?_
    refine rn 2 [1,3,4,8,9,122,126] rfl<|bU (t:=126) (v':= .bool false) rfl (by rw[decide_eq_false (by omega)]) ?_
    refine rn 10 [1,3,4,8,136] rfl<|ae<|cK rfl<|aq (aH (ak ?_))
    refine aa<|rn 1 [1,3,4,77] rfl<|af (a6 rfl rfl rfl (by omega)) rfl rfl<|rn 1 [1,3,4,8] rfl<|aX (j+1) (⟨by show j+1≤_;omega,by show List.any _ _=false;rw[hsn3,hno3,show dS fs.length (ax fs k).locals.length (ax fs k).code.length ((ax fs k).code.getD j default)=true from(o3 (.inl c10)).trans q];rfl⟩) (by show _ - _<_ - _;omega) ⟨rfl,rfl,rfl,rfl,trivial⟩ me
   have c10:=of_decide_eq_false c10
   refine rn 1 [1,3,4,8,9,102,106,107] rfl<|af (aj fc aw rfl rfl (by rfl)) rfl rfl ?_
   refine rn 3 [1,3,4,8,9,102,111] rfl<|bL (t:=111) rfl (fun c11=>?_) (fun c11=>?_)
   ·have c11:=of_decide_eq_true c11
    refine rn 1 [1,3,4,8,9,102,111,112] rfl<|af (aj fc aw rfl rfl (by rfl)) rfl rfl ?_
    refine rn 1 [1,3,4,8,9,102,111,113,114] rfl<|af (aj fc dk rfl rfl (by rfl)) rfl rfl ?_
    refine af (aL bt rfl rfl) rfl rfl<|af (cn rfl rfl rfl (by omega)) rfl rfl<|ai (bB rfl rfl rfl gY ((fun w hw=>eM ((fun w hw=>et _ _ _ w) w hw)))) rfl rfl (fun _ _=>?_)
    refine rn 4 [1,3,4,8,9,122] rfl<|bL (t:=122) rfl (fun q=>?_) (fun q=>?_)
    ·have q:bx (bn (ax fs k).code j).a 0 (((ax fs k).code.length:Int) - 1)=false:=by simpa using q
     refine rn 14 [1,3,4,8,136] rfl<|ae<|br rfl<|ac<|aa<|rn 1 [2] rfl<|ae<|ap (aC (ah (ah (aC (aC (ah (ah (aC (ah ?_)))))))))
     refine au ev (am rfl) ?_
     intro w hw
     exact⟨ej (bad 3 (three j hjl ((o3 (.inr c11)).trans q)) (by decide)).symm,hw.below⟩
    have q:bx (bn (ax fs k).code j).a 0 (((ax fs k).code.length:Int) - 1)=true:=by simpa using q
    refine rn 1 [1,3,4,8,9,122,123] rfl<|af (aj fc aw rfl rfl (by rfl)) rfl rfl ?_
    refine rn 2 [1,3,4,8,9,122,126] rfl<|bU (t:=126) (v':= .bool false) rfl (by rw[decide_eq_false (by omega)]) ?_
    refine rn 10 [1,3,4,8,136] rfl<|ae<|cK rfl<|aq (aH (ak ?_))
    refine aa<|rn 1 [1,3,4,77] rfl<|af (a6 rfl rfl rfl (by omega)) rfl rfl<|rn 1 [1,3,4,8] rfl<|aX (j+1) (⟨by show j+1≤_;omega,by show List.any _ _=false;rw[hsn3,hno3,show dS fs.length (ax fs k).locals.length (ax fs k).code.length ((ax fs k).code.getD j default)=true from(o3 (.inr c11)).trans q];rfl⟩) (by show _ - _<_ - _;omega) ⟨rfl,rfl,rfl,rfl,trivial⟩ me
   have c11:=of_decide_eq_false c11
   refine rn 12 [1,3,4,8,9,122,123] rfl<|af (aj fc aw rfl rfl (by rfl)) rfl rfl ?_
   refine rn 2 [1,3,4,8,9,122,126] rfl<|bL (t:=126) rfl (fun c12=>?_) (fun c12=>?_)
   ·have c12:=of_decide_eq_true c12
    refine rn 1 [1,3,4,8,122,126,127] rfl<|af (aj fc aw rfl rfl (by rfl)) rfl rfl ?_
    refine rn 1 [1,3,4,8,122,126,128,129] rfl<|af (aj fc cF rfl rfl (by rfl)) rfl rfl ?_
    refine af (aL bA rfl rfl) rfl rfl<|af (cn rfl rfl rfl (by omega)) rfl rfl<|ai (bB rfl rfl rfl gY ((fun w hw=>eM ((fun w hw=>et _ _ _ w) w hw)))) rfl rfl (fun _ _=>?_)
    refine rn 3 [1,3,4,8,136] rfl<|ae<|b9 rfl (fun q=>?_) (fun q=>?_)
    ·have q:bx (bn (ax fs k).code j).a 0 ((fs.length:Int) - 1)=false:=by simpa using q
     refine ac<|aa<|rn 1 [2] rfl<|ae<|ap (aC (ah (ah (aC (aC (ah (ah (aC (ah ?_)))))))))
     refine au ev (am rfl) ?_
     intro w hw
     exact⟨ej (bad 3 (three j hjl ((w6 c12).trans q)) (by decide)).symm,hw.below⟩
    have q:bx (bn (ax fs k).code j).a 0 ((fs.length:Int) - 1)=true:=by simpa using q
    refine aq (aH (ak ?_))
    refine aa<|rn 1 [1,3,4,77] rfl<|af (a6 rfl rfl rfl (by omega)) rfl rfl<|rn 1 [1,3,4,8] rfl<|aX (j+1) (⟨by show j+1≤_;omega,by show List.any _ _=false;rw[hsn3,hno3,show dS fs.length (ax fs k).locals.length (ax fs k).code.length ((ax fs k).code.getD j default)=true from(w6 c12).trans q];rfl⟩) (by show _ - _<_ - _;omega) ⟨rfl,rfl,rfl,rfl,trivial⟩ me
   have c12:=of_decide_eq_false c12
   refine rn 10 [1,3,4,8,136] rfl<|ae<|cK rfl<|aq (aH (ak ?_))
   refine aa<|rn 1 [1,3,4,77] rfl<|af (a6 rfl rfl rfl (by omega)) rfl rfl<|rn 1 [1,3,4,8] rfl<|aX (j+1) (⟨by show j+1≤_;omega,by show List.any _ _=false;rw[hsn3,hno3,show dS fs.length (ax fs k).locals.length (ax fs k).code.length ((ax fs k).code.getD j default)=true from BY c8 c9 c10 c11 c12];rfl⟩) (by show _ - _<_ - _;omega) ⟨rfl,rfl,rfl,rfl,trivial⟩ me
  obtain rfl:j=(ax fs k).code.length:=by omega
  rw[List.take_length] at hno3
  have hone:dN fs.length (ax fs k)=0:=by unfold dN;rw[if_neg k1,if_neg k2,if_neg k3,if_neg k4,if_neg k5,if_neg (by rw[hno3];decide)]
  refine bz (aG (aG (bO (aH (ak ?_)))))
  refine aa<|rn 1 [1,23] rfl<|af (a6 rfl rfl rfl (by omega)) rfl rfl<|rn 1 [1,3] rfl<|aX (k+1) (⟨by show k+1≤_;omega,hsn.trans hone⟩) (by show _ - _<_ - _;omega) ⟨rfl,rfl,trivial⟩ me
 obtain rfl:k=fs.length:=by omega
 rw[List.take_length] at hno
 have hr:=ku hno (ax fs 0) (by unfold ax;rw[List.getD_eq_getElem?_getD,List.getElem?_eq_getElem (by omega)];exact List.getElem_mem _)
 have hr2:=sW hr
 obtain⟨A1,c1,A2,c2,hl,hc,hi,hcell⟩:=hs.fn (k:=0) (by omega)
 have hno:¬dD (dN fs.length) fs≠0:=fun h=>h hno
 refine bz (aG (aG (bO (ak ?_))))
 refine ac<|ac<|aa<|rn 1 [1,137] rfl<|af (aj fc cF rfl rfl (by rfl)) rfl rfl ?_
 refine af (aQ (k:=0) bA bq (.ro hs) (by omega) rfl rfl rfl) rfl rfl<|rn 1 [1,140] rfl<|af (aZ (fun w hw=>hcell _ w hw 0 _ rfl) rfl rfl aw) rfl rfl ?_
 refine rn 2 [1,143] rfl<|bL (t:=143) rfl (fun h3=>?_) (fun h3=>?_)
 ·have h3:=of_decide_eq_true h3
  refine rn 7 [150] rfl<|ae<|br rfl<|ac<|aa<|rn 1 [2] rfl<|ae<|ap (ah ?_)
  refine au ev (am rfl) ?_
  intro w hw
  exact⟨ej (by unfold da;rw[if_neg h1,if_neg h2,if_neg hno,if_pos (.inl h3)]),hw.below⟩
 have h3:=of_decide_eq_false h3
 refine rn 1 [143,144] rfl<|af (aj fc cF rfl rfl (by rfl)) rfl rfl ?_
 refine af (aQ (k:=0) bA bq (.ro hs) (by omega) rfl rfl rfl) rfl rfl<|rn 1 [143,147] rfl<|af (aZ (fun w hw=>hcell _ w hw 2 _ rfl) rfl rfl aw) rfl rfl ?_
 refine rn 2 [150] rfl<|ae<|ar rfl (fun h4=>?_) (fun h4=>?_)
 ·refine ac<|aa<|rn 1 [2] rfl<|ae<|ap (ah ?_)
  refine au ev (am rfl) ?_
  intro w hw
  exact⟨ej (by unfold da;rw[if_neg h1,if_neg h2,if_neg hno,if_pos (.inr (by omega))]),hw.below⟩
 refine aq (ak ?_)
 refine ac<|aa<|rn 1 [2] rfl<|ae<|ap<|au ev (am rfl) ?_
 intro w hw
 exact⟨ej (by unfold da;rw[if_neg h1,if_neg h2,if_neg hno,if_neg (by omega)]),hw.below⟩
end
section
theorem SF.s {B:Nat} {w0:World} {H:List a4} {R:a4} {α:Type} [aK α] {A:Option Addr} {m c:Nat} {xs:List α} (h:SF B w0 H A m c xs):SF B w0 (R::H) A m c xs:=⟨h.1,fun w hw=>h.2 w hw.tail⟩
theorem sf (l:List bT):(dc l).length≤5*l.length:=by
 induction l with
 | nil=>simp[dc]
 | cons o l ih=>
  have:(jK o).length≤5:=by unfold jK;split <;> simp[eA]
  simp only[dc,List.flatMap_cons,List.length_append,List.length_cons] at *
  omega
theorem gS {fs:List aA} (h:da fs=0):fs.length≠0∧fs.length≤5∧∀f∈fs,dN fs.length f=0:=by
 unfold da at h
 split at h
 ·cases h
 rename_i h1
 split at h
 ·cases h
 rename_i h2
 split at h
 ·rename_i h3;exact absurd h h3
 rename_i h3
 exact⟨h1,by omega,ku (by simpa using h3)⟩
end
section
theorem ud (l:List UInt8) (n:Int):(gK l n).1.length≤l.length∧(gK l n).2.1.length≤l.length:=by
 unfold gK
 split
 ·simp
 simp only[List.length_take,List.length_drop];omega
theorem gQ {s s':List UInt8} {sh sh':Bool} {p:Int} (e:eU (s,sh)=(p,s',sh')):(0≤p∧p≤255)∧s'.length≤s.length:=by
 have hb:=(ud s 1).2
 unfold eU at e
 injection e with e1 e2
 injection e2 with e2 e3
 refine⟨?_,?_⟩
 ·subst e1
  split
  ·omega
  rename_i b l _
  have:=b.toNat_lt
  omega
 rw[←e2];exact hb
theorem xN {s s' c:List UInt8} {sh sh':Bool} {n:Int} (e:iM (s,sh) n=(c,s',sh')):c.length≤s.length∧s'.length≤s.length:=by
 have hb:=ud s n
 unfold iM at e
 injection e with e1 e2
 injection e2 with e2 e3
 subst e1 e2
 exact hb
theorem oV:∀(k:Nat) (s s':List UInt8) (sh sh':Bool) (acc L:List Int),fL k (s,sh) acc=(L,s',sh')→s'.length≤s.length∧L.length≤acc.length+k
 | 0,s,s',sh,sh',acc,L,e=>by
  simp only[fL,Prod.mk.injEq] at e
  obtain⟨rfl,rfl,rfl⟩:=e
  omega
 | k+1,s,s',sh,sh',acc,L,e=>by
  simp only[fL] at e
  split at e
  ·simp only[Prod.mk.injEq] at e
   obtain⟨rfl,rfl,rfl⟩:=e
   omega
  obtain⟨p,s1,b1,e1⟩:∃p s1 b1,eU (s,sh)=(p,s1,b1):=⟨_,_,_,rfl⟩
  rw[e1] at e
  have h1:=gQ e1
  have h2:=oV k _ _ _ _ _ _ e
  rw[List.length_append,List.length_singleton] at h2
  omega
section
variable {B:Nat} {w0:World} {H:List a4}
end
end
section
theorem yM {s s':List UInt8} {sh sh':Bool} {f:aA} (e:jU (s,sh)=(f,s',sh')):s'.length≤s.length∧(a5 f.params∧a5 f.result)∧f.locals.length≤255∧f.code.length≤40:=by
 obtain⟨p,s1,b1,e1⟩:∃p s1 b1,eU (s,sh)=(p,s1,b1):=⟨_,_,_,rfl⟩
 obtain⟨n,s2,b2,e2⟩:∃p s1' b1',eU (s1,b1)=(p,s1',b1'):=⟨_,_,_,rfl⟩
 obtain⟨L,s3,b3,e3⟩:∃p s1' b1',fL n.toNat (s2,b2) []=(p,s1',b1'):=⟨_,_,_,rfl⟩
 obtain⟨t,s4,b4,e4⟩:∃p s1' b1',eU (s3,b3)=(p,s1',b1'):=⟨_,_,_,rfl⟩
 obtain⟨x,s5,b5,e5⟩:∃p s1' b1',eU (s4,b4)=(p,s1',b1'):=⟨_,_,_,rfl⟩
 obtain⟨y,s6,b6,e6⟩:∃p s1' b1',eU (s5,b5)=(p,s1',b1'):=⟨_,_,_,rfl⟩
 obtain⟨c,s7,b7,e7⟩:∃p s1' b1',iM (s6,b6) (x*256+y)=(p,s1',b1'):=⟨_,_,_,rfl⟩
 unfold jU at e
 simp only[e1,e2,e3,e4,e5,e6,e7,Prod.mk.injEq] at e
 obtain⟨rfl,rfl,rfl⟩:=e
 have d1:=gQ e1
 have d2:=gQ e2
 have d3:=oV _ _ _ _ _ _ _ e3
 have d4:=gQ e4
 have d5:=gQ e5
 have d6:=gQ e6
 have d7:=xN e7
 rw[List.length_nil] at d3
 exact⟨by omega,⟨⟨by show _≤p;omega,by show p≤_;omega⟩,⟨by show _≤t;omega,by show t≤_;omega⟩⟩,by show L.length≤_;omega,(qD c).2⟩
theorem wX:∀(k:Nat) (s s':List UInt8) (sh sh':Bool) (acc L:List aA),hU k (s,sh) acc=(L,s',sh')→s'.length≤s.length∧L.length≤acc.length+k
 | 0,s,s',sh,sh',acc,L,e=>by
  simp only[hU,Prod.mk.injEq] at e
  obtain⟨rfl,rfl,rfl⟩:=e
  omega
 | k+1,s,s',sh,sh',acc,L,e=>by
  simp only[hU] at e
  split at e
  ·simp only[Prod.mk.injEq] at e
   obtain⟨rfl,rfl,rfl⟩:=e
   omega
  obtain⟨p,s1,b1,e1⟩:∃p s1 b1,jU (s,sh)=(p,s1,b1):=⟨_,_,_,rfl⟩
  rw[e1] at e
  have h1:=yM e1
  have h2:=wX k _ _ _ _ _ _ e
  rw[List.length_append,List.length_singleton] at h2
  omega
section
variable {B:Nat} {w0:World} {H:List a4}
end
theorem i6 {α:Type} [Ow α] {w w':World} {v:Value} {xs:List α} (hw:Cw w.heap.size w [an v xs] w'):Below w.heap.size w w'∧dB w' w.heap.size v xs:=by
 obtain⟨F,h1,h2⟩:=hw.head
 exact⟨hw.below,F,h1,h2⟩
theorem kD {α:Type} [Ow α] {w w':World} {H:List a4} (hw:Cw w.heap.size w H w'):Below w.heap.size w w'∧dB w' w.heap.size (.slice none 0 0) ([]:List α):=⟨hw.below,dB.nil_ _ _⟩
end
section
def bS (t o:Int):Bool:=decide (t=o) || (decide (t=3) && decide (o=2))
def cX (a b:Int):Int:=if bS a b then b else if bS b a then a else 0
def bI:List Int→List Int→Option (List Int)
 | [],[]=>some []
 | a::l,b::m=>if cX a b=0 then none else (bI l m).map (cX a b:: ·)
 | _,_=>none
def Cm (t:Int):Bool:=decide (t<1) || decide (3<t)
def CN (a b:List Int):Int:=if a.any Cm=true then 6 else if b.any Cm=true then 6 else if 8<a.length∨8<b.length then 2 else if bI a b=none then 4 else 0
def DL (a b:List Int):List Int:=if CN a b=0 then (bI a b).getD [] else []
abbrev kg:=List Int×Bool
def eQ (s:kg):Int×kg:=if s.1.length=0 then (0,s.1,true) else (s.1.getD (s.1.length - 1) 0,s.1.take (s.1.length - 1),s.2)
def dq (l:List Int):Nat→kg→kg
 | 0,s=>s
 | k+1,s=>dq l k ((eQ s).2.1,(eQ s).2.2 || !bS (eQ s).1 (l.getD k 0))
def l5 (s:kg) (l:List Int):kg:=(s.1++l,s.2)
def bE (f:aA):List Int:=if f.result=0 then [] else [f.result]
def bY (c:Int):List Int×List Int:=
 if c=1∨c=21 then ([],[1]) else if c=5∨c=6∨c=7 then ([1,1],[1]) else if c=11∨c=20 then ([1],[]) else if c=14 then ([1],[2]) else
 if c=15 then ([2,1],[1]) else if c=16 then ([2,1,1],[]) else if c=17∨c=19 then ([2],[1]) else if c=18 then ([],[3]) else ([],[])
def dK (g:aA):List Int:=g.locals.take g.params.toNat
def fw (fs:List aA) (f:aA) (o:bT) (s:kg):kg:=
 if o.c=2 then (eQ s).2 else if o.c=3 then l5 (eQ s).2 [(eQ s).1,(eQ s).1] else
 if o.c=4 then l5 (eQ (eQ s).2).2 [(eQ s).1,(eQ (eQ s).2).1] else
 if o.c=8 then l5 s [f.locals.getD o.a.toNat 0] else if o.c=9 then dq [f.locals.getD o.a.toNat 0] 1 s else
 if o.c=12 then l5 (dq (dK (ax fs o.a.toNat)) (dK (ax fs o.a.toNat)).length s) (bE (ax fs o.a.toNat)) else
 if o.c=13 then ((dq (bE f) (bE f).length s).1,(dq (bE f) (bE f).length s).2 || decide (0<(dq (bE f) (bE f).length s).1.length)) else
 l5 (dq (bY o.c).1 (bY o.c).1.length s) (bY o.c).2
def je (fs:List aA) (f:aA) (o:bT) (s:kg):kg:=((fw fs f o s).1,(fw fs f o s).2 || decide (8<(fw fs f o s).1.length))
theorem hJ:∀{a b j:List Int},bI a b=some j→a.length=b.length∧j.length=a.length
 | [],[],j,h=>by simp[bI] at h;subst h;simp
 | [],_::_,j,h=>by simp[bI] at h
 | _::_,[],j,h=>by simp[bI] at h
 | a::l,b::m,j,h=>by
  simp only[bI] at h
  split at h
  ·cases h
  cases e:bI l m with
  | none=>rw[e] at h;cases h
  | some k=>
   rw[e] at h
   simp only[Option.map_some,Option.some.injEq] at h
   subst h
   have:=hJ e
   simp only[List.length_cons]
   omega
theorem rJ {a b:List Int} (h:a.length≠b.length):bI a b=none:=by
 cases e:bI a b with
 | none=>rfl
 | some j=>exact absurd (hJ e).1 h
theorem mh:∀{a b out:List Int} {i:Nat},i<a.length→i<b.length→bI (a.take i) (b.take i)=some out→bI (a.take (i+1)) (b.take (i+1))=if cX (a.getD i 0) (b.getD i 0)=0 then none else some (out++ [cX (a.getD i 0) (b.getD i 0)])
 | [],_,_,_,h,_,_=>by simp at h
 | _::_,[],_,_,_,h,_=>by simp at h
 | a::l,b::m,out,0,_,_,h=>by
  simp[bI] at h
  subst h
  simp[bI]
 | a::l,b::m,out,i+1,h1,h2,h=>by
  simp only[List.take_succ_cons,bI] at h
  simp only[List.take_succ_cons,List.getD_cons_succ]
  simp only[bI]
  split at h
  ·cases h
  rename_i h0
  cases e:bI (l.take i) (m.take i) with
  | none=>rw[e] at h;cases h
  | some k=>
   rw[e] at h
   simp only[Option.map_some,Option.some.injEq] at h
   subst h
   have:=mh (by simpa using h1) (by simpa using h2) e
   rw[if_neg h0,this]
   split <;> simp
theorem mi:∀{a b:List Int} {i:Nat},bI (a.take i) (b.take i)=none→a.length=b.length→bI a b=none
 | [],[],i,h,_=>by simp[bI] at h
 | [],_::_,_,_,h=>by simp at h
 | _::_,[],_,_,h=>by simp at h
 | a::l,b::m,0,h,_=>by simp[bI] at h
 | a::l,b::m,i+1,h,hl=>by
  simp only[List.take_succ_cons,bI] at h⊢
  split
  ·rfl
  rename_i h0
  rw[if_neg h0] at h
  cases e:bI (l.take i) (m.take i) with
  | none=>rw[mi e (by simpa using hl)];rfl
  | some k=>rw[e] at h;cases h
theorem qn {a b:Int} (ha:a5 a) (hb:a5 b):a5 (cX a b):=by
 unfold cX
 split
 ·exact hb
 split
 ·exact ha
 decide
set_option maxRecDepth 100000 in
theorem l0 (t o:Int) (w:World):Calls Tryz.prog 227 #[.int .i64 t,.int .i64 o] w fun e w'=>e= .returned (.bool (bS t o))∧Below w.heap.size w w':=by
 refine enter Tryz.func227 rfl Tryz.ntmps227 rfl ?_
 refine ac<|aa<|rn 1 [0,1] rfl<|ae<|ac<|aa<|rn 4 [0,1,8] rfl<|bL (t:=8) rfl (fun h1=>?_) (fun h1=>?_)
 ·have h1:=of_decide_eq_true h1
  refine rn 8 [4] rfl<|ae<|ap<|au Cr (am rfl) ?_
  intro w hw
  exact⟨bh (by unfold bS;rw[decide_eq_true h1];rfl),hw.below⟩
 have h1:=of_decide_eq_false h1
 refine rn 3 [1,8,11] rfl<|bL (t:=11) rfl (fun h2=>?_) (fun h2=>?_)
 ·have h2:=of_decide_eq_true h2
  refine rn 5 [4] rfl<|ae<|ap<|au Cr (am rfl) ?_
  intro w hw
  exact⟨bh (by unfold bS;rw[decide_eq_false h1,decide_eq_true h2];rfl),hw.below⟩
 have h2:=of_decide_eq_false h2
 refine rn 5 [4] rfl<|ae<|ap<|au Cr (am rfl) ?_
 intro w hw
 exact⟨bh (by unfold bS;rw[decide_eq_false h1,decide_eq_false h2];rfl),hw.below⟩
set_option maxRecDepth 100000 in
theorem zj (a b:Int) (w:World):Calls Tryz.prog 205 #[.int .i64 a,.int .i64 b] w fun e w'=>e= .returned (.int .i64 (cX a b))∧Below w.heap.size w w':=by
 refine enter Tryz.func205 rfl Tryz.ntmps205 rfl ?_
 refine ac<|aa<|rn 1 [0,1] rfl<|ae<|ac<|aE<|ac<|aa<|rn 2 [0,1,6,7] rfl<|ai (bB rfl rfl rfl DQ (fun w hw=>l0 a b w)) rfl rfl (fun _ _=>?_)
 refine rn 1 [0,1,5] rfl<|ae<|b9 rfl (fun h1=>?_) (fun h1=>?_)
 ·refine ac<|aa<|rn 2 [4] rfl<|ae<|ap (aC (ah ?_))
  refine au Ct (am rfl) ?_
  intro w hw
  exact⟨ej (by unfold cX;rw[if_pos h1]),hw.below⟩
 have h1:¬bS a b=true:=by rw[h1];decide
 refine ac<|aa<|rn 2 [0,11,12] rfl<|ai (bB rfl rfl rfl DQ (fun w hw=>l0 b a w)) rfl rfl (fun _ _=>?_)
 refine rn 1 [0,10] rfl<|ae<|b9 rfl (fun h2=>?_) (fun h2=>?_)
 ·refine ac<|aa<|rn 2 [4] rfl<|ae<|ap (aC (ah ?_))
  refine au Ct (am rfl) ?_
  intro w hw
  exact⟨ej (by unfold cX;rw[if_neg h1,if_pos h2]),hw.below⟩
 have h2:¬bS b a=true:=by rw[h2];decide
 refine aq (aH (ak ?_))
 refine ac<|aa<|rn 1 [4] rfl<|ae<|ap<|au Ct (am rfl) ?_
 intro w hw
 exact⟨ej (by unfold cX;rw[if_neg h1,if_neg h2]),hw.below⟩
theorem gy {w:World} {B:Nat} {A:Option Addr} {m c k:Nat} {xs:List Int} (h:bM w B (.slice A m c) xs) (hk:k<m):a5 (xs.getD k 0):=by
 have hl:=h.len_eq
 obtain⟨b,off,cs,hA,hb,hr,hj⟩:=bM.at_ h hk _ (jO (d:=0) (by omega))
 exact hr.2
set_option maxRecDepth 100000 in
set_option maxHeartbeats 1000000 in
theorem uM (A1 A2:Option Addr) (c1 c2:Nat) (a b:List Int) (w:World) (h1:Sl w (.slice A1 a.length c1) a) (h2:Sl w (.slice A2 b.length c2) b) (hle:a.length≤1000000) :
  Calls Tryz.prog 165 #[.slice A1 a.length c1,.slice A2 b.length c2] w fun e w'=> ∃u,e= .returned (.tuple #[u,.bool (bI a b).isSome])∧Below w.heap.size w w'∧dB w' w.heap.size u ((bI a b).getD []):=by
 have bb:=bR h2
 refine enter Tryz.func165 rfl Tryz.ntmps165 rfl ?_
 refine ac<|aa<|rn 2 [0,1] rfl<|ae<|ac<|ac<|aa<|rn 1 [0,1,9] rfl<|af (aL ag rfl rfl) rfl rfl<|rn 1 [0,1,10,11] rfl<|af (aL ag rfl rfl) rfl rfl<|rn 1 [0,1,13] rfl<|ae<|bX rfl (fun hl=>?_) (fun hl=>?_)
 ·have hn:=rJ (a:=a) (b:=b) (fun e=>hl (by rw[e]))
  refine ac<|aa<|rn 2 [4,5] rfl<|ae<|ap (ah ?_)
  refine bC Cv (am rfl) (am rfl) ?_
  intro w hw
  rw[hn]
  exact⟨_,rfl,kD hw⟩
 have hl:a.length=b.length:=by omega
 refine aq (ak ?_)
 refine ac<|aa<|rn 1 [0,1,6] rfl<|ae<|ac<|ac<|aa<|rn 1 [0,1,6,14] rfl<|af (aL ag rfl rfl) rfl rfl<|rn 1 [0,1,6,15,16] rfl<|ae<|dx (fun w h=>Cw.nilO Int h) ?_
 refine aE (bD (fun g:Nat×List Int×Option Addr×Nat=>g.1≤a.length∧bI (a.take g.1) (b.take g.1)=some g.2.1) (fun g=>a.length - g.1) (fun g=> [(0,.slice A1 a.length c1),(1,.slice A2 b.length c2),(6,.slice g.2.2.1 g.2.1.length g.2.2.2),(15,.int .i64 (a.length:Int)),(16,.int .i64 (g.1:Int))]) (fun g=> [an (.slice g.2.2.1 g.2.1.length g.2.2.2) g.2.1]) (0,[],none,0) (⟨Nat.zero_le _,rfl⟩) ⟨rfl,rfl,rfl,rfl,rfl,trivial⟩ me ?_)
 rintro⟨i,out,Ao,co⟩ hi'
 try dsimp only
 obtain⟨hi,hj⟩:i≤a.length∧bI (a.take i) (b.take i)=some out:=hi'
 have hol:out.length=i:=by have:=(hJ hj).2;rw[List.length_take] at this;omega
 refine ac<|aa<|rn 1 [0,1,6,15,16,17] rfl<|ae<|ac<|ar rfl (fun hlt=>?_) (fun hlt=>?_)
 ·have hil:i<a.length:=by omega
  have hst:=mh hil (by omega) hj
  have i1:=gy h1 hil
  have i2:=gy h2 (k:=i) (by omega)
  refine aq (ak ?_)
  refine ac<|aE<|ac<|aa<|rn 2 [0,1,6,7,15,16] rfl<|ae<|ac<|bV (.still 0 (.still 1 (.still 2 (.still 3 (.still 4 (.still 5 (.still 6 (.still 7 (.pick 8 (.calm 9 .done) .stop))))))))) [8,9] rfl (by kernel_rfl) (by kernel_rfl) ?_
  refine aS ha 2 [0,1,6,7,15,16,19,20] rfl<|av rfl (aQ ag aF (.ro h1) (by omega) rfl rfl rfl) rfl rfl ha ?_
  refine av rfl (aZ (SF.int (.ro h1) (by omega)) rfl rfl aw) rfl rfl ha ?_
  refine aS ha 2 [0,1,6,15,16,22,23,24] rfl<|av rfl (aQ ag aF (.ro h2) (by omega) rfl rfl rfl) rfl rfl ha ?_
  refine av rfl (aZ (SF.int (.ro h2) (by omega)) rfl rfl aw) rfl rfl ha ?_
  refine aB rfl (bB rfl rfl rfl Tryz.call205 (fun w hw=>zj (a.getD i 0) (b.getD i 0) w)) rfl rfl (.inl rfl) (fun _ _=>?_) ay
  refine dY 1 [0,1,6,8,15,16] rfl<|cu<|ac<|ac<|aa<|rn 2 [0,1,6,8,15,16,29] rfl<|ae<|ar rfl (fun h0=>?_) (fun h0=>?_)
  ·rw[if_pos h0] at hst
   have hn:=mi hst hl
   refine ac<|aa<|rn 2 [4,5] rfl<|ae<|ap (ah (aC (ah (ah (aC (ah ?_))))))
   refine bC Cv (am rfl) (am rfl) ?_
   intro w hw
   rw[hn]
   exact⟨_,rfl,kD hw⟩
  rw[if_neg h0] at hst
  refine aq (ak ?_)
  refine aa<|rn 2 [0,1,15,16,30,31] rfl<|ai (a8 (cs:= [_]) ag aF aV rfl rfl rfl rfl rfl) rfl rfl (fun g1 _=>?_)
  refine ai (dM (α:=Int) (bytes:=8) (cX (a.getD i 0) (b.getD i 0)) [] rfl ag (bN cJ) rfl (fH fc fc) (eI (qn i1 i2)) (by omega) (by omega) rfl rfl rfl) rfl rfl (fun⟨A5,c5⟩ _=>?_)
  try dsimp only
  refine rn 1 [0,1,6,15,16] rfl<|bu (aH (ak ?_))
  refine aa<|af (a6 rfl rfl rfl (by omega)) rfl rfl<|rn 1 [0,1,6,15,16] rfl<|aX (i+1,out++ [cX (a.getD i 0) (b.getD i 0)],A5,c5) (⟨hil,hst⟩) (by show _ - _<_ - _;omega) ⟨rfl,rfl,rfl,rfl,rfl,trivial⟩ me
 obtain rfl:i=a.length:=by omega
 rw[List.take_length,hl,List.take_length] at hj
 refine bz (aG (aG (bO (ak ?_))))
 refine ac<|aa<|rn 3 [4,5] rfl<|ae<|ap<|bC Cv (am rfl) (am rfl) ?_
 intro w hw
 rw[hj]
 exact⟨_,rfl,i6 hw⟩
end
section
theorem r5 (A:Option Addr) (c sz:Nat):gv A 0 c sz=A:=by
 unfold gv
 split
 ·rfl
 cases A <;> simp[Addr.add]
section
variable {P:Program} {n:NF} {B:Nat} {w0:World} {env:cM} {H H':List a4} {o:Oper}
theorem jR {t e:TypeId} {sz:Nat} {A:Option Addr} {m c k:Nat} {hi':Option Operand} {x:Operand} (hu:P.underlying t=some (.slice e)) (hz:∀w,(sizeOf e).run P w= .ok sz w) (hk:k≤c) (hop:o.op= .slice t x none hi' none)
  (hx:opv env x=some (.slice A m c)) (hh:lT env hi' m=some (k:Int)):QS P n B w0 o env H (.slice A k c):=by
 have:=kL (lo:=0) (hi:=k) hu hz ⟨Nat.zero_le _,hk⟩ hop hx rfl hh (n:=n) (B:=B) (w0:=w0) (H:=H)
 rwa [r5] at this
theorem lN {α:Type} [Ow α] {A:Option Addr} {m c:Nat} {xs:List α} {w:World} (hw:Cw B w0 H w) (hp:cz H (an (.slice A m c) xs) H'):m≤c:=by
 obtain⟨F,h,_⟩:=hw.rd hp
 obtain⟨_,_,hv,h1,_⟩:=(cy.sl (show cy w F _ xs from h)).form
 injection hv with e1 e2 e3
 omega
end
section
variable {B:Nat} {w0:World} {H:List a4}
set_option maxRecDepth 100000 in
theorem mN (gs:Nat) {l l':List Int} {wr wr':Bool} {t:Int} (e:eQ (l,wr)=(t,l',wr')) (A:Option Addr) (c:Nat) (hl:l.length≤1000000) (w:World)
  (hw:Cw B w0 (az gs [.slice A l.length c,.bool wr] 202::an (.slice A l.length c) l::H) w) :
  Calls Tryz.prog 206 #[.pointer (some ⟨gs,0,none⟩)] w fun e w'=> ∃g:Option Addr×Nat,True∧e= .returned (.int .i64 t)∧
   Cw B w0 (az gs [.slice g.1 l'.length g.2,.bool wr'] 202::an (.slice g.1 l'.length g.2) l'::H) w':=by
 unfold eQ at e
 refine cB Tryz.func206 rfl Tryz.ntmps206 rfl hw ?_
 refine ac<|aa<|rn 1 [0] rfl<|ae<|ac<|aa<|rn 3 [0,7] rfl<|af (aj fc aW rfl rfl (by rfl)) rfl rfl ?_
 refine af (aL ag rfl rfl) rfl rfl<|af (cn rfl rfl rfl (by omega)) rfl rfl<|rn 1 [0,3] rfl<|ae<|ac<|ac<|aa<|rn 2 [0,3,12] rfl<|ae<|ar rfl (fun h=>?_) (fun h=>?_)
 ·rw[if_pos (show l.length=0 from by omega)] at e
  simp only[Prod.mk.injEq] at e
  obtain⟨rfl,rfl,rfl⟩:=e
  refine ac<|aa<|rn 3 [15] rfl<|ai (aM _ fc eG rfl rfl rfl rfl rfl (by rfl) rfl (by rfl)) rfl rfl (fun _ _=>?_)
  refine ae<|ac<|aa<|rn 1 [2] rfl<|ae<|ap (ah ?_)
  refine au Tryz.results206 (am rfl) ?_
  intro w hw
  exact⟨(A,c),trivial,rfl,hw⟩
 rw[if_neg (show¬l.length=0 from by omega)] at e
 simp only[Prod.mk.injEq] at e
 obtain⟨rfl,rfl,rfl⟩:=e
 have hlt:(l.take (l.length - 1)).length=l.length - 1:=by rw[List.length_take];omega
 refine cS (t:=3) (v':= .int .i64 ((l.length - 1:Nat):Int)) rfl (by congr 1;omega) ?_
 refine aq (ak ?_)
 refine ac<|aa<|rn 3 [0,3,18] rfl<|af (aj fc aW rfl rfl (by rfl)) rfl rfl ?_
 refine rn 1 [0,3,19,20] rfl<|af (aQ ag aF (SF.own rfl fc) (by omega) rfl rfl rfl) rfl rfl ?_
 refine af (aZ (SF.int (SF.own rfl fc) (by omega)) rfl rfl aw) rfl rfl ?_
 refine rn 1 [0,3,4] rfl<|ae<|ac<|aa<|rn 4 [3,4,23,26] rfl<|af (aj fc aW rfl rfl (by rfl)) rfl rfl ?_
 refine rn 1 [4,23,27,28] rfl<|kB (fun w h=>lN h (xs:=l) fc) fun hcap=>?_
 refine af (jR (k:=l.length - 1) ag aF (by omega) rfl rfl rfl) rfl rfl<|rn 2 [4,29,31] rfl<|ai (aM _ fc bJ rfl rfl rfl rfl rfl (by rfl) rfl (by rfl)) rfl rfl (fun _ _=>?_)
 refine ae<|ac<|aa<|rn 2 [2] rfl<|ae<|ap<|au Tryz.results206 (am rfl) ?_
 intro w hw
 refine⟨(A,c),trivial,rfl,?_⟩
 rw[hlt]
 exact(np (α:=Int) (k:=l.length - 1) (by omega) (hw.msub (T:=an (.slice A l.length c) l::az gs _ _::H) ms)).msub ms
set_option maxRecDepth 100000 in
theorem BE (gs:Nat) {l xs:List Int} {wr:Bool} (A Ax:Option Addr) (c cx:Nat) (hs:SF B w0 H Ax xs.length cx xs) (hl:l.length+xs.length≤1000000) (w:World)
  (hw:Cw B w0 (az gs [.slice A l.length c,.bool wr] 202::an (.slice A l.length c) l::H) w) :
  Calls Tryz.prog 207 #[.pointer (some ⟨gs,0,none⟩),.slice Ax xs.length cx] w fun e w'=> ∃g:Option Addr×Nat,True∧e= .returned (.tuple #[])∧
   Cw B w0 (az gs [.slice g.1 (l++xs).length g.2,.bool wr] 202::an (.slice g.1 (l++xs).length g.2) (l++xs)::H) w':=by
 refine cB Tryz.func207 rfl Tryz.ntmps207 rfl hw ?_
 refine aa<|rn 4 [1,4,7] rfl<|af (aj fc aW rfl rfl (by rfl)) rfl rfl ?_
 refine rn 1 [4,8,9] rfl<|ai (cT (α:=Int) (bytes:=8) (xs:=l) (ys:=xs) rfl ag (bN cJ) rfl fc (.s (.s hs)) (by omega) (by omega) rfl rfl rfl) rfl rfl (fun⟨A5,c5⟩ _=>?_)
 try dsimp only
 refine rn 2 [10,12] rfl<|ai (aM _ fc bJ rfl rfl rfl rfl rfl (by rfl) rfl (by rfl)) rfl rfl (fun _ _=>?_)
 refine bu<|cq Tryz.results207 ?_
 intro w hw
 exact⟨(A5,c5),trivial,rfl,hw.msub ms⟩
end
end
section
theorem dz {l:List Int} (h:∀x∈l,0≤x∧x≤3):∀x∈l,cG.wf x:=fun x hx=>by have:=h x hx;show a5 x;unfold a5;omega
set_option maxRecDepth 100000 in
theorem oM (f:aA) (A1 A2:Option Addr) (c1 c2:Nat) (i1:a5 f.result) (w:World):Calls Tryz.prog 209 #[.agg #[.int .i64 f.params,.slice A1 f.locals.length c1,.int .i64 f.result,.slice A2 f.code.length c2]] w fun e w'=> ∃g:Option Addr×Nat,True∧e= .returned (.slice g.1 (bE f).length g.2)∧Cw w.heap.size w [an (.slice g.1 (bE f).length g.2) (bE f)] w':=by
 refine enter Tryz.func209 rfl Tryz.ntmps209 rfl ?_
 refine ac<|aa<|ai (bH rfl rfl rfl) rfl rfl (fun g1 _=>?_)
 refine rn 1 [1] rfl<|ae<|ac<|ac<|aa<|rn 1 [1,3] rfl<|af (aj fc aw rfl rfl (by rfl)) rfl rfl ?_
 refine rn 1 [1,5] rfl<|ae<|ar rfl (fun h=>?_) (fun h=>?_)
 ·have e:bE f= []:=by unfold bE;rw[if_pos h]
  refine ac<|aa<|rn 1 [2] rfl<|ae<|ap (ah ?_)
  refine au Tryz.results209 (am rfl) ?_
  intro w hw
  rw[e]
  exact⟨(none,0),trivial,rfl,(Cw.nilO Int hw).msub ms⟩
 have e:bE f= [f.result]:=by unfold bE;rw[if_neg h]
 refine aq (ak ?_)
 refine ac<|aa<|rn 1 [6] rfl<|af (aj fc aw rfl rfl (by rfl)) rfl rfl ?_
 refine ai (a8 (cs:= [_]) ag aF aV rfl rfl rfl rfl rfl) rfl rfl (fun g2 _=>?_)
 refine rn 1 [2] rfl<|ae<|ap<|au Tryz.results209 (am rfl) ?_
 intro w hw
 rw[e]
 exact⟨(some ⟨g2,0,none⟩,1),trivial,rfl,bW (α:=Int) (m:=1) [f.result] rfl (is i1) rfl (by decide) (hw.msub (T:= [az g2 _ _]) ms)⟩
set_option maxRecDepth 100000 in
set_option maxHeartbeats 1000000 in
theorem wu (c:Int) (w:World):Calls Tryz.prog 210 #[.int .i64 c] w fun e w'=> ∃g:(Option Addr×Nat)×(Option Addr×Nat),True∧
  e= .returned (.tuple #[.slice g.1.1 (bY c).1.length g.1.2,.slice g.2.1 (bY c).2.length g.2.2])∧Cw w.heap.size w [an (.slice g.1.1 (bY c).1.length g.1.2) (bY c).1,an (.slice g.2.1 (bY c).2.length g.2.2) (bY c).2] w':=by
 refine enter Tryz.func210 rfl Tryz.ntmps210 rfl ?_
 refine ac<|aa<|rn 2 [0] rfl<|ae<|ac<|ac<|aa<|rn 1 [4] rfl<|ae<|aE<|ac<|ac<|aa<|rn 2 [4,5] rfl<|ae<|ar rfl (fun h1=>?_) (fun h1=>?_)
 ·refine cS (t:=5) (v':= .bool true) rfl (by rw[decide_eq_true h1]) ?_
  refine aq (ak ?_)
  refine br rfl<|ac<|aa<|ai (a8 (cs:= [_]) ag aF aV rfl rfl rfl rfl rfl) rfl rfl (fun g1 _=>?_)
  refine rn 2 [2,3] rfl<|ae ?_
  have e:bY c=([],[1]):=by rw[h1];rfl
  refine ap (aC (ah ?_))
  refine bC eu (am rfl) (am rfl) ?_
  intro w hw
  rw[e]
  refine⟨((none,0),(some ⟨g1,0,none⟩,1)),trivial,rfl,?_⟩
  have hw:=Cw.nilO Int hw
  have hw:=bW (α:=Int) (m:=1) [1] rfl (dz (by decide)) rfl (by decide) (hw.msub (T:= [az g1 _ _,an (.slice none 0 0) ([]:List Int)]) ms)
  exact hw.msub ms
 refine aa<|rn 2 [4,5] rfl<|ae<|ar rfl (fun h21=>?_) (fun h21=>?_)
 ·have e:bY c=([],[1]):=by rw[h21];rfl
  refine ac<|aa<|ai (a8 (cs:= [_]) ag aF aV rfl rfl rfl rfl rfl) rfl rfl (fun g2 _=>?_)
  refine rn 2 [2,3] rfl<|ae<|ap (aC (ah ?_))
  refine bC eu (am rfl) (am rfl) ?_
  intro w hw
  rw[e]
  refine⟨((none,0),(some ⟨g2,0,none⟩,1)),trivial,rfl,?_⟩
  have hw:=Cw.nilO Int hw
  have hw:=bW (α:=Int) (m:=1) [1] rfl (dz (by decide)) rfl (by decide) (hw.msub (T:= [az g2 _ _,an (.slice none 0 0) ([]:List Int)]) ms)
  exact hw.msub ms
 refine ac<|ac<|aa<|rn 2 [4,9] rfl<|ae<|ar rfl (fun h5=>?_) (fun h5=>?_)
 ·refine cS (t:=9) (v':= .bool true) rfl (by rw[decide_eq_true h5]) ?_
  refine aq (ak ?_)
  refine br rfl<|ac<|aa<|ai (a8 (cs:= [_,_]) ag aF aV rfl rfl rfl rfl rfl) rfl rfl (fun g3 _=>?_)
  refine ai (a8 (cs:= [_]) ag aF aV rfl rfl rfl rfl rfl) rfl rfl (fun g4 _=>?_)
  refine rn 2 [2,3] rfl<|ae ?_
  have e:bY c=([1,1],[1]):=by rw[h5];rfl
  refine ap (aC (ah ?_))
  refine bC eu (am rfl) (am rfl) ?_
  intro w hw
  rw[e]
  refine⟨((some ⟨g3,0,none⟩,2),(some ⟨g4,0,none⟩,1)),trivial,rfl,?_⟩
  have hw:=bW (α:=Int) (m:=2) [1,1] rfl (dz (by decide)) rfl (by decide) (hw.msub (T:= [az g3 _ _,az g4 _ _]) ms)
  have hw:=bW (α:=Int) (m:=1) [1] rfl (dz (by decide)) rfl (by decide) (hw.msub (T:= [az g4 _ _,an (.slice (some ⟨g3,0,none⟩) 2 2) ([1,1]:List Int)]) ms)
  exact hw.msub ms
 refine ac<|aa<|rn 2 [4,9] rfl<|ae<|ar rfl (fun h6=>?_) (fun h6=>?_)
 ·refine cS (t:=9) (v':= .bool true) rfl (by rw[decide_eq_true h6]) ?_
  refine aq (ak ?_)
  refine br rfl<|ac<|aa<|ai (a8 (cs:= [_,_]) ag aF aV rfl rfl rfl rfl rfl) rfl rfl (fun g5 _=>?_)
  refine ai (a8 (cs:= [_]) ag aF aV rfl rfl rfl rfl rfl) rfl rfl (fun g6 _=>?_)
  refine rn 2 [2,3] rfl<|ae ?_
  have e:bY c=([1,1],[1]):=by rw[h6];rfl
  refine ap (aC (ah ?_))
  refine bC eu (am rfl) (am rfl) ?_
  intro w hw
  rw[e]
  refine⟨((some ⟨g5,0,none⟩,2),(some ⟨g6,0,none⟩,1)),trivial,rfl,?_⟩
  have hw:=bW (α:=Int) (m:=2) [1,1] rfl (dz (by decide)) rfl (by decide) (hw.msub (T:= [az g5 _ _,az g6 _ _]) ms)
  have hw:=bW (α:=Int) (m:=1) [1] rfl (dz (by decide)) rfl (by decide) (hw.msub (T:= [az g6 _ _,an (.slice (some ⟨g5,0,none⟩) 2 2) ([1,1]:List Int)]) ms)
  exact hw.msub ms
 refine aa<|rn 2 [4,9] rfl<|ae<|ar rfl (fun h7=>?_) (fun h7=>?_)
 ·have e:bY c=([1,1],[1]):=by rw[h7];rfl
  refine ac<|aa<|ai (a8 (cs:= [_,_]) ag aF aV rfl rfl rfl rfl rfl) rfl rfl (fun g7 _=>?_)
  refine ai (a8 (cs:= [_]) ag aF aV rfl rfl rfl rfl rfl) rfl rfl (fun g8 _=>?_)
  refine rn 2 [2,3] rfl<|ae<|ap (aC (ah ?_))
  refine bC eu (am rfl) (am rfl) ?_
  intro w hw
  rw[e]
  refine⟨((some ⟨g7,0,none⟩,2),(some ⟨g8,0,none⟩,1)),trivial,rfl,?_⟩
  have hw:=bW (α:=Int) (m:=2) [1,1] rfl (dz (by decide)) rfl (by decide) (hw.msub (T:= [az g7 _ _,az g8 _ _]) ms)
  have hw:=bW (α:=Int) (m:=1) [1] rfl (dz (by decide)) rfl (by decide) (hw.msub (T:= [az g8 _ _,an (.slice (some ⟨g7,0,none⟩) 2 2) ([1,1]:List Int)]) ms)
  exact hw.msub ms
 refine ac<|ac<|aa<|rn 2 [4,15] rfl<|ae<|ar rfl (fun h11=>?_) (fun h11=>?_)
 ·refine cS (t:=15) (v':= .bool true) rfl (by rw[decide_eq_true h11]) ?_
  refine aq (ak ?_)
  refine br rfl<|ac<|aa<|ai (a8 (cs:= [_]) ag aF aV rfl rfl rfl rfl rfl) rfl rfl (fun g9 _=>?_)
  refine rn 2 [2,3] rfl<|ae ?_
  have e:bY c=([1],[]):=by rw[h11];rfl
  refine ap (aC (ah ?_))
  refine bC eu (am rfl) (am rfl) ?_
  intro w hw
  rw[e]
  refine⟨((some ⟨g9,0,none⟩,1),(none,0)),trivial,rfl,?_⟩
  have hw:=bW (α:=Int) (m:=1) [1] rfl (dz (by decide)) rfl (by decide) (hw.msub (T:= [az g9 _ _]) ms)
  have hw:=Cw.nilO Int hw
  exact hw.msub ms
 refine aa<|rn 2 [4,15] rfl<|ae<|ar rfl (fun h20=>?_) (fun h20=>?_)
 ·have e:bY c=([1],[]):=by rw[h20];rfl
  refine ac<|aa<|ai (a8 (cs:= [_]) ag aF aV rfl rfl rfl rfl rfl) rfl rfl (fun g10 _=>?_)
  refine rn 2 [2,3] rfl<|ae<|ap (aC (ah ?_))
  refine bC eu (am rfl) (am rfl) ?_
  intro w hw
  rw[e]
  refine⟨((some ⟨g10,0,none⟩,1),(none,0)),trivial,rfl,?_⟩
  have hw:=bW (α:=Int) (m:=1) [1] rfl (dz (by decide)) rfl (by decide) (hw.msub (T:= [az g10 _ _]) ms)
  have hw:=Cw.nilO Int hw
  exact hw.msub ms
 refine ac<|aa<|rn 2 [4,19] rfl<|ae<|ar rfl (fun h14=>?_) (fun h14=>?_)
 ·have e:bY c=([1],[2]):=by rw[h14];rfl
  refine ac<|aa<|ai (a8 (cs:= [_]) ag aF aV rfl rfl rfl rfl rfl) rfl rfl (fun g11 _=>?_)
  refine ai (a8 (cs:= [_]) ag aF aV rfl rfl rfl rfl rfl) rfl rfl (fun g12 _=>?_)
  refine rn 2 [2,3] rfl<|ae<|ap (aC (ah ?_))
  refine bC eu (am rfl) (am rfl) ?_
  intro w hw
  rw[e]
  refine⟨((some ⟨g11,0,none⟩,1),(some ⟨g12,0,none⟩,1)),trivial,rfl,?_⟩
  have hw:=bW (α:=Int) (m:=1) [1] rfl (dz (by decide)) rfl (by decide) (hw.msub (T:= [az g11 _ _,az g12 _ _]) ms)
  have hw:=bW (α:=Int) (m:=1) [2] rfl (dz (by decide)) rfl (by decide) (hw.msub (T:= [az g12 _ _,an (.slice (some ⟨g11,0,none⟩) 1 1) ([1]:List Int)]) ms)
  exact hw.msub ms
 refine ac<|aa<|rn 2 [4,23] rfl<|ae<|ar rfl (fun h15=>?_) (fun h15=>?_)
 ·have e:bY c=([2,1],[1]):=by rw[h15];rfl
  refine ac<|aa<|ai (a8 (cs:= [_,_]) ag aF aV rfl rfl rfl rfl rfl) rfl rfl (fun g13 _=>?_)
  refine ai (a8 (cs:= [_]) ag aF aV rfl rfl rfl rfl rfl) rfl rfl (fun g14 _=>?_)
  refine rn 2 [2,3] rfl<|ae<|ap (aC (ah ?_))
  refine bC eu (am rfl) (am rfl) ?_
  intro w hw
  rw[e]
  refine⟨((some ⟨g13,0,none⟩,2),(some ⟨g14,0,none⟩,1)),trivial,rfl,?_⟩
  have hw:=bW (α:=Int) (m:=2) [2,1] rfl (dz (by decide)) rfl (by decide) (hw.msub (T:= [az g13 _ _,az g14 _ _]) ms)
  have hw:=bW (α:=Int) (m:=1) [1] rfl (dz (by decide)) rfl (by decide) (hw.msub (T:= [az g14 _ _,an (.slice (some ⟨g13,0,none⟩) 2 2) ([2,1]:List Int)]) ms)
  exact hw.msub ms
 refine ac<|aa<|rn 2 [4,27] rfl<|ae<|ar rfl (fun h16=>?_) (fun h16=>?_)
 ·have e:bY c=([2,1,1],[]):=by rw[h16];rfl
  refine ac<|aa<|ai (a8 (cs:= [_,_,_]) ag aF aV rfl rfl rfl rfl rfl) rfl rfl (fun g15 _=>?_)
  refine rn 2 [2,3] rfl<|ae<|ap (aC (ah ?_))
  refine bC eu (am rfl) (am rfl) ?_
  intro w hw
  rw[e]
  refine⟨((some ⟨g15,0,none⟩,3),(none,0)),trivial,rfl,?_⟩
  have hw:=bW (α:=Int) (m:=3) [2,1,1] rfl (dz (by decide)) rfl (by decide) (hw.msub (T:= [az g15 _ _]) ms)
  have hw:=Cw.nilO Int hw
  exact hw.msub ms
 refine ac<|ac<|aa<|rn 2 [4,30] rfl<|ae<|ar rfl (fun h17=>?_) (fun h17=>?_)
 ·refine cS (t:=30) (v':= .bool true) rfl (by rw[decide_eq_true h17]) ?_
  refine aq (ak ?_)
  refine br rfl<|ac<|aa<|ai (a8 (cs:= [_]) ag aF aV rfl rfl rfl rfl rfl) rfl rfl (fun g16 _=>?_)
  refine ai (a8 (cs:= [_]) ag aF aV rfl rfl rfl rfl rfl) rfl rfl (fun g17 _=>?_)
  refine rn 2 [2,3] rfl<|ae ?_
  have e:bY c=([2],[1]):=by rw[h17];rfl
  refine ap (aC (ah ?_))
  refine bC eu (am rfl) (am rfl) ?_
  intro w hw
  rw[e]
  refine⟨((some ⟨g16,0,none⟩,1),(some ⟨g17,0,none⟩,1)),trivial,rfl,?_⟩
  have hw:=bW (α:=Int) (m:=1) [2] rfl (dz (by decide)) rfl (by decide) (hw.msub (T:= [az g16 _ _,az g17 _ _]) ms)
  have hw:=bW (α:=Int) (m:=1) [1] rfl (dz (by decide)) rfl (by decide) (hw.msub (T:= [az g17 _ _,an (.slice (some ⟨g16,0,none⟩) 1 1) ([2]:List Int)]) ms)
  exact hw.msub ms
 refine aa<|rn 2 [4,30] rfl<|ae<|ar rfl (fun h19=>?_) (fun h19=>?_)
 ·have e:bY c=([2],[1]):=by rw[h19];rfl
  refine ac<|aa<|ai (a8 (cs:= [_]) ag aF aV rfl rfl rfl rfl rfl) rfl rfl (fun g18 _=>?_)
  refine ai (a8 (cs:= [_]) ag aF aV rfl rfl rfl rfl rfl) rfl rfl (fun g19 _=>?_)
  refine rn 2 [2,3] rfl<|ae<|ap (aC (ah ?_))
  refine bC eu (am rfl) (am rfl) ?_
  intro w hw
  rw[e]
  refine⟨((some ⟨g18,0,none⟩,1),(some ⟨g19,0,none⟩,1)),trivial,rfl,?_⟩
  have hw:=bW (α:=Int) (m:=1) [2] rfl (dz (by decide)) rfl (by decide) (hw.msub (T:= [az g18 _ _,az g19 _ _]) ms)
  have hw:=bW (α:=Int) (m:=1) [1] rfl (dz (by decide)) rfl (by decide) (hw.msub (T:= [az g19 _ _,an (.slice (some ⟨g18,0,none⟩) 1 1) ([2]:List Int)]) ms)
  exact hw.msub ms
 refine ac<|aa<|rn 2 [35] rfl<|ae<|ar rfl (fun h18=>?_) (fun h18=>?_)
 ·have e:bY c=([],[3]):=by rw[h18];rfl
  refine ac<|aa<|ai (a8 (cs:= [_]) ag aF aV rfl rfl rfl rfl rfl) rfl rfl (fun g20 _=>?_)
  refine rn 2 [2,3] rfl<|ae<|ap (aC (ah ?_))
  refine bC eu (am rfl) (am rfl) ?_
  intro w hw
  rw[e]
  refine⟨((none,0),(some ⟨g20,0,none⟩,1)),trivial,rfl,?_⟩
  have hw:=Cw.nilO Int hw
  have hw:=bW (α:=Int) (m:=1) [3] rfl (dz (by decide)) rfl (by decide) (hw.msub (T:= [az g20 _ _,an (.slice none 0 0) ([]:List Int)]) ms)
  exact hw.msub ms
 refine aq (aH (ak ?_))
 refine ac<|aa<|rn 2 [2,3] rfl<|ae ?_
 have e:bY c=([],[]):=by unfold bY;simp[h1,h21,h5,h6,h7,h11,h20,h14,h15,h16,h17,h19,h18]
 refine ap<|bC eu (am rfl) (am rfl) ?_
 intro w hw
 rw[e]
 refine⟨((none,0),(none,0)),trivial,rfl,?_⟩
 have hw:=Cw.nilO Int hw
 have hw:=Cw.nilO Int hw
 exact hw.msub ms
end
section
theorem l7 (s:kg):(eQ s).2.1.length≤s.1.length:=by
 unfold eQ
 split
 ·exact Nat.le_refl _
 show (List.take _ _).length≤_;rw[List.length_take];omega
theorem jY (l:List Int):∀(k:Nat) (s:kg),(dq l k s).1.length≤s.1.length
 | 0,_=>Nat.le_refl _
 | k+1,s=>Nat.le_trans (jY l k _) (l7 s)
section
variable {B:Nat} {w0:World} {H:List a4}
set_option maxRecDepth 100000 in
set_option maxHeartbeats 1000000 in
theorem xM (gs:Nat) {l l' xs:List Int} {wr wr':Bool} (e:dq xs xs.length (l,wr)=(l',wr')) (A Ax:Option Addr) (c cx:Nat) (hs:SF B w0 H Ax xs.length cx xs) (hx:xs.length≤1000000) (hl:l.length≤1000000) (w:World)
  (hw:Cw B w0 (az gs [.slice A l.length c,.bool wr] 202::an (.slice A l.length c) l::H) w) :
  Calls Tryz.prog 208 #[.pointer (some ⟨gs,0,none⟩),.slice Ax xs.length cx] w fun e w'=> ∃g:Option Addr×Nat,True∧e= .returned (.tuple #[])∧
   Cw B w0 (az gs [.slice g.1 l'.length g.2,.bool wr'] 202::an (.slice g.1 l'.length g.2) l'::H) w':=by
 refine cB Tryz.func208 rfl Tryz.ntmps208 rfl hw ?_
 refine ac<|aa<|rn 1 [0,1,5] rfl<|af (aL ag rfl rfl) rfl rfl<|af (cn rfl rfl rfl (by omega)) rfl rfl<|rn 1 [0,1,4] rfl<|ae<|aE (bD (fun g:Nat×List Int×Bool×Option Addr×Nat=>(dq xs g.1 (g.2.1,g.2.2.1)=(l',wr')∧g.2.1.length≤1000000)∧g.1≤xs.length) (fun g=>g.1) (fun g=> [(0,.pointer (some ⟨gs,0,none⟩)),(1,.slice Ax xs.length cx),(4,.int .i64 ((g.1:Int) - 1))]) (fun g=>az gs [.slice g.2.2.2.1 g.2.1.length g.2.2.2.2,.bool g.2.2.1] 202::an (.slice g.2.2.2.1 g.2.1.length g.2.2.2.2) g.2.1::H) (xs.length,l,wr,A,c) (⟨⟨e,hl⟩,Nat.le_refl _⟩) ⟨rfl,rfl,rfl,trivial⟩ me ?_)
 rintro⟨k,u,ub,Aj,cj⟩ hj
 try dsimp only
 obtain⟨⟨hj1,hj2⟩,hj3⟩:(dq xs k (u,ub)=(l',wr')∧u.length≤1000000)∧k≤xs.length:=hj
 refine ac<|ac<|aa<|rn 2 [0,1,4,9] rfl<|ae<|ar rfl (fun h=>?_) (fun h=>?_)
 ·obtain⟨j,rfl⟩:∃j,k=j+1:=⟨k - 1,by omega⟩
  obtain⟨t,u1,ub1,ep⟩:∃t u1 ub1,eQ (u,ub)=(t,u1,ub1):=⟨_,_,_,rfl⟩
  have hpl:=l7 (u,ub)
  rw[ep] at hpl
  have hpl:u1.length≤u.length:=hpl
  have hj1:dq xs j (u1,ub1 || !bS t (xs.getD j 0))=(l',wr'):=by
   unfold dq at hj1
   rw[ep] at hj1
   exact hj1
  refine aq (ak ?_)
  refine cS (t:=4) (v':= .int .i64 (j:Int)) rfl (by congr 1;omega) ?_
  refine ac<|aE<|ac<|fB (.still 0 (.still 2 (.still 3 (.still 4 (.still 5 (.pick 1 (.pick 6 (.still 7 .done) .stop) .stop)))))) [] rfl (by kernel_rfl) (by kernel_rfl) H ?_
  refine aS ha 3 [0,1,4,12,14,15] rfl<|av rfl (aQ ag aF hs (by omega) rfl rfl rfl) rfl rfl ha ?_
  refine av rfl (aZ (SF.int hs (by omega)) rfl rfl aw) rfl rfl ha ?_
  refine aB rfl (bg rfl rfl rfl sO (fun w hw=>mN gs ep Aj cj hj2 w (hw.msub (.s fc (.s fc .r))))) rfl rfl (.inr fun _=>ha) (fun⟨A1,c1⟩ _=>?_) ay
  try dsimp only
  refine aB rfl (bB rfl rfl rfl DQ (fun w hw=>l0 t (xs.getD j 0) w)) rfl rfl (.inr fun _=>ha) (fun _ _=>?_) ay
  refine aS ha 1 [0,1,4,19] rfl<|cu<|b9 rfl (fun hst=>?_) (fun hst=>?_)
  ·have hst:bS t (xs.getD j 0)=false:=by simpa using hst
   rw[hst,Bool.not_false,Bool.or_true] at hj1
   refine aa<|rn 3 [0,1,4,22] rfl<|ai (aM _ fc eG rfl rfl rfl rfl rfl (by rfl) rfl (by rfl)) rfl rfl (fun _ _=>?_)
   refine bu (aH (ak ?_))
   refine aa<|rn 1 [0,1,10] rfl<|af (cn rfl rfl rfl (by omega)) rfl rfl<|rn 1 [0,1,4] rfl<|aX (j,u1,true,A1,c1) (⟨⟨hj1,by show u1.length≤_;omega⟩,by show j≤_;omega⟩) (Nat.lt_succ_self j) ⟨rfl,rfl,rfl,trivial⟩ me
  have hst:bS t (xs.getD j 0)=true:=by simpa using hst
  rw[hst,Bool.not_true,Bool.or_false] at hj1
  refine aq (aH (ak ?_))
  refine aa<|rn 1 [0,1,10] rfl<|af (cn rfl rfl rfl (by omega)) rfl rfl<|rn 1 [0,1,4] rfl<|aX (j,u1,ub1,A1,c1) (⟨⟨hj1,by show u1.length≤_;omega⟩,by show j≤_;omega⟩) (Nat.lt_succ_self j) ⟨rfl,rfl,rfl,trivial⟩ me
 obtain rfl:k=0:=by omega
 simp only[dq,Prod.mk.injEq] at hj1
 obtain⟨rfl,rfl⟩:=hj1
 refine bz (aG (aG (bO ?_)))
 refine cq Tryz.results208 ?_
 intro w hw
 exact⟨(Aj,cj),trivial,rfl,hw.msub ms⟩
end
end
section
theorem yl (s:kg):(eQ s).1=0∨(eQ s).1∈s.1:=by
 unfold eQ
 split
 ·exact .inl rfl
 right
 show s.1.getD _ 0∈s.1
 rw[List.getD_eq_getElem?_getD,List.getElem?_eq_getElem (by omega)]
 exact List.getElem_mem _
theorem yk (s:kg):∀x∈(eQ s).2.1,x∈s.1:=by
 unfold eQ
 split
 ·exact fun _ h=>h
 exact fun x h=>List.mem_of_mem_take h
theorem rp {s:kg} (h:∀x∈s.1,a5 x):a5 (eQ s).1:=by
 rcases yl s with e | e
 ·rw[e];decide
 exact h _ e
structure vB (fs:List aA) (f:aA) (o:bT):Prop where
 loc:(o.c=8∨o.c=9)→0≤o.a∧o.a<f.locals.length
 call:o.c=12→0≤o.a∧o.a<fs.length
 par:∀k,k<fs.length→(0≤(ax fs k).params∧(ax fs k).params≤(ax fs k).locals.length)∧(ax fs k).locals.length≤6
 res:a5 f.result
section
variable {B:Nat} {w0:World} {H H':List a4}
theorem pL {A:Option Addr} {m c:Nat} {xs:List Int} {w:World} (hw:Cw B w0 H w) (hp:cz H (an (.slice A m c) xs) H'):∀x∈xs,a5 x:=by
 obtain⟨F,h,_⟩:=hw.rd hp
 have hs:Sl w (.slice A m c) xs:=cy.sl (show cy w F _ xs from h)
 have hl:=bM.len_eq hs
 intro x hx
 obtain⟨k,hk,rfl⟩:=List.getElem_of_mem hx
 have:=gy hs (k:=k) (by omega)
 rwa [List.getD_eq_getElem?_getD,List.getElem?_eq_getElem hk] at this
theorem oD (gs:Nat) {l l' xs:List Int} {wr wr':Bool} (e:dq xs xs.length (l,wr)=(l',wr')) (A Ax:Option Addr) (c cx:Nat) (hx:xs.length≤1000000) (hl:l.length≤1000000) (w:World)
  (hw:Cw B w0 (az gs [.slice A l.length c,.bool wr] 202::an (.slice A l.length c) l::H) w) (hs:SF B w0 H Ax xs.length cx xs) :
  Calls Tryz.prog 208 #[.pointer (some ⟨gs,0,none⟩),.slice Ax xs.length cx] w fun e w'=> ∃g:Option Addr×Nat,True∧e= .returned (.tuple #[])∧
   Cw B w0 (az gs [.slice g.1 l'.length g.2,.bool wr'] 202::an (.slice g.1 l'.length g.2) l'::H) w':=xM gs e A Ax c cx hs hx hl w hw
theorem oN (gs:Nat) (l xs:List Int) {wr:Bool} (A Ax:Option Addr) (c cx:Nat) (hl:l.length+xs.length≤1000000) (w:World)
  (hw:Cw B w0 (az gs [.slice A l.length c,.bool wr] 202::an (.slice A l.length c) l::H) w) (hs:SF B w0 H Ax xs.length cx xs) :
  Calls Tryz.prog 207 #[.pointer (some ⟨gs,0,none⟩),.slice Ax xs.length cx] w fun e w'=> ∃g:Option Addr×Nat,True∧e= .returned (.tuple #[])∧
   Cw B w0 (az gs [.slice g.1 (l++xs).length g.2,.bool wr] 202::an (.slice g.1 (l++xs).length g.2) (l++xs)::H) w':=BE gs A Ax c cx hs hl w hw
theorem mg {g m:Nat} {cs:List Value} {T:TypeId} (xs:List Int) (hl:xs.length=m) (hm:m≤1000) (hcs:cs=xs.flatMap kY.enc) (hr:∀x∈xs,a5 x) (hp:cz H (az g cs T) H'):SF B w0 H (some ⟨g,0,none⟩) m m xs:=
 SF.lit xs hl (Nat.le_refl _) (by omega) hcs (fun w B x hx=>⟨rfl,hr x hx⟩) hp
theorem bM.to {α:Type} [aK α] {w:World} {A:Option Addr} {m c k:Nat} {xs:List α} (h:bM w B (.slice A m c) xs) (hk:k≤m):bM w B (.slice A k c) (xs.take k):=by
 have:=h.cut 0 k (Nat.zero_le _) hk
 rwa [r5,Nat.sub_zero,Nat.sub_zero,List.drop_zero] at this
theorem bM.cap {α:Type} [aK α] {w:World} {A:Option Addr} {m c:Nat} {xs:List α} (h:bM w B (.slice A m c) xs):m≤c:=by
 obtain⟨_,_,hv,h1,_⟩:=h
 injection hv with e1 e2 e3
 omega
theorem CR (n:Nat):decide ((0:Int)<(n:Int))=(false || decide (0<n)):=by rw[Bool.false_or];exact decide_eq_decide.2 (by omega)
theorem CQ (n:Nat):decide ((8:Int)<(n:Int))=(false || decide (8<n)):=by rw[Bool.false_or];exact decide_eq_decide.2 (by omega)
theorem jH {α β:Type} {a c:α} {b d:β} (h:(a,b)=(c,d)):a=c∧b=d:=by injection h with h1 h2;exact⟨h1,h2⟩
set_option maxRecDepth 100000 in
set_option maxHeartbeats 300000 in
theorem zF (gs:Nat) (fs:List aA) (f:aA) (o:bT) {l l':List Int} {wr wr':Bool} (e:je fs f o (l,wr)=(l',wr')) (A Ap A1 A2:Option Addr) (c cp c1 c2:Nat) (hok:vB fs f o) (hp:bM w0 B (.slice Ap fs.length cp) fs) (hlo:bM w0 B (.slice A1 f.locals.length c1) f.locals)
  (hl:l.length≤1000) (w:World) (hw:Cw B w0 (az gs [.slice A l.length c,.bool wr] 202::an (.slice A l.length c) l::H) w) :
  Calls Tryz.prog 167 #[.pointer (some ⟨gs,0,none⟩),.agg #[.slice Ap fs.length cp],.agg #[.int .i64 f.params,.slice A1 f.locals.length c1,.int .i64 f.result,.slice A2 f.code.length c2],.agg #[.int .i64 o.c,.int .i64 o.a]] w fun e w'=> ∃g:Option Addr×Nat,True∧e= .returned (.tuple #[])∧
   Cw B w0 (az gs [.slice g.1 l'.length g.2,.bool wr'] 202::an (.slice g.1 l'.length g.2) l'::H) w':=by
 have hI:∀x∈l,a5 x:=pL hw .b
 obtain⟨t,u,ub,ep⟩:∃t u ub,eQ (l,wr)=(t,u,ub):=⟨_,_,_,rfl⟩
 obtain⟨t2,u2,ub2,ep2⟩:∃t2 u2 ub2,eQ (u,ub)=(t2,u2,ub2):=⟨_,_,_,rfl⟩
 have hpl:=l7 (l,wr)
 have hpl2:=l7 (u,ub)
 have ht:=rp (s:=(l,wr)) hI
 have hsub:=yk (l,wr)
 rw[ep] at hpl ht hsub
 have ht2:=rp (s:=(u,ub)) (fun x hx=>hI x (hsub x hx))
 rw[ep2] at hpl2 ht2
 have hpl:u.length≤l.length:=hpl
 have hpl2:u2.length≤u.length:=hpl2
 have ht:a5 t:=ht
 have ht2:a5 t2:=ht2
 obtain⟨L,W1,e0⟩:∃L W1,fw fs f o (l,wr)=(L,W1):=⟨_,_,rfl⟩
 have e1:l'=L∧wr'=(W1 || decide (8<L.length)):=by
  unfold je at e
  rw[e0] at e
  simp only[Prod.mk.injEq] at e
  exact⟨e.1.symm,e.2.symm⟩
 obtain⟨rfl,rfl⟩:=e1
 clear e
 refine cB Tryz.func167 rfl Tryz.ntmps167 rfl hw ?_
 refine ac<|aa<|ai (bH rfl rfl rfl) rfl rfl (fun g1 _=>?_)
 refine ai (bH rfl rfl rfl) rfl rfl (fun g2 _=>?_)
 refine ai (bH rfl rfl rfl) rfl rfl (fun g3 _=>?_)
 refine ae<|eo (fun _:Option Addr×Nat=>l'.length≤100000) (fun g=> [(0,.pointer (some ⟨gs,0,none⟩))]) (fun g=>az gs [.slice g.1 l'.length g.2,.bool W1] 202::an (.slice g.1 l'.length g.2) l'::H) ?_ ?_
 ·unfold fw at e0
  have hpar:=hok.par
  refine ac<|aa<|rn 1 [0,5,6,7,14] rfl<|af (aj fc aw rfl rfl (by rfl)) rfl rfl ?_
  refine ae<|aE<|ac<|aa<|rn 2 [0,5,6,7,15,28] rfl<|ae<|ar rfl (fun h2=>?_) (fun h2=>?_)
  ·rw[if_pos h2,ep] at e0
   obtain⟨rfl,rfl⟩:=jH e0
   refine aa<|rn 1 [0,30] rfl<|ai (bg rfl rfl rfl sO (fun w hw=>mN gs ep A c (by omega) w (hw.msub (.s fc (.s fc .r))))) rfl rfl (fun⟨A9,c9⟩ _=>?_)
   try dsimp only
   refine bu (aH ?_)
   refine be (A9,c9) (by omega) ⟨rfl,trivial⟩ (fun _ h=>h.msub ms)
  rw[if_neg h2] at e0
  refine ac<|aa<|rn 2 [0,5,6,7,15,32] rfl<|ae<|ar rfl (fun h3=>?_) (fun h3=>?_)
  ·rw[if_pos h3,ep] at e0
   obtain⟨rfl,rfl⟩:=jH e0
   refine ac<|aa<|rn 1 [0,34] rfl<|ai (bg rfl rfl rfl sO (fun w hw=>mN gs ep A c (by omega) w (hw.msub (.s fc (.s fc .r))))) rfl rfl (fun⟨A9,c9⟩ _=>?_)
   try dsimp only
   refine rn 1 [0,8] rfl<|ae<|aa<|rn 3 [0,36,37,38] rfl<|ai (a8 (cs:= [_,_]) ag aF aV rfl rfl rfl rfl rfl) rfl rfl (fun g4 _=>?_)
   refine ai (bg rfl rfl rfl sN (fun w hw=>oN gs u [t,t] A9 _ c9 _ (by simp only[List.length_cons,List.length_nil];omega) w (hw.msub (.s fc (.s fc .r))) (mg [t,t] rfl (by simp) rfl (kA ht ht) fc))) rfl rfl (fun⟨A8,c8⟩ _=>?_)
   try dsimp only
   refine bu (aH ?_)
   refine be (A8,c8) ((by rw[List.length_append];simp only[List.length_cons,List.length_nil];omega)) ⟨rfl,trivial⟩ (fun _ h=>h.msub ms)
  rw[if_neg h3] at e0
  refine ac<|aa<|rn 2 [0,5,6,7,15,41] rfl<|ae<|ar rfl (fun h4=>?_) (fun h4=>?_)
  ·rw[if_pos h4,ep] at e0
   simp only[ep2] at e0
   obtain⟨rfl,rfl⟩:=jH e0
   refine ac<|aa<|rn 1 [0,43] rfl<|ai (bg rfl rfl rfl sO (fun w hw=>mN gs ep A c (by omega) w (hw.msub (.s fc (.s fc .r))))) rfl rfl (fun⟨A9,c9⟩ _=>?_)
   try dsimp only
   refine rn 1 [0,9] rfl<|ae<|ac<|aa<|rn 1 [0,9,45] rfl<|ai (bg rfl rfl rfl sO (fun w hw=>mN gs ep2 A9 c9 (by omega) w (hw.msub (.s fc (.s fc .r))))) rfl rfl (fun⟨A7,c7⟩ _=>?_)
   try dsimp only
   refine rn 1 [0,9,10] rfl<|ae<|aa<|rn 3 [0,47,48,49] rfl<|ai (a8 (cs:= [_,_]) ag aF aV rfl rfl rfl rfl rfl) rfl rfl (fun g5 _=>?_)
   refine ai (bg rfl rfl rfl sN (fun w hw=>oN gs u2 [t,t2] A7 _ c7 _ (by simp only[List.length_cons,List.length_nil];omega) w (hw.msub (.s fc (.s fc .r))) (mg [t,t2] rfl (by simp) rfl (kA ht ht2) fc))) rfl rfl (fun⟨A8,c8⟩ _=>?_)
   try dsimp only
   refine bu (aH ?_)
   refine be (A8,c8) ((by rw[List.length_append];simp only[List.length_cons,List.length_nil];omega)) ⟨rfl,trivial⟩ (fun _ h=>h.msub ms)
  rw[if_neg h4] at e0
  refine ac<|aa<|rn 2 [0,5,6,7,15,52] rfl<|ae<|ar rfl (fun h8=>?_) (fun h8=>?_)
  ·have hlc:=hok.loc (.inl h8)
   rw[if_pos h8] at e0
   obtain⟨rfl,rfl⟩:=jH e0
   have hq:=gy hlo (k:=o.a.toNat) (by omega)
   refine aa<|rn 2 [0,7,54,55] rfl<|af (aj fc aW rfl rfl (by rfl)) rfl rfl ?_
   refine rn 1 [0,54,56,57] rfl<|af (aj fc aw rfl rfl (by rfl)) rfl rfl ?_
   refine af (eJ ag aF (.ro hlo) (by omega) rfl rfl rfl) rfl rfl<|af (aZ (SF.int (.ro hlo) (by omega)) rfl rfl aw) rfl rfl<|ai (a8 (cs:= [_]) ag aF aV rfl rfl rfl rfl rfl) rfl rfl (fun g6 _=>?_)
   refine ai (bg rfl rfl rfl sN (fun w hw=>oN gs l [f.locals.getD o.a.toNat 0] A _ c _ (by simp only[List.length_cons,List.length_nil];omega) w (hw.msub (.s fc (.s fc .r))) (mg [f.locals.getD o.a.toNat 0] rfl (by simp) rfl (is hq) fc))) rfl rfl (fun⟨A8,c8⟩ _=>?_)
   try dsimp only
   refine bu (aH ?_)
   refine be (A8,c8) ((by rw[List.length_append];simp only[List.length_cons,List.length_nil];omega)) ⟨rfl,trivial⟩ (fun _ h=>h.msub ms)
  rw[if_neg h8] at e0
  refine ac<|aa<|rn 2 [0,5,6,7,15,63] rfl<|ae<|ar rfl (fun h9=>?_) (fun h9=>?_)
  ·have hlc:=hok.loc (.inr h9)
   rw[if_pos h9] at e0
   have hq:=gy hlo (k:=o.a.toNat) (by omega)
   have htl:=jY [f.locals.getD o.a.toNat 0] 1 (l,wr)
   rw[e0] at htl
   have htl:l'.length≤l.length:=htl
   refine aa<|rn 2 [0,7,65,66] rfl<|af (aj fc aW rfl rfl (by rfl)) rfl rfl ?_
   refine rn 1 [0,65,67,68] rfl<|af (aj fc aw rfl rfl (by rfl)) rfl rfl ?_
   refine af (eJ ag aF (.ro hlo) (by omega) rfl rfl rfl) rfl rfl<|af (aZ (SF.int (.ro hlo) (by omega)) rfl rfl aw) rfl rfl<|ai (a8 (cs:= [_]) ag aF aV rfl rfl rfl rfl rfl) rfl rfl (fun g7 _=>?_)
   refine ai (bg rfl rfl rfl Bq (fun w hw=>oD gs (xs:= [f.locals.getD o.a.toNat 0]) e0 A _ c _ (by simp) (by omega) w (hw.msub (.s fc (.s fc .r))) (mg [f.locals.getD o.a.toNat 0] rfl (by simp) rfl (is hq) fc))) rfl rfl (fun⟨A8,c8⟩ _=>?_)
   try dsimp only
   refine bu (aH ?_)
   refine be (A8,c8) (by omega) ⟨rfl,trivial⟩ (fun _ h=>h.msub ms)
  rw[if_neg h9] at e0
  refine ac<|aa<|rn 2 [0,5,6,7,15,74] rfl<|ae<|ar rfl (fun h12=>?_) (fun h12=>?_)
  ·have hcall:=hok.call h12
   rw[if_pos h12] at e0
   obtain⟨k,hk⟩:∃k:Nat,o.a=(k:Int):=⟨o.a.toNat,by omega⟩
   have hkl:k<fs.length:=by omega
   rw[hk,Int.toNat_natCast] at e0
   obtain⟨A3,c3,A4,c4,hl3,hc3,hi3,hcell⟩:=hp.fn hkl
   obtain⟨hpk,hl6⟩:=hpar k hkl
   obtain⟨u3,ub3,e3⟩:∃u3 ub3,dq (dK (ax fs k)) (dK (ax fs k)).length (l,wr)=(u3,ub3):=⟨_,_,rfl⟩
   have htl:=jY (dK (ax fs k)) (dK (ax fs k)).length (l,wr)
   rw[e3] at htl e0
   have htl:u3.length≤l.length:=htl
   obtain⟨rfl,rfl⟩:=jH e0
   have hcl:(dK (ax fs k)).length=(ax fs k).params.toNat:=by unfold dK;rw[List.length_take];omega
   have hcap:=hl3.cap
   have hto:=hl3.to (k:=(ax fs k).params.toNat) (by omega)
   have hrl:(bE (ax fs k)).length≤1:=by unfold bE;split <;> simp
   refine dx (H':=_) (fun w h=>by rw[hk] at h;exact h) ?_
   refine ac<|aa<|rn 1 [0,7,76] rfl<|af (aj fc cF rfl rfl (by rfl)) rfl rfl ?_
   refine rn 1 [0,77,78] rfl<|af (aj fc aw rfl rfl (by rfl)) rfl rfl ?_
   refine af (aQ (k:=k) bA bq (.ro hp) (by omega) rfl rfl rfl) rfl rfl<|af (cL (hcell _) rfl rfl ei bq) rfl rfl<|ai (a9 fe rfl rfl) rfl rfl (fun g8 _=>?_)
   refine ai (aM _ fc bq rfl rfl rfl rfl rfl (by rfl) rfl (by rfl)) rfl rfl (fun _ _=>?_)
   refine ae<|ac<|aa<|rn 2 [0,11,82,83] rfl<|af (aj fc aW rfl rfl (by rfl)) rfl rfl ?_
   refine rn 1 [0,11,82,84,85] rfl<|af (aj fc aw rfl rfl (by rfl)) rfl rfl ?_
   refine bU (t:=86) (v':= .int .i64 ((ax fs k).params.toNat:Int)) rfl (by congr 1;omega) ?_
   refine af (jR ag aF (by omega) rfl rfl rfl) rfl rfl<|bU (t:=87) (v':= .slice A3 (dK (ax fs k)).length c3) rfl (by rw[hcl]) ?_
   refine ai (bg rfl rfl rfl Bq (fun w hw=>oD gs e3 A _ c _ (by omega) (by omega) w (hw.msub (.s fc (.s fc .r))) (by rw[hcl];exact .ro hto))) rfl rfl (fun⟨A9,c9⟩ _=>?_)
   try dsimp only
   refine ae<|aa<|rn 1 [0,11,89] rfl<|af (aY (vs:= [_,_,_,_]) fc ei bq rfl rfl (by rfl) rfl) rfl rfl ?_
   refine ai (dg rfl rfl rfl Tryz.call209 (fun w hw=>oM (ax fs k) A3 A4 c3 c4 hi3.2 w)) rfl rfl (fun⟨A7,c7⟩ _=>?_)
   try dsimp only
   refine ai (bg rfl rfl rfl sN (fun w hw=>oN gs u3 (bE (ax fs k)) A9 _ c9 _ (by omega) w (hw.msub (.s fc (.s fc .r))) (.own rfl fc))) rfl rfl (fun⟨A8,c8⟩ _=>?_)
   try dsimp only
   refine bu (aH ?_)
   refine be (A8,c8) ((by rw[List.length_append];omega)) ⟨rfl,trivial⟩ (fun _ h=>h.msub ms)
  rw[if_neg h12] at e0
  refine ac<|aa<|rn 2 [0,6,7,93] rfl<|ae<|ar rfl (fun h13=>?_) (fun h13=>?_)
  ·rw[if_pos h13] at e0
   obtain⟨u3,ub3,e3⟩:∃u3 ub3,dq (bE f) (bE f).length (l,wr)=(u3,ub3):=⟨_,_,rfl⟩
   have htl:=jY (bE f) (bE f).length (l,wr)
   rw[e3] at htl e0
   have htl:u3.length≤l.length:=htl
   obtain⟨rfl,rfl⟩:=jH e0
   have hrl:(bE f).length≤1:=by unfold bE;split <;> simp
   refine ac<|aa<|rn 1 [0,6,95] rfl<|af (aY (vs:= [_,_,_,_]) fc ei bq rfl rfl (by rfl) rfl) rfl rfl ?_
   refine ai (dg rfl rfl rfl Tryz.call209 (fun w hw=>oM f A1 A2 c1 c2 hok.res w)) rfl rfl (fun⟨A7,c7⟩ _=>?_)
   try dsimp only
   refine ai (bg rfl rfl rfl Bq (fun w hw=>oD gs e3 A _ c _ (by omega) (by omega) w (hw.msub (.s fc (.s fc .r))) (.own rfl fc))) rfl rfl (fun⟨A9,c9⟩ _=>?_)
   try dsimp only
   refine ae<|aa<|rn 4 [0,99,102] rfl<|af (aj fc eh rfl rfl (by rfl)) rfl rfl ?_
   refine rn 1 [0,99,104] rfl<|bL (t:=104) rfl (fun hq=>?_) (fun hq=>?_)
   ·have hq:ub3=true:=hq
    subst hq
    refine rn 9 [0,111,113] rfl<|ai (aM _ fc eG rfl rfl rfl rfl rfl (by rfl) rfl (by rfl)) rfl rfl (fun _ _=>?_)
    refine bu (aH ?_)
    refine be (A9,c9) (by omega) ⟨rfl,trivial⟩ (fun _ h=>h.msub ms)
   have hq:ub3=false:=hq
   subst hq
   refine rn 3 [0,99,104,107] rfl<|af (aj fc aW rfl rfl (by rfl)) rfl rfl ?_
   refine af (aL ag rfl rfl) rfl rfl<|rn 4 [0,111,113] rfl<|ai (aM _ fc eG rfl rfl rfl rfl rfl (by rfl) rfl (by rfl)) rfl rfl (fun _ _=>?_)
   refine bu (aH ?_)
   refine be (A9,c9) (by omega) ⟨rfl,trivial⟩ (fun _ h=>by rw[CR] at h;exact h.msub ms)
  rw[if_neg h13] at e0
  obtain⟨u3,ub3,e3⟩:∃u3 ub3,dq (bY o.c).1 (bY o.c).1.length (l,wr)=(u3,ub3):=⟨_,_,rfl⟩
  have htl:=jY (bY o.c).1 (bY o.c).1.length (l,wr)
  rw[e3] at htl e0
  have htl:u3.length≤l.length:=htl
  obtain⟨rfl,rfl⟩:=jH e0
  have hpl3:(bY o.c).1.length≤3∧(bY o.c).2.length≤3:=by unfold bY;repeat (first | split | decide)
  refine ac<|aa<|rn 1 [0,17] rfl<|af (aj fc aw rfl rfl (by rfl)) rfl rfl ?_
  refine ai (dg rfl rfl rfl Tryz.call210 (fun w hw=>wu o.c w)) rfl rfl (fun⟨⟨A6,c6⟩,⟨A7,c7⟩⟩ _=>?_)
  try dsimp only
  refine rn 5 [0,12,13] rfl<|ae<|ac<|aa<|rn 2 [0,13,22,23] rfl<|ai (bg rfl rfl rfl Bq (fun w hw=>oD gs e3 A _ c _ (by omega) (by omega) w (hw.msub (.s fc (.s fc .r))) (.own rfl fc))) rfl rfl (fun⟨A9,c9⟩ _=>?_)
  try dsimp only
  refine ae<|aa<|rn 2 [0,25,26] rfl<|ai (bg rfl rfl rfl sN (fun w hw=>oN gs u3 (bY o.c).2 A9 _ c9 _ (by omega) w (hw.msub (.s fc (.s fc .r))) (.own rfl fc))) rfl rfl (fun⟨A8,c8⟩ _=>?_)
  try dsimp only
  refine bu (aH ?_)
  refine be (A8,c8) ((by rw[List.length_append];omega)) ⟨rfl,trivial⟩ (fun _ h=>h.msub ms)
 rintro⟨A9,c9⟩ hlen
 try dsimp only
 refine aa<|rn 4 [0,114,117] rfl<|af (aj fc eh rfl rfl (by rfl)) rfl rfl ?_
 refine rn 1 [0,114,119] rfl<|bL (t:=119) rfl (fun hq=>?_) (fun hq=>?_)
 ·have hq:W1=true:=hq
  subst hq
  refine rn 9 [126,128] rfl<|ai (aM _ fc eG rfl rfl rfl rfl rfl (by rfl) rfl (by rfl)) rfl rfl (fun _ _=>?_)
  refine bu<|cq Tryz.results167 ?_
  intro w hw
  exact⟨(A9,c9),trivial,rfl,hw.msub ms⟩
 have hq:W1=false:=hq
 subst hq
 refine rn 3 [114,119,122] rfl<|af (aj fc aW rfl rfl (by rfl)) rfl rfl ?_
 refine af (aL ag rfl rfl) rfl rfl<|rn 4 [126,128] rfl<|ai (aM _ fc eG rfl rfl rfl rfl rfl (by rfl) rfl (by rfl)) rfl rfl (fun _ _=>?_)
 refine bu<|cq Tryz.results167 ?_
 intro w hw
 refine⟨(A9,c9),trivial,rfl,?_⟩
 rw[CQ] at hw
 exact hw.msub ms
end
end
section
theorem zi (b:UInt8):dU (b.toNat:Int)=b:=by
 have:=b.toNat_lt
 unfold dU
 rw[show ((b.toNat:Int) % 256).toNat=b.toNat from by omega]
 exact UInt8.ofNat_toNat
theorem zh {n:Int} (h:0≤n∧n≤255):((dU n).toNat:Int)=n:=by rw[vk];omega
theorem wB (b:UInt8) (l:List UInt8) (sh:Bool):eU (b::l,sh)=((b.toNat:Int),l,sh):=by
 unfold eU iM gK
 rw[if_neg (by simp only[List.length_cons];omega)]
 simp
theorem kC {n:Int} (h:0≤n∧n≤255) (l:List UInt8):eU (dU n::l,false)=(n,l,false):=by rw[wB,zh h]
theorem oU:∀(L:List Int) (r:List UInt8) (acc:List Int),(∀t∈L,0≤t∧t≤255)→fL L.length (L.map dU++r,false) acc=(acc++L,r,false)
 | [],r,acc,_=>by simp[fL]
 | t::L,r,acc,h=>by
  simp only[List.length_cons,fL,List.map_cons,List.cons_append,Bool.false_eq_true,if_false]
  rw[kC (h t (by simp)),oU L r _ (fun x hx=>h x (by simp[hx]))]
  simp
theorem io {n a b:Int} :bx n a b=true↔a≤n∧n≤b:=by unfold bx;simp
theorem iW {n:Nat} {f:aA} (h:dN n f=0):f.locals.length≤6∧(0≤f.params∧f.params≤f.locals.length)∧(0≤f.result∧f.result≤2)∧(∀t∈f.locals,1≤t∧t≤2)∧f.code.length≠0∧dJ f.code=0∧∀o∈f.code,dS n f.locals.length f.code.length o=true:=by
 unfold dN at h
 split at h
 ·cases h
 rename_i h1
 split at h
 ·cases h
 rename_i h2
 split at h
 ·cases h
 rename_i h3
 split at h
 ·cases h
 rename_i h4
 split at h
 ·rename_i h5;exact absurd h h5
 rename_i h5
 split at h
 ·cases h
 rename_i h6
 have h3:¬(bx f.result 0 2=false)∧¬(f.locals.any fy=true):=⟨fun e=>h3 (.inl e),fun e=>h3 (.inr e)⟩
 refine⟨by omega,io.1 (by simpa using h2),io.1 (by simpa using h3.1),fun t ht=>?_,h4,by simpa using h5,fun o ho=>?_⟩
 ·have:=h3.2
  simp only[Bool.not_eq_true,List.any_eq_false] at this
  have:=this t ht
  unfold fy at this
  exact io.1 (by simpa using this)
 simp only[Bool.not_eq_true,List.any_eq_false] at h6
 simpa using h6 o ho
theorem lC {l:List bT} (h:dJ l=0):l.length≤40∧∀o∈l,ee o=0:=by
 unfold dJ at h
 split at h
 ·cases h
 rename_i h1
 refine⟨by omega,?_⟩
 clear h1
 induction l with
 | nil=>simp
 | cons o l ih=>
  simp only[dO] at h
  split at h
  ·rename_i h2;simp at h2;exact absurd h h2
  rename_i h2
  intro x hx
  rcases List.mem_cons.1 hx with rfl | hx
  ·simpa using h2
  exact ih h x hx
theorem qG {o:bT} (h:ee o=0):iI o.c=true∧(names o.c=true∨o.a=0)∧cW o.a=true:=by
 unfold ee at h
 split at h
 ·cases h
 rename_i h1
 split at h
 ·cases h
 rename_i h2
 split at h
 ·cases h
 rename_i h3
 refine⟨by simpa using h1,?_,by simpa using h3⟩
 cases hn:names o.c
 ·right
  simpa [hn] using h2
 left;rfl
theorem rZ {l:List bT} (h:dJ l=0):eK (dc l)=(l,0):=by
 obtain⟨h1,h2⟩:=lC h
 have:=j8 l [] (dc l).length (fun o ho=>qG (h2 o ho)) (by simpa using h1) (Nat.le_refl _)
 simpa [eK] using this
theorem vM (a r:List UInt8):iM (a++r,false) (a.length:Int)=(a,r,false):=by
 unfold iM gK
 rw[if_neg (by rw[List.length_append];omega)]
 simp
theorem yL {n:Nat} {f:aA} (h:dN n f=0) (r:List UInt8):jU (gA f++r,false)=(f,r,false):=by
 obtain⟨h1,h2,h3,h4,h5,h6,_⟩:=iW h
 obtain⟨hc40,_⟩:=lC h6
 have hcl:=sf f.code
 obtain⟨C,hC⟩:∃C,dc f.code=C:=⟨_,rfl⟩
 have e:gA f++r=dU f.params::dU f.locals.length::(f.locals.map dU++(dU f.result::dU (C.length / 256)::dU C.length::(C++r))):=by
  simp[gA,hC]
 rw[hC] at hcl
 rw[e]
 unfold jU
 simp only[kC (n:=f.params) (by omega),kC (n:=(f.locals.length:Int)) (by omega),Int.toNat_natCast,oU f.locals _ [] (fun t ht=>by have:=h4 t ht;omega),kC (n:=f.result) (by omega),kC (n:=(C.length:Int) / 256) (by omega)]
 have hb:eU (dU (C.length:Int)::(C++r),false)=((C.length:Int),C++r,false):=kC (by omega) _
 simp only[hb]
 have hz:(C.length:Int) / 256*256+(C.length:Int)=(C.length:Int):=by omega
 simp only[hz,vM]
 rw[←hC,rZ h6]
 simp
theorem wW {n:Nat} :∀(fs:List aA) (r:List UInt8) (acc:List aA),(∀f∈fs,dN n f=0)→hU fs.length (fs.flatMap gA++r,false) acc=(acc++fs,r,false)
 | [],r,acc,_=>by simp[hU]
 | f::fs,r,acc,h=>by
  simp only[List.length_cons,hU,List.flatMap_cons,Bool.false_eq_true,if_false]
  rw[List.append_assoc,yL (h f (by simp)),wW fs r _ (fun x hx=>h x (by simp[hx]))]
  simp
theorem i7 {s s':List UInt8} {sh:Bool} {p:Int} (e:eU (s,sh)=(p,s',false)):sh=false∧s=dU p::s':=by
 cases s with
 | nil=>
  have:eU ([],sh)=(0,[],true):=by cases sh <;> rfl
  rw[this] at e
  simp at e
 | cons b l=>
  rw[wB] at e
  simp only[Prod.mk.injEq] at e
  obtain⟨rfl,rfl,rfl⟩:=e
  exact⟨rfl,by rw[zi]⟩
theorem ur {s s' c:List UInt8} {sh:Bool} {n:Int} (h0:0≤n) (e:iM (s,sh) n=(c,s',false)):sh=false∧s=c++s'∧(c.length:Int)=n:=by
 unfold iM gK at e
 split at e
 ·simp at e
 rename_i h
 simp only[Prod.mk.injEq,Bool.not_true,Bool.or_false] at e
 obtain⟨rfl,rfl,rfl⟩:=e
 refine⟨rfl,(List.take_append_drop _ _).symm,?_⟩
 rw[List.length_take]
 have h:¬((s.length:Int)<n):=h
 omega
theorem mQ:∀(k:Nat) (s s':List UInt8) (sh:Bool) (acc L:List Int),fL k (s,sh) acc=(L,s',false)→sh=false∧∃M,L=acc++M∧M.length=k∧s=M.map dU++s'
 | 0,s,s',sh,acc,L,e=>by
  simp only[fL,Prod.mk.injEq] at e
  obtain⟨rfl,rfl,rfl⟩:=e
  exact⟨rfl,[],by simp,rfl,by simp⟩
 | k+1,s,s',sh,acc,L,e=>by
  simp only[fL] at e
  split at e
  ·rename_i h
   simp only[Prod.mk.injEq] at e
   rw[h] at e
   simp at e
  rename_i h
  obtain⟨p,s1,b1,e1⟩:∃p s1 b1,eU (s,sh)=(p,s1,b1):=⟨_,_,_,rfl⟩
  rw[e1] at e
  obtain⟨rfl,M,rfl,hM,rfl⟩:=mQ k _ _ _ _ _ e
  obtain⟨rfl,rfl⟩:=i7 e1
  exact⟨rfl,p::M,by simp,by simp[hM],by simp⟩
theorem uW {s s':List UInt8} {sh:Bool} {f:aA} (e:jU (s,sh)=(f,s',false)):sh=false∧s=gA f++s':=by
 obtain⟨p,s1,b1,e1⟩:∃p s1 b1,eU (s,sh)=(p,s1,b1):=⟨_,_,_,rfl⟩
 obtain⟨n,s2,b2,e2⟩:∃p s1' b1',eU (s1,b1)=(p,s1',b1'):=⟨_,_,_,rfl⟩
 obtain⟨L,s3,b3,e3⟩:∃p s1' b1',fL n.toNat (s2,b2) []=(p,s1',b1'):=⟨_,_,_,rfl⟩
 obtain⟨t,s4,b4,e4⟩:∃p s1' b1',eU (s3,b3)=(p,s1',b1'):=⟨_,_,_,rfl⟩
 obtain⟨x,s5,b5,e5⟩:∃p s1' b1',eU (s4,b4)=(p,s1',b1'):=⟨_,_,_,rfl⟩
 obtain⟨y,s6,b6,e6⟩:∃p s1' b1',eU (s5,b5)=(p,s1',b1'):=⟨_,_,_,rfl⟩
 obtain⟨c,s7,b7,e7⟩:∃p s1' b1',iM (s6,b6) (x*256+y)=(p,s1',b1'):=⟨_,_,_,rfl⟩
 unfold jU at e
 simp only[e1,e2,e3,e4,e5,e6,e7,Prod.mk.injEq,Bool.or_eq_false_iff,decide_eq_false_iff_not] at e
 obtain⟨rfl,rfl,rfl,hd⟩:=e
 have hd:=Decidable.byContradiction hd
 have d1:=(gQ e1).1
 have d2:=(gQ e2).1
 have d5:=(gQ e5).1
 have d6:=(gQ e6).1
 obtain⟨rfl,rfl,hcl⟩:=ur (by omega) e7
 obtain⟨rfl,rfl⟩:=i7 e6
 obtain⟨rfl,rfl⟩:=i7 e5
 obtain⟨rfl,rfl⟩:=i7 e4
 obtain⟨rfl,M,hL,hM,rfl⟩:=mQ _ _ _ _ _ _ e3
 obtain⟨rfl,rfl⟩:=i7 e2
 obtain⟨rfl,rfl⟩:=i7 e1
 refine⟨rfl,?_⟩
 have hL:L=M:=by simpa using hL
 subst hL
 have hc:dc (eK c).1=c:=by
  have:=qC c hd
  unfold mU at this
  split at this
  ·rename_i h
   simp only[Prod.mk.injEq] at this
   simp[this.2] at h
  simpa using this
 have hx:(c.length:Int) / 256=x:=by omega
 have hy:dU (c.length:Int)=dU y:=by unfold dU;congr 2;omega
 have hn:(L.length:Int)=n:=by omega
 simp[gA,hc,hx,hy,hn]
theorem s9:∀(k:Nat) (s s':List UInt8) (sh:Bool) (acc L:List aA),hU k (s,sh) acc=(L,s',false)→sh=false∧∃M,L=acc++M∧M.length=k∧s=M.flatMap gA++s'
 | 0,s,s',sh,acc,L,e=>by
  simp only[hU,Prod.mk.injEq] at e
  obtain⟨rfl,rfl,rfl⟩:=e
  exact⟨rfl,[],by simp,rfl,by simp⟩
 | k+1,s,s',sh,acc,L,e=>by
  simp only[hU] at e
  split at e
  ·rename_i h
   simp only[Prod.mk.injEq] at e
   rw[h] at e
   simp at e
  obtain⟨p,s1,b1,e1⟩:∃p s1 b1,jU (s,sh)=(p,s1,b1):=⟨_,_,_,rfl⟩
  rw[e1] at e
  obtain⟨rfl,M,rfl,hM,rfl⟩:=s9 k _ _ _ _ _ e
  obtain⟨rfl,rfl⟩:=uW e1
  exact⟨rfl,p::M,by simp,by simp[hM],by simp⟩
end
end Go.Proofs.YtpacloheigifkaaGreat
