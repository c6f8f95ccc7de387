/- Texts of one proof, one behind the other: lemmas alone. -/
import Derived.Test.YtpacloheigifkaaGreatM0I
import Derived.Deep.QuietTactic
import Derived.BigQuiet
import Derived.Test.YtpacloheigifkaaGreatM17I
import Derived.Test.YtpacloheigifkaaGreatM26I
import Derived.Test.YtpacloheigifkaaGreatM4I
import Derived.Test.YtpacloheigifkaaGreatM23I
import Derived.Test.YtpacloheigifkaaGreatM1I

namespace Go.Proofs.YtpacloheigifkaaGreat
open Go.RowKit
section
structure aA where
 params:Int
 locals:List Int
 result:Int
 code:List cc
 deriving DecidableEq
instance:Inhabited aA:=⟨⟨0,[],0,[]⟩⟩
instance:aL aA where
 k:=4
 rep w B cs f:= ∃v1 v2,cs= [.int .i64 f.params,v1,.int .i64 f.result,v2]∧(be f.params∧be f.result)∧bW w B v1 f.locals∧bW w B v2 f.code
 len h:=by obtain⟨v1,v2,h,_⟩:=h;rw[h];rfl
 keep h hc:=by obtain⟨v1,v2,h,hi,h1,h2⟩:=h;exact⟨v1,v2,h,hi,h1.keep hc,h2.keep hc⟩
 more h hb:=by obtain⟨v1,v2,h,hi,h1,h2⟩:=h;exact⟨v1,v2,h,hi,h1.more hb,h2.more hb⟩
 one h:=by
  obtain⟨v1,v2,h,hi,h1,h2⟩:=h
  obtain⟨A1,c1,rfl,_⟩:=h1.form
  obtain⟨A2,c2,rfl,_⟩:=h2.form
  rw[h]
  simp[Value.oneCell']
instance:Ow aA where
 ty:=110
 own w F cs f:= ∃v1 v2 F1 F2,cs= [.int .i64 f.params,v1,.int .i64 f.result,v2]∧(be f.params∧be f.result)∧cL w F1 v1 f.locals∧cL w F2 v2 f.code∧(∀b,F1 b→F2 b→False)∧∀b,F b↔F1 b∨F2 b
 rd_ h:=by obtain⟨v1,v2,F1,F2,h,hi,h1,h2,_⟩:=h;exact⟨v1,v2,h,hi,h1.sl,h2.sl⟩
 lt h hb:=by
  obtain⟨v1,v2,F1,F2,h,hi,h1,h2,_,hF⟩:=h
  rcases(hF _).1 hb with h | h
  ·exact h1.lt h
  exact h2.lt h
 frame h hf:=by
  obtain⟨v1,v2,F1,F2,h,hi,h1,h2,hd,hF⟩:=h
  exact⟨v1,v2,F1,F2,h,hi,h1.frame fun b hb=>hf b ((hF b).2 (.inl hb)),h2.frame fun b hb=>hf b ((hF b).2 (.inr hb)),hd,hF⟩
 cong h hf:=by
  obtain⟨v1,v2,F1,F2,h,hi,h1,h2,hd,hF⟩:=h
  exact⟨v1,v2,F1,F2,h,hi,h1,h2,hd,fun b=>(hf b).symm.trans (hF b)⟩
instance:iI aA:=⟨22⟩
section
variable {B:Nat} {w0:World} {H:List a7}
def az (l:List aA) (k:Nat):aA:=l.getD k default
theorem bW.fn {A:Option Addr} {m c k:Nat} {xs:List aA} (h:bW w0 B (.slice A m c) xs) (hk:k<m):∃A1 c1 A2 c2,bW w0 B (.slice A1 (az xs k).locals.length c1) (az xs k).locals∧bW w0 B (.slice A2 (az xs k).code.length c2) (az xs k).code∧(be (az xs k).params∧be (az xs k).result)∧
  ∀H w,Cw B w0 H w→∀j v,([.int .i64 (az xs k).params,.slice A1 (az xs k).locals.length c1,.int .i64 (az xs k).result,.slice A2 (az xs k).code.length c2]:List Value)[j]? =some v→w.cell? ⟨ab A,ao A+k*4+j,none⟩=some v:=by
 obtain⟨cs,⟨v1,v2,hcs,hi,h1,h2⟩,hc⟩:=h.elr hk default
 obtain⟨A1,c1,rfl,_⟩:=h1.form
 obtain⟨A2,c2,rfl,_⟩:=h2.form
 subst hcs
 exact⟨A1,c1,A2,c2,h1,h2,hi,fun H w hw j v hv=>hc j v hv H w hw⟩
theorem sj {v1 v2:Value} {f:aA} (hi:be f.params∧be f.result):∀(w:World) (F:Nat→Prop),Hs w [ap v1 f.locals,ap v2 f.code] F→Ow.own w F [.int .i64 f.params,v1,.int .i64 f.result,v2] f:=by
 rintro w F ⟨F1,F2,h1,⟨F3,F4,h3,h4,h5,h6⟩,hd,hF⟩
 have e:∀b,F2 b↔F3 b:=fun b=>by rw[h6 b];simp[h4 b]
 exact⟨v1,v2,F1,F3,rfl,hi,h1,h3,fun b hb hb'=>hd b hb ((e b).2 hb'),fun b=>by rw[hF b,e b]⟩
end
def bK (n a b:Int):Bool:=decide (a≤n) && decide (n≤b)
def et (nf nl nc:Nat) (o:cc):Bool:=
 if o.c=8∨o.c=9 then bK o.a 0 ((nl:Int) - 1) else if o.c=10∨o.c=11 then bK o.a 0 ((nc:Int) - 1) else if o.c=12 then bK o.a 0 ((nf:Int) - 1) else true
def gG (t:Int):Bool:=!bK t 1 2
def ef (nf:Nat) (f:aA):Int:=
 if 6<f.locals.length then 2 else if bK f.params 0 f.locals.length=false then 3 else if bK f.result 0 2=false∨f.locals.any gG=true then 6 else if f.code.length=0 then 5 else
 if d8 f.code≠0 then d8 f.code else if f.code.any (fun o=>!et nf f.locals.length f.code.length o)=true then 3 else 0
def dX {α:Type} (g:α→Int):List α→Int
 | []=>0
 | f::l=>if g f≠0 then g f else dX g l
def dm (fs:List aA):Int:=
 if fs.length=0 then 5 else if 5<fs.length then 2 else if dX (ef fs.length) fs≠0 then dX (ef fs.length) fs else if 0<(az fs 0).params∨(az fs 0).result≠0 then 4 else 0
def iT (f:aA):List UInt8:=
 [a9 f.params,a9 f.locals.length]++f.locals.map a9++ [a9 f.result,a9 ((dq f.code).length / 256),a9 (dq f.code).length]++dq f.code
def AM (fs:List aA):List UInt8:=a9 fs.length::fs.flatMap iT
def HX (fs:List aA):List UInt8×Int:=if dm fs≠0 then ([],dm fs) else (AM fs,0)
abbrev pX:=List UInt8×Bool
def jX (r:pX) (n:Int):List UInt8×pX:=((fQ r.1 n).1,(fQ r.1 n).2.1,r.2 || !(fQ r.1 n).2.2)
def fI (r:pX):Int×pX:=(match (jX r 1).1 with | []=>0 | b::_=>(b.toNat:Int),(jX r 1).2)
def gY:Nat→pX→List Int→List Int×pX
 | 0,r,acc=>(acc,r)
 | k+1,r,acc=>if r.2 then (acc,r) else gY k (fI r).2 (acc++ [(fI r).1])
def lB (r:pX):aA×pX:=
 let p:=fI r
 let n:=fI p.2
 let l:=gY n.1.toNat n.2 []
 let t:=fI l.2
 let a:=fI t.2
 let b:=fI a.2
 let c:=jX b.2 (a.1*256+b.1)
 (⟨p.1,l.1,t.1,(fB c.1).1⟩,c.2.1,c.2.2 || decide ((fB c.1).2≠0))
def jb:Nat→pX→List aA→List aA×pX
 | 0,r,acc=>(acc,r)
 | k+1,r,acc=>if r.2 then (acc,r) else jb k (lB r).2 (acc++ [(lB r).1])
def pz (s:List UInt8):List aA×pX:=jb (fI (s,false)).1.toNat (fI (s,false)).2 []
def HY (s:List UInt8):List aA×Int:=
 if 2000<s.length then ([],2) else if (pz s).2.2=true∨(pz s).2.1≠[] then ([],1) else if dm (pz s).1≠0 then ([],dm (pz s).1) else ((pz s).1,0)
theorem iF {α:Type} {g:α→Int} {l:List α} {k:Nat} (d:α) (hk:k<l.length) (h:dX g (l.take k)=0):dX g (l.take (k+1))=g (l.getD k d):=by
 induction l generalizing k with
 | nil=>simp at hk
 | cons a l ih=>
  cases k with
  | zero=>simp[dX];intro e;exact e.symm
  | succ k=>
   simp only[List.take_succ_cons,dX] at h⊢
   have ha:g a=0:=by
    by_cases e:g a=0
    ·exact e
    rw[if_pos e] at h;exact absurd h e
   rw[if_neg (by simp[ha])] at h⊢
   rw[ih (by simpa using hk) h]
   simp
theorem lI {α:Type} {g:α→Int} {l:List α} {k:Nat} (h:dX g (l.take k)≠0):dX g l=dX g (l.take k):=by
 induction l generalizing k with
 | nil=>simp
 | cons a l ih=>
  cases k with
  | zero=>simp[dX] at h
  | succ k=>
   simp only[List.take_succ_cons,dX] at h⊢
   split
   ·rfl
   rename_i e;rw[if_neg e] at h;exact ih h
end
section
structure aX where
 ref:Bool
 n:Int
 deriving DecidableEq
instance:Inhabited aX:=⟨⟨false,0⟩⟩
instance:aL aX where
 k:=2
 rep _ _ cs v:=cs= [.bool v.ref,.int .i64 v.n]∧be v.n
 len h:=by rw[h.1];rfl
 keep h _:=h
 more h _:=h
 one h:=by rw[h.1];simp[Value.oneCell']
instance:Ow aX where
 ty:=103
 own _ F cs v:=(cs= [.bool v.ref,.int .i64 v.n]∧be v.n)∧∀b,¬F b
 rd_ h:=h.1
 lt h hb:=(h.2 _ hb).elim
 frame h _:=h
 cong h hf:=⟨h.1,fun b hb=>h.2 b ((hf b).2 hb)⟩
instance:cS aX where
 enc v:= [.bool v.ref,.int .i64 v.n]
 wf v:=be v.n
 rep_iff:=Iff.rfl
 own_iff:=Iff.rfl
instance:iI aX:=⟨95⟩
structure aO where
 func:Int
 pc:Int
 locals:List aX
 stack:List aX
 deriving DecidableEq
instance:Inhabited aO:=⟨⟨0,0,[],[]⟩⟩
structure aZ where
 func:Int
 pc:Int
 lv:Value
 sv:Value
instance:Inhabited aZ:=⟨⟨0,0,.slice none 0 0,.slice none 0 0⟩⟩
def aZ.wf (h:aZ):Prop:=(be h.func∧be h.pc)∧h.lv.oneCell'=true∧h.sv.oneCell'=true
instance:aL aZ where
 k:=4
 rep _ _ cs h:=cs= [.int .i64 h.func,.int .i64 h.pc,h.lv,h.sv]∧h.wf
 len h:=by rw[h.1];rfl
 keep h _:=h
 more h _:=h
 one h:=by rw[h.1];simpa [Value.oneCell',aZ.wf] using h.2.2
instance:Ow aZ where
 ty:=97
 own _ F cs h:=(cs= [.int .i64 h.func,.int .i64 h.pc,h.lv,h.sv]∧h.wf)∧∀b,¬F b
 rd_ h:=h.1
 lt h hb:=(h.2 _ hb).elim
 frame h _:=h
 cong h hf:=⟨h.1,fun b hb=>h.2 b ((hf b).2 hb)⟩
instance:cS aZ where
 enc h:= [.int .i64 h.func,.int .i64 h.pc,h.lv,h.sv]
 wf h:=h.wf
 rep_iff:=Iff.rfl
 own_iff:=Iff.rfl
instance:iI aZ:=⟨25⟩
theorem Bm {w:World} {F:Nat→Prop} {R S:a7} :Hs w [R,S] F↔∃F1 F2,R.P w F1∧S.P w F2∧(∀b,F1 b→F2 b→False)∧∀b,F b↔F1 b∨F2 b:=by
 constructor
 ·rintro⟨F1,F2,h1,⟨F3,F4,h3,h4,h5,h6⟩,hd,hF⟩
  have e:∀b,F2 b↔F3 b:=fun b=>by rw[h6 b];simp[show¬F4 b from h4 b]
  exact⟨F1,F3,h1,h3,fun b hb hb'=>hd b hb ((e b).2 hb'),fun b=>by rw[hF b,e b]⟩
 rintro⟨F1,F2,h1,h2,hd,hF⟩
 exact⟨F1,F2,h1,⟨F2,fun _=>False,h2,fun _ h=>h,fun _ _ h=>h,fun b=>by simp⟩,hd,hF⟩
theorem nU {α:Type} [Ow α] {w:World} {F:Nat→Prop} {v:Value} {xs:List α} (h:cL w F v xs):v.oneCell'=true:=by
 obtain⟨A,c,e,_⟩:=h.sl.form
 rw[e];rfl
instance:aL aO where
 k:=4
 rep w B cs f:= ∃v1 v2,cs= [.int .i64 f.func,.int .i64 f.pc,v1,v2]∧(be f.func∧be f.pc)∧bW w B v1 f.locals∧bW w B v2 f.stack
 len h:=by obtain⟨v1,v2,h,_⟩:=h;rw[h];rfl
 keep h hc:=by obtain⟨v1,v2,h,hi,h1,h2⟩:=h;exact⟨v1,v2,h,hi,h1.keep hc,h2.keep hc⟩
 more h hb:=by obtain⟨v1,v2,h,hi,h1,h2⟩:=h;exact⟨v1,v2,h,hi,h1.more hb,h2.more hb⟩
 one h:=by
  obtain⟨v1,v2,h,hi,h1,h2⟩:=h
  obtain⟨A1,c1,rfl,_⟩:=h1.form
  obtain⟨A2,c2,rfl,_⟩:=h2.form
  rw[h]
  simp[Value.oneCell']
instance:Ow aO where
 ty:=97
 own w F cs f:= ∃v1 v2,cs= [.int .i64 f.func,.int .i64 f.pc,v1,v2]∧(be f.func∧be f.pc)∧Hs w [ap v1 f.locals,ap v2 f.stack] F
 rd_ h:=by
  obtain⟨v1,v2,h,hi,hh⟩:=h
  obtain⟨F1,F2,h1,h2,_⟩:=Bm.1 hh
  exact⟨v1,v2,h,hi,cL.sl h1,cL.sl h2⟩
 lt h hb:=by obtain⟨v1,v2,h,hi,hh⟩:=h;exact hh.lt hb
 frame h hf:=by obtain⟨v1,v2,h,hi,hh⟩:=h;exact⟨v1,v2,h,hi,hh.loc hf⟩
 cong h hf:=by obtain⟨v1,v2,h,hi,hh⟩:=h;exact⟨v1,v2,h,hi,hh.cong hf⟩
instance:iI aO:=⟨25⟩
instance:gO aO aZ where
 parts h f:= [ap h.lv f.locals,ap h.sv f.stack]
 ok h f:=h.func=f.func∧h.pc=f.pc
 kk:=rfl
 tt:=rfl
 opn {w F cs f} h:=by
  obtain⟨v1,v2,hcs,hi,hh⟩:=h
  obtain⟨F1,F2,h1,h2,_⟩:=Bm.1 hh
  exact⟨⟨f.func,f.pc,v1,v2⟩,⟨hcs,hi,nU h1,nU h2⟩,⟨rfl,rfl⟩,hh⟩
 cls {w F h f} hwf hok hH:=by
  refine⟨h.lv,h.sv,?_,?_,hH⟩
  ·show [.int .i64 h.func,.int .i64 h.pc,h.lv,h.sv]=_
   rw[hok.1,hok.2]
  rw[←hok.1,←hok.2];exact hwf.1
structure aG where
 frames:List aO
 blocks:List (List Int)
 inn:List Int
 out:List Int
 status:Int
 trap:Int
 deriving DecidableEq
instance:Inhabited aG:=⟨⟨[],[],[],[],0,0⟩⟩
structure lE where
 fv:Value
 bv:Value
 iv:Value
 ov:Value
 status:Int
 trap:Int
instance:Inhabited lE:=⟨⟨.slice none 0 0,.slice none 0 0,.slice none 0 0,.slice none 0 0,0,0⟩⟩
def lE.wf (h:lE):Prop:=(be h.status∧be h.trap)∧h.fv.oneCell'=true∧h.bv.oneCell'=true∧h.iv.oneCell'=true∧h.ov.oneCell'=true
instance:aL lE where
 k:=6
 rep _ _ cs h:=cs= [h.fv,h.bv,h.iv,h.ov,.int .i64 h.status,.int .i64 h.trap]∧h.wf
 len h:=by rw[h.1];rfl
 keep h _:=h
 more h _:=h
 one h:=by rw[h.1];simpa [Value.oneCell',lE.wf] using h.2.2
instance:Ow lE where
 ty:=29
 own _ F cs h:=(cs= [h.fv,h.bv,h.iv,h.ov,.int .i64 h.status,.int .i64 h.trap]∧h.wf)∧∀b,¬F b
 rd_ h:=h.1
 lt h hb:=(h.2 _ hb).elim
 frame h _:=h
 cong h hf:=⟨h.1,fun b hb=>h.2 b ((hf b).2 hb)⟩
instance:cS lE where
 enc h:= [h.fv,h.bv,h.iv,h.ov,.int .i64 h.status,.int .i64 h.trap]
 wf h:=h.wf
 rep_iff:=Iff.rfl
 own_iff:=Iff.rfl
instance:iI lE:=⟨65⟩
def Io0 (w:World) (B:Nat) (h:lE) (m:aG):Prop:=(h.status=m.status∧h.trap=m.trap)∧(be m.status∧be m.trap)∧bW w B h.fv m.frames∧bW w B h.bv m.blocks∧bW w B h.iv m.inn∧bW w B h.ov m.out
instance:aL aG where
 k:=6
 rep w B cs m:= ∃v1 v2 v3 v4,cs= [v1,v2,v3,v4,.int .i64 m.status,.int .i64 m.trap]∧(be m.status∧be m.trap)∧bW w B v1 m.frames∧bW w B v2 m.blocks∧bW w B v3 m.inn∧bW w B v4 m.out
 len h:=by obtain⟨v1,v2,v3,v4,h,_⟩:=h;rw[h];rfl
 keep h hc:=by obtain⟨v1,v2,v3,v4,h,hi,h1,h2,h3,h4⟩:=h;exact⟨v1,v2,v3,v4,h,hi,h1.keep hc,h2.keep hc,h3.keep hc,h4.keep hc⟩
 more h hb:=by obtain⟨v1,v2,v3,v4,h,hi,h1,h2,h3,h4⟩:=h;exact⟨v1,v2,v3,v4,h,hi,h1.more hb,h2.more hb,h3.more hb,h4.more hb⟩
 one h:=by
  obtain⟨v1,v2,v3,v4,h,hi,h1,h2,h3,h4⟩:=h
  obtain⟨A1,c1,rfl,_⟩:=h1.form
  obtain⟨A2,c2,rfl,_⟩:=h2.form
  obtain⟨A3,c3,rfl,_⟩:=h3.form
  obtain⟨A4,c4,rfl,_⟩:=h4.form
  rw[h]
  simp[Value.oneCell']
theorem ya {w:World} {F:Nat→Prop} {R S T U:a7} (h:Hs w [R,S,T,U] F):∃F1 F2 F3 F4,R.P w F1∧S.P w F2∧T.P w F3∧U.P w F4:=by
 obtain⟨F1,_,h1,⟨F2,_,h2,⟨F3,_,h3,⟨F4,_,h4,_⟩,_⟩,_⟩,_⟩:=h
 exact⟨F1,F2,F3,F4,h1,h2,h3,h4⟩
instance:Ow aG where
 ty:=29
 own w F cs m:= ∃v1 v2 v3 v4,cs= [v1,v2,v3,v4,.int .i64 m.status,.int .i64 m.trap]∧(be m.status∧be m.trap)∧Hs w [ap v1 m.frames,ap v2 m.blocks,ap v3 m.inn,ap v4 m.out] F
 rd_ h:=by
  obtain⟨v1,v2,v3,v4,h,hi,hh⟩:=h
  obtain⟨F1,F2,F3,F4,h1,h2,h3,h4⟩:=ya hh
  exact⟨v1,v2,v3,v4,h,hi,cL.sl h1,cL.sl h2,cL.sl h3,cL.sl h4⟩
 lt h hb:=by obtain⟨v1,v2,v3,v4,h,hi,hh⟩:=h;exact hh.lt hb
 frame h hf:=by obtain⟨v1,v2,v3,v4,h,hi,hh⟩:=h;exact⟨v1,v2,v3,v4,h,hi,hh.loc hf⟩
 cong h hf:=by obtain⟨v1,v2,v3,v4,h,hi,hh⟩:=h;exact⟨v1,v2,v3,v4,h,hi,hh.cong hf⟩
instance:iI aG:=⟨65⟩
instance:gO aG lE where
 parts h m:= [ap h.fv m.frames,ap h.bv m.blocks,ap h.iv m.inn,ap h.ov m.out]
 ok h m:=h.status=m.status∧h.trap=m.trap
 kk:=rfl
 tt:=rfl
 opn {w F cs m} h:=by
  obtain⟨v1,v2,v3,v4,hcs,hi,hh⟩:=h
  obtain⟨F1,F2,F3,F4,h1,h2,h3,h4⟩:=ya hh
  exact⟨⟨v1,v2,v3,v4,m.status,m.trap⟩,⟨hcs,hi,nU h1,nU h2,nU h3,nU h4⟩,⟨rfl,rfl⟩,hh⟩
 cls {w F h m} hwf hok hH:=by
  refine⟨h.fv,h.bv,h.iv,h.ov,?_,?_,hH⟩
  ·show [h.fv,h.bv,h.iv,h.ov,.int .i64 h.status,.int .i64 h.trap]=_
   rw[hok.1,hok.2]
  rw[←hok.1,←hok.2];exact hwf.1
section
variable {B:Nat} {w0:World} {H:List a7}
def bh (l:List aO) (k:Nat):aO:=l.getD k default
theorem bW.fr {A:Option Addr} {m c k:Nat} {xs:List aO} (h:bW w0 B (.slice A m c) xs) (hk:k<m):∃A1 c1 A2 c2,bW w0 B (.slice A1 (bh xs k).locals.length c1) (bh xs k).locals∧bW w0 B (.slice A2 (bh xs k).stack.length c2) (bh xs k).stack∧(be (bh xs k).func∧be (bh xs k).pc)∧
  ∀H w,Cw B w0 H w→∀j v,([.int .i64 (bh xs k).func,.int .i64 (bh xs k).pc,.slice A1 (bh xs k).locals.length c1,.slice A2 (bh xs k).stack.length c2]:List Value)[j]? =some v→w.cell? ⟨ab A,ao A+k*4+j,none⟩=some v:=by
 obtain⟨cs,⟨v1,v2,hcs,hi,h1,h2⟩,hc⟩:=h.elr hk default
 obtain⟨A1,c1,rfl,_⟩:=h1.form
 obtain⟨A2,c2,rfl,_⟩:=h2.form
 subst hcs
 exact⟨A1,c1,A2,c2,h1,h2,hi,fun H w hw j v hv=>hc j v hv H w hw⟩
structure MA where
 Af:Option Addr
 cf:Nat
 Ab:Option Addr
 cb:Nat
 Ai:Option Addr
 ci:Nat
 Ao:Option Addr
 co:Nat
structure dQ (B:Nat) (w:World) (a:MA) (m:aG):Prop where
 f:bW w B (.slice a.Af m.frames.length a.cf) m.frames
 b:bW w B (.slice a.Ab m.blocks.length a.cb) m.blocks
 i:bW w B (.slice a.Ai m.inn.length a.ci) m.inn
 o:bW w B (.slice a.Ao m.out.length a.co) m.out
 s:be m.status
 t:be m.trap
theorem dQ.ro {w:World} {a:MA} {m:aG} (hw:Cw B w0 H w) (h:dQ B w0 a m):dQ w.heap.size w a m:=⟨hw.ro h.f,hw.ro h.b,hw.ro h.i,hw.ro h.o,h.s,h.t⟩
def IE (l:List aG) (k:Nat):aG:=l.getD k default
theorem SF.val {A:Option Addr} {xs:List aX} {m c k:Nat} (hs:SF B w0 H A m c xs) (hk:k<m) (d:aX):∀w,Cw B w0 H w→∀j v,([.bool (xs.getD k d).ref,.int .i64 (xs.getD k d).n]:List Value)[j]? =some v→w.cell? ⟨ab A,ao A+k*2+j,none⟩=some v:=fun w hw _ _ hv=>SF.cell hs hk d hv w hw
end
end
section
structure mL where
 p:Int
 v1:Value
 r:Int
 v2:Value
instance:Inhabited mL:=⟨⟨0,.slice none 0 0,0,.slice none 0 0⟩⟩
def mL.wf (h:mL):Prop:=(be h.p∧be h.r)∧h.v1.oneCell'=true∧h.v2.oneCell'=true
instance:aL mL where
 k:=4
 rep _ _ cs h:=cs= [.int .i64 h.p,h.v1,.int .i64 h.r,h.v2]∧h.wf
 len h:=by rw[h.1];rfl
 keep h _:=h
 more h _:=h
 one h:=by rw[h.1];simpa [Value.oneCell',mL.wf] using h.2.2
instance:Ow mL where
 ty:=110
 own _ F cs h:=(cs= [.int .i64 h.p,h.v1,.int .i64 h.r,h.v2]∧h.wf)∧∀b,¬F b
 rd_ h:=h.1
 lt h hb:=(h.2 _ hb).elim
 frame h _:=h
 cong h hf:=⟨h.1,fun b hb=>h.2 b ((hf b).2 hb)⟩
instance:cS mL where
 enc h:= [.int .i64 h.p,h.v1,.int .i64 h.r,h.v2]
 wf h:=h.wf
 rep_iff:=Iff.rfl
 own_iff:=Iff.rfl
instance:iI mL:=⟨22⟩
def HB (B:Nat) (w0:World) (h:mL) (f:aA):Prop:=h.p=f.params∧h.r=f.result∧(be f.params∧be f.result)∧bW w0 B h.v1 f.locals∧bW w0 B h.v2 f.code
theorem HB.rep {B:Nat} {w0 w:World} {h:mL} {f:aA} (hh:HB B w0 h f) (hc:i7 B w0 w) (hb:B≤w.heap.size):aL.rep w w.heap.size [.int .i64 h.p,h.v1,.int .i64 h.r,h.v2] f:=by
 obtain⟨h1,h2,h3,h4,h5⟩:=hh
 exact⟨h.v1,h.v2,by rw[h1,h2],h3,(h4.keep hc).more hb,(h5.keep hc).more hb⟩
end
section
set_option maxRecDepth 100000 in
theorem iu (n a b:Int) (w:World):Calls Tryz.prog 158 #[.int .i64 n,.int .i64 a,.int .i64 b] w fun e w'=>e= .returned (.bool (bK n a b))∧Below w.heap.size w w':=by
 refine enter Tryz.func158 rfl Tryz.ntmps158 rfl ?_
 refine ac<|aa<|rn 1 [0,1,2] rfl<|ae<|ac<|aa<|rn 4 [0,2,10] rfl<|bM (t:=10) rfl (fun h1=>?_) (fun h1=>?_)
 ·refine rn 5 [6] rfl<|ae<|aq<|av Tryz.results158 (an rfl) ?_
  intro w hw
  exact⟨bE (by unfold bK;rw[h1];rfl),hw.below⟩
 refine rn 5 [6] rfl<|ae<|aq<|av Tryz.results158 (an rfl) ?_
 intro w hw
 exact⟨bE (by unfold bK;rw[h1];rfl),hw.below⟩
set_option maxRecDepth 100000 in
theorem C5 (t:Int) (w:World):Calls Tryz.prog 160 #[.int .i64 t] w fun e w'=>e= .returned (.bool (gG t))∧Below w.heap.size w w':=by
 refine enter Tryz.func160 rfl Tryz.ntmps160 rfl ?_
 refine ac<|aa<|rn 1 [0] rfl<|ae<|ac<|aa<|rn 1 [3] rfl<|ag (aY rfl rfl rfl mj (fun w hw=>iu t 1 2 w)) rfl rfl (fun _ _=>?_)
 refine rn 2 [2] rfl<|ae<|aq<|av Tryz.results160 (an rfl) ?_
 intro w hw
 exact⟨rfl,hw.below⟩
set_option maxRecDepth 100000 in
theorem Bl (A:Option Addr) (c:Nat) (l:List Int) (f:FuncId) (cap:Array Value) (p:Int→Bool) (w:World) (hs:Sl w (.slice A l.length c) l) (hcall:∀a w,(callFunc f a).run Tryz.prog w= .ok (.enter f a) w)
  (hf:∀w1,Below w.heap.size w w1→∀x,x∈l→Calls Tryz.prog f ([Value.int .i64 x]++cap.toList).toArray w1 fun e w'=>e= .returned (.bool (p x))∧Below w1.heap.size w1 w') :
  Calls Tryz.prog 203 #[.slice A l.length c,.func (.func f) #[] cap] w fun e w'=> ∃r:Int,decide (0≤r)=l.any p∧e= .returned (.int .i64 r)∧Cw w.heap.size w [] w':=by
 have b1:=cn hs
 refine enter Tryz.func203 rfl Tryz.ntmps203 rfl ?_
 refine ac<|aa<|rn 1 [0,1] rfl<|ae<|ac<|ac<|aa<|rn 1 [0,1,6] rfl<|af (aM ah rfl rfl) rfl rfl<|rn 1 [0,1,7,8] rfl<|ae<|aB (bI (fun k:Nat=>k≤l.length∧(l.take k).any p=false) (fun k=>l.length - k) (fun k=> [(0,.slice A l.length c),(1,.func (.func f) #[] cap),(7,.int .i64 (l.length:Int)),(8,.int .i64 (k:Int))]) (fun _=> []) 0 (⟨Nat.zero_le _,rfl⟩) ⟨rfl,rfl,rfl,rfl,trivial⟩ me ?_)
 rintro k hk'
 obtain⟨hk,hno⟩:k≤l.length∧(l.take k).any p=false:=hk'
 refine ac<|aa<|rn 1 [0,1,7,8,9] rfl<|ae<|ac<|aw rfl (fun hlt=>?_) (fun hlt=>?_)
 ·have hkl:k<l.length:=by omega
  have hm:l.getD k 0∈l:=by rw[List.getD_eq_getElem?_getD,List.getElem?_eq_getElem hkl];exact List.getElem_mem hkl
  have hsn:=j7 (p:=p) 0 hkl
  refine ar (am ?_)
  refine ac<|aB<|ac<|aa<|rn 2 [0,1,5,7,8] rfl<|ae<|ac<|aa<|rn 3 [0,1,5,7,8,11,12,13] rfl<|af (aQ ah aF (.ro hs) (by omega) rfl rfl rfl) rfl rfl<|af (a8 (SF.int (.ro hs) (by omega)) rfl rfl au) rfl rfl<|ag (rT rfl rfl rfl hcall (fun w hw=>hf w hw.below (l.getD k 0) hm)) rfl rfl (fun _ _=>?_)
  refine ae<|cg rfl (fun hp=>?_) (fun hp=>?_)
  ·have hp:p (l.getD k 0)=true:=hp
   refine ac<|aa<|rn 2 [4] rfl<|ae<|aq (aC (ai (ai (aC (ai ?_)))))
   refine av wN (an rfl) ?_
   intro w hw
   refine⟨(k:Int),?_,rfl,hw⟩
   have h2:l.any p=true:=List.any_eq_true.2 ⟨_,hm,hp⟩
   rw[h2]
   exact decide_eq_true (by omega)
  have hp:p (l.getD k 0)=false:=hp
  refine ar (aH (am ?_))
  refine aa<|af (br rfl rfl rfl (by omega)) rfl rfl<|rn 1 [0,1,7,8] rfl<|a5 (k+1) ((by refine⟨by omega,?_⟩;rw[hsn,hno];exact hp)) (by show _ - _<_ - _;omega) ⟨rfl,rfl,rfl,rfl,trivial⟩ me
 obtain rfl:k=l.length:=by omega
 refine bz (aD (aD (bO (am ?_))))
 refine ac<|aa<|rn 1 [4] rfl<|ae<|aq<|av wN (an rfl) ?_
 intro w hw
 refine⟨-1,?_,rfl,hw⟩
 rw[List.take_length] at hno
 rw[hno]
 rfl
set_option maxRecDepth 100000 in
theorem pM (A:Option Addr) (c:Nat) (l:List Int) (f:FuncId) (cap:Array Value) (p:Int→Bool) (w:World) (hs:Sl w (.slice A l.length c) l) (hcall:∀a w,(callFunc f a).run Tryz.prog w= .ok (.enter f a) w)
  (hf:∀w1,Below w.heap.size w w1→∀x,x∈l→Calls Tryz.prog f ([Value.int .i64 x]++cap.toList).toArray w1 fun e w'=>e= .returned (.bool (p x))∧Below w1.heap.size w1 w') :
  Calls Tryz.prog 159 #[.slice A l.length c,.func (.func f) #[] cap] w fun e w'=>e= .returned (.bool (l.any p))∧Below w.heap.size w w':=by
 refine enter Tryz.func159 rfl Tryz.ntmps159 rfl ?_
 refine ac<|aa<|rn 1 [0,1] rfl<|ae<|ac<|aa<|rn 2 [5,6] rfl<|ag (cO rfl rfl rfl Tryz.call203 (fun w hw=>Bl A c l f cap p w (hw.ro hs) hcall (fun w1 h1=>hf w1 (hw.below.trans (h1.mono hw.le))))) rfl rfl (fun r hr=>?_)
 refine rn 2 [4] rfl<|ae<|aq<|av Tryz.results159 (an rfl) ?_
 intro w hw
 exact⟨bE hr,hw.below⟩
set_option maxRecDepth 100000 in
theorem Dj (Ap A1 A2:Option Addr) (cp c1 c2 n nl nc:Nat) (pa re:Int) (o:cc) (w:World) (hn:n≤140737488355328) (hnl:nl≤140737488355328) (hnc:nc≤140737488355328) :
  Calls Tryz.prog 164 #[.agg #[.slice Ap n cp],.agg #[.int .i64 pa,.slice A1 nl c1,.int .i64 re,.slice A2 nc c2],.agg #[.int .i64 o.c,.int .i64 o.a]] w fun e w'=>e= .returned (.bool (et n nl nc o))∧Below w.heap.size w w':=by
 refine enter Tryz.func164 rfl Tryz.ntmps164 rfl ?_
 refine ac<|aa<|ag (bH rfl rfl rfl) rfl rfl (fun g1 _=>?_)
 refine ag (bH rfl rfl rfl) rfl rfl (fun g2 _=>?_)
 refine ag (bH rfl rfl rfl) rfl rfl (fun g3 _=>?_)
 refine rn 1 [3,4,5] rfl<|ae<|ac<|ac<|aa<|rn 1 [3,4,5,7] rfl<|af (aj fc au rfl rfl (by rfl)) rfl rfl ?_
 refine ae<|aB<|ac<|ac<|aa<|rn 2 [3,4,5,8,9] rfl<|ae<|aw rfl (fun h1=>?_) (fun h1=>?_)
 ·refine ar (am ?_)
  refine cN (t:=9) (v':= .bool true) rfl (by rw[decide_eq_true h1]) ?_
  refine bA rfl<|ac<|aa<|rn 1 [4,12] rfl<|af (aj fc au rfl rfl (by rfl)) rfl rfl ?_
  refine rn 1 [13,14] rfl<|af (aj fc aW rfl rfl (by rfl)) rfl rfl ?_
  refine af (aM ah rfl rfl) rfl rfl<|af (cH rfl rfl rfl (by omega)) rfl rfl<|ag (aY rfl rfl rfl mj (fun w hw=>iu _ _ _ w)) rfl rfl (fun _ _=>?_)
  refine rn 1 [6] rfl<|ae<|aq (aC (ai ?_))
  refine av mQ (an rfl) ?_
  intro w hw
  exact⟨bE (by unfold et;rw[if_pos (.inl h1)]),hw.below⟩
 refine aa<|rn 2 [3,4,5,8,9] rfl<|ae<|aw rfl (fun h2=>?_) (fun h2=>?_)
 ·refine ac<|aa<|rn 1 [4,12] rfl<|af (aj fc au rfl rfl (by rfl)) rfl rfl ?_
  refine rn 1 [13,14] rfl<|af (aj fc aW rfl rfl (by rfl)) rfl rfl ?_
  refine af (aM ah rfl rfl) rfl rfl<|af (cH rfl rfl rfl (by omega)) rfl rfl<|ag (aY rfl rfl rfl mj (fun w hw=>iu _ _ _ w)) rfl rfl (fun _ _=>?_)
  refine rn 1 [6] rfl<|ae<|aq (aC (ai ?_))
  refine av mQ (an rfl) ?_
  intro w hw
  exact⟨bE (by unfold et;rw[if_pos (.inr h2)]),hw.below⟩
 have h12:¬(o.c=8∨o.c=9):=by omega
 refine ac<|ac<|aa<|rn 2 [3,4,5,8,19] rfl<|ae<|aw rfl (fun h3=>?_) (fun h3=>?_)
 ·refine ar (am ?_)
  refine cN (t:=19) (v':= .bool true) rfl (by rw[decide_eq_true h3]) ?_
  refine bA rfl<|ac<|aa<|rn 1 [4,22] rfl<|af (aj fc au rfl rfl (by rfl)) rfl rfl ?_
  refine rn 1 [23,24] rfl<|af (aj fc dB rfl rfl (by rfl)) rfl rfl ?_
  refine af (aM bw rfl rfl) rfl rfl<|af (cH rfl rfl rfl (by omega)) rfl rfl<|ag (aY rfl rfl rfl mj (fun w hw=>iu _ _ _ w)) rfl rfl (fun _ _=>?_)
  refine rn 1 [6] rfl<|ae<|aq (aC (ai ?_))
  refine av mQ (an rfl) ?_
  intro w hw
  exact⟨bE (by unfold et;rw[if_neg h12,if_pos (.inl h3)]),hw.below⟩
 refine aa<|rn 2 [3,4,5,8,19] rfl<|ae<|aw rfl (fun h4=>?_) (fun h4=>?_)
 ·refine ac<|aa<|rn 1 [4,22] rfl<|af (aj fc au rfl rfl (by rfl)) rfl rfl ?_
  refine rn 1 [23,24] rfl<|af (aj fc dB rfl rfl (by rfl)) rfl rfl ?_
  refine af (aM bw rfl rfl) rfl rfl<|af (cH rfl rfl rfl (by omega)) rfl rfl<|ag (aY rfl rfl rfl mj (fun w hw=>iu _ _ _ w)) rfl rfl (fun _ _=>?_)
  refine rn 1 [6] rfl<|ae<|aq (aC (ai ?_))
  refine av mQ (an rfl) ?_
  intro w hw
  exact⟨bE (by unfold et;rw[if_neg h12,if_pos (.inr h4)]),hw.below⟩
 have h34:¬(o.c=10∨o.c=11):=by omega
 refine ac<|aa<|rn 2 [3,5,29] rfl<|ae<|aw rfl (fun h5=>?_) (fun h5=>?_)
 ·refine ac<|aa<|rn 1 [3,31] rfl<|af (aj fc au rfl rfl (by rfl)) rfl rfl ?_
  refine rn 1 [32,33] rfl<|af (aj fc cV rfl rfl (by rfl)) rfl rfl ?_
  refine af (aM bJ rfl rfl) rfl rfl<|af (cH rfl rfl rfl (by omega)) rfl rfl<|ag (aY rfl rfl rfl mj (fun w hw=>iu _ _ _ w)) rfl rfl (fun _ _=>?_)
  refine rn 1 [6] rfl<|ae<|aq (aC (ai ?_))
  refine av mQ (an rfl) ?_
  intro w hw
  exact⟨bE (by unfold et;rw[if_neg h12,if_neg h34,if_pos h5]),hw.below⟩
 refine ar (aH (am ?_))
 refine ac<|aa<|rn 1 [6] rfl<|ae<|aq<|av mQ (an rfl) ?_
 intro w hw
 exact⟨bE (by unfold et;rw[if_neg h12,if_neg h34,if_neg h5]),hw.below⟩
end
section
theorem yj {B:Nat} {w0:World} {H H':List a7} {g:Nat} {cs:List Value} {T:TypeId} (hp:cZ H (ak g cs T) H'):∀w,Cw B w0 H w→∀j v,cs[j]? =some v→w.cell? ⟨g,0+j,none⟩=some v:=fun w hw j v hv=>by
 rw[Nat.zero_add]
 exact eV hp (by rw[fz];exact hv) w hw
set_option maxRecDepth 100000 in
theorem CR (o:cc) (gp gf:Nat) (Ap A1 A2:Option Addr) (cp c1 c2 n nl nc:Nat) (pa re:Int) (w:World) (hn:n≤140737488355328) (hnl:nl≤140737488355328) (hnc:nc≤140737488355328) (hgp:gp<w.heap.size) (hgf:gf<w.heap.size)
  (hcp:∀j v,([.slice Ap n cp]:List Value)[j]? =some v→w.cell? ⟨gp,0+j,none⟩=some v) (hcf:∀j v,([.int .i64 pa,.slice A1 nl c1,.int .i64 re,.slice A2 nc c2]:List Value)[j]? =some v→w.cell? ⟨gf,0+j,none⟩=some v) :
  Calls Tryz.prog 163 #[.agg #[.int .i64 o.c,.int .i64 o.a],.pointer (some ⟨gp,0,none⟩),.pointer (some ⟨gf,0,none⟩)] w fun e w'=>e= .returned (.bool (!et n nl nc o))∧Below w.heap.size w w':=by
 refine enter Tryz.func163 rfl Tryz.ntmps163 rfl ?_
 refine ac<|aa<|ag (bH rfl rfl rfl) rfl rfl (fun g1 _=>?_)
 refine rn 1 [1,2,3] rfl<|ae<|ac<|aa<|af (cY (fun w hw j v hv=>(hw.below.cell hgp).trans (hcp j v hv)) rfl rfl bQ bB) rfl rfl ?_
 refine af (cY (fun w hw j v hv=>(hw.below.cell hgf).trans (hcf j v hv)) rfl rfl eK bD) rfl rfl ?_
 refine af (aN (vs:= [_,_]) fc iJ cG rfl rfl (by rfl) rfl) rfl rfl ?_
 refine ag (aY rfl rfl rfl Tryz.call164 (fun w hw=>Dj Ap A1 A2 cp c1 c2 n nl nc pa re o w hn hnl hnc)) rfl rfl (fun _ _=>?_)
 refine rn 2 [4] rfl<|ae<|aq<|av Tryz.results163 (an rfl) ?_
 intro w hw
 exact⟨rfl,hw.below⟩
set_option maxRecDepth 100000 in
set_option maxHeartbeats 1000000 in
theorem CP (Ap A1 A2:Option Addr) (cp c1 c2 n:Nat) (f:aA) (w:World) (hn:n≤140737488355328) (hl:Sl w (.slice A1 f.locals.length c1) f.locals) (hc:Sl w (.slice A2 f.code.length c2) f.code) :
  Calls Tryz.prog 130 #[.agg #[.slice Ap n cp],.agg #[.int .i64 f.params,.slice A1 f.locals.length c1,.int .i64 f.result,.slice A2 f.code.length c2]] w fun e w'=>e= .returned (.int .i64 (ef n f))∧Below w.heap.size w w':=by
 have b1:=cn hl
 have b2:=cn hc
 refine enter Tryz.func130 rfl Tryz.ntmps130 rfl ?_
 refine ac<|aa<|ag (bH rfl rfl rfl) rfl rfl (fun g1 _=>?_)
 refine ag (bH rfl rfl rfl) rfl rfl (fun g2 _=>?_)
 refine rn 1 [2,3] rfl<|ae<|ac<|aB<|ac<|aa<|rn 1 [2,3,7] rfl<|af (aj fc aW rfl rfl (by rfl)) rfl rfl ?_
 refine af (aM ah rfl rfl) rfl rfl<|rn 2 [2,3,6] rfl<|ae<|aw rfl (fun h1=>?_) (fun h1=>?_)
 ·refine ac<|aa<|rn 1 [4] rfl<|ae<|aq (aC (ai ?_))
  refine av jE (an rfl) ?_
  intro w hw
  exact⟨eH (by unfold ef;rw[if_pos (by omega)]),hw.below⟩
 have h1:¬6<f.locals.length:=by omega
 refine ac<|aa<|rn 1 [2,3,12] rfl<|af (aj fc au rfl rfl (by rfl)) rfl rfl ?_
 refine rn 1 [2,3,13,14] rfl<|af (aj fc aW rfl rfl (by rfl)) rfl rfl ?_
 refine af (aM ah rfl rfl) rfl rfl<|ag (aY rfl rfl rfl mj (fun w hw=>iu f.params 0 f.locals.length w)) rfl rfl (fun _ _=>?_)
 refine rn 2 [2,3,11] rfl<|ae<|cg rfl (fun h2=>?_) (fun h2=>?_)
 ·have h2:bK f.params 0 f.locals.length=false:=by simpa using h2
  refine ac<|aa<|rn 1 [4] rfl<|ae<|aq (aC (ai ?_))
  refine av jE (an rfl) ?_
  intro w hw
  exact⟨eH (by unfold ef;rw[if_neg h1,if_pos h2]),hw.below⟩
 have h2:¬bK f.params 0 f.locals.length=false:=by simpa using h2
 refine ac<|ac<|aa<|rn 1 [2,3,20] rfl<|af (aj fc au rfl rfl (by rfl)) rfl rfl ?_
 refine ag (aY rfl rfl rfl mj (fun w hw=>iu f.result 0 2 w)) rfl rfl (fun _ _=>?_)
 refine rn 2 [2,3,19] rfl<|ae<|cg rfl (fun h3=>?_) (fun h3=>?_)
 ·have h3':bK f.result 0 2=false:=by simpa using h3
  refine ar (am ?_)
  refine cN (t:=19) (v':= .bool true) rfl (by rw[h3]) ?_
  refine bA rfl<|ac<|aa<|rn 1 [4] rfl<|ae<|aq (aC (ai ?_))
  refine av jE (an rfl) ?_
  intro w hw
  exact⟨eH (by unfold ef;rw[if_neg h1,if_neg h2,if_pos (.inl h3')]),hw.below⟩
 have h3:¬bK f.result 0 2=false:=by simpa using h3
 refine aa<|rn 1 [2,3,24] rfl<|af (aj fc aW rfl rfl (by rfl)) rfl rfl ?_
 refine ag (aY rfl rfl rfl Iw (fun w hw=>pM A1 c1 f.locals _ _ gG w (hw.ro hl) Tryz.call160 (fun w1 _ x _=>C5 x w1))) rfl rfl (fun _ _=>?_)
 refine rn 1 [2,3,19] rfl<|ae<|cg rfl (fun h4=>?_) (fun h4=>?_)
 ·have h4:f.locals.any gG=true:=h4
  refine ac<|aa<|rn 1 [4] rfl<|ae<|aq (aC (ai ?_))
  refine av jE (an rfl) ?_
  intro w hw
  exact⟨eH (by unfold ef;rw[if_neg h1,if_neg h2,if_pos (.inr h4)]),hw.below⟩
 have h4:¬(bK f.result 0 2=false∨f.locals.any gG=true):=by
  rintro(h | h)
  ·exact h3 h
  rw[show f.locals.any gG=false from h4] at h;cases h
 refine ac<|aa<|rn 1 [2,3,28] rfl<|af (aj fc dB rfl rfl (by rfl)) rfl rfl ?_
 refine af (aM bw rfl rfl) rfl rfl<|rn 2 [2,3,27] rfl<|ae<|aw rfl (fun h5=>?_) (fun h5=>?_)
 ·refine ac<|aa<|rn 1 [4] rfl<|ae<|aq (aC (ai ?_))
  refine av jE (an rfl) ?_
  intro w hw
  exact⟨eH (by unfold ef;rw[if_neg h1,if_neg h2,if_neg h4,if_pos (by omega)]),hw.below⟩
 have h5:¬f.code.length=0:=by omega
 refine ar (aH (am ?_))
 refine ac<|ac<|aa<|rn 1 [2,3,32] rfl<|af (aj fc dB rfl rfl (by rfl)) rfl rfl ?_
 refine ag (aY rfl rfl rfl Tryz.call161 (fun w hw=>DE _ f.code w (hw.ro hc))) rfl rfl (fun _ _=>?_)
 refine rn 1 [2,3,5] rfl<|ae<|ac<|aa<|rn 2 [2,3,5,36] rfl<|ae<|bY rfl (fun h6=>?_) (fun h6=>?_)
 ·refine ac<|aa<|rn 2 [4] rfl<|ae<|aq (ai ?_)
  refine av jE (an rfl) ?_
  intro w hw
  exact⟨eH (by unfold ef;rw[if_neg h1,if_neg h2,if_neg h4,if_neg h5,if_pos h6]),hw.below⟩
 have h6:¬d8 f.code≠0:=fun h=>h h6
 refine ar (am ?_)
 refine ac<|ac<|aa<|rn 1 [2,3,38] rfl<|af (aj fc dB rfl rfl (by rfl)) rfl rfl ?_
 refine rn 1 [39,40] rfl<|ag (aY rfl rfl rfl Tryz.call162 (fun w hw=>xu A2 c2 f.code _ _ (fun o=>!et n f.locals.length f.code.length o) w (hw.ro hc) Tryz.call163 (fun w1 h1 k hk=>CR (bG f.code k) g1 g2 Ap A1 A2 cp c1 c2 n f.locals.length f.code.length f.params f.result w1 hn b1 b2 (Nat.lt_of_lt_of_le (jx hw fc) h1.size) (Nat.lt_of_lt_of_le (jx hw fc) h1.size) (fun j v hv=>(h1.cell (jx hw fc)).trans (yj fc w hw j v hv)) (fun j v hv=>(h1.cell (jx hw fc)).trans (yj fc w hw j v hv))))) rfl rfl (fun _ _=>?_)
 refine ae<|cg rfl (fun h7=>?_) (fun h7=>?_)
 ·refine ac<|aa<|rn 1 [4] rfl<|ae<|aq (ai ?_)
  refine av jE (an rfl) ?_
  intro w hw
  exact⟨eH (by unfold ef;rw[if_neg h1,if_neg h2,if_neg h4,if_neg h5,if_neg h6,if_pos h7]),hw.below⟩
 refine ar (am ?_)
 refine ac<|aa<|rn 1 [4] rfl<|ae<|aq<|av jE (an rfl) ?_
 intro w hw
 exact⟨eH (by unfold ef;rw[if_neg h1,if_neg h2,if_neg h4,if_neg h5,if_neg h6,if_neg (by rw[h7];decide)]),hw.below⟩
set_option maxRecDepth 100000 in
set_option maxHeartbeats 1000000 in
theorem yS (A:Option Addr) (c:Nat) (fs:List aA) (w:World) (hs:Sl w (.slice A fs.length c) fs) :
  Calls Tryz.prog 102 #[.agg #[.slice A fs.length c]] w fun e w'=>e= .returned (.int .i64 (dm fs))∧Below w.heap.size w w':=by
 have b1:=cn hs
 refine enter Tryz.func102 rfl Tryz.ntmps102 rfl ?_
 refine ac<|aa<|ag (bH rfl rfl rfl) rfl rfl (fun g1 _=>?_)
 refine rn 1 [1] rfl<|ae<|ac<|aB<|ac<|aa<|rn 1 [1,8] rfl<|af (aj fc cV rfl rfl (by rfl)) rfl rfl ?_
 refine af (aM bJ rfl rfl) rfl rfl<|rn 2 [1,7] rfl<|ae<|aw rfl (fun h1=>?_) (fun h1=>?_)
 ·refine ac<|aa<|rn 1 [2] rfl<|ae<|aq (aC (ai ?_))
  refine av mS (an rfl) ?_
  intro w hw
  exact⟨eH (by unfold dm;rw[if_pos (by omega)]),hw.below⟩
 have h1:¬fs.length=0:=by omega
 refine ac<|aa<|rn 1 [1,13] rfl<|af (aj fc cV rfl rfl (by rfl)) rfl rfl ?_
 refine af (aM bJ rfl rfl) rfl rfl<|rn 2 [1,12] rfl<|ae<|aw rfl (fun h2=>?_) (fun h2=>?_)
 ·refine ac<|aa<|rn 1 [2] rfl<|ae<|aq (aC (ai ?_))
  refine av mS (an rfl) ?_
  intro w hw
  exact⟨eH (by unfold dm;rw[if_neg h1,if_pos (by omega)]),hw.below⟩
 have h2:¬5<fs.length:=by omega
 refine ar (aH (am ?_))
 refine ac<|ac<|aa<|rn 1 [1,17] rfl<|af (aj fc cV rfl rfl (by rfl)) rfl rfl ?_
 refine af (aM bJ rfl rfl) rfl rfl<|rn 1 [1,18,19,20] rfl<|ae<|aB (bI (fun k:Nat=>k≤fs.length∧dX (ef fs.length) (fs.take k)=0) (fun k=>fs.length - k) (fun k=> [(1,.pointer (some ⟨g1,0,none⟩)),(18,.slice A fs.length c),(19,.int .i64 (fs.length:Int)),(20,.int .i64 (k:Int))]) (fun _=> [ak g1 [.slice A fs.length c] 24]) 0 (⟨Nat.zero_le _,rfl⟩) ⟨rfl,rfl,rfl,rfl,trivial⟩ me ?_)
 rintro k hk'
 obtain⟨hk,hno⟩:k≤fs.length∧dX (ef fs.length) (fs.take k)=0:=hk'
 refine ac<|aa<|rn 1 [1,18,19,20,21] rfl<|ae<|ac<|aw rfl (fun hlt=>?_) (fun hlt=>?_)
 ·have hkl:k<fs.length:=by omega
  have hsn:=iF (g:=ef fs.length) default hkl hno
  obtain⟨A1,c1,A2,c2,hl,hc,hi,hcell⟩:=hs.fn hkl
  refine ar (am ?_)
  refine ac<|aB<|ac<|aa<|af (aQ bJ bD (.ro hs) (by omega) rfl rfl rfl) rfl rfl<|af (cY (hcell _) rfl rfl eK bD) rfl rfl<|ag (aS dT rfl rfl) rfl rfl (fun g2 _=>?_)
  refine ag (aJ _ fc bD rfl rfl rfl rfl rfl (by rfl) rfl (by rfl)) rfl rfl (fun _ _=>?_)
  refine ae<|ac<|aa<|af (aN (vs:= [_]) fc bQ bB rfl rfl (by rfl) rfl) rfl rfl ?_
  refine af (aN (vs:= [_,_,_,_]) fc eK bD rfl rfl (by rfl) rfl) rfl rfl ?_
  refine ag (aY rfl rfl rfl Tryz.call130 (fun w hw=>CP A A1 A2 c c1 c2 fs.length (az fs k) w b1 (hw.ro hl) (hw.ro hc))) rfl rfl (fun _ _=>?_)
  refine rn 1 [1,5,18,19,20] rfl<|ae<|ac<|aa<|rn 2 [1,5,18,19,20,28] rfl<|ae<|bY rfl (fun he=>?_) (fun he=>?_)
  ·refine ac<|aa<|rn 2 [2] rfl<|ae<|aq (aC (ai (ai (aC (ai ?_)))))
   refine av mS (an rfl) ?_
   intro w hw
   have e2:dX (ef fs.length) fs=ef fs.length (az fs k):=by
    rw[lI (k:=k+1) (by rw[hsn];exact he),hsn];rfl
   exact⟨eH (by unfold dm;rw[if_neg h1,if_neg h2,e2,if_pos he]),hw.below⟩
  refine ar (aH (am ?_))
  refine aa<|af (br rfl rfl rfl (by omega)) rfl rfl<|rn 1 [1,18,19,20] rfl<|a5 (k+1) (⟨by show k+1≤_;omega,hsn.trans he⟩) (by show _ - _<_ - _;omega) ⟨rfl,rfl,rfl,rfl,trivial⟩ me
 obtain rfl:k=fs.length:=by omega
 rw[List.take_length] at hno
 obtain⟨A1,c1,A2,c2,hl,hc,hi,hcell⟩:=hs.fn (k:=0) (by omega)
 have hno:¬dX (ef fs.length) fs≠0:=fun h=>h hno
 refine bz (aD (aD (bO (am ?_))))
 refine ac<|ac<|aa<|rn 1 [31] rfl<|af (aj fc cV rfl rfl (by rfl)) rfl rfl ?_
 refine af (aQ (k:=0) bJ bD (.ro hs) (by omega) rfl rfl rfl) rfl rfl<|af (cY (hcell _) rfl rfl eK bD) rfl rfl<|ag (aS dT rfl rfl) rfl rfl (fun g3 _=>?_)
 refine ag (aJ _ fc bD rfl rfl rfl rfl rfl (by rfl) rfl (by rfl)) rfl rfl (fun _ _=>?_)
 refine ae<|ac<|aa<|rn 1 [6,35] rfl<|af (aj fc au rfl rfl (by rfl)) rfl rfl ?_
 refine rn 2 [6,38] rfl<|bM (t:=38) rfl (fun h3=>?_) (fun h3=>?_)
 ·have h3:=of_decide_eq_true h3
  refine rn 4 [42] rfl<|ae<|bA rfl<|ac<|aa<|rn 1 [2] rfl<|ae<|aq (ai ?_)
  refine av mS (an rfl) ?_
  intro w hw
  exact⟨eH (by unfold dm;rw[if_neg h1,if_neg h2,if_neg hno,if_pos (.inl h3)]),hw.below⟩
 have h3:=of_decide_eq_false h3
 refine rn 1 [38,39] rfl<|af (aj fc au rfl rfl (by rfl)) rfl rfl ?_
 refine rn 2 [42] rfl<|ae<|bY rfl (fun h4=>?_) (fun h4=>?_)
 ·refine ac<|aa<|rn 1 [2] rfl<|ae<|aq (ai ?_)
  refine av mS (an rfl) ?_
  intro w hw
  exact⟨eH (by unfold dm;rw[if_neg h1,if_neg h2,if_neg hno,if_pos (.inr h4)]),hw.below⟩
 refine ar (am ?_)
 refine ac<|aa<|rn 1 [2] rfl<|ae<|aq<|av mS (an rfl) ?_
 intro w hw
 exact⟨eH (by unfold dm;rw[if_neg h1,if_neg h2,if_neg hno,if_neg (fun h=>h.elim h3 (fun e=>e h4))]),hw.below⟩
end
section
theorem eW (n a b:Int) (w:World):Calls Tryz.prog 68 #[.int .i64 n,.int .i64 a,.int .i64 b] w fun e w'=>e= .returned (.bool (bK n a b))∧w=w':=mC n a b w
theorem wA {p:Int→Bool} {l:List Int} {k:Nat} (hk:k<l.length):(l.take (k+1)).any p=((l.take k).any p || p (l.getD k 0)):=j7 0 hk
theorem sq {n nl nc:Nat} {o:cc} (h:o.c=8∨o.c=9):et n nl nc o=bK o.a 0 ((nl:Int) - 1):=by unfold et;rw[if_pos h]
theorem sp {n nl nc:Nat} {o:cc} (h:o.c=10∨o.c=11):et n nl nc o=bK o.a 0 ((nc:Int) - 1):=by unfold et;rw[if_neg (by omega),if_pos h]
theorem By {n nl nc:Nat} {o:cc} (h:o.c=12):et n nl nc o=bK o.a 0 ((n:Int) - 1):=by unfold et;rw[if_neg (by omega),if_neg (by omega),if_pos h]
theorem Gi {n nl nc:Nat} {o:cc} (h1:¬o.c=8) (h2:¬o.c=9) (h3:¬o.c=10) (h4:¬o.c=11) (h5:¬o.c=12):et n nl nc o=true:=by unfold et;rw[if_neg (by omega),if_neg (by omega),if_neg h5]
theorem mg {α:Type} {g:α→Int} {l:List α} (h:dX g l=0):∀x∈l,g x=0:=by
 induction l with
 | nil=>simp
 | cons a l ih=>
  simp only[dX] at h
  have ha:g a=0:=by
   by_cases e:g a=0
   ·exact e
   rw[if_pos e] at h;exact absurd h e
  rw[if_neg (fun e=>e ha)] at h
  intro x hx
  rcases List.mem_cons.1 hx with rfl | hx
  ·exact ha
  exact ih h x hx
theorem w8 {n:Nat} {f:aA} (h:ef n f=0):0≤f.result∧f.result≤2:=by
 unfold ef at h
 split at h
 ·cases h
 split at h
 ·cases h
 split at h
 ·cases h
 rename_i h1
 have:bK f.result 0 2=true:=by
  cases e:bK f.result 0 2
  ·exact absurd (.inl e) h1
  rfl
 unfold bK at this
 simp only[Bool.and_eq_true,decide_eq_true_eq] at this
 exact this
set_option maxRecDepth 100000 in
set_option maxHeartbeats 4000000 in
theorem w7 (A:Option Addr) (c:Nat) (fs:List aA) (w:World) (hs:Sl w (.slice A fs.length c) fs) :
  Calls Tryz.prog 58 #[.agg #[.slice A fs.length c]] w fun e w'=>e= .returned (.int .i64 (dm fs))∧Below w.heap.size w w':=by
 have b1:=cn hs
 refine enter Tryz.func58 rfl Tryz.ntmps58 rfl ?_
 refine ac<|aa<|ag (bH rfl rfl rfl) rfl rfl (fun g1 _=>?_)
 refine rn 1 [1] rfl<|ae<|ac<|ac<|aa<|rn 1 [1,10] rfl<|af (aj fc cV rfl rfl (by rfl)) rfl rfl ?_
 refine af (aM bJ rfl rfl) rfl rfl<|rn 1 [1,13] rfl<|ae<|aw rfl (fun h1=>?_) (fun h1=>?_)
 ·refine ac<|aa<|rn 1 [2] rfl<|ae<|aq (ai ?_)
  refine av eY (an rfl) ?_
  intro w hw
  exact⟨eH (by unfold dm;rw[if_pos (by omega)]),hw.below⟩
 have h1:¬fs.length=0:=by omega
 refine ar (am ?_)
 refine ac<|ac<|aa<|rn 1 [1,14] rfl<|af (aj fc cV rfl rfl (by rfl)) rfl rfl ?_
 refine af (aM bJ rfl rfl) rfl rfl<|rn 1 [1,17] rfl<|ae<|aw rfl (fun h2=>?_) (fun h2=>?_)
 ·refine ac<|aa<|rn 1 [2] rfl<|ae<|aq (ai ?_)
  refine av eY (an rfl) ?_
  intro w hw
  exact⟨eH (by unfold dm;rw[if_neg h1,if_pos (by omega)]),hw.below⟩
 have h2:¬5<fs.length:=by omega
 refine ar (am ?_)
 refine ac<|ac<|aa<|rn 1 [1,3] rfl<|ae<|aB (bI (fun k:Nat=>k≤fs.length∧dX (ef fs.length) (fs.take k)=0) (fun k=>fs.length - k) (fun k=> [(1,.pointer (some ⟨g1,0,none⟩)),(3,.int .i64 (k:Int))]) (fun _=> [ak g1 [.slice A fs.length c] 24]) 0 (⟨Nat.zero_le _,rfl⟩) ⟨rfl,rfl,trivial⟩ me ?_)
 rintro k hk'
 obtain⟨hk,hno⟩:k≤fs.length∧dX (ef fs.length) (fs.take k)=0:=hk'
 refine ac<|ac<|aa<|rn 2 [1,3,18,19] rfl<|af (aj fc cV rfl rfl (by rfl)) rfl rfl ?_
 refine af (aM bJ rfl rfl) rfl rfl<|rn 1 [1,3,22] rfl<|ae<|aw rfl (fun hlt=>?_) (fun hlt=>?_)
 ·have hkl:k<fs.length:=by omega
  have hsn:=iF (g:=ef fs.length) default hkl hno
  obtain⟨A1,c1,A2,c2,hl,hc,hi,hcell⟩:=hs.fn hkl
  have b3:=cn hl
  have b4:=cn hc
  have bad:∀e,ef fs.length (az fs k)=e→e≠0→dm fs=e:=fun e he h0=>by
   have e2:dX (ef fs.length) fs=ef fs.length (az fs k):=by
    rw[lI (k:=k+1) (by rw[hsn];show ef fs.length (az fs k)≠0;rw[he];exact h0),hsn];rfl
   unfold dm
   rw[if_neg h1,if_neg h2,e2,he,if_pos h0]
  refine ar (am ?_)
  refine ac<|aB<|ac<|aa<|rn 1 [1,3,25] rfl<|af (aj fc cV rfl rfl (by rfl)) rfl rfl ?_
  refine rn 1 [1,3,26,27] rfl<|af (aQ bJ bD (.ro hs) (by omega) rfl rfl rfl) rfl rfl<|af (cY (hcell _) rfl rfl eK bD) rfl rfl<|ag (aS dT rfl rfl) rfl rfl (fun g2 _=>?_)
  refine ag (aJ _ fc bD rfl rfl rfl rfl rfl (by rfl) rfl (by rfl)) rfl rfl (fun _ _=>?_)
  refine ae<|ac<|ac<|aa<|rn 1 [1,3,4,30] rfl<|af (aj fc aW rfl rfl (by rfl)) rfl rfl ?_
  refine af (aM ah rfl rfl) rfl rfl<|rn 1 [1,3,4,33] rfl<|ae<|aw rfl (fun k1=>?_) (fun k1=>?_)
  ·refine ac<|aa<|rn 1 [2] rfl<|ae<|aq (ai (aC (ai (ai (aC (ai ?_))))))
   refine av eY (an rfl) ?_
   intro w hw
   exact⟨eH (bad 2 (by unfold ef;rw[if_pos (by omega)]) (by decide)).symm,hw.below⟩
  have k1:¬6<(az fs k).locals.length:=by omega
  refine ar (am ?_)
  refine ac<|ac<|aa<|rn 1 [1,3,4,34] rfl<|af (aj fc au rfl rfl (by rfl)) rfl rfl ?_
  refine rn 1 [1,3,4,35,36] rfl<|af (aj fc aW rfl rfl (by rfl)) rfl rfl ?_
  refine af (aM ah rfl rfl) rfl rfl<|ag (aY rfl rfl rfl jm ((fun w hw=>fm ((fun w hw=>eW _ _ _ w) w hw)))) rfl rfl (fun _ _=>?_)
  refine rn 1 [1,3,4,40] rfl<|ae<|cg rfl (fun k2=>?_) (fun k2=>?_)
  ·have k2:bK (az fs k).params 0 (az fs k).locals.length=false:=by simpa using k2
   refine ac<|aa<|rn 1 [2] rfl<|ae<|aq (ai (aC (ai (ai (aC (ai ?_))))))
   refine av eY (an rfl) ?_
   intro w hw
   exact⟨eH (bad 3 (by unfold ef;rw[if_neg k1,if_pos k2]) (by decide)).symm,hw.below⟩
  have k2:¬bK (az fs k).params 0 (az fs k).locals.length=false:=by simpa using k2
  refine ar (am ?_)
  refine ac<|aa<|rn 1 [1,3,4,41] rfl<|af (aj fc au rfl rfl (by rfl)) rfl rfl ?_
  refine ag (aY rfl rfl rfl jm ((fun w hw=>fm ((fun w hw=>eW _ _ _ w) w hw)))) rfl rfl (fun _ _=>?_)
  refine rn 1 [1,3,4,5] rfl<|ae<|ac<|ac<|aa<|rn 1 [1,3,4,5,6] rfl<|ae<|aB (bI (fun g:Nat×Bool=>g.1≤(az fs k).locals.length∧g.2=(bK (az fs k).result 0 2 && !((az fs k).locals.take g.1).any gG)) (fun g=>(az fs k).locals.length - g.1) (fun g=> [(1,.pointer (some ⟨g1,0,none⟩)),(3,.int .i64 (k:Int)),(4,.pointer (some ⟨g2,0,none⟩)),(5,.bool g.2),(6,.int .i64 (g.1:Int))]) (fun _=> [ak g1 [.slice A fs.length c] 24,ak g2 [.int .i64 (az fs k).params,.slice A1 (az fs k).locals.length c1,.int .i64 (az fs k).result,.slice A2 (az fs k).code.length c2] 110]) (0,bK (az fs k).result 0 2) (⟨Nat.zero_le _,by simp⟩) ⟨rfl,rfl,rfl,rfl,rfl,trivial⟩ me ?_)
  rintro⟨i,b⟩ hi'
  try dsimp only
  obtain⟨hil,hb⟩:i≤(az fs k).locals.length∧b=(bK (az fs k).result 0 2 && !((az fs k).locals.take i).any gG):=hi'
  refine ac<|ac<|aa<|rn 2 [1,3,4,5,6,44,45] rfl<|af (aj fc aW rfl rfl (by rfl)) rfl rfl ?_
  refine af (aM ah rfl rfl) rfl rfl<|rn 1 [1,3,4,5,6,48] rfl<|ae<|aw rfl (fun hlt2=>?_) (fun hlt2=>?_)
  ·have hil2:i<(az fs k).locals.length:=by omega
   have hsn2:=wA (p:=gG) hil2
   refine ar (am ?_)
   refine ac<|aB<|aa<|rn 2 [1,3,4,6,52] rfl<|bM (t:=52) rfl (fun hbt=>?_) (fun hbt=>?_)
   ·have hbt:b=true:=hbt
    rw[hb] at hbt
    simp only[Bool.and_eq_true,Bool.not_eq_true'] at hbt
    refine rn 1 [1,3,4,6,52,53] rfl<|af (aj fc aW rfl rfl (by rfl)) rfl rfl ?_
    refine rn 1 [1,3,4,6,52,54,55] rfl<|af (aQ ah aF (.ro hl) (by omega) rfl rfl rfl) rfl rfl<|af (a8 (SF.int (.ro hl) (by omega)) rfl rfl au) rfl rfl<|ag (aY rfl rfl rfl jm ((fun w hw=>fm ((fun w hw=>eW _ _ _ w) w hw)))) rfl rfl (fun _ _=>?_)
    refine rn 2 [1,3,4,5,6] rfl<|bC (aH (am ?_))
    refine aa<|rn 1 [1,3,4,5,49] rfl<|af (br rfl rfl rfl (by omega)) rfl rfl<|rn 1 [1,3,4,5,6] rfl<|a5 (i+1,bK ((az fs k).locals.getD i 0) 1 2) (⟨by show i+1≤_;omega,by show _=(_ && !List.any _ _);rw[hsn2,hbt.1,hbt.2];simp[gG]⟩) (by show _ - _<_ - _;omega) ⟨rfl,rfl,rfl,rfl,rfl,trivial⟩ me
   have hbt:b=false:=hbt
   rw[hb] at hbt
   refine rn 8 [1,3,4,5,6] rfl<|bC (aH (am ?_))
   refine aa<|rn 1 [1,3,4,5,49] rfl<|af (br rfl rfl rfl (by omega)) rfl rfl<|rn 1 [1,3,4,5,6] rfl<|a5 (i+1,false) (⟨by show i+1≤_;omega,by show _=(_ && !List.any _ _);rw[hsn2,Bool.not_or,←Bool.and_assoc,hbt];rfl⟩) (by show _ - _<_ - _;omega) ⟨rfl,rfl,rfl,rfl,rfl,trivial⟩ me
  obtain rfl:i=(az fs k).locals.length:=by omega
  rw[List.take_length] at hb
  refine bz (aD (aD (bO (am ?_))))
  refine ac<|ac<|aa<|rn 2 [1,3,4,61] rfl<|ae<|cg rfl (fun k3=>?_) (fun k3=>?_)
  ·have k3:bK (az fs k).result 0 2=false∨(az fs k).locals.any gG=true:=by
    have:b=false:=by simpa using k3
    rw[hb] at this
    cases e:bK (az fs k).result 0 2
    ·exact .inl rfl
    rw[e] at this;exact .inr (by simpa using this)
   refine ac<|aa<|rn 1 [2] rfl<|ae<|aq (ai (aC (ai (ai (aC (ai ?_))))))
   refine av eY (an rfl) ?_
   intro w hw
   exact⟨eH (bad 6 (by unfold ef;rw[if_neg k1,if_neg k2,if_pos k3]) (by decide)).symm,hw.below⟩
  have k3:¬(bK (az fs k).result 0 2=false∨(az fs k).locals.any gG=true):=by
   have:b=true:=by simpa using k3
   rw[hb] at this
   simp only[Bool.and_eq_true,Bool.not_eq_true'] at this
   rintro(h | h)
   ·rw[this.1] at h;cases h
   rw[this.2] at h;cases h
  refine ar (am ?_)
  refine ac<|ac<|aa<|rn 1 [1,3,4,62] rfl<|af (aj fc dB rfl rfl (by rfl)) rfl rfl ?_
  refine af (aM bw rfl rfl) rfl rfl<|rn 1 [1,3,4,65] rfl<|ae<|aw rfl (fun k4=>?_) (fun k4=>?_)
  ·refine ac<|aa<|rn 1 [2] rfl<|ae<|aq (ai (aC (ai (ai (aC (ai ?_))))))
   refine av eY (an rfl) ?_
   intro w hw
   exact⟨eH (bad 5 (by unfold ef;rw[if_neg k1,if_neg k2,if_neg k3,if_pos (by omega)]) (by decide)).symm,hw.below⟩
  have k4:¬(az fs k).code.length=0:=by omega
  refine ar (am ?_)
  refine ac<|aa<|rn 1 [1,3,4,66] rfl<|af (aj fc dB rfl rfl (by rfl)) rfl rfl ?_
  refine ag (aY rfl rfl rfl Tryz.call107 (fun w hw=>tk _ (az fs k).code w (hw.ro hc))) rfl rfl (fun _ _=>?_)
  refine rn 1 [1,3,4,7] rfl<|ae<|ac<|ac<|aa<|rn 2 [1,3,4,7,70] rfl<|ae<|bY rfl (fun k5=>?_) (fun k5=>?_)
  ·refine ac<|aa<|rn 2 [2] rfl<|ae<|aq (ai (aC (ai (ai (aC (ai ?_))))))
   refine av eY (an rfl) ?_
   intro w hw
   exact⟨eH (bad _ (by unfold ef;rw[if_neg k1,if_neg k2,if_neg k3,if_neg k4,if_pos k5]) k5).symm,hw.below⟩
  have k5:¬d8 (az fs k).code≠0:=fun h=>h k5
  have three:∀j,j<(az fs k).code.length→et fs.length (az fs k).locals.length (az fs k).code.length (bG (az fs k).code j)=false→ef fs.length (az fs k)=3:=fun j hj h=>by
   unfold ef
   rw[if_neg k1,if_neg k2,if_neg k3,if_neg k4,if_neg k5,if_pos (List.any_eq_true.2 ⟨_,oF hj,by rw[h];rfl⟩)]
  refine ar (am ?_)
  refine ac<|aa<|rn 1 [1,3,4,8] rfl<|ae<|aB (bI (fun j:Nat=>j≤(az fs k).code.length∧((az fs k).code.take j).any (fun o=>!et fs.length (az fs k).locals.length (az fs k).code.length o)=false) (fun j=>(az fs k).code.length - j) (fun j=> [(1,.pointer (some ⟨g1,0,none⟩)),(3,.int .i64 (k:Int)),(4,.pointer (some ⟨g2,0,none⟩)),(8,.int .i64 (j:Int))]) (fun _=> [ak g1 [.slice A fs.length c] 24,ak g2 [.int .i64 (az fs k).params,.slice A1 (az fs k).locals.length c1,.int .i64 (az fs k).result,.slice A2 (az fs k).code.length c2] 110]) 0 (⟨Nat.zero_le _,rfl⟩) ⟨rfl,rfl,rfl,rfl,trivial⟩ me ?_)
  rintro j hj'
  obtain⟨hj,hno3⟩:j≤(az fs k).code.length∧((az fs k).code.take j).any (fun o=>!et fs.length (az fs k).locals.length (az fs k).code.length o)=false:=hj'
  refine ac<|ac<|aa<|rn 2 [1,3,4,8,72,73] rfl<|af (aj fc dB rfl rfl (by rfl)) rfl rfl ?_
  refine af (aM bw rfl rfl) rfl rfl<|rn 1 [1,3,4,8,76] rfl<|ae<|aw rfl (fun hlt3=>?_) (fun hlt3=>?_)
  ·have hjl:j<(az fs k).code.length:=by omega
   have hsn3:=j7 (p:=fun o=>!et fs.length (az fs k).locals.length (az fs k).code.length o) default hjl
   refine ar (am ?_)
   refine ac<|aB<|ac<|aa<|rn 1 [1,3,4,8,79] rfl<|af (aj fc dB rfl rfl (by rfl)) rfl rfl ?_
   refine rn 1 [1,3,4,8,80,81] rfl<|af (aQ bw cG (.ro hc) (by omega) rfl rfl rfl) rfl rfl<|af (cY (cs:= [_,_]) (SF.op (.ro hc) (by omega)) rfl rfl iJ cG) rfl rfl<|ag (aS bL rfl rfl) rfl rfl (fun g3 _=>?_)
   refine ag (aJ _ fc cG rfl rfl rfl rfl rfl (by rfl) rfl (by rfl)) rfl rfl (fun _ _=>?_)
   refine ae<|ac<|aa<|rn 1 [1,3,4,8,9,84] rfl<|af (aj fc au rfl rfl (by rfl)) rfl rfl ?_
   refine rn 2 [1,3,4,8,9,87] rfl<|bM (t:=87) rfl (fun c8=>?_) (fun c8=>?_)
   ·have c8:=of_decide_eq_true c8
    refine rn 6 [1,3,4,8,9,92,93] rfl<|af (aj fc au rfl rfl (by rfl)) rfl rfl ?_
    refine rn 1 [1,3,4,8,9,92,94,95] rfl<|af (aj fc aW rfl rfl (by rfl)) rfl rfl ?_
    refine af (aM ah rfl rfl) rfl rfl<|af (cH rfl rfl rfl (by omega)) rfl rfl<|ag (aY rfl rfl rfl jm ((fun w hw=>fm ((fun w hw=>eW _ _ _ w) w hw)))) rfl rfl (fun _ _=>?_)
    refine rn 3 [1,3,4,8,9,102] rfl<|bM (t:=102) rfl (fun q=>?_) (fun q=>?_)
    ·have q:bK (bG (az fs k).code j).a 0 (((az fs k).locals.length:Int) - 1)=false:=by simpa using q
     refine rn 34 [1,3,4,8,136] rfl<|ae<|bA rfl<|ac<|aa<|rn 1 [2] rfl<|ae<|aq (aC (ai (ai (aC (aC (ai (ai (aC (ai ?_)))))))))
     refine av eY (an rfl) ?_
     intro w hw
     exact⟨eH (bad 3 (three j hjl ((sq (.inl c8)).trans q)) (by decide)).symm,hw.below⟩
    have q:bK (bG (az fs k).code j).a 0 (((az fs k).locals.length:Int) - 1)=true:=by simpa using q
    refine rn 1 [1,3,4,8,9,102,103] rfl<|af (aj fc au rfl rfl (by rfl)) rfl rfl ?_
    refine rn 2 [1,3,4,8,9,102,106] rfl<|bV (t:=106) (v':= .bool false) rfl (by rw[decide_eq_false (by omega)]) ?_
    refine rn 1 [1,3,4,8,9,102,106,107] rfl<|af (aj fc au rfl rfl (by rfl)) rfl rfl ?_
    refine rn 3 [1,3,4,8,9,102,111] rfl<|bV (t:=111) (v':= .bool false) rfl (by rw[decide_eq_false (by omega)]) ?_
    refine rn 12 [1,3,4,8,9,122,123] rfl<|af (aj fc au rfl rfl (by rfl)) rfl rfl ?_
    refine rn 2 [1,3,4,8,9,122,126] rfl<|bV (t:=126) (v':= .bool false) rfl (by rw[decide_eq_false (by omega)]) ?_
    refine rn 10 [1,3,4,8,136] rfl<|ae<|bZ rfl<|ar (aH (am ?_))
    refine aa<|rn 1 [1,3,4,77] rfl<|af (br rfl rfl rfl (by omega)) rfl rfl<|rn 1 [1,3,4,8] rfl<|a5 (j+1) (⟨by show j+1≤_;omega,by show List.any _ _=false;rw[hsn3,hno3,show et fs.length (az fs k).locals.length (az fs k).code.length ((az fs k).code.getD j default)=true from(sq (.inl c8)).trans q];rfl⟩) (by show _ - _<_ - _;omega) ⟨rfl,rfl,rfl,rfl,trivial⟩ me
   have c8:=of_decide_eq_false c8
   refine rn 1 [1,3,4,8,9,87,88] rfl<|af (aj fc au rfl rfl (by rfl)) rfl rfl ?_
   refine rn 3 [1,3,4,8,9,92] rfl<|bM (t:=92) rfl (fun c9=>?_) (fun c9=>?_)
   ·have c9:=of_decide_eq_true c9
    refine rn 1 [1,3,4,8,9,92,93] rfl<|af (aj fc au rfl rfl (by rfl)) rfl rfl ?_
    refine rn 1 [1,3,4,8,9,92,94,95] rfl<|af (aj fc aW rfl rfl (by rfl)) rfl rfl ?_
    refine af (aM ah rfl rfl) rfl rfl<|af (cH rfl rfl rfl (by omega)) rfl rfl<|ag (aY rfl rfl rfl jm ((fun w hw=>fm ((fun w hw=>eW _ _ _ w) w hw)))) rfl rfl (fun _ _=>?_)
    refine rn 3 [1,3,4,8,9,102] rfl<|bM (t:=102) rfl (fun q=>?_) (fun q=>?_)
    ·have q:bK (bG (az fs k).code j).a 0 (((az fs k).locals.length:Int) - 1)=false:=by simpa using q
     refine rn 34 [1,3,4,8,136] rfl<|ae<|bA rfl<|ac<|aa<|rn 1 [2] rfl<|ae<|aq (aC (ai (ai (aC (aC (ai (ai (aC (ai ?_)))))))))
     refine av eY (an rfl) ?_
     intro w hw
     exact⟨eH (bad 3 (three j hjl ((sq (.inr c9)).trans q)) (by decide)).symm,hw.below⟩
    have q:bK (bG (az fs k).code j).a 0 (((az fs k).locals.length:Int) - 1)=true:=by simpa using q
    refine rn 1 [1,3,4,8,9,102,103] rfl<|af (aj fc au rfl rfl (by rfl)) rfl rfl ?_
    refine rn 2 [1,3,4,8,9,102,106] rfl<|bV (t:=106) (v':= .bool false) rfl (by rw[decide_eq_false (by omega)]) ?_
    refine rn 1 [1,3,4,8,9,102,106,107] rfl<|af (aj fc au rfl rfl (by rfl)) rfl rfl ?_
    refine rn 3 [1,3,4,8,9,102,111] rfl<|bV (t:=111) (v':= .bool false) rfl (by rw[decide_eq_false (by omega)]) ?_
    refine rn 12 [1,3,4,8,9,122,123] rfl<|af (aj fc au rfl rfl (by rfl)) rfl rfl ?_
    refine rn 2 [1,3,4,8,9,122,126] rfl<|bV (t:=126) (v':= .bool false) rfl (by rw[decide_eq_false (by omega)]) ?_
    refine rn 10 [1,3,4,8,136] rfl<|ae<|bZ rfl<|ar (aH (am ?_))
    refine aa<|rn 1 [1,3,4,77] rfl<|af (br rfl rfl rfl (by omega)) rfl rfl<|rn 1 [1,3,4,8] rfl<|a5 (j+1) (⟨by show j+1≤_;omega,by show List.any _ _=false;rw[hsn3,hno3,show et fs.length (az fs k).locals.length (az fs k).code.length ((az fs k).code.getD j default)=true from(sq (.inr c9)).trans q];rfl⟩) (by show _ - _<_ - _;omega) ⟨rfl,rfl,rfl,rfl,trivial⟩ me
   have c9:=of_decide_eq_false c9
   refine rn 11 [1,3,4,8,9,102,103] rfl<|af (aj fc au rfl rfl (by rfl)) rfl rfl ?_
   refine rn 2 [1,3,4,8,9,102,106] rfl<|bM (t:=106) rfl (fun c10=>?_) (fun c10=>?_)
   ·have c10:=of_decide_eq_true c10
    refine rn 6 [1,3,4,8,9,102,111,112] rfl<|af (aj fc au rfl rfl (by rfl)) rfl rfl ?_
    refine rn 1 [1,3,4,8,9,102,111,113,114] rfl<|af (aj fc dB rfl rfl (by rfl)) rfl rfl ?_
    refine af (aM bw rfl rfl) rfl rfl<|af (cH rfl rfl rfl (by omega)) rfl rfl<|ag (aY rfl rfl rfl jm ((fun w hw=>fm ((fun w hw=>eW _ _ _ w) w hw)))) rfl rfl (fun _ _=>?_)
    refine rn 4 [1,3,4,8,9,122] rfl<|bM (t:=122) rfl (fun q=>?_) (fun q=>?_)
    ·have q:bK (bG (az fs k).code j).a 0 (((az fs k).code.length:Int) - 1)=false:=by simpa using q
     refine rn 14 [1,3,4,8,136] rfl<|ae<|bA rfl<|ac<|aa<|rn 1 [2] rfl<|ae<|aq (aC (ai (ai (aC (aC (ai (ai (aC (ai ?_)))))))))
     refine av eY (an rfl) ?_
     intro w hw
     exact⟨eH (bad 3 (three j hjl ((sp (.inl c10)).trans q)) (by decide)).symm,hw.below⟩
    have q:bK (bG (az fs k).code j).a 0 (((az fs k).code.length:Int) - 1)=true:=by simpa using q
    refine rn 1 [1,3,4,8,9,122,123] rfl<|af (aj fc au rfl rfl (by rfl)) rfl rfl ?_
    refine rn 2 [1,3,4,8,9,122,126] rfl<|bV (t:=126) (v':= .bool false) rfl (by rw[decide_eq_false (by omega)]) ?_
    refine rn 10 [1,3,4,8,136] rfl<|ae<|bZ rfl<|ar (aH (am ?_))
    refine aa<|rn 1 [1,3,4,77] rfl<|af (br rfl rfl rfl (by omega)) rfl rfl<|rn 1 [1,3,4,8] rfl<|a5 (j+1) (⟨by show j+1≤_;omega,by show List.any _ _=false;rw[hsn3,hno3,show et fs.length (az fs k).locals.length (az fs k).code.length ((az fs k).code.getD j default)=true from(sp (.inl c10)).trans q];rfl⟩) (by show _ - _<_ - _;omega) ⟨rfl,rfl,rfl,rfl,trivial⟩ me
   have c10:=of_decide_eq_false c10
   refine rn 1 [1,3,4,8,9,102,106,107] rfl<|af (aj fc au rfl rfl (by rfl)) rfl rfl ?_
   refine rn 3 [1,3,4,8,9,102,111] rfl<|bM (t:=111) rfl (fun c11=>?_) (fun c11=>?_)
   ·have c11:=of_decide_eq_true c11
    refine rn 1 [1,3,4,8,9,102,111,112] rfl<|af (aj fc au rfl rfl (by rfl)) rfl rfl ?_
    refine rn 1 [1,3,4,8,9,102,111,113,114] rfl<|af (aj fc dB rfl rfl (by rfl)) rfl rfl ?_
    refine af (aM bw rfl rfl) rfl rfl<|af (cH rfl rfl rfl (by omega)) rfl rfl<|ag (aY rfl rfl rfl jm ((fun w hw=>fm ((fun w hw=>eW _ _ _ w) w hw)))) rfl rfl (fun _ _=>?_)
    refine rn 4 [1,3,4,8,9,122] rfl<|bM (t:=122) rfl (fun q=>?_) (fun q=>?_)
    ·have q:bK (bG (az fs k).code j).a 0 (((az fs k).code.length:Int) - 1)=false:=by simpa using q
     refine rn 14 [1,3,4,8,136] rfl<|ae<|bA rfl<|ac<|aa<|rn 1 [2] rfl<|ae<|aq (aC (ai (ai (aC (aC (ai (ai (aC (ai ?_)))))))))
     refine av eY (an rfl) ?_
     intro w hw
     exact⟨eH (bad 3 (three j hjl ((sp (.inr c11)).trans q)) (by decide)).symm,hw.below⟩
    have q:bK (bG (az fs k).code j).a 0 (((az fs k).code.length:Int) - 1)=true:=by simpa using q
    refine rn 1 [1,3,4,8,9,122,123] rfl<|af (aj fc au rfl rfl (by rfl)) rfl rfl ?_
    refine rn 2 [1,3,4,8,9,122,126] rfl<|bV (t:=126) (v':= .bool false) rfl (by rw[decide_eq_false (by omega)]) ?_
    refine rn 10 [1,3,4,8,136] rfl<|ae<|bZ rfl<|ar (aH (am ?_))
    refine aa<|rn 1 [1,3,4,77] rfl<|af (br rfl rfl rfl (by omega)) rfl rfl<|rn 1 [1,3,4,8] rfl<|a5 (j+1) (⟨by show j+1≤_;omega,by show List.any _ _=false;rw[hsn3,hno3,show et fs.length (az fs k).locals.length (az fs k).code.length ((az fs k).code.getD j default)=true from(sp (.inr c11)).trans q];rfl⟩) (by show _ - _<_ - _;omega) ⟨rfl,rfl,rfl,rfl,trivial⟩ me
   have c11:=of_decide_eq_false c11
   refine rn 12 [1,3,4,8,9,122,123] rfl<|af (aj fc au rfl rfl (by rfl)) rfl rfl ?_
   refine rn 2 [1,3,4,8,9,122,126] rfl<|bM (t:=126) rfl (fun c12=>?_) (fun c12=>?_)
   ·have c12:=of_decide_eq_true c12
    refine rn 1 [1,3,4,8,122,126,127] rfl<|af (aj fc au rfl rfl (by rfl)) rfl rfl ?_
    refine rn 1 [1,3,4,8,122,126,128,129] rfl<|af (aj fc cV rfl rfl (by rfl)) rfl rfl ?_
    refine af (aM bJ rfl rfl) rfl rfl<|af (cH rfl rfl rfl (by omega)) rfl rfl<|ag (aY rfl rfl rfl jm ((fun w hw=>fm ((fun w hw=>eW _ _ _ w) w hw)))) rfl rfl (fun _ _=>?_)
    refine rn 3 [1,3,4,8,136] rfl<|ae<|cg rfl (fun q=>?_) (fun q=>?_)
    ·have q:bK (bG (az fs k).code j).a 0 ((fs.length:Int) - 1)=false:=by simpa using q
     refine ac<|aa<|rn 1 [2] rfl<|ae<|aq (aC (ai (ai (aC (aC (ai (ai (aC (ai ?_)))))))))
     refine av eY (an rfl) ?_
     intro w hw
     exact⟨eH (bad 3 (three j hjl ((By c12).trans q)) (by decide)).symm,hw.below⟩
    have q:bK (bG (az fs k).code j).a 0 ((fs.length:Int) - 1)=true:=by simpa using q
    refine ar (aH (am ?_))
    refine aa<|rn 1 [1,3,4,77] rfl<|af (br rfl rfl rfl (by omega)) rfl rfl<|rn 1 [1,3,4,8] rfl<|a5 (j+1) (⟨by show j+1≤_;omega,by show List.any _ _=false;rw[hsn3,hno3,show et fs.length (az fs k).locals.length (az fs k).code.length ((az fs k).code.getD j default)=true from(By c12).trans q];rfl⟩) (by show _ - _<_ - _;omega) ⟨rfl,rfl,rfl,rfl,trivial⟩ me
   have c12:=of_decide_eq_false c12
   refine rn 10 [1,3,4,8,136] rfl<|ae<|bZ rfl<|ar (aH (am ?_))
   refine aa<|rn 1 [1,3,4,77] rfl<|af (br rfl rfl rfl (by omega)) rfl rfl<|rn 1 [1,3,4,8] rfl<|a5 (j+1) (⟨by show j+1≤_;omega,by show List.any _ _=false;rw[hsn3,hno3,show et fs.length (az fs k).locals.length (az fs k).code.length ((az fs k).code.getD j default)=true from Gi c8 c9 c10 c11 c12];rfl⟩) (by show _ - _<_ - _;omega) ⟨rfl,rfl,rfl,rfl,trivial⟩ me
  obtain rfl:j=(az fs k).code.length:=by omega
  rw[List.take_length] at hno3
  have hone:ef fs.length (az fs k)=0:=by unfold ef;rw[if_neg k1,if_neg k2,if_neg k3,if_neg k4,if_neg k5,if_neg (by rw[hno3];decide)]
  refine bz (aD (aD (bO (aH (am ?_)))))
  refine aa<|rn 1 [1,23] rfl<|af (br rfl rfl rfl (by omega)) rfl rfl<|rn 1 [1,3] rfl<|a5 (k+1) (⟨by show k+1≤_;omega,hsn.trans hone⟩) (by show _ - _<_ - _;omega) ⟨rfl,rfl,trivial⟩ me
 obtain rfl:k=fs.length:=by omega
 rw[List.take_length] at hno
 have hr:=mg hno (az fs 0) (by unfold az;rw[List.getD_eq_getElem?_getD,List.getElem?_eq_getElem (by omega)];exact List.getElem_mem _)
 have hr2:=w8 hr
 obtain⟨A1,c1,A2,c2,hl,hc,hi,hcell⟩:=hs.fn (k:=0) (by omega)
 have hno:¬dX (ef fs.length) fs≠0:=fun h=>h hno
 refine bz (aD (aD (bO (am ?_))))
 refine ac<|ac<|aa<|rn 1 [1,137] rfl<|af (aj fc cV rfl rfl (by rfl)) rfl rfl ?_
 refine af (aQ (k:=0) bJ bD (.ro hs) (by omega) rfl rfl rfl) rfl rfl<|rn 1 [1,140] rfl<|af (a8 (fun w hw=>hcell _ w hw 0 _ rfl) rfl rfl au) rfl rfl ?_
 refine rn 2 [1,143] rfl<|bM (t:=143) rfl (fun h3=>?_) (fun h3=>?_)
 ·have h3:=of_decide_eq_true h3
  refine rn 7 [150] rfl<|ae<|bA rfl<|ac<|aa<|rn 1 [2] rfl<|ae<|aq (ai ?_)
  refine av eY (an rfl) ?_
  intro w hw
  exact⟨eH (by unfold dm;rw[if_neg h1,if_neg h2,if_neg hno,if_pos (.inl h3)]),hw.below⟩
 have h3:=of_decide_eq_false h3
 refine rn 1 [143,144] rfl<|af (aj fc cV rfl rfl (by rfl)) rfl rfl ?_
 refine af (aQ (k:=0) bJ bD (.ro hs) (by omega) rfl rfl rfl) rfl rfl<|rn 1 [143,147] rfl<|af (a8 (fun w hw=>hcell _ w hw 2 _ rfl) rfl rfl au) rfl rfl ?_
 refine rn 2 [150] rfl<|ae<|aw rfl (fun h4=>?_) (fun h4=>?_)
 ·refine ac<|aa<|rn 1 [2] rfl<|ae<|aq (ai ?_)
  refine av eY (an rfl) ?_
  intro w hw
  exact⟨eH (by unfold dm;rw[if_neg h1,if_neg h2,if_neg hno,if_pos (.inr (by omega))]),hw.below⟩
 refine ar (am ?_)
 refine ac<|aa<|rn 1 [2] rfl<|ae<|aq<|av eY (an rfl) ?_
 intro w hw
 exact⟨eH (by unfold dm;rw[if_neg h1,if_neg h2,if_neg hno,if_neg (by omega)]),hw.below⟩
end
section
theorem pT:(Tryz.prog.info? 5).map (fun i=>(i.zero,i.size,i.bytes))=some (some (.int .u8 0),1,1):=by kernel_rfl
theorem SF.s {B:Nat} {w0:World} {H:List a7} {R:a7} {α:Type} [aL α] {A:Option Addr} {m c:Nat} {xs:List α} (h:SF B w0 H A m c xs):SF B w0 (R::H) A m c xs:=⟨h.1,fun w hw=>h.2 w hw.tail⟩
theorem C1 {bs:List UInt8} {xs:List Int} {j:Nat} (hj:j<xs.length):bs++(xs.take (j+1)).map a9=(bs++(xs.take j).map a9)++ [a9 (xs.getD j 0)]:=by
 rw[List.take_succ_eq_append_getElem hj,List.map_append,List.append_assoc,List.getD_eq_getElem?_getD,List.getElem?_eq_getElem hj]
 rfl
theorem wo (l:List cc):(dq l).length≤5*l.length:=by
 induction l with
 | nil=>simp[dq]
 | cons o l ih=>
  have:(ln o).length≤5:=by unfold ln;split <;> simp[da]
  simp only[dq,List.flatMap_cons,List.length_append,List.length_cons] at *
  omega
theorem iH {fs:List aA} (h:dm fs=0):fs.length≠0∧fs.length≤5∧∀f∈fs,ef fs.length f=0:=by
 unfold dm at h
 split at h
 ·cases h
 rename_i h1
 split at h
 ·cases h
 rename_i h2
 split at h
 ·rename_i h3;exact absurd h h3
 rename_i h3
 exact⟨h1,by omega,mg (by simpa using h3)⟩
end
section
theorem yi (l:List UInt8) (n:Int):(fQ l n).1.length≤l.length∧(fQ l n).2.1.length≤l.length:=by
 unfold fQ
 split
 ·simp
 simp only[List.length_take,List.length_drop];omega
theorem jc {s s':List UInt8} {sh sh':Bool} {p:Int} (e:fI (s,sh)=(p,s',sh')):(0≤p∧p≤255)∧s'.length≤s.length:=by
 have hb:=(yi s 1).2
 unfold fI at e
 injection e with e1 e2
 injection e2 with e2 e3
 refine⟨?_,?_⟩
 ·subst e1
  split
  ·omega
  rename_i b l _
  have:=b.toNat_lt
  omega
 rw[←e2];exact hb
theorem Cn {s s' c:List UInt8} {sh sh':Bool} {n:Int} (e:jX (s,sh) n=(c,s',sh')):c.length≤s.length∧s'.length≤s.length:=by
 have hb:=yi s n
 unfold jX at e
 injection e with e1 e2
 injection e2 with e2 e3
 subst e1 e2
 exact hb
theorem se:∀(k:Nat) (s s':List UInt8) (sh sh':Bool) (acc L:List Int),gY k (s,sh) acc=(L,s',sh')→s'.length≤s.length∧L.length≤acc.length+k
 | 0,s,s',sh,sh',acc,L,e=>by
  simp only[gY,Prod.mk.injEq] at e
  obtain⟨rfl,rfl,rfl⟩:=e
  omega
 | k+1,s,s',sh,sh',acc,L,e=>by
  simp only[gY] at e
  split at e
  ·simp only[Prod.mk.injEq] at e
   obtain⟨rfl,rfl,rfl⟩:=e
   omega
  obtain⟨p,s1,b1,e1⟩:∃p s1 b1,fI (s,sh)=(p,s1,b1):=⟨_,_,_,rfl⟩
  rw[e1] at e
  have h1:=jc e1
  have h2:=se k _ _ _ _ _ _ e
  rw[List.length_append,List.length_singleton] at h2
  omega
section
variable {B:Nat} {w0:World} {H:List a7}
end
end
section
theorem Df {s s':List UInt8} {sh sh':Bool} {f:aA} (e:lB (s,sh)=(f,s',sh')):s'.length≤s.length∧(be f.params∧be f.result)∧f.locals.length≤255∧f.code.length≤40:=by
 obtain⟨p,s1,b1,e1⟩:∃p s1 b1,fI (s,sh)=(p,s1,b1):=⟨_,_,_,rfl⟩
 obtain⟨n,s2,b2,e2⟩:∃p s1' b1',fI (s1,b1)=(p,s1',b1'):=⟨_,_,_,rfl⟩
 obtain⟨L,s3,b3,e3⟩:∃p s1' b1',gY n.toNat (s2,b2) []=(p,s1',b1'):=⟨_,_,_,rfl⟩
 obtain⟨t,s4,b4,e4⟩:∃p s1' b1',fI (s3,b3)=(p,s1',b1'):=⟨_,_,_,rfl⟩
 obtain⟨x,s5,b5,e5⟩:∃p s1' b1',fI (s4,b4)=(p,s1',b1'):=⟨_,_,_,rfl⟩
 obtain⟨y,s6,b6,e6⟩:∃p s1' b1',fI (s5,b5)=(p,s1',b1'):=⟨_,_,_,rfl⟩
 obtain⟨c,s7,b7,e7⟩:∃p s1' b1',jX (s6,b6) (x*256+y)=(p,s1',b1'):=⟨_,_,_,rfl⟩
 unfold lB at e
 simp only[e1,e2,e3,e4,e5,e6,e7,Prod.mk.injEq] at e
 obtain⟨rfl,rfl,rfl⟩:=e
 have d1:=jc e1
 have d2:=jc e2
 have d3:=se _ _ _ _ _ _ _ e3
 have d4:=jc e4
 have d5:=jc e5
 have d6:=jc e6
 have d7:=Cn e7
 rw[List.length_nil] at d3
 exact⟨by omega,⟨⟨by show _≤p;omega,by show p≤_;omega⟩,⟨by show _≤t;omega,by show t≤_;omega⟩⟩,by show L.length≤_;omega,(uD c).2⟩
theorem Bs:∀(k:Nat) (s s':List UInt8) (sh sh':Bool) (acc L:List aA),jb k (s,sh) acc=(L,s',sh')→s'.length≤s.length∧L.length≤acc.length+k
 | 0,s,s',sh,sh',acc,L,e=>by
  simp only[jb,Prod.mk.injEq] at e
  obtain⟨rfl,rfl,rfl⟩:=e
  omega
 | k+1,s,s',sh,sh',acc,L,e=>by
  simp only[jb] at e
  split at e
  ·simp only[Prod.mk.injEq] at e
   obtain⟨rfl,rfl,rfl⟩:=e
   omega
  obtain⟨p,s1,b1,e1⟩:∃p s1 b1,lB (s,sh)=(p,s1,b1):=⟨_,_,_,rfl⟩
  rw[e1] at e
  have h1:=Df e1
  have h2:=Bs k _ _ _ _ _ _ e
  rw[List.length_append,List.length_singleton] at h2
  omega
section
variable {B:Nat} {w0:World} {H:List a7}
end
theorem ll {α:Type} [Ow α] {w w':World} {v:Value} {xs:List α} (hw:Cw w.heap.size w [ap v xs] w'):Below w.heap.size w w'∧ev w' w.heap.size v xs:=by
 obtain⟨F,h1,h2⟩:=hw.head
 exact⟨hw.below,F,h1,h2⟩
theorem mt {α:Type} [Ow α] {w w':World} {H:List a7} (hw:Cw w.heap.size w H w'):Below w.heap.size w w'∧ev w' w.heap.size (.slice none 0 0) ([]:List α):=⟨hw.below,ev.nil_ _ _⟩
end
section
theorem BH {s:List UInt8} {k:Nat} (hk:k<s.length):s.drop k=s.getD k 0::s.drop (k+1):=by
 rw[List.drop_eq_getElem_cons hk,List.getD_eq_getElem?_getD,List.getElem?_eq_getElem hk]
 rfl
theorem Gg:∀(k:Nat) (s:List UInt8) (acc:List aA),jb k (s,true) acc=(acc,s,true)
 | 0,_,_=>rfl
 | _+1,_,_=>rfl
end
section
def cd (t o:Int):Bool:=decide (t=o) || (decide (t=3) && decide (o=2))
def dh (a b:Int):Int:=if cd a b then b else if cd b a then a else 0
def bT:List Int→List Int→Option (List Int)
 | [],[]=>some []
 | a::l,b::m=>if dh a b=0 then none else (bT l m).map (dh a b:: ·)
 | _,_=>none
def GD (t:Int):Bool:=decide (t<1) || decide (3<t)
def G8 (a b:List Int):Int:=if a.any GD=true then 6 else if b.any GD=true then 6 else if 8<a.length∨8<b.length then 2 else if bT a b=none then 4 else 0
def In (a b:List Int):List Int:=if G8 a b=0 then (bT a b).getD [] else []
abbrev lS:=List Int×Bool
def fF (s:lS):Int×lS:=if s.1.length=0 then (0,s.1,true) else (s.1.getD (s.1.length - 1) 0,s.1.take (s.1.length - 1),s.2)
def dE (l:List Int):Nat→lS→lS
 | 0,s=>s
 | k+1,s=>dE l k ((fF s).2.1,(fF s).2.2 || !cd (fF s).1 (l.getD k 0))
def oB (s:lS) (l:List Int):lS:=(s.1++l,s.2)
def bR (f:aA):List Int:=if f.result=0 then [] else [f.result]
def cu (c:Int):List Int×List Int:=
 if c=1∨c=21 then ([],[1]) else if c=5∨c=6∨c=7 then ([1,1],[1]) else if c=11∨c=20 then ([1],[]) else if c=14 then ([1],[2]) else
 if c=15 then ([2,1],[1]) else if c=16 then ([2,1,1],[]) else if c=17∨c=19 then ([2],[1]) else if c=18 then ([],[3]) else ([],[])
def ea (g:aA):List Int:=g.locals.take g.params.toNat
def gB (fs:List aA) (f:aA) (o:cc) (s:lS):lS:=
 if o.c=2 then (fF s).2 else if o.c=3 then oB (fF s).2 [(fF s).1,(fF s).1] else
 if o.c=4 then oB (fF (fF s).2).2 [(fF s).1,(fF (fF s).2).1] else
 if o.c=8 then oB s [f.locals.getD o.a.toNat 0] else if o.c=9 then dE [f.locals.getD o.a.toNat 0] 1 s else
 if o.c=12 then oB (dE (ea (az fs o.a.toNat)) (ea (az fs o.a.toNat)).length s) (bR (az fs o.a.toNat)) else
 if o.c=13 then ((dE (bR f) (bR f).length s).1,(dE (bR f) (bR f).length s).2 || decide (0<(dE (bR f) (bR f).length s).1.length)) else
 oB (dE (cu o.c).1 (cu o.c).1.length s) (cu o.c).2
def kG (fs:List aA) (f:aA) (o:cc) (s:lS):lS:=((gB fs f o s).1,(gB fs f o s).2 || decide (8<(gB fs f o s).1.length))
theorem js:∀{a b j:List Int},bT a b=some j→a.length=b.length∧j.length=a.length
 | [],[],j,h=>by simp[bT] at h;subst h;simp
 | [],_::_,j,h=>by simp[bT] at h
 | _::_,[],j,h=>by simp[bT] at h
 | a::l,b::m,j,h=>by
  simp only[bT] at h
  split at h
  ·cases h
  cases e:bT l m with
  | none=>rw[e] at h;cases h
  | some k=>
   rw[e] at h
   simp only[Option.map_some,Option.some.injEq] at h
   subst h
   have:=js e
   simp only[List.length_cons]
   omega
theorem vR {a b:List Int} (h:a.length≠b.length):bT a b=none:=by
 cases e:bT a b with
 | none=>rfl
 | some j=>exact absurd (js e).1 h
theorem oL:∀{a b out:List Int} {i:Nat},i<a.length→i<b.length→bT (a.take i) (b.take i)=some out→bT (a.take (i+1)) (b.take (i+1))=if dh (a.getD i 0) (b.getD i 0)=0 then none else some (out++ [dh (a.getD i 0) (b.getD i 0)])
 | [],_,_,_,h,_,_=>by simp at h
 | _::_,[],_,_,_,h,_=>by simp at h
 | a::l,b::m,out,0,_,_,h=>by
  simp[bT] at h
  subst h
  simp[bT]
 | a::l,b::m,out,i+1,h1,h2,h=>by
  simp only[List.take_succ_cons,bT] at h
  simp only[List.take_succ_cons,List.getD_cons_succ]
  simp only[bT]
  split at h
  ·cases h
  rename_i h0
  cases e:bT (l.take i) (m.take i) with
  | none=>rw[e] at h;cases h
  | some k=>
   rw[e] at h
   simp only[Option.map_some,Option.some.injEq] at h
   subst h
   have:=oL (by simpa using h1) (by simpa using h2) e
   rw[if_neg h0,this]
   split <;> simp
theorem oM:∀{a b:List Int} {i:Nat},bT (a.take i) (b.take i)=none→a.length=b.length→bT a b=none
 | [],[],i,h,_=>by simp[bT] at h
 | [],_::_,_,_,h=>by simp at h
 | _::_,[],_,_,h=>by simp at h
 | a::l,b::m,0,h,_=>by simp[bT] at h
 | a::l,b::m,i+1,h,hl=>by
  simp only[List.take_succ_cons,bT] at h⊢
  split
  ·rfl
  rename_i h0
  rw[if_neg h0] at h
  cases e:bT (l.take i) (m.take i) with
  | none=>rw[oM e (by simpa using hl)];rfl
  | some k=>rw[e] at h;cases h
theorem uj {a b:Int} (ha:be a) (hb:be b):be (dh a b):=by
 unfold dh
 split
 ·exact hb
 split
 ·exact ha
 decide
set_option maxRecDepth 100000 in
theorem oq (t o:Int) (w:World):Calls Tryz.prog 227 #[.int .i64 t,.int .i64 o] w fun e w'=>e= .returned (.bool (cd t o))∧Below w.heap.size w w':=by
 refine enter Tryz.func227 rfl Tryz.ntmps227 rfl ?_
 refine ac<|aa<|rn 1 [0,1] rfl<|ae<|ac<|aa<|rn 4 [0,1,8] rfl<|bM (t:=8) rfl (fun h1=>?_) (fun h1=>?_)
 ·have h1:=of_decide_eq_true h1
  refine rn 8 [4] rfl<|ae<|aq<|av GJ (an rfl) ?_
  intro w hw
  exact⟨bE (by unfold cd;rw[decide_eq_true h1];rfl),hw.below⟩
 have h1:=of_decide_eq_false h1
 refine rn 3 [1,8,11] rfl<|bM (t:=11) rfl (fun h2=>?_) (fun h2=>?_)
 ·have h2:=of_decide_eq_true h2
  refine rn 5 [4] rfl<|ae<|aq<|av GJ (an rfl) ?_
  intro w hw
  exact⟨bE (by unfold cd;rw[decide_eq_false h1,decide_eq_true h2];rfl),hw.below⟩
 have h2:=of_decide_eq_false h2
 refine rn 5 [4] rfl<|ae<|aq<|av GJ (an rfl) ?_
 intro w hw
 exact⟨bE (by unfold cd;rw[decide_eq_false h1,decide_eq_false h2];rfl),hw.below⟩
set_option maxRecDepth 100000 in
theorem DH (a b:Int) (w:World):Calls Tryz.prog 205 #[.int .i64 a,.int .i64 b] w fun e w'=>e= .returned (.int .i64 (dh a b))∧Below w.heap.size w w':=by
 refine enter Tryz.func205 rfl Tryz.ntmps205 rfl ?_
 refine ac<|aa<|rn 1 [0,1] rfl<|ae<|ac<|aB<|ac<|aa<|rn 2 [0,1,6,7] rfl<|ag (aY rfl rfl rfl Is (fun w hw=>oq a b w)) rfl rfl (fun _ _=>?_)
 refine rn 1 [0,1,5] rfl<|ae<|cg rfl (fun h1=>?_) (fun h1=>?_)
 ·refine ac<|aa<|rn 2 [4] rfl<|ae<|aq (aC (ai ?_))
  refine av GL (an rfl) ?_
  intro w hw
  exact⟨eH (by unfold dh;rw[if_pos h1]),hw.below⟩
 have h1:¬cd a b=true:=by rw[h1];decide
 refine ac<|aa<|rn 2 [0,11,12] rfl<|ag (aY rfl rfl rfl Is (fun w hw=>oq b a w)) rfl rfl (fun _ _=>?_)
 refine rn 1 [0,10] rfl<|ae<|cg rfl (fun h2=>?_) (fun h2=>?_)
 ·refine ac<|aa<|rn 2 [4] rfl<|ae<|aq (aC (ai ?_))
  refine av GL (an rfl) ?_
  intro w hw
  exact⟨eH (by unfold dh;rw[if_neg h1,if_pos h2]),hw.below⟩
 have h2:¬cd b a=true:=by rw[h2];decide
 refine ar (aH (am ?_))
 refine ac<|aa<|rn 1 [4] rfl<|ae<|aq<|av GL (an rfl) ?_
 intro w hw
 exact⟨eH (by unfold dh;rw[if_neg h1,if_neg h2]),hw.below⟩
theorem iS {w:World} {B:Nat} {A:Option Addr} {m c k:Nat} {xs:List Int} (h:bW w B (.slice A m c) xs) (hk:k<m):be (xs.getD k 0):=by
 have hl:=h.len_eq
 obtain⟨b,off,cs,hA,hb,hr,hj⟩:=bW.at_ h hk _ (lu (d:=0) (by omega))
 exact hr.2
set_option maxRecDepth 100000 in
set_option maxHeartbeats 1000000 in
theorem yW (A1 A2:Option Addr) (c1 c2:Nat) (a b:List Int) (w:World) (h1:Sl w (.slice A1 a.length c1) a) (h2:Sl w (.slice A2 b.length c2) b) (hle:a.length≤1000000) :
  Calls Tryz.prog 165 #[.slice A1 a.length c1,.slice A2 b.length c2] w fun e w'=> ∃u,e= .returned (.tuple #[u,.bool (bT a b).isSome])∧Below w.heap.size w w'∧ev w' w.heap.size u ((bT a b).getD []):=by
 have bb:=cn h2
 refine enter Tryz.func165 rfl Tryz.ntmps165 rfl ?_
 refine ac<|aa<|rn 2 [0,1] rfl<|ae<|ac<|ac<|aa<|rn 1 [0,1,9] rfl<|af (aM ah rfl rfl) rfl rfl<|rn 1 [0,1,10,11] rfl<|af (aM ah rfl rfl) rfl rfl<|rn 1 [0,1,13] rfl<|ae<|bY rfl (fun hl=>?_) (fun hl=>?_)
 ·have hn:=vR (a:=a) (b:=b) (fun e=>hl (by rw[e]))
  refine ac<|aa<|rn 2 [4,5] rfl<|ae<|aq (ai ?_)
  refine bt GN (an rfl) (an rfl) ?_
  intro w hw
  rw[hn]
  exact⟨_,rfl,mt hw⟩
 have hl:a.length=b.length:=by omega
 refine ar (am ?_)
 refine ac<|aa<|rn 1 [0,1,6] rfl<|ae<|ac<|ac<|aa<|rn 1 [0,1,6,14] rfl<|af (aM ah rfl rfl) rfl rfl<|rn 1 [0,1,6,15,16] rfl<|ae<|dA (fun w h=>Cw.nilO Int h) ?_
 refine aB (bI (fun g:Nat×List Int×Option Addr×Nat=>g.1≤a.length∧bT (a.take g.1) (b.take g.1)=some g.2.1) (fun g=>a.length - g.1) (fun g=> [(0,.slice A1 a.length c1),(1,.slice A2 b.length c2),(6,.slice g.2.2.1 g.2.1.length g.2.2.2),(15,.int .i64 (a.length:Int)),(16,.int .i64 (g.1:Int))]) (fun g=> [ap (.slice g.2.2.1 g.2.1.length g.2.2.2) g.2.1]) (0,[],none,0) (⟨Nat.zero_le _,rfl⟩) ⟨rfl,rfl,rfl,rfl,rfl,trivial⟩ me ?_)
 rintro⟨i,out,Ao,co⟩ hi'
 try dsimp only
 obtain⟨hi,hj⟩:i≤a.length∧bT (a.take i) (b.take i)=some out:=hi'
 have hol:out.length=i:=by have:=(js hj).2;rw[List.length_take] at this;omega
 refine ac<|aa<|rn 1 [0,1,6,15,16,17] rfl<|ae<|ac<|aw rfl (fun hlt=>?_) (fun hlt=>?_)
 ·have hil:i<a.length:=by omega
  have hst:=oL hil (by omega) hj
  have i1:=iS h1 hil
  have i2:=iS h2 (k:=i) (by omega)
  refine ar (am ?_)
  refine ac<|aB<|ac<|aa<|rn 2 [0,1,6,7,15,16] rfl<|ae<|ac<|cD (.still 0 (.still 1 (.still 2 (.still 3 (.still 4 (.still 5 (.still 6 (.still 7 (.pick 8 (.calm 9 .done) .stop))))))))) [8,9] rfl (by kernel_rfl) (by kernel_rfl) ?_
  refine aU ha 2 [0,1,6,7,15,16,19,20] rfl<|ax rfl (aQ ah aF (.ro h1) (by omega) rfl rfl rfl) rfl rfl ha ?_
  refine ax rfl (a8 (SF.int (.ro h1) (by omega)) rfl rfl au) rfl rfl ha ?_
  refine aU ha 2 [0,1,6,15,16,22,23,24] rfl<|ax rfl (aQ ah aF (.ro h2) (by omega) rfl rfl rfl) rfl rfl ha ?_
  refine ax rfl (a8 (SF.int (.ro h2) (by omega)) rfl rfl au) rfl rfl ha ?_
  refine aK rfl (aY rfl rfl rfl Tryz.call205 (fun w hw=>DH (a.getD i 0) (b.getD i 0) w)) rfl rfl (.inl rfl) (fun _ _=>?_) aE
  refine gL 1 [0,1,6,8,15,16] rfl<|cT<|ac<|ac<|aa<|rn 2 [0,1,6,8,15,16,29] rfl<|ae<|aw rfl (fun h0=>?_) (fun h0=>?_)
  ·rw[if_pos h0] at hst
   have hn:=oM hst hl
   refine ac<|aa<|rn 2 [4,5] rfl<|ae<|aq (ai (aC (ai (ai (aC (ai ?_))))))
   refine bt GN (an rfl) (an rfl) ?_
   intro w hw
   rw[hn]
   exact⟨_,rfl,mt hw⟩
  rw[if_neg h0] at hst
  refine ar (am ?_)
  refine aa<|rn 2 [0,1,15,16,30,31] rfl<|ag (bu (cs:= [_]) ah aF a6 rfl rfl rfl rfl rfl) rfl rfl (fun g1 _=>?_)
  refine ag (dJ (α:=Int) (bytes:=8) (dh (a.getD i 0) (b.getD i 0)) [] rfl ah (cU eE) rfl (fV fc fc) (eD (uj i1 i2)) (by omega) (by omega) rfl rfl rfl) rfl rfl (fun⟨A5,c5⟩ _=>?_)
  try dsimp only
  refine rn 1 [0,1,6,15,16] rfl<|bC (aH (am ?_))
  refine aa<|af (br rfl rfl rfl (by omega)) rfl rfl<|rn 1 [0,1,6,15,16] rfl<|a5 (i+1,out++ [dh (a.getD i 0) (b.getD i 0)],A5,c5) (⟨hil,hst⟩) (by show _ - _<_ - _;omega) ⟨rfl,rfl,rfl,rfl,rfl,trivial⟩ me
 obtain rfl:i=a.length:=by omega
 rw[List.take_length,hl,List.take_length] at hj
 refine bz (aD (aD (bO (am ?_))))
 refine ac<|aa<|rn 3 [4,5] rfl<|ae<|aq<|bt GN (an rfl) (an rfl) ?_
 intro w hw
 rw[hj]
 exact⟨_,rfl,ll hw⟩
end
section
theorem we (A:Option Addr) (c sz:Nat):iR A 0 c sz=A:=by
 unfold iR
 split
 ·rfl
 cases A <;> simp[Addr.add]
section
variable {P:Program} {n:NF} {B:Nat} {w0:World} {env:cK} {H H':List a7} {o:Oper}
theorem lz {t e:TypeId} {sz:Nat} {A:Option Addr} {m c k:Nat} {hi':Option Operand} {x:Operand} (hu:P.underlying t=some (.slice e)) (hz:∀w,(sizeOf e).run P w= .ok sz w) (hk:k≤c) (hop:o.op= .slice t x none hi' none)
  (hx:opv env x=some (.slice A m c)) (hh:n5 env hi' m=some (k:Int)):QS P n B w0 o env H (.slice A k c):=by
 have:=mD (lo:=0) (hi:=k) hu hz ⟨Nat.zero_le _,hk⟩ hop hx rfl hh (n:=n) (B:=B) (w0:=w0) (H:=H)
 rwa [we] at this
theorem nT {α:Type} [Ow α] {A:Option Addr} {m c:Nat} {xs:List α} {w:World} (hw:Cw B w0 H w) (hp:cZ H (ap (.slice A m c) xs) H'):m≤c:=by
 obtain⟨F,h,_⟩:=hw.rd hp
 obtain⟨_,_,hv,h1,_⟩:=(cL.sl (show cL w F _ xs from h)).form
 injection hv with e1 e2 e3
 omega
end
section
variable {B:Nat} {w0:World} {H:List a7}
set_option maxRecDepth 100000 in
theorem py (gs:Nat) {l l':List Int} {wr wr':Bool} {t:Int} (e:fF (l,wr)=(t,l',wr')) (A:Option Addr) (c:Nat) (hl:l.length≤1000000) (w:World)
  (hw:Cw B w0 (ak gs [.slice A l.length c,.bool wr] 202::ap (.slice A l.length c) l::H) w) :
  Calls Tryz.prog 206 #[.pointer (some ⟨gs,0,none⟩)] w fun e w'=> ∃g:Option Addr×Nat,True∧e= .returned (.int .i64 t)∧
   Cw B w0 (ak gs [.slice g.1 l'.length g.2,.bool wr'] 202::ap (.slice g.1 l'.length g.2) l'::H) w':=by
 unfold fF at e
 refine bS Tryz.func206 rfl Tryz.ntmps206 rfl hw ?_
 refine ac<|aa<|rn 1 [0] rfl<|ae<|ac<|aa<|rn 3 [0,7] rfl<|af (aj fc aW rfl rfl (by rfl)) rfl rfl ?_
 refine af (aM ah rfl rfl) rfl rfl<|af (cH rfl rfl rfl (by omega)) rfl rfl<|rn 1 [0,3] rfl<|ae<|ac<|ac<|aa<|rn 2 [0,3,12] rfl<|ae<|aw rfl (fun h=>?_) (fun h=>?_)
 ·rw[if_pos (show l.length=0 from by omega)] at e
  simp only[Prod.mk.injEq] at e
  obtain⟨rfl,rfl,rfl⟩:=e
  refine ac<|aa<|rn 3 [15] rfl<|ag (aJ _ fc dK rfl rfl rfl rfl rfl (by rfl) rfl (by rfl)) rfl rfl (fun _ _=>?_)
  refine ae<|ac<|aa<|rn 1 [2] rfl<|ae<|aq (ai ?_)
  refine av Tryz.results206 (an rfl) ?_
  intro w hw
  exact⟨(A,c),trivial,rfl,hw⟩
 rw[if_neg (show¬l.length=0 from by omega)] at e
 simp only[Prod.mk.injEq] at e
 obtain⟨rfl,rfl,rfl⟩:=e
 have hlt:(l.take (l.length - 1)).length=l.length - 1:=by rw[List.length_take];omega
 refine cN (t:=3) (v':= .int .i64 ((l.length - 1:Nat):Int)) rfl (by congr 1;omega) ?_
 refine ar (am ?_)
 refine ac<|aa<|rn 3 [0,3,18] rfl<|af (aj fc aW rfl rfl (by rfl)) rfl rfl ?_
 refine rn 1 [0,3,19,20] rfl<|af (aQ ah aF (SF.own rfl fc) (by omega) rfl rfl rfl) rfl rfl ?_
 refine af (a8 (SF.int (SF.own rfl fc) (by omega)) rfl rfl au) rfl rfl ?_
 refine rn 1 [0,3,4] rfl<|ae<|ac<|aa<|rn 4 [3,4,23,26] rfl<|af (aj fc aW rfl rfl (by rfl)) rfl rfl ?_
 refine rn 1 [4,23,27,28] rfl<|mn (fun w h=>nT h (xs:=l) fc) fun hcap=>?_
 refine af (lz (k:=l.length - 1) ah aF (by omega) rfl rfl rfl) rfl rfl<|rn 2 [4,29,31] rfl<|ag (aJ _ fc cC rfl rfl rfl rfl rfl (by rfl) rfl (by rfl)) rfl rfl (fun _ _=>?_)
 refine ae<|ac<|aa<|rn 2 [2] rfl<|ae<|aq<|av Tryz.results206 (an rfl) ?_
 intro w hw
 refine⟨(A,c),trivial,rfl,?_⟩
 rw[hlt]
 exact(p6 (α:=Int) (k:=l.length - 1) (by omega) (hw.msub (T:=ap (.slice A l.length c) l::ak gs _ _::H) ms)).msub ms
set_option maxRecDepth 100000 in
theorem FU (gs:Nat) {l xs:List Int} {wr:Bool} (A Ax:Option Addr) (c cx:Nat) (hs:SF B w0 H Ax xs.length cx xs) (hl:l.length+xs.length≤1000000) (w:World)
  (hw:Cw B w0 (ak gs [.slice A l.length c,.bool wr] 202::ap (.slice A l.length c) l::H) w) :
  Calls Tryz.prog 207 #[.pointer (some ⟨gs,0,none⟩),.slice Ax xs.length cx] w fun e w'=> ∃g:Option Addr×Nat,True∧e= .returned (.tuple #[])∧
   Cw B w0 (ak gs [.slice g.1 (l++xs).length g.2,.bool wr] 202::ap (.slice g.1 (l++xs).length g.2) (l++xs)::H) w':=by
 refine bS Tryz.func207 rfl Tryz.ntmps207 rfl hw ?_
 refine aa<|rn 4 [1,4,7] rfl<|af (aj fc aW rfl rfl (by rfl)) rfl rfl ?_
 refine rn 1 [4,8,9] rfl<|ag (iP (α:=Int) (bytes:=8) (xs:=l) (ys:=xs) rfl ah (cU eE) rfl fc (.s (.s hs)) (by omega) (by omega) rfl rfl rfl) rfl rfl (fun⟨A5,c5⟩ _=>?_)
 try dsimp only
 refine rn 2 [10,12] rfl<|ag (aJ _ fc cC rfl rfl rfl rfl rfl (by rfl) rfl (by rfl)) rfl rfl (fun _ _=>?_)
 refine bC<|cq Tryz.results207 ?_
 intro w hw
 exact⟨(A5,c5),trivial,rfl,hw.msub ms⟩
end
end
section
theorem dO {l:List Int} (h:∀x∈l,0≤x∧x≤3):∀x∈l,cS.wf x:=fun x hx=>by have:=h x hx;show be x;unfold be;omega
set_option maxRecDepth 100000 in
theorem rO (f:aA) (A1 A2:Option Addr) (c1 c2:Nat) (i1:be f.result) (w:World):Calls Tryz.prog 209 #[.agg #[.int .i64 f.params,.slice A1 f.locals.length c1,.int .i64 f.result,.slice A2 f.code.length c2]] w fun e w'=> ∃g:Option Addr×Nat,True∧e= .returned (.slice g.1 (bR f).length g.2)∧Cw w.heap.size w [ap (.slice g.1 (bR f).length g.2) (bR f)] w':=by
 refine enter Tryz.func209 rfl Tryz.ntmps209 rfl ?_
 refine ac<|aa<|ag (bH rfl rfl rfl) rfl rfl (fun g1 _=>?_)
 refine rn 1 [1] rfl<|ae<|ac<|ac<|aa<|rn 1 [1,3] rfl<|af (aj fc au rfl rfl (by rfl)) rfl rfl ?_
 refine rn 1 [1,5] rfl<|ae<|aw rfl (fun h=>?_) (fun h=>?_)
 ·have e:bR f= []:=by unfold bR;rw[if_pos h]
  refine ac<|aa<|rn 1 [2] rfl<|ae<|aq (ai ?_)
  refine av Tryz.results209 (an rfl) ?_
  intro w hw
  rw[e]
  exact⟨(none,0),trivial,rfl,(Cw.nilO Int hw).msub ms⟩
 have e:bR f= [f.result]:=by unfold bR;rw[if_neg h]
 refine ar (am ?_)
 refine ac<|aa<|rn 1 [6] rfl<|af (aj fc au rfl rfl (by rfl)) rfl rfl ?_
 refine ag (bu (cs:= [_]) ah aF a6 rfl rfl rfl rfl rfl) rfl rfl (fun g2 _=>?_)
 refine rn 1 [2] rfl<|ae<|aq<|av Tryz.results209 (an rfl) ?_
 intro w hw
 rw[e]
 exact⟨(some ⟨g2,0,none⟩,1),trivial,rfl,cE (α:=Int) (m:=1) [f.result] rfl (gD i1) rfl (by decide) (hw.msub (T:= [ak g2 _ _]) ms)⟩
set_option maxRecDepth 100000 in
set_option maxHeartbeats 1000000 in
theorem AN (c:Int) (w:World):Calls Tryz.prog 210 #[.int .i64 c] w fun e w'=> ∃g:(Option Addr×Nat)×(Option Addr×Nat),True∧
  e= .returned (.tuple #[.slice g.1.1 (cu c).1.length g.1.2,.slice g.2.1 (cu c).2.length g.2.2])∧Cw w.heap.size w [ap (.slice g.1.1 (cu c).1.length g.1.2) (cu c).1,ap (.slice g.2.1 (cu c).2.length g.2.2) (cu c).2] w':=by
 refine enter Tryz.func210 rfl Tryz.ntmps210 rfl ?_
 refine ac<|aa<|rn 2 [0] rfl<|ae<|ac<|ac<|aa<|rn 1 [4] rfl<|ae<|aB<|ac<|ac<|aa<|rn 2 [4,5] rfl<|ae<|aw rfl (fun h1=>?_) (fun h1=>?_)
 ·refine cN (t:=5) (v':= .bool true) rfl (by rw[decide_eq_true h1]) ?_
  refine ar (am ?_)
  refine bA rfl<|ac<|aa<|ag (bu (cs:= [_]) ah aF a6 rfl rfl rfl rfl rfl) rfl rfl (fun g1 _=>?_)
  refine rn 2 [2,3] rfl<|ae ?_
  have e:cu c=([],[1]):=by rw[h1];rfl
  refine aq (aC (ai ?_))
  refine bt eX (an rfl) (an rfl) ?_
  intro w hw
  rw[e]
  refine⟨((none,0),(some ⟨g1,0,none⟩,1)),trivial,rfl,?_⟩
  have hw:=Cw.nilO Int hw
  have hw:=cE (α:=Int) (m:=1) [1] rfl (dO (by decide)) rfl (by decide) (hw.msub (T:= [ak g1 _ _,ap (.slice none 0 0) ([]:List Int)]) ms)
  exact hw.msub ms
 refine aa<|rn 2 [4,5] rfl<|ae<|aw rfl (fun h21=>?_) (fun h21=>?_)
 ·have e:cu c=([],[1]):=by rw[h21];rfl
  refine ac<|aa<|ag (bu (cs:= [_]) ah aF a6 rfl rfl rfl rfl rfl) rfl rfl (fun g2 _=>?_)
  refine rn 2 [2,3] rfl<|ae<|aq (aC (ai ?_))
  refine bt eX (an rfl) (an rfl) ?_
  intro w hw
  rw[e]
  refine⟨((none,0),(some ⟨g2,0,none⟩,1)),trivial,rfl,?_⟩
  have hw:=Cw.nilO Int hw
  have hw:=cE (α:=Int) (m:=1) [1] rfl (dO (by decide)) rfl (by decide) (hw.msub (T:= [ak g2 _ _,ap (.slice none 0 0) ([]:List Int)]) ms)
  exact hw.msub ms
 refine ac<|ac<|aa<|rn 2 [4,9] rfl<|ae<|aw rfl (fun h5=>?_) (fun h5=>?_)
 ·refine cN (t:=9) (v':= .bool true) rfl (by rw[decide_eq_true h5]) ?_
  refine ar (am ?_)
  refine bA rfl<|ac<|aa<|ag (bu (cs:= [_,_]) ah aF a6 rfl rfl rfl rfl rfl) rfl rfl (fun g3 _=>?_)
  refine ag (bu (cs:= [_]) ah aF a6 rfl rfl rfl rfl rfl) rfl rfl (fun g4 _=>?_)
  refine rn 2 [2,3] rfl<|ae ?_
  have e:cu c=([1,1],[1]):=by rw[h5];rfl
  refine aq (aC (ai ?_))
  refine bt eX (an rfl) (an rfl) ?_
  intro w hw
  rw[e]
  refine⟨((some ⟨g3,0,none⟩,2),(some ⟨g4,0,none⟩,1)),trivial,rfl,?_⟩
  have hw:=cE (α:=Int) (m:=2) [1,1] rfl (dO (by decide)) rfl (by decide) (hw.msub (T:= [ak g3 _ _,ak g4 _ _]) ms)
  have hw:=cE (α:=Int) (m:=1) [1] rfl (dO (by decide)) rfl (by decide) (hw.msub (T:= [ak g4 _ _,ap (.slice (some ⟨g3,0,none⟩) 2 2) ([1,1]:List Int)]) ms)
  exact hw.msub ms
 refine ac<|aa<|rn 2 [4,9] rfl<|ae<|aw rfl (fun h6=>?_) (fun h6=>?_)
 ·refine cN (t:=9) (v':= .bool true) rfl (by rw[decide_eq_true h6]) ?_
  refine ar (am ?_)
  refine bA rfl<|ac<|aa<|ag (bu (cs:= [_,_]) ah aF a6 rfl rfl rfl rfl rfl) rfl rfl (fun g5 _=>?_)
  refine ag (bu (cs:= [_]) ah aF a6 rfl rfl rfl rfl rfl) rfl rfl (fun g6 _=>?_)
  refine rn 2 [2,3] rfl<|ae ?_
  have e:cu c=([1,1],[1]):=by rw[h6];rfl
  refine aq (aC (ai ?_))
  refine bt eX (an rfl) (an rfl) ?_
  intro w hw
  rw[e]
  refine⟨((some ⟨g5,0,none⟩,2),(some ⟨g6,0,none⟩,1)),trivial,rfl,?_⟩
  have hw:=cE (α:=Int) (m:=2) [1,1] rfl (dO (by decide)) rfl (by decide) (hw.msub (T:= [ak g5 _ _,ak g6 _ _]) ms)
  have hw:=cE (α:=Int) (m:=1) [1] rfl (dO (by decide)) rfl (by decide) (hw.msub (T:= [ak g6 _ _,ap (.slice (some ⟨g5,0,none⟩) 2 2) ([1,1]:List Int)]) ms)
  exact hw.msub ms
 refine aa<|rn 2 [4,9] rfl<|ae<|aw rfl (fun h7=>?_) (fun h7=>?_)
 ·have e:cu c=([1,1],[1]):=by rw[h7];rfl
  refine ac<|aa<|ag (bu (cs:= [_,_]) ah aF a6 rfl rfl rfl rfl rfl) rfl rfl (fun g7 _=>?_)
  refine ag (bu (cs:= [_]) ah aF a6 rfl rfl rfl rfl rfl) rfl rfl (fun g8 _=>?_)
  refine rn 2 [2,3] rfl<|ae<|aq (aC (ai ?_))
  refine bt eX (an rfl) (an rfl) ?_
  intro w hw
  rw[e]
  refine⟨((some ⟨g7,0,none⟩,2),(some ⟨g8,0,none⟩,1)),trivial,rfl,?_⟩
  have hw:=cE (α:=Int) (m:=2) [1,1] rfl (dO (by decide)) rfl (by decide) (hw.msub (T:= [ak g7 _ _,ak g8 _ _]) ms)
  have hw:=cE (α:=Int) (m:=1) [1] rfl (dO (by decide)) rfl (by decide) (hw.msub (T:= [ak g8 _ _,ap (.slice (some ⟨g7,0,none⟩) 2 2) ([1,1]:List Int)]) ms)
  exact hw.msub ms
 refine ac<|ac<|aa<|rn 2 [4,15] rfl<|ae<|aw rfl (fun h11=>?_) (fun h11=>?_)
 ·refine cN (t:=15) (v':= .bool true) rfl (by rw[decide_eq_true h11]) ?_
  refine ar (am ?_)
  refine bA rfl<|ac<|aa<|ag (bu (cs:= [_]) ah aF a6 rfl rfl rfl rfl rfl) rfl rfl (fun g9 _=>?_)
  refine rn 2 [2,3] rfl<|ae ?_
  have e:cu c=([1],[]):=by rw[h11];rfl
  refine aq (aC (ai ?_))
  refine bt eX (an rfl) (an rfl) ?_
  intro w hw
  rw[e]
  refine⟨((some ⟨g9,0,none⟩,1),(none,0)),trivial,rfl,?_⟩
  have hw:=cE (α:=Int) (m:=1) [1] rfl (dO (by decide)) rfl (by decide) (hw.msub (T:= [ak g9 _ _]) ms)
  have hw:=Cw.nilO Int hw
  exact hw.msub ms
 refine aa<|rn 2 [4,15] rfl<|ae<|aw rfl (fun h20=>?_) (fun h20=>?_)
 ·have e:cu c=([1],[]):=by rw[h20];rfl
  refine ac<|aa<|ag (bu (cs:= [_]) ah aF a6 rfl rfl rfl rfl rfl) rfl rfl (fun g10 _=>?_)
  refine rn 2 [2,3] rfl<|ae<|aq (aC (ai ?_))
  refine bt eX (an rfl) (an rfl) ?_
  intro w hw
  rw[e]
  refine⟨((some ⟨g10,0,none⟩,1),(none,0)),trivial,rfl,?_⟩
  have hw:=cE (α:=Int) (m:=1) [1] rfl (dO (by decide)) rfl (by decide) (hw.msub (T:= [ak g10 _ _]) ms)
  have hw:=Cw.nilO Int hw
  exact hw.msub ms
 refine ac<|aa<|rn 2 [4,19] rfl<|ae<|aw rfl (fun h14=>?_) (fun h14=>?_)
 ·have e:cu c=([1],[2]):=by rw[h14];rfl
  refine ac<|aa<|ag (bu (cs:= [_]) ah aF a6 rfl rfl rfl rfl rfl) rfl rfl (fun g11 _=>?_)
  refine ag (bu (cs:= [_]) ah aF a6 rfl rfl rfl rfl rfl) rfl rfl (fun g12 _=>?_)
  refine rn 2 [2,3] rfl<|ae<|aq (aC (ai ?_))
  refine bt eX (an rfl) (an rfl) ?_
  intro w hw
  rw[e]
  refine⟨((some ⟨g11,0,none⟩,1),(some ⟨g12,0,none⟩,1)),trivial,rfl,?_⟩
  have hw:=cE (α:=Int) (m:=1) [1] rfl (dO (by decide)) rfl (by decide) (hw.msub (T:= [ak g11 _ _,ak g12 _ _]) ms)
  have hw:=cE (α:=Int) (m:=1) [2] rfl (dO (by decide)) rfl (by decide) (hw.msub (T:= [ak g12 _ _,ap (.slice (some ⟨g11,0,none⟩) 1 1) ([1]:List Int)]) ms)
  exact hw.msub ms
 refine ac<|aa<|rn 2 [4,23] rfl<|ae<|aw rfl (fun h15=>?_) (fun h15=>?_)
 ·have e:cu c=([2,1],[1]):=by rw[h15];rfl
  refine ac<|aa<|ag (bu (cs:= [_,_]) ah aF a6 rfl rfl rfl rfl rfl) rfl rfl (fun g13 _=>?_)
  refine ag (bu (cs:= [_]) ah aF a6 rfl rfl rfl rfl rfl) rfl rfl (fun g14 _=>?_)
  refine rn 2 [2,3] rfl<|ae<|aq (aC (ai ?_))
  refine bt eX (an rfl) (an rfl) ?_
  intro w hw
  rw[e]
  refine⟨((some ⟨g13,0,none⟩,2),(some ⟨g14,0,none⟩,1)),trivial,rfl,?_⟩
  have hw:=cE (α:=Int) (m:=2) [2,1] rfl (dO (by decide)) rfl (by decide) (hw.msub (T:= [ak g13 _ _,ak g14 _ _]) ms)
  have hw:=cE (α:=Int) (m:=1) [1] rfl (dO (by decide)) rfl (by decide) (hw.msub (T:= [ak g14 _ _,ap (.slice (some ⟨g13,0,none⟩) 2 2) ([2,1]:List Int)]) ms)
  exact hw.msub ms
 refine ac<|aa<|rn 2 [4,27] rfl<|ae<|aw rfl (fun h16=>?_) (fun h16=>?_)
 ·have e:cu c=([2,1,1],[]):=by rw[h16];rfl
  refine ac<|aa<|ag (bu (cs:= [_,_,_]) ah aF a6 rfl rfl rfl rfl rfl) rfl rfl (fun g15 _=>?_)
  refine rn 2 [2,3] rfl<|ae<|aq (aC (ai ?_))
  refine bt eX (an rfl) (an rfl) ?_
  intro w hw
  rw[e]
  refine⟨((some ⟨g15,0,none⟩,3),(none,0)),trivial,rfl,?_⟩
  have hw:=cE (α:=Int) (m:=3) [2,1,1] rfl (dO (by decide)) rfl (by decide) (hw.msub (T:= [ak g15 _ _]) ms)
  have hw:=Cw.nilO Int hw
  exact hw.msub ms
 refine ac<|ac<|aa<|rn 2 [4,30] rfl<|ae<|aw rfl (fun h17=>?_) (fun h17=>?_)
 ·refine cN (t:=30) (v':= .bool true) rfl (by rw[decide_eq_true h17]) ?_
  refine ar (am ?_)
  refine bA rfl<|ac<|aa<|ag (bu (cs:= [_]) ah aF a6 rfl rfl rfl rfl rfl) rfl rfl (fun g16 _=>?_)
  refine ag (bu (cs:= [_]) ah aF a6 rfl rfl rfl rfl rfl) rfl rfl (fun g17 _=>?_)
  refine rn 2 [2,3] rfl<|ae ?_
  have e:cu c=([2],[1]):=by rw[h17];rfl
  refine aq (aC (ai ?_))
  refine bt eX (an rfl) (an rfl) ?_
  intro w hw
  rw[e]
  refine⟨((some ⟨g16,0,none⟩,1),(some ⟨g17,0,none⟩,1)),trivial,rfl,?_⟩
  have hw:=cE (α:=Int) (m:=1) [2] rfl (dO (by decide)) rfl (by decide) (hw.msub (T:= [ak g16 _ _,ak g17 _ _]) ms)
  have hw:=cE (α:=Int) (m:=1) [1] rfl (dO (by decide)) rfl (by decide) (hw.msub (T:= [ak g17 _ _,ap (.slice (some ⟨g16,0,none⟩) 1 1) ([2]:List Int)]) ms)
  exact hw.msub ms
 refine aa<|rn 2 [4,30] rfl<|ae<|aw rfl (fun h19=>?_) (fun h19=>?_)
 ·have e:cu c=([2],[1]):=by rw[h19];rfl
  refine ac<|aa<|ag (bu (cs:= [_]) ah aF a6 rfl rfl rfl rfl rfl) rfl rfl (fun g18 _=>?_)
  refine ag (bu (cs:= [_]) ah aF a6 rfl rfl rfl rfl rfl) rfl rfl (fun g19 _=>?_)
  refine rn 2 [2,3] rfl<|ae<|aq (aC (ai ?_))
  refine bt eX (an rfl) (an rfl) ?_
  intro w hw
  rw[e]
  refine⟨((some ⟨g18,0,none⟩,1),(some ⟨g19,0,none⟩,1)),trivial,rfl,?_⟩
  have hw:=cE (α:=Int) (m:=1) [2] rfl (dO (by decide)) rfl (by decide) (hw.msub (T:= [ak g18 _ _,ak g19 _ _]) ms)
  have hw:=cE (α:=Int) (m:=1) [1] rfl (dO (by decide)) rfl (by decide) (hw.msub (T:= [ak g19 _ _,ap (.slice (some ⟨g18,0,none⟩) 1 1) ([2]:List Int)]) ms)
  exact hw.msub ms
 refine ac<|aa<|rn 2 [35] rfl<|ae<|aw rfl (fun h18=>?_) (fun h18=>?_)
 ·have e:cu c=([],[3]):=by rw[h18];rfl
  refine ac<|aa<|ag (bu (cs:= [_]) ah aF a6 rfl rfl rfl rfl rfl) rfl rfl (fun g20 _=>?_)
  refine rn 2 [2,3] rfl<|ae<|aq (aC (ai ?_))
  refine bt eX (an rfl) (an rfl) ?_
  intro w hw
  rw[e]
  refine⟨((none,0),(some ⟨g20,0,none⟩,1)),trivial,rfl,?_⟩
  have hw:=Cw.nilO Int hw
  have hw:=cE (α:=Int) (m:=1) [3] rfl (dO (by decide)) rfl (by decide) (hw.msub (T:= [ak g20 _ _,ap (.slice none 0 0) ([]:List Int)]) ms)
  exact hw.msub ms
 refine ar (aH (am ?_))
 refine ac<|aa<|rn 2 [2,3] rfl<|ae ?_
 have e:cu c=([],[]):=by unfold cu;simp[h1,h21,h5,h6,h7,h11,h20,h14,h15,h16,h17,h19,h18]
 refine aq<|bt eX (an rfl) (an rfl) ?_
 intro w hw
 rw[e]
 refine⟨((none,0),(none,0)),trivial,rfl,?_⟩
 have hw:=Cw.nilO Int hw
 have hw:=Cw.nilO Int hw
 exact hw.msub ms
end
section
theorem oD (s:lS):(fF s).2.1.length≤s.1.length:=by
 unfold fF
 split
 ·exact Nat.le_refl _
 show (List.take _ _).length≤_;rw[List.length_take];omega
theorem lF (l:List Int):∀(k:Nat) (s:lS),(dE l k s).1.length≤s.1.length
 | 0,_=>Nat.le_refl _
 | k+1,s=>Nat.le_trans (lF l k _) (oD s)
section
variable {B:Nat} {w0:World} {H:List a7}
set_option maxRecDepth 100000 in
set_option maxHeartbeats 1000000 in
theorem Cm (gs:Nat) {l l' xs:List Int} {wr wr':Bool} (e:dE xs xs.length (l,wr)=(l',wr')) (A Ax:Option Addr) (c cx:Nat) (hs:SF B w0 H Ax xs.length cx xs) (hx:xs.length≤1000000) (hl:l.length≤1000000) (w:World)
  (hw:Cw B w0 (ak gs [.slice A l.length c,.bool wr] 202::ap (.slice A l.length c) l::H) w) :
  Calls Tryz.prog 208 #[.pointer (some ⟨gs,0,none⟩),.slice Ax xs.length cx] w fun e w'=> ∃g:Option Addr×Nat,True∧e= .returned (.tuple #[])∧
   Cw B w0 (ak gs [.slice g.1 l'.length g.2,.bool wr'] 202::ap (.slice g.1 l'.length g.2) l'::H) w':=by
 refine bS Tryz.func208 rfl Tryz.ntmps208 rfl hw ?_
 refine ac<|aa<|rn 1 [0,1,5] rfl<|af (aM ah rfl rfl) rfl rfl<|af (cH rfl rfl rfl (by omega)) rfl rfl<|rn 1 [0,1,4] rfl<|ae<|aB (bI (fun g:Nat×List Int×Bool×Option Addr×Nat=>(dE xs g.1 (g.2.1,g.2.2.1)=(l',wr')∧g.2.1.length≤1000000)∧g.1≤xs.length) (fun g=>g.1) (fun g=> [(0,.pointer (some ⟨gs,0,none⟩)),(1,.slice Ax xs.length cx),(4,.int .i64 ((g.1:Int) - 1))]) (fun g=>ak gs [.slice g.2.2.2.1 g.2.1.length g.2.2.2.2,.bool g.2.2.1] 202::ap (.slice g.2.2.2.1 g.2.1.length g.2.2.2.2) g.2.1::H) (xs.length,l,wr,A,c) (⟨⟨e,hl⟩,Nat.le_refl _⟩) ⟨rfl,rfl,rfl,trivial⟩ me ?_)
 rintro⟨k,u,ub,Aj,cj⟩ hj
 try dsimp only
 obtain⟨⟨hj1,hj2⟩,hj3⟩:(dE xs k (u,ub)=(l',wr')∧u.length≤1000000)∧k≤xs.length:=hj
 refine ac<|ac<|aa<|rn 2 [0,1,4,9] rfl<|ae<|aw rfl (fun h=>?_) (fun h=>?_)
 ·obtain⟨j,rfl⟩:∃j,k=j+1:=⟨k - 1,by omega⟩
  obtain⟨t,u1,ub1,ep⟩:∃t u1 ub1,fF (u,ub)=(t,u1,ub1):=⟨_,_,_,rfl⟩
  have hpl:=oD (u,ub)
  rw[ep] at hpl
  have hpl:u1.length≤u.length:=hpl
  have hj1:dE xs j (u1,ub1 || !cd t (xs.getD j 0))=(l',wr'):=by
   unfold dE at hj1
   rw[ep] at hj1
   exact hj1
  refine ar (am ?_)
  refine cN (t:=4) (v':= .int .i64 (j:Int)) rfl (by congr 1;omega) ?_
  refine ac<|aB<|ac<|fL (.still 0 (.still 2 (.still 3 (.still 4 (.still 5 (.pick 1 (.pick 6 (.still 7 .done) .stop) .stop)))))) [] rfl (by kernel_rfl) (by kernel_rfl) H ?_
  refine aU ha 3 [0,1,4,12,14,15] rfl<|ax rfl (aQ ah aF hs (by omega) rfl rfl rfl) rfl rfl ha ?_
  refine ax rfl (a8 (SF.int hs (by omega)) rfl rfl au) rfl rfl ha ?_
  refine aK rfl (bg rfl rfl rfl wU (fun w hw=>py gs ep Aj cj hj2 w (hw.msub (.s fc (.s fc .r))))) rfl rfl (.inr fun _=>ha) (fun⟨A1,c1⟩ _=>?_) aE
  try dsimp only
  refine aK rfl (aY rfl rfl rfl Is (fun w hw=>oq t (xs.getD j 0) w)) rfl rfl (.inr fun _=>ha) (fun _ _=>?_) aE
  refine aU ha 1 [0,1,4,19] rfl<|cT<|cg rfl (fun hst=>?_) (fun hst=>?_)
  ·have hst:cd t (xs.getD j 0)=false:=by simpa using hst
   rw[hst,Bool.not_false,Bool.or_true] at hj1
   refine aa<|rn 3 [0,1,4,22] rfl<|ag (aJ _ fc dK rfl rfl rfl rfl rfl (by rfl) rfl (by rfl)) rfl rfl (fun _ _=>?_)
   refine bC (aH (am ?_))
   refine aa<|rn 1 [0,1,10] rfl<|af (cH rfl rfl rfl (by omega)) rfl rfl<|rn 1 [0,1,4] rfl<|a5 (j,u1,true,A1,c1) (⟨⟨hj1,by show u1.length≤_;omega⟩,by show j≤_;omega⟩) (Nat.lt_succ_self j) ⟨rfl,rfl,rfl,trivial⟩ me
  have hst:cd t (xs.getD j 0)=true:=by simpa using hst
  rw[hst,Bool.not_true,Bool.or_false] at hj1
  refine ar (aH (am ?_))
  refine aa<|rn 1 [0,1,10] rfl<|af (cH rfl rfl rfl (by omega)) rfl rfl<|rn 1 [0,1,4] rfl<|a5 (j,u1,ub1,A1,c1) (⟨⟨hj1,by show u1.length≤_;omega⟩,by show j≤_;omega⟩) (Nat.lt_succ_self j) ⟨rfl,rfl,rfl,trivial⟩ me
 obtain rfl:k=0:=by omega
 simp only[dE,Prod.mk.injEq] at hj1
 obtain⟨rfl,rfl⟩:=hj1
 refine bz (aD (aD (bO ?_)))
 refine cq Tryz.results208 ?_
 intro w hw
 exact⟨(Aj,cj),trivial,rfl,hw.msub ms⟩
end
end
section
theorem CO (s:lS):(fF s).1=0∨(fF s).1∈s.1:=by
 unfold fF
 split
 ·exact .inl rfl
 right
 show s.1.getD _ 0∈s.1
 rw[List.getD_eq_getElem?_getD,List.getElem?_eq_getElem (by omega)]
 exact List.getElem_mem _
theorem CN (s:lS):∀x∈(fF s).2.1,x∈s.1:=by
 unfold fF
 split
 ·exact fun _ h=>h
 exact fun x h=>List.mem_of_mem_take h
theorem vA {s:lS} (h:∀x∈s.1,be x):be (fF s).1:=by
 rcases CO s with e | e
 ·rw[e];decide
 exact h _ e
structure zE (fs:List aA) (f:aA) (o:cc):Prop where
 loc:(o.c=8∨o.c=9)→0≤o.a∧o.a<f.locals.length
 call:o.c=12→0≤o.a∧o.a<fs.length
 par:∀k,k<fs.length→(0≤(az fs k).params∧(az fs k).params≤(az fs k).locals.length)∧(az fs k).locals.length≤6
 res:be f.result
section
variable {B:Nat} {w0:World} {H H':List a7}
theorem tp {A:Option Addr} {m c:Nat} {xs:List Int} {w:World} (hw:Cw B w0 H w) (hp:cZ H (ap (.slice A m c) xs) H'):∀x∈xs,be x:=by
 obtain⟨F,h,_⟩:=hw.rd hp
 have hs:Sl w (.slice A m c) xs:=cL.sl (show cL w F _ xs from h)
 have hl:=bW.len_eq hs
 intro x hx
 obtain⟨k,hk,rfl⟩:=List.getElem_of_mem hx
 have:=iS hs (k:=k) (by omega)
 rwa [List.getD_eq_getElem?_getD,List.getElem?_eq_getElem hk] at this
theorem rD (gs:Nat) {l l' xs:List Int} {wr wr':Bool} (e:dE xs xs.length (l,wr)=(l',wr')) (A Ax:Option Addr) (c cx:Nat) (hx:xs.length≤1000000) (hl:l.length≤1000000) (w:World)
  (hw:Cw B w0 (ak gs [.slice A l.length c,.bool wr] 202::ap (.slice A l.length c) l::H) w) (hs:SF B w0 H Ax xs.length cx xs) :
  Calls Tryz.prog 208 #[.pointer (some ⟨gs,0,none⟩),.slice Ax xs.length cx] w fun e w'=> ∃g:Option Addr×Nat,True∧e= .returned (.tuple #[])∧
   Cw B w0 (ak gs [.slice g.1 l'.length g.2,.bool wr'] 202::ap (.slice g.1 l'.length g.2) l'::H) w':=Cm gs e A Ax c cx hs hx hl w hw
theorem rR (gs:Nat) (l xs:List Int) {wr:Bool} (A Ax:Option Addr) (c cx:Nat) (hl:l.length+xs.length≤1000000) (w:World)
  (hw:Cw B w0 (ak gs [.slice A l.length c,.bool wr] 202::ap (.slice A l.length c) l::H) w) (hs:SF B w0 H Ax xs.length cx xs) :
  Calls Tryz.prog 207 #[.pointer (some ⟨gs,0,none⟩),.slice Ax xs.length cx] w fun e w'=> ∃g:Option Addr×Nat,True∧e= .returned (.tuple #[])∧
   Cw B w0 (ak gs [.slice g.1 (l++xs).length g.2,.bool wr] 202::ap (.slice g.1 (l++xs).length g.2) (l++xs)::H) w':=FU gs A Ax c cx hs hl w hw
theorem oK {g m:Nat} {cs:List Value} {T:TypeId} (xs:List Int) (hl:xs.length=m) (hm:m≤1000) (hcs:cs=xs.flatMap mO.enc) (hr:∀x∈xs,be x) (hp:cZ H (ak g cs T) H'):SF B w0 H (some ⟨g,0,none⟩) m m xs:=
 SF.lit xs hl (Nat.le_refl _) (by omega) hcs (fun w B x hx=>⟨rfl,hr x hx⟩) hp
theorem bW.to {α:Type} [aL α] {w:World} {A:Option Addr} {m c k:Nat} {xs:List α} (h:bW w B (.slice A m c) xs) (hk:k≤m):bW w B (.slice A k c) (xs.take k):=by
 have:=h.cut 0 k (Nat.zero_le _) hk
 rwa [we,Nat.sub_zero,Nat.sub_zero,List.drop_zero] at this
theorem bW.cap {α:Type} [aL α] {w:World} {A:Option Addr} {m c:Nat} {xs:List α} (h:bW w B (.slice A m c) xs):m≤c:=by
 obtain⟨_,_,hv,h1,_⟩:=h
 injection hv with e1 e2 e3
 omega
theorem He (n:Nat):decide ((0:Int)<(n:Int))=(false || decide (0<n)):=by rw[Bool.false_or];exact decide_eq_decide.2 (by omega)
theorem Hd (n:Nat):decide ((8:Int)<(n:Int))=(false || decide (8<n)):=by rw[Bool.false_or];exact decide_eq_decide.2 (by omega)
theorem lh {α β:Type} {a c:α} {b d:β} (h:(a,b)=(c,d)):a=c∧b=d:=by injection h with h1 h2;exact⟨h1,h2⟩
set_option maxRecDepth 100000 in
set_option maxHeartbeats 300000 in
theorem D6 (gs:Nat) (fs:List aA) (f:aA) (o:cc) {l l':List Int} {wr wr':Bool} (e:kG fs f o (l,wr)=(l',wr')) (A Ap A1 A2:Option Addr) (c cp c1 c2:Nat) (hok:zE fs f o) (hp:bW w0 B (.slice Ap fs.length cp) fs) (hlo:bW w0 B (.slice A1 f.locals.length c1) f.locals)
  (hl:l.length≤1000) (w:World) (hw:Cw B w0 (ak gs [.slice A l.length c,.bool wr] 202::ap (.slice A l.length c) l::H) w) :
  Calls Tryz.prog 167 #[.pointer (some ⟨gs,0,none⟩),.agg #[.slice Ap fs.length cp],.agg #[.int .i64 f.params,.slice A1 f.locals.length c1,.int .i64 f.result,.slice A2 f.code.length c2],.agg #[.int .i64 o.c,.int .i64 o.a]] w fun e w'=> ∃g:Option Addr×Nat,True∧e= .returned (.tuple #[])∧
   Cw B w0 (ak gs [.slice g.1 l'.length g.2,.bool wr'] 202::ap (.slice g.1 l'.length g.2) l'::H) w':=by
 have hI:∀x∈l,be x:=tp hw .b
 obtain⟨t,u,ub,ep⟩:∃t u ub,fF (l,wr)=(t,u,ub):=⟨_,_,_,rfl⟩
 obtain⟨t2,u2,ub2,ep2⟩:∃t2 u2 ub2,fF (u,ub)=(t2,u2,ub2):=⟨_,_,_,rfl⟩
 have hpl:=oD (l,wr)
 have hpl2:=oD (u,ub)
 have ht:=vA (s:=(l,wr)) hI
 have hsub:=CN (l,wr)
 rw[ep] at hpl ht hsub
 have ht2:=vA (s:=(u,ub)) (fun x hx=>hI x (hsub x hx))
 rw[ep2] at hpl2 ht2
 have hpl:u.length≤l.length:=hpl
 have hpl2:u2.length≤u.length:=hpl2
 have ht:be t:=ht
 have ht2:be t2:=ht2
 obtain⟨L,W1,e0⟩:∃L W1,gB fs f o (l,wr)=(L,W1):=⟨_,_,rfl⟩
 have e1:l'=L∧wr'=(W1 || decide (8<L.length)):=by
  unfold kG at e
  rw[e0] at e
  simp only[Prod.mk.injEq] at e
  exact⟨e.1.symm,e.2.symm⟩
 obtain⟨rfl,rfl⟩:=e1
 clear e
 refine bS Tryz.func167 rfl Tryz.ntmps167 rfl hw ?_
 refine ac<|aa<|ag (bH rfl rfl rfl) rfl rfl (fun g1 _=>?_)
 refine ag (bH rfl rfl rfl) rfl rfl (fun g2 _=>?_)
 refine ag (bH rfl rfl rfl) rfl rfl (fun g3 _=>?_)
 refine ae<|eb (fun _:Option Addr×Nat=>l'.length≤100000) (fun g=> [(0,.pointer (some ⟨gs,0,none⟩))]) (fun g=>ak gs [.slice g.1 l'.length g.2,.bool W1] 202::ap (.slice g.1 l'.length g.2) l'::H) ?_ ?_
 ·unfold gB at e0
  have hpar:=hok.par
  refine ac<|aa<|rn 1 [0,5,6,7,14] rfl<|af (aj fc au rfl rfl (by rfl)) rfl rfl ?_
  refine ae<|aB<|ac<|aa<|rn 2 [0,5,6,7,15,28] rfl<|ae<|aw rfl (fun h2=>?_) (fun h2=>?_)
  ·rw[if_pos h2,ep] at e0
   obtain⟨rfl,rfl⟩:=lh e0
   refine aa<|rn 1 [0,30] rfl<|ag (bg rfl rfl rfl wU (fun w hw=>py gs ep A c (by omega) w (hw.msub (.s fc (.s fc .r))))) rfl rfl (fun⟨A9,c9⟩ _=>?_)
   try dsimp only
   refine bC (aH ?_)
   refine bq (A9,c9) (by omega) ⟨rfl,trivial⟩ (fun _ h=>h.msub ms)
  rw[if_neg h2] at e0
  refine ac<|aa<|rn 2 [0,5,6,7,15,32] rfl<|ae<|aw rfl (fun h3=>?_) (fun h3=>?_)
  ·rw[if_pos h3,ep] at e0
   obtain⟨rfl,rfl⟩:=lh e0
   refine ac<|aa<|rn 1 [0,34] rfl<|ag (bg rfl rfl rfl wU (fun w hw=>py gs ep A c (by omega) w (hw.msub (.s fc (.s fc .r))))) rfl rfl (fun⟨A9,c9⟩ _=>?_)
   try dsimp only
   refine rn 1 [0,8] rfl<|ae<|aa<|rn 3 [0,36,37,38] rfl<|ag (bu (cs:= [_,_]) ah aF a6 rfl rfl rfl rfl rfl) rfl rfl (fun g4 _=>?_)
   refine ag (bg rfl rfl rfl wT (fun w hw=>rR gs u [t,t] A9 _ c9 _ (by simp only[List.length_cons,List.length_nil];omega) w (hw.msub (.s fc (.s fc .r))) (oK [t,t] rfl (by simp) rfl (kl ht ht) fc))) rfl rfl (fun⟨A8,c8⟩ _=>?_)
   try dsimp only
   refine bC (aH ?_)
   refine bq (A8,c8) ((by rw[List.length_append];simp only[List.length_cons,List.length_nil];omega)) ⟨rfl,trivial⟩ (fun _ h=>h.msub ms)
  rw[if_neg h3] at e0
  refine ac<|aa<|rn 2 [0,5,6,7,15,41] rfl<|ae<|aw rfl (fun h4=>?_) (fun h4=>?_)
  ·rw[if_pos h4,ep] at e0
   simp only[ep2] at e0
   obtain⟨rfl,rfl⟩:=lh e0
   refine ac<|aa<|rn 1 [0,43] rfl<|ag (bg rfl rfl rfl wU (fun w hw=>py gs ep A c (by omega) w (hw.msub (.s fc (.s fc .r))))) rfl rfl (fun⟨A9,c9⟩ _=>?_)
   try dsimp only
   refine rn 1 [0,9] rfl<|ae<|ac<|aa<|rn 1 [0,9,45] rfl<|ag (bg rfl rfl rfl wU (fun w hw=>py gs ep2 A9 c9 (by omega) w (hw.msub (.s fc (.s fc .r))))) rfl rfl (fun⟨A7,c7⟩ _=>?_)
   try dsimp only
   refine rn 1 [0,9,10] rfl<|ae<|aa<|rn 3 [0,47,48,49] rfl<|ag (bu (cs:= [_,_]) ah aF a6 rfl rfl rfl rfl rfl) rfl rfl (fun g5 _=>?_)
   refine ag (bg rfl rfl rfl wT (fun w hw=>rR gs u2 [t,t2] A7 _ c7 _ (by simp only[List.length_cons,List.length_nil];omega) w (hw.msub (.s fc (.s fc .r))) (oK [t,t2] rfl (by simp) rfl (kl ht ht2) fc))) rfl rfl (fun⟨A8,c8⟩ _=>?_)
   try dsimp only
   refine bC (aH ?_)
   refine bq (A8,c8) ((by rw[List.length_append];simp only[List.length_cons,List.length_nil];omega)) ⟨rfl,trivial⟩ (fun _ h=>h.msub ms)
  rw[if_neg h4] at e0
  refine ac<|aa<|rn 2 [0,5,6,7,15,52] rfl<|ae<|aw rfl (fun h8=>?_) (fun h8=>?_)
  ·have hlc:=hok.loc (.inl h8)
   rw[if_pos h8] at e0
   obtain⟨rfl,rfl⟩:=lh e0
   have hq:=iS hlo (k:=o.a.toNat) (by omega)
   refine aa<|rn 2 [0,7,54,55] rfl<|af (aj fc aW rfl rfl (by rfl)) rfl rfl ?_
   refine rn 1 [0,54,56,57] rfl<|af (aj fc au rfl rfl (by rfl)) rfl rfl ?_
   refine af (fy ah aF (.ro hlo) (by omega) rfl rfl rfl) rfl rfl<|af (a8 (SF.int (.ro hlo) (by omega)) rfl rfl au) rfl rfl<|ag (bu (cs:= [_]) ah aF a6 rfl rfl rfl rfl rfl) rfl rfl (fun g6 _=>?_)
   refine ag (bg rfl rfl rfl wT (fun w hw=>rR gs l [f.locals.getD o.a.toNat 0] A _ c _ (by simp only[List.length_cons,List.length_nil];omega) w (hw.msub (.s fc (.s fc .r))) (oK [f.locals.getD o.a.toNat 0] rfl (by simp) rfl (gD hq) fc))) rfl rfl (fun⟨A8,c8⟩ _=>?_)
   try dsimp only
   refine bC (aH ?_)
   refine bq (A8,c8) ((by rw[List.length_append];simp only[List.length_cons,List.length_nil];omega)) ⟨rfl,trivial⟩ (fun _ h=>h.msub ms)
  rw[if_neg h8] at e0
  refine ac<|aa<|rn 2 [0,5,6,7,15,63] rfl<|ae<|aw rfl (fun h9=>?_) (fun h9=>?_)
  ·have hlc:=hok.loc (.inr h9)
   rw[if_pos h9] at e0
   have hq:=iS hlo (k:=o.a.toNat) (by omega)
   have htl:=lF [f.locals.getD o.a.toNat 0] 1 (l,wr)
   rw[e0] at htl
   have htl:l'.length≤l.length:=htl
   refine aa<|rn 2 [0,7,65,66] rfl<|af (aj fc aW rfl rfl (by rfl)) rfl rfl ?_
   refine rn 1 [0,65,67,68] rfl<|af (aj fc au rfl rfl (by rfl)) rfl rfl ?_
   refine af (fy ah aF (.ro hlo) (by omega) rfl rfl rfl) rfl rfl<|af (a8 (SF.int (.ro hlo) (by omega)) rfl rfl au) rfl rfl<|ag (bu (cs:= [_]) ah aF a6 rfl rfl rfl rfl rfl) rfl rfl (fun g7 _=>?_)
   refine ag (bg rfl rfl rfl Fz (fun w hw=>rD gs (xs:= [f.locals.getD o.a.toNat 0]) e0 A _ c _ (by simp) (by omega) w (hw.msub (.s fc (.s fc .r))) (oK [f.locals.getD o.a.toNat 0] rfl (by simp) rfl (gD hq) fc))) rfl rfl (fun⟨A8,c8⟩ _=>?_)
   try dsimp only
   refine bC (aH ?_)
   refine bq (A8,c8) (by omega) ⟨rfl,trivial⟩ (fun _ h=>h.msub ms)
  rw[if_neg h9] at e0
  refine ac<|aa<|rn 2 [0,5,6,7,15,74] rfl<|ae<|aw rfl (fun h12=>?_) (fun h12=>?_)
  ·have hcall:=hok.call h12
   rw[if_pos h12] at e0
   obtain⟨k,hk⟩:∃k:Nat,o.a=(k:Int):=⟨o.a.toNat,by omega⟩
   have hkl:k<fs.length:=by omega
   rw[hk,Int.toNat_natCast] at e0
   obtain⟨A3,c3,A4,c4,hl3,hc3,hi3,hcell⟩:=hp.fn hkl
   obtain⟨hpk,hl6⟩:=hpar k hkl
   obtain⟨u3,ub3,e3⟩:∃u3 ub3,dE (ea (az fs k)) (ea (az fs k)).length (l,wr)=(u3,ub3):=⟨_,_,rfl⟩
   have htl:=lF (ea (az fs k)) (ea (az fs k)).length (l,wr)
   rw[e3] at htl e0
   have htl:u3.length≤l.length:=htl
   obtain⟨rfl,rfl⟩:=lh e0
   have hcl:(ea (az fs k)).length=(az fs k).params.toNat:=by unfold ea;rw[List.length_take];omega
   have hcap:=hl3.cap
   have hto:=hl3.to (k:=(az fs k).params.toNat) (by omega)
   have hrl:(bR (az fs k)).length≤1:=by unfold bR;split <;> simp
   refine dA (H':=_) (fun w h=>by rw[hk] at h;exact h) ?_
   refine ac<|aa<|rn 1 [0,7,76] rfl<|af (aj fc cV rfl rfl (by rfl)) rfl rfl ?_
   refine rn 1 [0,77,78] rfl<|af (aj fc au rfl rfl (by rfl)) rfl rfl ?_
   refine af (aQ (k:=k) bJ bD (.ro hp) (by omega) rfl rfl rfl) rfl rfl<|af (cY (hcell _) rfl rfl eK bD) rfl rfl<|ag (aS dT rfl rfl) rfl rfl (fun g8 _=>?_)
   refine ag (aJ _ fc bD rfl rfl rfl rfl rfl (by rfl) rfl (by rfl)) rfl rfl (fun _ _=>?_)
   refine ae<|ac<|aa<|rn 2 [0,11,82,83] rfl<|af (aj fc aW rfl rfl (by rfl)) rfl rfl ?_
   refine rn 1 [0,11,82,84,85] rfl<|af (aj fc au rfl rfl (by rfl)) rfl rfl ?_
   refine bV (t:=86) (v':= .int .i64 ((az fs k).params.toNat:Int)) rfl (by congr 1;omega) ?_
   refine af (lz ah aF (by omega) rfl rfl rfl) rfl rfl<|bV (t:=87) (v':= .slice A3 (ea (az fs k)).length c3) rfl (by rw[hcl]) ?_
   refine ag (bg rfl rfl rfl Fz (fun w hw=>rD gs e3 A _ c _ (by omega) (by omega) w (hw.msub (.s fc (.s fc .r))) (by rw[hcl];exact .ro hto))) rfl rfl (fun⟨A9,c9⟩ _=>?_)
   try dsimp only
   refine ae<|aa<|rn 1 [0,11,89] rfl<|af (aN (vs:= [_,_,_,_]) fc eK bD rfl rfl (by rfl) rfl) rfl rfl ?_
   refine ag (cO rfl rfl rfl Tryz.call209 (fun w hw=>rO (az fs k) A3 A4 c3 c4 hi3.2 w)) rfl rfl (fun⟨A7,c7⟩ _=>?_)
   try dsimp only
   refine ag (bg rfl rfl rfl wT (fun w hw=>rR gs u3 (bR (az fs k)) A9 _ c9 _ (by omega) w (hw.msub (.s fc (.s fc .r))) (.own rfl fc))) rfl rfl (fun⟨A8,c8⟩ _=>?_)
   try dsimp only
   refine bC (aH ?_)
   refine bq (A8,c8) ((by rw[List.length_append];omega)) ⟨rfl,trivial⟩ (fun _ h=>h.msub ms)
  rw[if_neg h12] at e0
  refine ac<|aa<|rn 2 [0,6,7,93] rfl<|ae<|aw rfl (fun h13=>?_) (fun h13=>?_)
  ·rw[if_pos h13] at e0
   obtain⟨u3,ub3,e3⟩:∃u3 ub3,dE (bR f) (bR f).length (l,wr)=(u3,ub3):=⟨_,_,rfl⟩
   have htl:=lF (bR f) (bR f).length (l,wr)
   rw[e3] at htl e0
   have htl:u3.length≤l.length:=htl
   obtain⟨rfl,rfl⟩:=lh e0
   have hrl:(bR f).length≤1:=by unfold bR;split <;> simp
   refine ac<|aa<|rn 1 [0,6,95] rfl<|af (aN (vs:= [_,_,_,_]) fc eK bD rfl rfl (by rfl) rfl) rfl rfl ?_
   refine ag (cO rfl rfl rfl Tryz.call209 (fun w hw=>rO f A1 A2 c1 c2 hok.res w)) rfl rfl (fun⟨A7,c7⟩ _=>?_)
   try dsimp only
   refine ag (bg rfl rfl rfl Fz (fun w hw=>rD gs e3 A _ c _ (by omega) (by omega) w (hw.msub (.s fc (.s fc .r))) (.own rfl fc))) rfl rfl (fun⟨A9,c9⟩ _=>?_)
   try dsimp only
   refine ae<|aa<|rn 4 [0,99,102] rfl<|af (aj fc dx rfl rfl (by rfl)) rfl rfl ?_
   refine rn 1 [0,99,104] rfl<|bM (t:=104) rfl (fun hq=>?_) (fun hq=>?_)
   ·have hq:ub3=true:=hq
    subst hq
    refine rn 9 [0,111,113] rfl<|ag (aJ _ fc dK rfl rfl rfl rfl rfl (by rfl) rfl (by rfl)) rfl rfl (fun _ _=>?_)
    refine bC (aH ?_)
    refine bq (A9,c9) (by omega) ⟨rfl,trivial⟩ (fun _ h=>h.msub ms)
   have hq:ub3=false:=hq
   subst hq
   refine rn 3 [0,99,104,107] rfl<|af (aj fc aW rfl rfl (by rfl)) rfl rfl ?_
   refine af (aM ah rfl rfl) rfl rfl<|rn 4 [0,111,113] rfl<|ag (aJ _ fc dK rfl rfl rfl rfl rfl (by rfl) rfl (by rfl)) rfl rfl (fun _ _=>?_)
   refine bC (aH ?_)
   refine bq (A9,c9) (by omega) ⟨rfl,trivial⟩ (fun _ h=>by rw[He] at h;exact h.msub ms)
  rw[if_neg h13] at e0
  obtain⟨u3,ub3,e3⟩:∃u3 ub3,dE (cu o.c).1 (cu o.c).1.length (l,wr)=(u3,ub3):=⟨_,_,rfl⟩
  have htl:=lF (cu o.c).1 (cu o.c).1.length (l,wr)
  rw[e3] at htl e0
  have htl:u3.length≤l.length:=htl
  obtain⟨rfl,rfl⟩:=lh e0
  have hpl3:(cu o.c).1.length≤3∧(cu o.c).2.length≤3:=by unfold cu;repeat (first | split | decide)
  refine ac<|aa<|rn 1 [0,17] rfl<|af (aj fc au rfl rfl (by rfl)) rfl rfl ?_
  refine ag (cO rfl rfl rfl Tryz.call210 (fun w hw=>AN o.c w)) rfl rfl (fun⟨⟨A6,c6⟩,⟨A7,c7⟩⟩ _=>?_)
  try dsimp only
  refine rn 5 [0,12,13] rfl<|ae<|ac<|aa<|rn 2 [0,13,22,23] rfl<|ag (bg rfl rfl rfl Fz (fun w hw=>rD gs e3 A _ c _ (by omega) (by omega) w (hw.msub (.s fc (.s fc .r))) (.own rfl fc))) rfl rfl (fun⟨A9,c9⟩ _=>?_)
  try dsimp only
  refine ae<|aa<|rn 2 [0,25,26] rfl<|ag (bg rfl rfl rfl wT (fun w hw=>rR gs u3 (cu o.c).2 A9 _ c9 _ (by omega) w (hw.msub (.s fc (.s fc .r))) (.own rfl fc))) rfl rfl (fun⟨A8,c8⟩ _=>?_)
  try dsimp only
  refine bC (aH ?_)
  refine bq (A8,c8) ((by rw[List.length_append];omega)) ⟨rfl,trivial⟩ (fun _ h=>h.msub ms)
 rintro⟨A9,c9⟩ hlen
 try dsimp only
 refine aa<|rn 4 [0,114,117] rfl<|af (aj fc dx rfl rfl (by rfl)) rfl rfl ?_
 refine rn 1 [0,114,119] rfl<|bM (t:=119) rfl (fun hq=>?_) (fun hq=>?_)
 ·have hq:W1=true:=hq
  subst hq
  refine rn 9 [126,128] rfl<|ag (aJ _ fc dK rfl rfl rfl rfl rfl (by rfl) rfl (by rfl)) rfl rfl (fun _ _=>?_)
  refine bC<|cq Tryz.results167 ?_
  intro w hw
  exact⟨(A9,c9),trivial,rfl,hw.msub ms⟩
 have hq:W1=false:=hq
 subst hq
 refine rn 3 [114,119,122] rfl<|af (aj fc aW rfl rfl (by rfl)) rfl rfl ?_
 refine af (aM ah rfl rfl) rfl rfl<|rn 4 [126,128] rfl<|ag (aJ _ fc dK rfl rfl rfl rfl rfl (by rfl) rfl (by rfl)) rfl rfl (fun _ _=>?_)
 refine bC<|cq Tryz.results167 ?_
 intro w hw
 refine⟨(A9,c9),trivial,rfl,?_⟩
 rw[Hd] at hw
 exact hw.msub ms
end
end
section
theorem wx (b:UInt8):a9 (b.toNat:Int)=b:=by
 have:=b.toNat_lt
 unfold a9
 rw[show ((b.toNat:Int) % 256).toNat=b.toNat from by omega]
 exact UInt8.ofNat_toNat
theorem ww {n:Int} (h:0≤n∧n≤255):((a9 n).toNat:Int)=n:=by rw[sK];omega
theorem AU (b:UInt8) (l:List UInt8) (sh:Bool):fI (b::l,sh)=((b.toNat:Int),l,sh):=by
 unfold fI jX fQ
 rw[if_neg (by simp only[List.length_cons];omega)]
 simp
theorem mq {n:Int} (h:0≤n∧n≤255) (l:List UInt8):fI (a9 n::l,false)=(n,l,false):=by rw[AU,ww h]
theorem sd:∀(L:List Int) (r:List UInt8) (acc:List Int),(∀t∈L,0≤t∧t≤255)→gY L.length (L.map a9++r,false) acc=(acc++L,r,false)
 | [],r,acc,_=>by simp[gY]
 | t::L,r,acc,h=>by
  simp only[List.length_cons,gY,List.map_cons,List.cons_append,Bool.false_eq_true,if_false]
  rw[mq (h t (by simp)),sd L r _ (fun x hx=>h x (by simp[hx]))]
  simp
theorem jF {n a b:Int} :bK n a b=true↔a≤n∧n≤b:=by unfold bK;simp
theorem jp {n:Nat} {f:aA} (h:ef n f=0):f.locals.length≤6∧(0≤f.params∧f.params≤f.locals.length)∧(0≤f.result∧f.result≤2)∧(∀t∈f.locals,1≤t∧t≤2)∧f.code.length≠0∧d8 f.code=0∧∀o∈f.code,et n f.locals.length f.code.length o=true:=by
 unfold ef at h
 split at h
 ·cases h
 rename_i h1
 split at h
 ·cases h
 rename_i h2
 split at h
 ·cases h
 rename_i h3
 split at h
 ·cases h
 rename_i h4
 split at h
 ·rename_i h5;exact absurd h h5
 rename_i h5
 split at h
 ·cases h
 rename_i h6
 have h3:¬(bK f.result 0 2=false)∧¬(f.locals.any gG=true):=⟨fun e=>h3 (.inl e),fun e=>h3 (.inr e)⟩
 refine⟨by omega,jF.1 (by simpa using h2),jF.1 (by simpa using h3.1),fun t ht=>?_,h4,by simpa using h5,fun o ho=>?_⟩
 ·have:=h3.2
  simp only[Bool.not_eq_true,List.any_eq_false] at this
  have:=this t ht
  unfold gG at this
  exact jF.1 (by simpa using this)
 simp only[Bool.not_eq_true,List.any_eq_false] at h6
 simpa using h6 o ho
theorem nu {l:List cc} (h:d8 l=0):l.length≤40∧∀o∈l,d9 o=0:=by
 unfold d8 at h
 split at h
 ·cases h
 rename_i h1
 refine⟨by omega,?_⟩
 clear h1
 induction l with
 | nil=>simp
 | cons o l ih=>
  simp only[eh] at h
  split at h
  ·rename_i h2;simp at h2;exact absurd h h2
  rename_i h2
  intro x hx
  rcases List.mem_cons.1 hx with rfl | hx
  ·simpa using h2
  exact ih h x hx
theorem uG {o:cc} (h:d9 o=0):jV o.c=true∧(names o.c=true∨o.a=0)∧cF o.a=true:=by
 unfold d9 at h
 split at h
 ·cases h
 rename_i h1
 split at h
 ·cases h
 rename_i h2
 split at h
 ·cases h
 rename_i h3
 refine⟨by simpa using h1,?_,by simpa using h3⟩
 cases hn:names o.c
 ·right
  simpa [hn] using h2
 left;rfl
theorem wb {l:List cc} (h:d8 l=0):fB (dq l)=(l,0):=by
 obtain⟨h1,h2⟩:=nu h
 have:=lJ l [] (dq l).length (fun o ho=>uG (h2 o ho)) (by simpa using h1) (Nat.le_refl _)
 simpa [fB] using this
theorem zU (a r:List UInt8):jX (a++r,false) (a.length:Int)=(a,r,false):=by
 unfold jX fQ
 rw[if_neg (by rw[List.length_append];omega)]
 simp
theorem De {n:Nat} {f:aA} (h:ef n f=0) (r:List UInt8):lB (iT f++r,false)=(f,r,false):=by
 obtain⟨h1,h2,h3,h4,h5,h6,_⟩:=jp h
 obtain⟨hc40,_⟩:=nu h6
 have hcl:=wo f.code
 obtain⟨C,hC⟩:∃C,dq f.code=C:=⟨_,rfl⟩
 have e:iT f++r=a9 f.params::a9 f.locals.length::(f.locals.map a9++(a9 f.result::a9 (C.length / 256)::a9 C.length::(C++r))):=by
  simp[iT,hC]
 rw[hC] at hcl
 rw[e]
 unfold lB
 simp only[mq (n:=f.params) (by omega),mq (n:=(f.locals.length:Int)) (by omega),Int.toNat_natCast,sd f.locals _ [] (fun t ht=>by have:=h4 t ht;omega),mq (n:=f.result) (by omega),mq (n:=(C.length:Int) / 256) (by omega)]
 have hb:fI (a9 (C.length:Int)::(C++r),false)=((C.length:Int),C++r,false):=mq (by omega) _
 simp only[hb]
 have hz:(C.length:Int) / 256*256+(C.length:Int)=(C.length:Int):=by omega
 simp only[hz,zU]
 rw[←hC,wb h6]
 simp
theorem Br {n:Nat} :∀(fs:List aA) (r:List UInt8) (acc:List aA),(∀f∈fs,ef n f=0)→jb fs.length (fs.flatMap iT++r,false) acc=(acc++fs,r,false)
 | [],r,acc,_=>by simp[jb]
 | f::fs,r,acc,h=>by
  simp only[List.length_cons,jb,List.flatMap_cons,Bool.false_eq_true,if_false]
  rw[List.append_assoc,De (h f (by simp)),Br fs r _ (fun x hx=>h x (by simp[hx]))]
  simp
theorem ku {s s':List UInt8} {sh:Bool} {p:Int} (e:fI (s,sh)=(p,s',false)):sh=false∧s=a9 p::s':=by
 cases s with
 | nil=>
  have:fI ([],sh)=(0,[],true):=by cases sh <;> rfl
  rw[this] at e
  simp at e
 | cons b l=>
  rw[AU] at e
  simp only[Prod.mk.injEq] at e
  obtain⟨rfl,rfl,rfl⟩:=e
  exact⟨rfl,by rw[wx]⟩
theorem yy {s s' c:List UInt8} {sh:Bool} {n:Int} (h0:0≤n) (e:jX (s,sh) n=(c,s',false)):sh=false∧s=c++s'∧(c.length:Int)=n:=by
 unfold jX fQ at e
 split at e
 ·simp at e
 rename_i h
 simp only[Prod.mk.injEq,Bool.not_true,Bool.or_false] at e
 obtain⟨rfl,rfl,rfl⟩:=e
 refine⟨rfl,(List.take_append_drop _ _).symm,?_⟩
 rw[List.length_take]
 have h:¬((s.length:Int)<n):=h
 omega
theorem pC:∀(k:Nat) (s s':List UInt8) (sh:Bool) (acc L:List Int),gY k (s,sh) acc=(L,s',false)→sh=false∧∃M,L=acc++M∧M.length=k∧s=M.map a9++s'
 | 0,s,s',sh,acc,L,e=>by
  simp only[gY,Prod.mk.injEq] at e
  obtain⟨rfl,rfl,rfl⟩:=e
  exact⟨rfl,[],by simp,rfl,by simp⟩
 | k+1,s,s',sh,acc,L,e=>by
  simp only[gY] at e
  split at e
  ·rename_i h
   simp only[Prod.mk.injEq] at e
   rw[h] at e
   simp at e
  rename_i h
  obtain⟨p,s1,b1,e1⟩:∃p s1 b1,fI (s,sh)=(p,s1,b1):=⟨_,_,_,rfl⟩
  rw[e1] at e
  obtain⟨rfl,M,rfl,hM,rfl⟩:=pC k _ _ _ _ _ e
  obtain⟨rfl,rfl⟩:=ku e1
  exact⟨rfl,p::M,by simp,by simp[hM],by simp⟩
theorem zd {s s':List UInt8} {sh:Bool} {f:aA} (e:lB (s,sh)=(f,s',false)):sh=false∧s=iT f++s':=by
 obtain⟨p,s1,b1,e1⟩:∃p s1 b1,fI (s,sh)=(p,s1,b1):=⟨_,_,_,rfl⟩
 obtain⟨n,s2,b2,e2⟩:∃p s1' b1',fI (s1,b1)=(p,s1',b1'):=⟨_,_,_,rfl⟩
 obtain⟨L,s3,b3,e3⟩:∃p s1' b1',gY n.toNat (s2,b2) []=(p,s1',b1'):=⟨_,_,_,rfl⟩
 obtain⟨t,s4,b4,e4⟩:∃p s1' b1',fI (s3,b3)=(p,s1',b1'):=⟨_,_,_,rfl⟩
 obtain⟨x,s5,b5,e5⟩:∃p s1' b1',fI (s4,b4)=(p,s1',b1'):=⟨_,_,_,rfl⟩
 obtain⟨y,s6,b6,e6⟩:∃p s1' b1',fI (s5,b5)=(p,s1',b1'):=⟨_,_,_,rfl⟩
 obtain⟨c,s7,b7,e7⟩:∃p s1' b1',jX (s6,b6) (x*256+y)=(p,s1',b1'):=⟨_,_,_,rfl⟩
 unfold lB at e
 simp only[e1,e2,e3,e4,e5,e6,e7,Prod.mk.injEq,Bool.or_eq_false_iff,decide_eq_false_iff_not] at e
 obtain⟨rfl,rfl,rfl,hd⟩:=e
 have hd:=Decidable.byContradiction hd
 have d1:=(jc e1).1
 have d2:=(jc e2).1
 have d5:=(jc e5).1
 have d6:=(jc e6).1
 obtain⟨rfl,rfl,hcl⟩:=yy (by omega) e7
 obtain⟨rfl,rfl⟩:=ku e6
 obtain⟨rfl,rfl⟩:=ku e5
 obtain⟨rfl,rfl⟩:=ku e4
 obtain⟨rfl,M,hL,hM,rfl⟩:=pC _ _ _ _ _ _ e3
 obtain⟨rfl,rfl⟩:=ku e2
 obtain⟨rfl,rfl⟩:=ku e1
 refine⟨rfl,?_⟩
 have hL:L=M:=by simpa using hL
 subst hL
 have hc:dq (fB c).1=c:=by
  have:=uC c hd
  unfold pI at this
  split at this
  ·rename_i h
   simp only[Prod.mk.injEq] at this
   simp[this.2] at h
  simpa using this
 have hx:(c.length:Int) / 256=x:=by omega
 have hy:a9 (c.length:Int)=a9 y:=by unfold a9;congr 2;omega
 have hn:(L.length:Int)=n:=by omega
 simp[iT,hc,hx,hy,hn]
theorem xd:∀(k:Nat) (s s':List UInt8) (sh:Bool) (acc L:List aA),jb k (s,sh) acc=(L,s',false)→sh=false∧∃M,L=acc++M∧M.length=k∧s=M.flatMap iT++s'
 | 0,s,s',sh,acc,L,e=>by
  simp only[jb,Prod.mk.injEq] at e
  obtain⟨rfl,rfl,rfl⟩:=e
  exact⟨rfl,[],by simp,rfl,by simp⟩
 | k+1,s,s',sh,acc,L,e=>by
  simp only[jb] at e
  split at e
  ·rename_i h
   simp only[Prod.mk.injEq] at e
   rw[h] at e
   simp at e
  obtain⟨p,s1,b1,e1⟩:∃p s1 b1,lB (s,sh)=(p,s1,b1):=⟨_,_,_,rfl⟩
  rw[e1] at e
  obtain⟨rfl,M,rfl,hM,rfl⟩:=xd k _ _ _ _ _ e
  obtain⟨rfl,rfl⟩:=zd e1
  exact⟨rfl,p::M,by simp,by simp[hM],by simp⟩
end
section
def mm:List aA:= [⟨0,[],0,[⟨21,0⟩,⟨12,1⟩,⟨20,0⟩,⟨10,0⟩]⟩,⟨1,[1],1,[⟨8,0⟩,⟨3,0⟩,⟨7,0⟩,⟨13,0⟩]⟩]
set_option maxRecDepth 100000 in
set_option maxHeartbeats 1000000 in
theorem ot (w:World):Calls Tryz.prog 83 #[] w fun e w'=> ∃g:Nat,True∧e= .returned (.agg #[.slice (some ⟨g,0,none⟩) 2 2])∧Cw w.heap.size w [ap (.slice (some ⟨g,0,none⟩) 2 2) mm] w':=by
 refine enter Tryz.func83 rfl Tryz.ntmps83 rfl ?_
 refine ac<|aa<|ag (aS lP rfl rfl) rfl rfl (fun g1 _=>?_)
 refine ae<|ac<|aa<|af (bN (cs:= [_,_]) ew bL rfl rfl (by rfl)) rfl rfl ?_
 refine af (bN (cs:= [_,_]) ew bL rfl rfl (by rfl)) rfl rfl ?_
 refine af (bN (cs:= [_,_]) ew bL rfl rfl (by rfl)) rfl rfl ?_
 refine af (bN (cs:= [_,_]) ew bL rfl rfl (by rfl)) rfl rfl ?_
 refine ag (bu (cs:= [_,_,_,_,_,_,_,_]) bw cG bL rfl rfl rfl rfl rfl) rfl rfl (fun g2 _=>?_)
 refine af (bN (cs:= [_,_,_,_]) rS dT rfl rfl (by rfl)) rfl rfl ?_
 refine ag (bu (cs:= [_]) ah aF a6 rfl rfl rfl rfl rfl) rfl rfl (fun g3 _=>?_)
 refine af (bN (cs:= [_,_]) ew bL rfl rfl (by rfl)) rfl rfl ?_
 refine af (bN (cs:= [_,_]) ew bL rfl rfl (by rfl)) rfl rfl ?_
 refine af (bN (cs:= [_,_]) ew bL rfl rfl (by rfl)) rfl rfl ?_
 refine af (bN (cs:= [_,_]) ew bL rfl rfl (by rfl)) rfl rfl ?_
 refine ag (bu (cs:= [_,_,_,_,_,_,_,_]) bw cG bL rfl rfl rfl rfl rfl) rfl rfl (fun g4 _=>?_)
 refine af (bN (cs:= [_,_,_,_]) rS dT rfl rfl (by rfl)) rfl rfl ?_
 refine ag (bu (cs:= [_,_,_,_,_,_,_,_]) bJ bD dT rfl rfl rfl rfl rfl) rfl rfl (fun g5 _=>?_)
 refine af (bN (cs:= [_]) yP lP rfl rfl (by rfl)) rfl rfl ?_
 refine ag (aJ _ fc bB rfl rfl rfl rfl rfl (by rfl) rfl (by rfl)) rfl rfl (fun _ _=>?_)
 refine ae<|aq<|av Tryz.results83 (dH (cs:= [_]) fc bQ bB rfl) ?_
 intro w hw
 refine⟨_,trivial,rfl,?_⟩
 have h:=cE (α:=cc) (m:=4) [⟨21,0⟩,⟨12,1⟩,⟨20,0⟩,⟨10,0⟩] rfl (show∀o∈[(⟨21,0⟩:cc),⟨12,1⟩,⟨20,0⟩,⟨10,0⟩],be o.c∧be o.a from by decide) rfl (by decide) (hw.msub (T:= [ak g2 _ _,ak g3 _ _,ak g4 _ _,ak g5 _ _]) ms)
 have h:=cE (α:=cc) (m:=4) [⟨8,0⟩,⟨3,0⟩,⟨7,0⟩,⟨13,0⟩] rfl (show∀o∈[(⟨8,0⟩:cc),⟨3,0⟩,⟨7,0⟩,⟨13,0⟩],be o.c∧be o.a from by decide) rfl (by decide) (h.msub (T:= [ak g4 _ _,ap (.slice (some ⟨g2,0,none⟩) 4 4) _,ak g3 _ _,ak g5 _ _]) ms)
 have h:=cE (α:=Int) (m:=1) [1] rfl (gD (by decide)) rfl (by decide) (h.msub (T:= [ak g3 _ _,ap (.slice (some ⟨g4,0,none⟩) 4 4) _,ap (.slice (some ⟨g2,0,none⟩) 4 4) _,ak g5 _ _]) ms)
 have h:=Cw.nilO Int h
 refine p8 (H:= []) (xs:=mm) (mP.cons (Hel:= [ap (.slice none 0 0) ([]:List Int),ap (.slice (some ⟨g2,0,none⟩) 4 4) [(⟨21,0⟩:cc),⟨12,1⟩,⟨20,0⟩,⟨10,0⟩]]) (cs:= [_,_,_,_]) (sj (f:=⟨0,[],0,[⟨21,0⟩,⟨12,1⟩,⟨20,0⟩,⟨10,0⟩]⟩) (by decide))
  (mP.cons (Hel:= [ap (.slice (some ⟨g3,0,none⟩) 1 1) [(1:Int)],ap (.slice (some ⟨g4,0,none⟩) 4 4) [(⟨8,0⟩:cc),⟨3,0⟩,⟨7,0⟩,⟨13,0⟩]]) (cs:= [_,_,_,_]) (sj (f:=⟨1,[1],1,[⟨8,0⟩,⟨3,0⟩,⟨7,0⟩,⟨13,0⟩]⟩) (by decide)) mP.nil_)) rfl (by decide) ?_
 exact h.msub (T:= [ak g5 _ _,ap (.slice none 0 0) ([]:List Int),ap (.slice (some ⟨g2,0,none⟩) 4 4) _,ap (.slice (some ⟨g3,0,none⟩) 1 1) _,ap (.slice (some ⟨g4,0,none⟩) 4 4) _]) ms
end
end Go.Proofs.YtpacloheigifkaaGreat
